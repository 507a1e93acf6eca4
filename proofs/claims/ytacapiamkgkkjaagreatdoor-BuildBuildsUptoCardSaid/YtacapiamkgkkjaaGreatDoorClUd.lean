/- Compiled hierarchies say what the laws ask. -/
import Derived.Test.YtacapiamkgkkjaaGreatDoorClXq
import Derived.Test.YtacapiamkgkkjaaGreatDoorClXd
set_option linter.all false
open Go.IntKind (wrap)
open Int (toNat)
open List (length)
namespace Go.Proofs.YtacapiamkgkkjaaGreatDoor.cl.pf
open Go Go.AM
structure TH where
 T:Nat
 F:Nat
 sb:Int->Int->Prop
 io:Int->Int
 vl:Int->Int->Int
structure TH.OK (t:TH) (h:aU):Prop where
 hx:HX h t.T t.F t.sb t.io t.vl
 T:t.T<=1000
 F:t.F<=64
 P:0<t.T
noncomputable def tOf (d:List aC):TH:=⟨(tys d).length,(qd d).length,
 λa b=>(0<=a/\a<((tys d).length:Int))/\(0<=b/\b<((tys d).length:Int))/\sub ((tys d).getD b.toNat 0) ((tys d).getD a.toNat 0)=true,
 λf=>(nu d ((A6 d ((qd d).getD f.toNat [])).getD []):Int),
 λa f=>match inh d ((tys d).getD a.toNat 0) ((qd d).getD f.toNat []) with
  |some c=>GY (tys d) c
  |none=>0⟩
theorem Dt {a:Int} {n:Nat} (h:0<=a) (l:a<(n:Int)):∃i:Nat,a=(i:Int)/\i<n:=⟨a.toNat,by omega,af⟩
def hd_to {q:List Nat} (K:Zl q):TO q.length (λa b=>(0<=a/\a<(q.length:Int))/\(0<=b/\b<(q.length:Int))/\sub (q.getD b.toNat 0) (q.getD a.toNat 0)=true):=by refine⟨λh=>h.1,λh=>h.2.1,λh l=>⟨⟨h,l⟩,⟨h,l⟩,yp _⟩,λh l=>⟨h.1,l.2.1,yq l.2.2 h.2.2⟩,λh l=> ?_,λh l=>⟨⟨af,af⟩,⟨h,l⟩,K.top _ (kW af)⟩⟩;have:=getD_inj K.nd af af (su h.2.2 l.2.2);omega
def hd_hm {h:aU} {l:List Nat} (H:Hd h l) (K:Zl l):HM h l.length (λa b=>(0<=a/\a<(l.length:Int))/\(0<=b/\b<(l.length:Int))/\sub (l.getD b.toNat 0) (l.getD a.toNat 0)=true):=by
 refine⟨hd_to K,λa b I L N O=> ?_⟩;obtain⟨i,rfl,z⟩:=Dt I L;obtain⟨j,rfl,D⟩:=Dt N O;rw[o335 H K z D,o336 H K z D];simp only[aV];by_cases F:l.getD i 0&&&l.getD j 0∈l
 .obtain⟨q,U,G,R⟩:=NR F;have e:CI l (l.getD i 0&&&l.getD j 0)=((q:Int),true):=by
   unfold CI;rw[R,aA af]
  rw[e];refine .inl ⟨q,rfl,rfl,⟨⟨I,L⟩,⟨af,af⟩,?_⟩,⟨⟨N,O⟩,⟨af,af⟩,?_⟩,λc w B=>⟨⟨af,af⟩,w.2.1,?_⟩⟩
  .rw[aV,G];exact Fa _ _
  .rw[aV,G];exact LZ _ _
  .rw[aV,G];exact Xg w.2.2 B.2.2
 .have e:CI l (l.getD i 0&&&l.getD j 0)=(0,false):=by
   unfold CI;rw[V1 F];rfl
  rw[e];refine .inr ⟨0,rfl,rfl,λc w B=>F (K.cl _ (kW z) _ (kW D) λQ=> ?_)⟩;have P:=Xg w.2.2 B.2.2;rw[Q] at P;have S:=w.2.1;refine K.nz _ (kW af) (su P ?_);exact kA.2 λi z=>by simp at z
def N0 {d:List aC} (O:Zr d):(tOf d).OK (rV d):=by
 have HD:=hd5 O;have K:=O.ok.Uh;have hl:=O.ok.cL;have h64:=O.f64;have hvd:=M8 O.fd;have L:∀f:Int,0<=f->f<((qd d).length:Int)->∃j F,f=((j:Nat):Int)/\(qd d)[j]? =some F/\(qd d).getD f.toNat []=F/\F∈qd d:=λf H I=>by obtain⟨j,rfl,hj⟩:=Dt H I;have e:=aN hj;exact⟨j,_,rfl,e,by rw[aV,bq,e];rfl,cG hj⟩
 have hio:∀F∈qd d,∃u∈j9 d,A6 d F=some u:=λF w=>by obtain⟨u,U⟩:=O.intro F w;exact⟨u,RN O.ok.acc U,U⟩
 have R:∀(a f:Int),0<=a->a<((tys d).length:Int)->∀F∈qd d,(qd d).getD f.toNat []=F->((inh d ((tys d).getD a.toNat 0) F).isSome=true↔(tOf d).sb ((tOf d).io f) a):=λa f B l F w e=>by
  obtain⟨u,U,z⟩:=hio F w;obtain⟨_,n1,n2,_⟩:=O.ok.zm U;have P:(tOf d).io f=(nu d u:Int):=by show(nu d ((A6 d ((qd d).getD f.toNat [])).getD []):Int)=_;rw[e,z];rfl
  rw[Yt O.ok.acc z,P];constructor
  .intro h;exact⟨⟨af,af⟩,⟨B,l⟩,by rw[aV,n2];exact h⟩
  .intro h;have:=h.2.2;rw[aV,n2] at this;exact this
 have D:∀a:Int,0<=a->a<((tys d).length:Int)->∀F∈qd d,∀c,inh d ((tys d).getD a.toNat 0) F=some c->∃q:Nat,GY (tys d) c=(q:Int)/\q<(tys d).length/\(tys d).getD q 0=c:=λa B l F w c G=>O.num (kW af) w G
 refine⟨⟨⟨hd_hm HD K,Jr,λf H I=> ?_,λa f B l H I hs=> ?_,λa f B l H I hs=> ?_,λa b f H I S h2=> ?_,λa b h=> ?_⟩,HD.length,λa b B l b0 V=> ?_⟩,by show(tys d).length<=1000;omega,h64,K.pos⟩
 .obtain⟨j,F,rfl,e1,z,w⟩:=L f H I;obtain⟨u,U,e3⟩:=hio F w;obtain⟨_,n1,n2,_⟩:=O.ok.zm U;have P:(tOf d).io ((j:Nat):Int)=(nu d u:Int):=by
   show(nu d ((A6 d ((qd d).getD (toNat ((j:Nat):Int)) [])).getD []):Int)=_;rw[z,e3];rfl
  obtain⟨g1,g2⟩:=Ye e1
  have:((rV d).bN.getD (toNat ((j:Nat):Int)) default).Intro=(nu d u:Int):=by show((vA d).getD (toNat ((j:Nat):Int)) default).Intro=_;rw[aV,bq,aN g1,g2];show(nu d ((A6 d F).getD []):Int)=_;rw[e3];rfl
  rw[P];exact⟨this,by omega,by show _<((tys d).length:Int);omega⟩
 .obtain⟨i,rfl,N⟩:=Dt B l;obtain⟨j,F,rfl,e1,z,w⟩:=L f H I;have S:=(R _ _ B l F w z).2 hs;obtain⟨c,G⟩:=oO.1 S;obtain⟨q,q1,q2,q3⟩:=D _ B l F w c G;have ev:(tOf d).vl ((i:Nat):Int) ((j:Nat):Int)=GY (tys d) c:=by
   show(match inh d ((tys d).getD (toNat ((i:Nat):Int)) 0) ((qd d).getD (toNat ((j:Nat):Int)) []) with|some c=>GY (tys d) c|none=>0)=_;rw[z,G]
  rw[aV] at G;rw[o355 O N e1,o356 O N e1,G,ev];exact⟨rfl,rfl,by omega,by show _<((tys d).length:Int);omega⟩
 .obtain⟨i,rfl,N⟩:=Dt B l;obtain⟨j,F,rfl,e1,z,w⟩:=L f H I;have S:inh d ((tys d).getD (toNat ((i:Nat):Int)) 0) F=none:=by
   cases e:inh d ((tys d).getD (toNat ((i:Nat):Int)) 0) F with
   |none=>rfl
   |some c=>exact absurd ((R _ _ B l F w z).1 (by rw[e];rfl)) hs
  rw[aV] at S;rw[o355 O N e1,o356 O N e1,S];exact⟨0,rfl,rfl⟩
 .obtain⟨j,F,rfl,e1,z,w⟩:=L f H I;have l:=h2.1;have V:=h2.2.1;have h3:=(R _ _ l.1 l.2 F w z).2 S;obtain⟨c,G⟩:=oO.1 h3;obtain⟨q,q1,q2,q3⟩:=D _ l.1 l.2 F w c G;have h4:=inh_up h2.2.2 h3;obtain⟨c',Q⟩:=oO.1 h4;obtain⟨q',q1',q2',q3'⟩:=D _ V.1 V.2 F w c' Q;have ev:(tOf d).vl a ((j:Nat):Int)=(q:Int):=by
   show(match inh d ((tys d).getD a.toNat 0) ((qd d).getD (toNat ((j:Nat):Int)) []) with|some c=>GY (tys d) c|none=>0)=_;rw[z,G];exact q1
  have ev':(tOf d).vl b ((j:Nat):Int)=(q':Int):=by show(match inh d ((tys d).getD b.toNat 0) ((qd d).getD (toNat ((j:Nat):Int)) []) with|some c=>GY (tys d) c|none=>0)=_;rw[z,Q];exact q1'
  rw[ev,ev'];refine⟨⟨af,af⟩,⟨af,af⟩,?_⟩;rw[aV,aV,q3,q3'];exact aaH h2.2.2 G Q
 .have:=K.LX a.toNat b.toNat (by have:=h.1;omega) (by have:=h.2.1;omega) h.2.2;have:=h.1;have:=h.2.1;omega
 .obtain⟨i,rfl,N⟩:=Dt B l;obtain⟨j,rfl,hj⟩:=Dt b0 V;refine⟨_,o339 HD N hj,o340 HD N hj,?_⟩;show _↔(tOf d).sb _ _;constructor
  .intro h;exact⟨⟨B,l⟩,⟨b0,V⟩,by rw[aV,aV];exact h⟩
  .intro h;have:=h.2.2;rw[aV,aV] at this;exact this
end Go.Proofs.YtacapiamkgkkjaaGreatDoor.cl.pf
namespace Go.Proofs.YtacapiamkgkkjaaGreatDoor.cl
open Go Go.AM
def X1 {d:List aC}:HJ d=0↔Tz d=false/\wP [] d=0/\yl (j9 d) d=0/\DH d=1/\C0 d:=by
 unfold HJ;constructor
 .intro h;split at h
  .cases h
  split at h
  .rename_i l;exact absurd h l
  split at h
  .rename_i l;exact absurd h l
  split at h
  .cases h
  split at h
  .rename_i q l w z B;exact⟨by simpa using q,ef l,ef w,ef z,B⟩
  .cases h
 .rintro⟨a,b,c,e,f⟩;rw[aA (by simp[a]),aA (λh=>h b),aA (λh=>h c),aA (λh=>h e),aB f]
def leT (l:List (cr×List cr)) (x y:cr):Bool:=match l.find? λp=>p.1==x with
 |some p=>p.2.contains y
 |none=>false
def OH (d:List aC) (x:cr):List cr->List cr->Bool
 |_,[]=>true
 |q,y::l=>(y==x||d.any λt=>t.Name==y&&t.dQ.any λs=>q.contains s)&&OH d x (y::q) l
def tabOk (d:List aC) (l:List (cr×List cr)):Bool:=
 (l.all λp=>OH d p.1 [] p.2)&&(j9 d).all λx=>leT l x x&&(j9 d).all λy=> !leT l x y||(dn d y).all λz=>leT l x z
def YJ {d:List aC} {x:cr}:∀(l q:List cr),OH d x q l=true->(∀s∈q,Le d x s)->∀y∈l,Le d x y:=by intro l;induction l with
 |nil=>intro q _ _ y B;cases B
 |cons z l N=>
  intro q h I y B;unfold OH at h;rw[aK,gA] at h;have K:Le d x z:=by
   rcases h.1 with D|D
   .rw[gT] at D;rw[D];exact .refl
   .obtain⟨t,L,F⟩:=jI.1 D;rw[aK,gT] at F;obtain⟨s,G,H⟩:=jI.1 F.2;rw[D2] at H;exact .step (I s H) (JQ.2 ⟨t,L,F.1,G⟩)
  rcases aI.1 B with rfl|B
  .exact K
  .refine N (z::q) h.2 (λs w=> ?_) y B;rcases aI.1 w with rfl|w
   .exact K
   .exact I s w
def tab_le {d:List aC} {D:List (cr×List cr)} (h:tabOk d D=true):∀x∈j9 d,∀y,Le d x y↔leT D x y=true:=by
 unfold tabOk at h;rw[aK,cF,cF] at h;intro x F y;have q:=h.2 x F;rw[aK,cF] at q;have key:∀y,Le d x y->y∈j9 d/\leT D x y=true:=by intro y l;induction l with
  |refl=>exact⟨F,q.1⟩
  |step _ G H=>
   refine⟨TX G,?_⟩;have:=q.2 _ H.1;rw[gA,H.2,cF] at this;rcases this with w|w
   .cases w
   .exact w _ G
 constructor
 .intro l;exact(key y l).2
 .intro l;unfold leT at l;split at l
  .rename_i p hp;have B:=nJ hp;have z:p.1=x:=by simpa using pZ hp
   rw[D2] at l;rw[<-z];exact YJ p.2 [] (h.1 p B) (λs I=>by cases I) y l
  .cases l
def rk (d:List aC) (s:cr):Nat:=(jm (λt:aC=>t.Name==s) d 0).toNat
def chk0 (d:List aC):Bool:= !Tz d&&wP [] d==0&&yl (j9 d) d==0&&DH d==1&&d.all λt=>t.dQ.all λs=>Nat.blt (rk d s) (rk d t.Name)
def chk0_ok {d:List aC} (h:chk0 d=true):HJ d=0:=by unfold chk0 at h;simp only[aK,gT,cF] at h;obtain⟨⟨⟨⟨l,q⟩,w⟩,z⟩,B⟩:=h;refine X1.2 ⟨by simpa using l,q,w,z,rk d,λt F s D=> ?_⟩;exact ff (B t F s D)
section
variable (d:List aC) (le:cr->cr->Bool)
def cwC (all:List cr) (x:cr):Nat:=mk 0 ((List.range all.length).filter λi=>le x (all.getD i []))
def X3:List Nat:=(iN d).map (cwC le (iN d))
def WM (l:List cr):List cr:=(ng (l.filter λs=>decide (s∈j9 d))).filter λx=>(ng (l.filter λs=>decide (s∈j9 d))).all λy=>decide (y=x)|| !le y x
def vm (w:Nat):List cr->List Nat->Nat->List cr->cr
 |s::ss,c::q,i,l=>if c=w then s else vm w ss q (i+1) (if w.testBit i=true then l++[s] else l)
 |_,_,_,l=>xV [38] (WM d le l)
def Z5:List DI:=((Am (X3 d le)).map λw=>((vm d le w (iN d) (X3 d le) 0 [],w):DI)).foldl (λE p=>rW Bb p E) []
def RK (F:cr):Option cr:=one (WM d le (ng (sA d F)))
def stpC (w:Nat) (F:cr) (o:Option Nat) (t:aC):Option Nat:=match val t F with
 |some v=>if sub w (cwC le (iN d) t.Name)=true then some (comb o (cwC le (iN d) v)) else o
 |none=>o
def aaG (w:Nat) (F:cr):Option Nat:=d.foldl (stpC d le w F) none
variable {d le} (hle:∀x∈j9 d,∀y,Le d x y↔le x y=true)
include hle
open Classical in
theorem TU {all:List cr} {x:cr} (l:x∈j9 d):cw d all x=cwC le all x:=by
 unfold cw idxs cwC;congr 1;refine lQ λi _=> ?_
 rw[iF,bz];exact hle x l _
theorem VT:oN d=X3 d le:=by unfold oN X3;exact gR λx l=>TU hle (gy.1 l)
theorem JP (l:List cr):vL d l=WM d le l:=by
 unfold vL WM;have B:∀x∈ng (l.filter λs=>decide (s∈j9 d)),x∈j9 d:=λx D=>by have:=(cE.1 (gy.1 D)).2;simpa using this
 generalize ng (l.filter λs=>decide (s∈j9 d))=m at B;refine lQ λx D=> ?_
 unfold rU;rw[iF,cF,cF];have key:∀y∈m,((decide (y=x)|| !(open Classical in decide (Le d y x)))=true↔(decide (y=x)|| !le y x)=true):=by intro y q;have z:=hle y (B y q) x;cases w:le y x with
  |true=>
   have:Le d y x:=z.2 w
   simp[this]
  |false=>
   have:¬Le d y x:=λh=>by rw[z.1 h] at w;cases w
   simp[this]
 constructor
 .intro h y q;refine(key y q).1 ?_;have:=h y q;simpa using this
 .intro h y q;have:=(key y q).2 (h y q);simpa using this
theorem OC {w:Nat}:∀(ss:List cr) (q:List Nat) (i:Nat) (l:List cr),mU d w ss q i l=vm d le w ss q i l:=by intro ss;induction ss with
 |nil=>intro q i l;cases q<;>simp only[mU,vm,JP hle]
 |cons s ss z=>intro q i l;cases q with
  |nil=>simp only[mU,vm,JP hle]
  |cons c q=>simp only[mU,vm,z]
theorem Jn:dR d=Z5 d le:=by unfold dR Z5 CM;rw[VT hle];congr 1;exact gR λw _=>by rw[OC hle]
theorem RL (F:cr):A6 d F=RK d le F:=by unfold A6 RK;rw[JP hle]
theorem Wi (z:Vd d) (w:Nat) (F:cr):inh d w F=aaG d le w F:=by
 have key:∀(l:List aC) (o:Option Nat),(∀t∈l,t∈d)->l.foldl (Cs d w F) o=l.foldl (stpC d le w F) o:=by intro l;induction l with
  |nil=>intro o _;rfl
  |cons t l G=>
   intro o h;rw[fO,fO];have q:=h t ai;have e:Cs d w F o t=stpC d le w F o t:=by unfold Cs stpC;cases D:val t F with
    |none=>rfl
    |some v=>simp only;rw[show cwd d t.Name=cwC le (iN d) t.Name from TU hle (JU q),show cwd d v=cwC le (iN d) v from TU hle (z.val q D)]
   rw[e];exact G _ λu B=>h u (by simp[B])
 exact key d none λt h=>h
end
structure At (d:List aC) (le:cr->cr->Bool) (E:List DI):Prop where
 hl:∀x∈j9 d,∀y,Le d x y↔le x y=true
 dR:Z5 d le=E
 HJ:HJ d=0
def At.tys {d:List aC} {le:cr->cr->Bool} {E:List DI} (h:At d le E):tys d=E.map (·.2):=by unfold cl.tys;rw[Jn h.hl,h.dR]
def At.y6 {d:List aC} {le:cr->cr->Bool} {E:List DI} (h:At d le E):y6 d=E.map HQ:=by unfold cl.y6;rw[Jn h.hl,h.dR]
def chk5C (d:List aC) (le:cr->cr->Bool) (E:List DI):Int:=
 if(Am (X3 d le)).length>256 then 7 else if(qd d).length>64 then 7 else if q8 (j9 d) d≠0 then q8 (j9 d) d
 else if((qd d).any λF=>(RK d le F).isNone)=true then 10 else if((E.map (·.2)).any λw=>(qd d).any λF=>aaG d le w F==some 0)=true then 11 else 0
def At.xo {d:List aC} {le:cr->cr->Bool} {E:List DI} (h:At d le E):xo d=chk5C d le E:=by
 unfold cl.xo chk5C;have H:=h.HJ;rw[aA (λB=>B H),VT h.hl];by_cases l:(Am (X3 d le)).length>256
 .rw[aB l,aB l]
 .rw[aA l,aA l];by_cases q:(qd d).length>64
  .rw[aB q,aB q]
  .rw[aA q,aA q];by_cases z:q8 (j9 d) d=0
   .have D:¬(q8 (j9 d) d≠0):=λB=>B z
    rw[aA D,aA D];have e1:B9 d (qd d)=(qd d).any λF=>(RK d le F).isNone:=by unfold B9;congr 1;funext F;rw[RL h.hl]
    have G:C7 d (cl.tys d)=(E.map (·.2)).any λw=>(qd d).any λF=>aaG d le w F==some 0:=by unfold C7;rw[h.tys];congr 1;funext w;congr 1;funext F;rw[Wi h.hl (M8 z)]
    rw[e1,G]
   .rw[aB z,aB z]
def nuC (E:List DI) (x:cr):Nat:=(jm (λc:fJ=>c.Name==x) (E.map HQ) 0).toNat
def NN (d:List aC) (le:cr->cr->Bool) (E:List DI):List cU:=(qd d).map λF=>⟨F,(nuC E ((RK d le F).getD []):Int)⟩
def At.feats {d:List aC} {le:cr->cr->Bool} {E:List DI} (h:At d le E):vA d=NN d le E:=by
 unfold vA NN;refine gR λF _=> ?_
 unfold Jq nu nuC;rw[h.y6,RL h.hl]
def acF (d:List aC) (le:cr->cr->Bool) (E:List DI) (w:Nat):List cr->Nat->List fL
 |[],_=>[]
 |F::l,k=>match aaG d le w F with
  |some c=>⟨(k:Int),GY (E.map (·.2)) c⟩::acF d le E w l (k+1)
  |none=>acF d le E w l (k+1)
def At.row {d:List aC} {le:cr->cr->Bool} {E:List DI} (h:At d le E) (z:Vd d) (w:Nat):∀(l:List cr) (k:Nat),xE d w l k=acF d le E w l k:=by intro l;induction l with
 |nil=>intro k;rfl
 |cons F l q=>intro k;unfold xE acF;rw[Wi h.hl z,h.tys];cases aaG d le w F with
  |none=>exact q _
  |some c=>simp only;rw[q]
end Go.Proofs.YtacapiamkgkkjaaGreatDoor.cl
set_option maxRecDepth 100000
namespace Go.Proofs.YtacapiamkgkkjaaGreatDoor.cl.pf
open Go Go.AM
def szB (d:List aC):Bool:=Nat.ble d.length 64&&d.all λt=>Nat.ble t.dQ.length 20&&Nat.ble t.bN.length 100
def acP {d:List aC} (h:szB d=true):Sz d/\d.length<=64/\Fz d:=by
 unfold szB at h;rw[aK,cF] at h;have q:=ff h.1;have key:∀t∈d,t.dQ.length<=20/\t.bN.length<=100:=λt l=>by have:=h.2 t l;rw[aK] at this;exact⟨ff this.1,ff this.2⟩
 exact⟨⟨af,λt l=>by have:=(key t l).1;omega⟩,q,λt l=>by have:=(key t l).2;omega⟩
def TP:List (cr×List cr):=[([116,111,112],
  [[116,111,112],[108,105,115,116],[100,108,105,115,116],[105,110,100,101,120],[114,101,108],
   [113,101,113],[115,101,109],[115,105,103,110],[99,111,110,115],[110,117,108,108],
   [104,97,110,100,108,101],[101,118,101,110,116],[101,110,116,105,116,121]]),
 ([108,105,115,116],[[108,105,115,116],[99,111,110,115],[110,117,108,108]]),
 ([99,111,110,115],[[99,111,110,115]]),([110,117,108,108],[[110,117,108,108]]),
 ([100,108,105,115,116],[[100,108,105,115,116]]),
 ([105,110,100,101,120],
  [[105,110,100,101,120],[104,97,110,100,108,101],[101,118,101,110,116],
   [101,110,116,105,116,121]]),
 ([104,97,110,100,108,101],[[104,97,110,100,108,101]]),
 ([101,118,101,110,116],[[101,118,101,110,116]]),
 ([101,110,116,105,116,121],[[101,110,116,105,116,121]]),([114,101,108],[[114,101,108]]),
 ([113,101,113],[[113,101,113]]),([115,101,109],[[115,101,109]]),
 ([115,105,103,110],[[115,105,103,110]])]
def EP:List DI:=[([116,111,112],8191),([105,110,100,101,120],60),([108,105,115,116],193),([99,111,110,115],1),
  ([100,108,105,115,116],2),([101,110,116,105,116,121],4),([101,118,101,110,116],8),
  ([104,97,110,100,108,101],16),([110,117,108,108],128),([113,101,113],256),([114,101,108],512),
  ([115,101,109],1024),([115,105,103,110],2048)]
def GP:List cr:=[[65,82,71,83],[67,79,78,83],[70,73,82,83,84],[72,73,71,72],[73,78,68,69,88],[76,65,66,69,76],[76,65,83,84],[76,73,83,84],[76,79,87],[82,69,76,83],[82,69,83,84],[83,69,77],[84,79,80]]
def atP:At Ai (leT TP) EP:=⟨tab_le (by kernel_rfl),by kernel_rfl,chk0_ok (by kernel_rfl)⟩
def ckP:xo Ai=0:=atP.xo.trans (by kernel_rfl)
def okP:Zr Ai:=by obtain⟨z,l,hf⟩:=acP (d:=Ai) (by kernel_rfl);exact(Kf z l hf ckP).1
def tysP:tys Ai=EP.map (·.2):=atP.tys
def lenP:(tys Ai).length=13:=by rw[tysP];rfl
def ftsP:qd Ai=GP:=by kernel_rfl
def x332:f332 Ai=some (rV Ai,0):=by obtain⟨z,l,hf⟩:=acP (d:=Ai) (by kernel_rfl);rw[c332 z l hf,aB ckP]
def c403 {d:List aC} (z:Sz d) (hf:Fz d):∃(h:aU) (t:TH),f403 d=some h/\t.OK h:=by
 have pre:Option.bind (f327) (λl=>Option.bind (f332 l) λq=>some q.1)=some (rV Ai):=by rw[c327,ak,x332,ak]
 by_cases B:d.length<=20
 .by_cases w:xo d=0
  .refine⟨_,_,e403 ?_,N0 (Kf z af hf w).1⟩;rw[cond_pos (by rw[bz];omega),c332 z af hf,ak,aB w,cond_pos (by rfl)]
  .refine⟨_,_,e403 ?_,N0 okP⟩;rw[cond_pos (by rw[bz];omega),c332 z af hf,ak,aA w,cond_neg (by simpa using w)];exact pre
 .refine⟨_,_,e403 ?_,N0 okP⟩;rw[cond_neg (by rw[aS];omega)];exact pre
end Go.Proofs.YtacapiamkgkkjaaGreatDoor.cl.pf
namespace Go.Proofs.YtacapiamkgkkjaaGreatDoor.cl.pf
open Go Go.AM
def Qa {x:Int} (l:0<=x) (q:x<=1073741824):wrap .i64 x=x:=by obtain⟨n,rfl⟩:=fU l;cases n with
 |zero=>rfl
 |succ n=>exact bQ af
def sB {q:Type} (p:q->Bool):List q->Nat->Int
 |[],_=> -1
 |x::l,i=>if p x then(i:Int) else sB p l (i+1)
def sP {q:Type} (p:q->Bool) (x:q) (l:List q) (i:Nat):sB p (x::l) i=if p x then(i:Int) else sB p l (i+1):=rfl
def sO {F:Type} (p:F->Bool):∀(l:List F) (i:Nat),(sB p l i= -1/\∀x∈l,p x=false)\/∃k,∃x,sB p l i=((i+k:Nat):Int)/\l[k]? =some x/\p x=true/\∀j,j<k->∀y,l[j]? =some y->p y=false
 |[],i=> .inl ⟨rfl,λx I=>by cases I⟩
 |x::l,i=>by rw[sP];cases hp:p x with
  |true=>exact .inr ⟨0,x,by rw[aB rfl];rfl,rfl,hp,λj D=>absurd D (Nat.not_lt_zero _)⟩
  |false=>
   rw[aA ai];rcases sO p l (i+1) with⟨w,B⟩|⟨k,y,w,B,G,H⟩
   .exact .inl ⟨w,λz q=>by
     rcases aI.1 q with rfl|q
     .exact hp
     .exact B z q⟩
   .refine .inr ⟨k+1,y,by rw[w];congr 1;omega,by simpa using B,G,λj D z q=> ?_⟩;cases j with
    |zero=>simp only[yP,aM] at q;subst q;exact hp
    |succ j=>exact H j af z (by simpa using q)
def h364 (s:cr) (h:aU) (q:h.Types.length<=1073741824):∀(xs:List fG) (i:Nat),h.Types.drop i=xs->Pu s i h=some (sB (λx=>x.Name==s) xs i):=by intro xs;induction xs with
 |nil=>intro i l;refine abc ?_;rw[bp l];rfl
 |cons x xs w=>intro i l;refine abc ?_;rw[aT l,aj,aP l,aQ l q,w (i+1) (aJ l)];rw[sP];cases x.Name==s<;>rfl
def c364 (s:cr) (h:aU) (l:h.Types.length<=1073741824):f364 h s=some (sB (λx=>x.Name==s) h.Types 0):=e364 (h364 s h l _ 0 rfl)
def h365 (s:cr) (h:aU) (q:h.bN.length<=1073741824):∀(xs:List cU) (i:Nat),h.bN.drop i=xs->Pv s i h=some (sB (λx=>x.Name==s) xs i):=by intro xs;induction xs with
 |nil=>intro i l;refine abd ?_;rw[bp l];rfl
 |cons x xs w=>intro i l;refine abd ?_;rw[aT l,aj,aP l,aQ l q,w (i+1) (aJ l)];rw[sP];cases x.Name==s<;>rfl
def oT (s:cr) (h:aU) (l:h.bN.length<=1073741824):f365 h s=some (sB (λx=>x.Name==s) h.bN 0):=e365 (h365 s h l _ 0 rfl)
def h353a (s:cr) (l:List fG) (w:l.length<=1073741824):∀(xs:List fG) (i:Nat),l.drop i=xs->Ip l s l.length i=some (sB (λx=>x.Name==s) xs i):=by intro xs;induction xs with
 |nil=>intro i q;refine Ws ?_;rw[bp q];rfl
 |cons x xs z=>intro i q;refine Ws ?_;rw[aT q,aj,aP q,e374 rfl,ak,aQ q w,z (i+1) (aJ q)];rw[sP];cases x.Name==s<;>rfl
def c352 (s:cr) (h:aU) (l:h.Types.length<=1073741824):f352 h s=some (sB (λx=>x.Name==s) h.Types 0):=by refine e352 ?_;rw[e353a (h353a s h.Types l _ 0 rfl)];rfl
def h363 (s:cr) (h:aU) (l:List cU) (w:l.length<=1073741824):∀(xs:List cU) (i:Nat),l.drop i=xs->Pt s l l.length i h=some (sB (λx=>x.Name==s) xs i):=by intro xs;induction xs with
 |nil=>intro i q;refine abb ?_;rw[bp q];rfl
 |cons x xs z=>intro i q;refine abb ?_;rw[aT q,aj,aP q,aQ q w,z (i+1) (aJ q),beq_self_eq_true,rz,rz];rw[sP];cases x.Name==s<;>rfl
def c363 (s:cr) (h:aU) (l:h.bN.length<=1073741824):f363 h s=some (sB (λx=>x.Name==s) h.bN 0):=e363 (h363 s h h.bN l _ 0 rfl)
def h515 (s:cr) (t:List Template) (q:t.length<=1073741824):∀(xs:List Template) (i:Nat),t.drop i=xs->PT t s i=some (sB (λx=>x.Name==s) xs i):=by intro xs;induction xs with
 |nil=>intro i l;refine abH ?_;rw[bp l];rfl
 |cons x xs w=>intro i l;refine abH ?_;rw[aT l,aj,aP l,aQ l q,w (i+1) (aJ l)];rw[sP];cases x.Name==s<;>rfl
def XW (s:cr) (t:List Template) (l:t.length<=1073741824):f515 t s=some (sB (λx=>x.Name==s) t 0):=e515 (h515 s t l _ 0 rfl)
def h539 (s:cr) (t:List Def) (q:t.length<=1073741824):∀(xs:List Def) (i:Nat),t.drop i=xs->PY t s i=some (sB (λx=>x.Name==s) xs i):=by intro xs;induction xs with
 |nil=>intro i l;refine abL ?_;rw[bp l];rfl
 |cons x xs w=>intro i l;refine abL ?_;rw[aT l,aj,aP l,aQ l q,w (i+1) (aJ l)];rw[sP];cases x.Name==s<;>rfl
def c539 (s:cr) (t:List Def) (l:t.length<=1073741824):f539 t s=some (sB (λx=>x.Name==s) t 0):=e539 (h539 s t l _ 0 rfl)
def h555 (s:cr) (t:List cr) (q:t.length<=1073741824):∀(xs:List cr) (i:Nat),t.drop i=xs->P3 t s i=some (xs.any λx=>x==s):=by intro xs;induction xs with
 |nil=>intro i l;refine abQ ?_;rw[bp l];rfl
 |cons x xs w=>intro i l;refine abQ ?_;rw[aT l,aj,aP l,aQ l q,w (i+1) (aJ l),nj];cases x==s<;>rfl
def c555 (s:cr) (t:List cr) (l:t.length<=1073741824):f555 t s=some (t.any λx=>x==s):=e555 (h555 s t l _ 0 rfl)
def ZG (t:Int):f414 t=some ⟨t,[]⟩:=e414 rfl
def c460 {l:List Int} (w:l.length<=1000000):f460 l=some l:=by refine xN ?_;refine tM ?_;have q:Nat.ble ((List.map (dX .i64) l).length *8) 140737488355328=true:=uC (by rw[bC];omega);show(bif Nat.ble ((List.map (dX .i64) l).length *8) 140737488355328 then _ else _)=_;rw[q];rfl
def udN (k:Nat) (x:Node):Node:=⟨x.ee,x.cu.map λa=>⟨a.bM,wrap .i64 (a.To+(k:Int))⟩⟩
def Fx:Nat->List Int->List Node
 |_,[]=>[]
 |k,f::l=>⟨0,[⟨f,(k+1:Nat)⟩]⟩::Fx (k+1) l
def BK:∀(k:Nat) (l:List Int),(Fx k l).length=l.length
 |_,[]=>rfl
 |k,f::l=>by simp only[Fx,bw,BK (k+1) l]
def Ct (l:List Int) (f:FSt):FSt:=⟨Fx 0 l++f.az.map (udN l.length)⟩
section
variable {p:List Int} {f:FSt} (hp:p.length<=1000000) (hf:f.az.length<=1000000) (ha:∀x∈f.az,x.cu.length<=1000000)
include hp hf ha
theorem h430_12 {i:Nat} (G:i<f.az.length) {l:List cB} (I:l.length<=1000000) {ty:Int} {D:FSt} {o:List Node} (K:o.length<=2000000) {z:List cB} {r:FSt}:∀(xs:List cB) (k:Nat) (w:List cB),l.drop k=xs->w.length=k->
  KW p ((i+1:Nat):Int) f D (o++[⟨ty,w++xs.map λa=>⟨a.bM,wrap .i64 (a.To+(p.length:Int))⟩⟩])=some r->Iv p i l k f D ty o z w=some r:=by
 intro xs;induction xs with
 |nil=>intro k w q B h;refine Wu ?_;rw[bp q,au,nW ⟨by simp only[c8];omega,by simp only[c8];omega⟩,bQ af];rw[eY,dN] at h;exact h
 |cons a xs F=>
  intro k w q B h;have H:k<l.length:=by have:=aR length q;simp only[gB,bw] at this;omega
  refine Wu ?_;rw[aT q,aj,aP q,aP q,nW ⟨by simp only[c8];omega,by simp only[c8];omega⟩,bQ af];refine F (k+1) _ (aJ q) (by simp[B]) ?_;rw[ew];exact h
theorem h430_7 {o4:FSt}:∀(xs:List Node) (i:Nat) (o:List Node),f.az.drop i=xs->o.length=p.length+i->KW p i f o4 o=some ⟨o++xs.map (udN p.length)⟩:=by intro xs;induction xs with
 |nil=>intro i o l w;refine abh ?_;rw[bp l,au,eY,dN]
 |cons x xs B=>
  intro i o l w;have q:i<f.az.length:=by have:=aR length l;simp only[gB,bw] at this;omega
  have z:x∈f.az:=by
   have:x∈f.az.drop i:=by rw[l];exact fN ..
   exact iK this
  refine abh ?_;rw[aT l,aj,aP l,aP l];refine h430_12 hp hf ha q (ha x z) af x.cu 0 [] rfl rfl ?_;rw[B (i+1) _ (aJ l) (by rw[cM,c8];omega),ew];rfl
theorem h430_3 {o4:FSt}:∀(xs:List Int) (i:Nat) (o:List Node),p.drop i=xs->i<=p.length->o.length=i->KV p i f o4 o=some ⟨o++Fx i xs++f.az.map (udN p.length)⟩:=by intro xs;induction xs with
 |nil=>
  intro i o l hle q;refine abg ?_;have w:p.length<=i:=by have:=aR length l;simp only[gB,eS] at this;omega
  rw[bp l,au];have:=h430_7 hp hf ha (o4:=o4) f.az 0 o rfl af;rw[Fx,dN];exact this
 |cons x xs z=>
  intro i o l hle q;have w:i<p.length:=by have:=aR length l;simp only[gB,bw] at this;omega
  refine abg ?_;rw[aT l,aj,aP l,nW ⟨by simp only[c8];omega,by simp only[c8];omega⟩,bQ af];rw[z (i+1) _ (aJ l) af (by rw[cM,c8,q])];simp[Fx]
theorem c430g:f430 p f=some (Ct p f):=by refine e430 ?_;rw[show KV p 0 f ⟨[]⟩ []=_ from h430_3 hp hf ha p 0 [] rfl (c4 _) rfl];rfl
theorem h426_12 {i:Nat} (H:i<f.az.length) {l:List cB} (K:l.length<=1000000) {ty:Int} {D:FSt} {G:Node} {o:List Node} (L:o.length<=2000000) {z:List cB} {r:FSt}:∀(xs:List cB) (k:Nat) (w:List cB),l.drop k=xs->w.length=k->
  KU p f.az f.az.length ((i+1:Nat):Int) f D (o++[⟨ty,w++xs.map λa=>⟨a.bM,wrap .i64 (a.To+(p.length:Int))⟩⟩])=some r->Iu p f.az f.az.length i l l.length k f D G ty o z w=some r:=by
 intro xs;induction xs with
 |nil=>intro k w q B h;refine Oa ?_;rw[bp q,au,nW ⟨by simp only[c8];omega,by simp only[c8];omega⟩,bQ af];rw[eY,dN] at h;exact h
 |cons a xs F=>
  intro k w q B h;have I:k<l.length:=by have:=aR length q;simp only[gB,bw] at this;omega
  refine Oa ?_;rw[aT q,aj,aP q,nW ⟨by simp only[c8];omega,by simp only[c8];omega⟩,bQ af];refine F (k+1) _ (aJ q) (by simp[B]) ?_;rw[ew];exact h
theorem h426_8 {o4:FSt}:∀(xs:List Node) (i:Nat) (o:List Node),f.az.drop i=xs->o.length=p.length+i->KU p f.az f.az.length i f o4 o=some ⟨o++xs.map (udN p.length)⟩:=by intro xs;induction xs with
 |nil=>intro i o l w;refine Od ?_;rw[bp l,au,eY,dN]
 |cons x xs B=>
  intro i o l w;have q:i<f.az.length:=by have:=aR length l;simp only[gB,bw] at this;omega
  have z:x∈f.az:=by
   have:x∈f.az.drop i:=by rw[l];exact fN ..
   exact iK this
  refine Od ?_;rw[aT l,aj,aP l];refine h426_12 hp hf ha q (ha x z) af x.cu 0 [] rfl rfl ?_;rw[B (i+1) _ (aJ l) (by rw[cM,c8];omega),ew];rfl
theorem h426_3 {o4:FSt}:∀(xs:List Int) (i:Nat) (o:List Node),p.drop i=xs->i<=p.length->o.length=i->Gm p p p.length i f o4 o=some ⟨o++Fx i xs++f.az.map (udN p.length)⟩:=by intro xs;induction xs with
 |nil=>
  intro i o l hle q;refine Oc ?_;have w:p.length<=i:=by have:=aR length l;simp only[gB,eS] at this;omega
  rw[bp l,au];have:=h426_8 hp hf ha (o4:=o4) f.az 0 o rfl af;rw[Fx,dN];exact this
 |cons x xs z=>
  intro i o l hle q;have w:i<p.length:=by have:=aR length l;simp only[gB,bw] at this;omega
  refine Oc ?_;rw[aT l,aj,aP l,nW ⟨by simp only[c8];omega,by simp only[c8];omega⟩,bQ af];rw[z (i+1) _ (aJ l) af (by rw[cM,c8,q])];simp[Fx]
theorem c426g:f426 p f=some (Ct p f):=by refine e426 ?_;rw[show Gm p p p.length 0 f ⟨[]⟩ []=_ from h426_3 hp hf ha p 0 [] rfl (c4 _) rfl];rfl
end
end Go.Proofs.YtacapiamkgkkjaaGreatDoor.cl.pf
namespace Go.Proofs.YtacapiamkgkkjaaGreatDoor.cl.pf
open Go Go.AM
def c558 (a b:cr):f558 a b=some (Lx a b):=by refine xN ?_;refine tM ?_;rfl
def c556 (x:Template) (s:cr):f556 x s=some (Lx x.Name s):=e556 (by rw[c558,ak])
end Go.Proofs.YtacapiamkgkkjaaGreatDoor.cl.pf
namespace Go.Proofs.YtacapiamkgkkjaaGreatDoor.cl.pf
open Go Go.AM
def tA {P:bV->Prop} (h:∀d,(∀k∈d.Kids,P k)->P d):∀d,P d
 | .mk a b c l=>h _ λk q=>tA h k
termination_by d=>SizeOf.sizeOf d
decreasing_by
 have:=List.sizeOf_lt_of_mem q;simp only[bV.Kids,bV.mk.sizeOf_spec] at *;omega
inductive lN (P:bV->Prop):bV->Prop
 |mk (d:bV):P d->(∀k∈d.Kids,lN P k)->lN P d
def lN.here {P:bV->Prop} {d:bV} (h:lN P d):P d:=by cases h;assumption
def lN.kids {P:bV->Prop} {d:bV} (h:lN P d):∀k∈d.Kids,lN P k:=by cases h;assumption
def lN.imp {P Q:bV->Prop} (h:∀d,P d->Q d) {d:bV} (q:lN P d):lN Q d:=by induction q with
 |mk d l _ w=>exact .mk d (h d l) w
def lN.and {P Q:bV->Prop}:∀{d:bV},lN P d->lN Q d->lN (λd=>P d/\Q d) d:=by intro d;induction d using tA with
 |h d z=>exact λq w=> .mk d ⟨q.here,w.here⟩ λk l=>z k l (q.kids k l) (w.kids k l)
mutual
def wk:bV->Nat
 | .mk _ _ _ l=>1+gY l
def gY:List bV->Nat
 |[]=>0
 |x::l=>wk x+gY l
end
def NB (d:bV):wk d=1+gY d.Kids:=by cases d;simp[wk,bV.Kids]
def h511 {w:bV} (G:w.Kids.length<=1073741824) (q:∀k∈w.Kids,∃b,f511 k=some b/\(b=true->lN (λd=>d.Path.length<=4) k)):∀(xs:List bV) (i:Nat),w.Kids.drop i=xs->∃b,PR i w=some b/\(b=true->∀k∈xs,lN (λd=>d.Path.length<=4) k):=by intro xs;induction xs with
 |nil=>intro i l;exact⟨true,Ux (by rw[bp l,au]),λ_ k q=>by cases q⟩
 |cons x xs I=>
  intro i l;have H:x∈w.Kids:=by
   have:x∈w.Kids.drop i:=by rw[l];exact fN ..
   exact iK this
  obtain⟨b,e,h⟩:=q x H;obtain⟨z,B,D⟩:=I (i+1) (aJ l);cases b with
  |false=>exact⟨false,Ux (by rw[aT l,aj,aP l,e,ak,eB,aj]),λh=>by cases h⟩
  |true=>
   refine⟨z,Ux (by rw[aT l,aj,aP l,e,ak,di,au,aQ l G];exact B),λF k q=> ?_⟩;rcases aI.1 q with rfl|q
   .exact h rfl
   .exact D F k q
def c511 (d:bV):lN (λd=>d.Kids.length<=1073741824) d->∃b,f511 d=some b/\(b=true->lN (λd=>d.Path.length<=4) d):=by induction d using tA with
 |h d z=>
  intro q;by_cases hp:d.Path.length>4
  .exact⟨false,e511 (by rw[cond_pos (by rw[bz];omega)]),λh=>by cases h⟩
  .obtain⟨b,e,h⟩:=h511 q.here (λk l=>z k l (q.kids k l)) d.Kids 0 rfl;exact⟨b,e511 (by rw[cond_neg (by rw[aS];omega)];exact e),λw=> .mk d af (h w)⟩
structure Lt1 (most:Nat) (d:bV):Prop where
 nm:d.Name.length<=60
 pl:d.Path.length<=80
 ps:∀s∈d.Path,s.length<=60
 kl:d.Kids.length<=most
def WTd (most:Nat) (l:Nat) (d:bV):Prop:=∃r:Nat,f524 d l most=some (r:Int)/\1<=r/\r<=(82-l) *most+1/\(r<=most->wk d=r/\lN (Lt1 most) d)
def h524p {deep most:Nat} {d:bV} (I:most<=1000) (H:d.Path.length<=80) {q:Nat->Prop} (B:∃r:Nat,Fq deep most 1 0 d=some (r:Int)/\q r) (F:q (most+1)):∀(xs:List (List UInt8)) (i:Nat),d.Path.drop i=xs->∃r:Nat,PX deep most i d=some (r:Int)/\q r/\(r<=most->∀s∈xs,s.length<=60):=by intro xs;induction xs with
 |nil=>intro i l;obtain⟨r,e,h⟩:=B;exact⟨r,UA (by rw[bp l,au];exact e),h,λ_ s w=>by cases w⟩
 |cons x xs G=>
  intro i l;obtain⟨r,e,h,z⟩:=G (i+1) (aJ l);by_cases K:x.length>60
  .exact⟨most+1,UA (by rw[aT l,aj,aP l,cond_pos (by rw[bz];omega),bQ af]),F,λh=>by omega⟩
  .refine⟨r,UA (by rw[aT l,aj,aP l,cond_neg (by rw[aS];omega),aQ l af];exact e),h,λD s w=> ?_⟩;rcases aI.1 w with rfl|w
   .omega
   .exact z D s w
def h524k {deep most:Nat} {d:bV} (H:most<=1000) (D:deep<=80) (hl:d.Kids.length<=most) (q:∀k∈d.Kids,WTd most (deep+1) k):∀(xs:List bV) (i n:Nat),d.Kids.drop i=xs->1<=n->n<=(82-deep) *most+1->
  ∃r:Nat,Fq deep most n i d=some (r:Int)/\1<=r/\r<=(82-deep) *most+1/\(r<=most->r=n+gY xs/\∀k∈xs,lN (Lt1 most) k):=by
 have F:(82-(deep+1)) *most+most=(82-deep) *most:=by rw[show 82-deep=(82-(deep+1))+1 from by omega,jw,Nat.one_mul]
 have B:(82-deep) *most<=82 *1000:=nU af H;intro xs;induction xs with
 |nil=>intro i n l w z;exact⟨n,Ol (by rw[bp l,au]),w,z,λ_=>⟨by simp[gY],λk q=>by cases q⟩⟩
 |cons x xs L=>
  intro i n l w z;by_cases hn:n<=most
  .have K:x∈d.Kids:=by
    have:x∈d.Kids.drop i:=by rw[l];exact fN ..
    exact iK this
   obtain⟨y,e,y1,y2,S⟩:=q x K;obtain⟨r,G,P,Q,R⟩:=L (i+1) (n+y) (aJ l) af af;refine⟨r,Ol ?_,P,Q,λI=> ?_⟩
   .rw[aT l,aj,cond_pos (by rw[bz];omega),aP l,bQ af,e,ak,aQ l af,Qa (x:=(n:Int)+(y:Int)) af af];exact G
   .obtain⟨N,O⟩:=R I;obtain⟨U,V⟩:=S af;refine⟨by rw[N,gY,U];omega,λk q=> ?_⟩;rcases aI.1 q with rfl|q
    .exact V
    .exact O k q
  .exact⟨n,Ol (by rw[aT l,aj,cond_neg (by rw[aS];omega)]),w,z,λh=>by omega⟩
def c524 {most:Nat} (z:most<=1000) (d:bV):∀deep:Nat,deep<=81->WTd most deep d:=by induction d using tA with
 |h d H=>
  intro deep F;have q:wrap .i64 ((most:Int)+1)=((most+1:Nat):Int):=bQ af;have w:most *1<=(82-deep) *most:=by rw[Nat.mul_comm];exact nU af (aW _)
  by_cases U:deep>80
  .exact⟨most+1,e524 (by rw[cond_pos (by rw[bz];omega),q]),by omega,by omega,λh=>by omega⟩
  by_cases V:d.Name.length>60
  .exact⟨most+1,e524 (by rw[cond_neg (by rw[aS];omega),cond_pos (by rw[bz];omega),q]),by omega,by omega,λh=>by omega⟩
  by_cases h3:d.Path.length>80
  .exact⟨most+1,e524 (by rw[cond_neg (by rw[aS];omega),cond_neg (by rw[aS];omega),cond_pos (by rw[bz];omega),q]),by omega,by omega,λh=>by omega⟩
  by_cases h4:d.Kids.length>most
  .exact⟨most+1,e524 (by rw[cond_neg (by rw[aS];omega),cond_neg (by rw[aS];omega),cond_neg (by rw[aS];omega),cond_pos (by rw[bz];omega),q]),by omega,by omega,λh=>by omega⟩
  obtain⟨r,e,Q,R,S⟩:=h524k z af af (λk G=>H k G (deep+1) af) d.Kids 0 1 rfl af af;obtain⟨l,D,⟨I,K,L⟩,N⟩:=h524p (deep:=deep) z af (q:=λl=>1<=l/\l<=(82-deep) *most+1/\(l<=most->l=1+gY d.Kids/\∀k∈d.Kids,lN (Lt1 most) k)) ⟨r,e,Q,R,S⟩ ⟨af,by omega,λh=>by omega⟩ d.Path 0 rfl;refine⟨l,e524 (by rw[cond_neg (by rw[aS];omega),cond_neg (by rw[aS];omega),cond_neg (by rw[aS];omega),cond_neg (by rw[aS];omega)];exact D),I,K,λB=> ?_⟩;obtain⟨O,P⟩:=L B;exact⟨by rw[NB,O], .mk d ⟨af,by omega,N B,af⟩ P⟩
def c509 {most:Nat} (l:most<=1000) (d:bV):∃b,f509 d most=some b/\(b=true->wk d<=most/\lN (Lt1 most) d):=by obtain⟨r,e,B,D,w⟩:=c524 l d 1 af;refine⟨decide ((r:Int)<=(most:Int)),e509 (by rw[show f524 d 1 most=some (r:Int) from e];rfl),λh=> ?_⟩;have h:(r:Int)<=most:=lV h;obtain⟨z,q⟩:=w af;exact⟨af,q⟩
