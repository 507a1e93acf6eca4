/- Compiled hierarchies say what the laws ask. -/
import Derived.Test.YthphfjcnkinkpaaGreatDoorClXq
import Derived.Test.YthphfjcnkinkpaaGreatDoorClSh
set_option linter.all false
open Go.IntKind (wrap)
open Int (toNat)
open List (length)
namespace Go.Proofs.YthphfjcnkinkpaaGreatDoor.cl.pf
open Go Go.AM
structure TH where
 T:Nat
 F:Nat
 sb:Int->Int->Prop
 io:Int->Int
 vl:Int->Int->Int
structure TH.OK (t:TH) (h:aK):Prop where
 hx:HX h t.T t.F t.sb t.io t.vl
 T:t.T<=1000
 F:t.F<=64
 P:0<t.T
noncomputable def tOf (d:List aC):TH:=⟨(tys d).length,(qA d).length,
 λa b=>(0<=a/\a<((tys d).length:Int))/\(0<=b/\b<((tys d).length:Int))/\sub ((tys d).getD b.toNat 0) ((tys d).getD a.toNat 0)=true,
 λf=>(nu d ((CJ d ((qA d).getD f.toNat [])).getD []):Int),
 λa f=>match inh d ((tys d).getD a.toNat 0) ((qA d).getD f.toNat []) with
  |some c=>Hg (tys d) c
  |none=>0⟩
def DF {a:Int} {n:Nat} (h:0<=a) (l:a<(n:Int)):∃i:Nat,a=(i:Int)/\i<n:=⟨a.toNat,by omega,af⟩
def hd_to {q:List Nat} (K:aav q):TO q.length (λa b=>(0<=a/\a<(q.length:Int))/\(0<=b/\b<(q.length:Int))/\sub (q.getD b.toNat 0) (q.getD a.toNat 0)=true):=by refine⟨λh=>h.1,λh=>h.2.1,λh l=>⟨⟨h,l⟩,⟨h,l⟩,yO _⟩,λh l=>⟨h.1,l.2.1,yP l.2.2 h.2.2⟩,λh l=> ?_,λh l=>⟨⟨af,af⟩,⟨h,l⟩,K.top _ (lI af)⟩⟩;have:=getD_inj K.nd af af (sP h.2.2 l.2.2);omega
def hd_hm {h:aK} {l:List Nat} (H:Hd h l) (K:aav l):HM h l.length (λa b=>(0<=a/\a<(l.length:Int))/\(0<=b/\b<(l.length:Int))/\sub (l.getD b.toNat 0) (l.getD a.toNat 0)=true):=by
 refine⟨hd_to K,λa b I L N O=> ?_⟩;obtain⟨i,rfl,z⟩:=DF I L;obtain⟨j,rfl,D⟩:=DF N O;rw[o335 H K z D,o336 H K z D];simp only[aT];by_cases F:l.getD i 0&&&l.getD j 0∈l
 .obtain⟨q,U,G,R⟩:=Oz F;have e:CY l (l.getD i 0&&&l.getD j 0)=((q:Int),true):=by
   unfold CY;rw[R,az af]
  rw[e];refine .inl ⟨q,rfl,rfl,⟨⟨I,L⟩,⟨af,af⟩,?_⟩,⟨⟨N,O⟩,⟨af,af⟩,?_⟩,λc w B=>⟨⟨af,af⟩,w.2.1,?_⟩⟩
  .rw[aT,G];exact Fo _ _
  .rw[aT,G];exact My _ _
  .rw[aT,G];exact Ys w.2.2 B.2.2
 .have e:CY l (l.getD i 0&&&l.getD j 0)=(0,false):=by
   unfold CY;rw[Xp F];rfl
  rw[e];refine .inr ⟨0,rfl,rfl,λc w B=>F (K.cl _ (lI z) _ (lI D) λQ=> ?_)⟩;have P:=Ys w.2.2 B.2.2;rw[Q] at P;have S:=w.2.1;refine K.nz _ (lI af) (sP P ?_);exact j8.2 λi z=>by simp at z
def OG {d:List aC} (O:Ok5 d):(tOf d).OK (sk d):=by
 have HD:=hd5 O;have K:=O.ok.Vs;have hl:=O.ok.cG;have h64:=O.f64;have hvd:=NK O.fd;have L:∀f:Int,0<=f->f<((qA d).length:Int)->∃j F,f=((j:Nat):Int)/\(qA d)[j]? =some F/\(qA d).getD f.toNat []=F/\F∈qA d:=λf H I=>by obtain⟨j,rfl,hj⟩:=DF H I;have e:=aM hj;exact⟨j,_,rfl,e,by rw[aT,bA,e];rfl,bB hj⟩
 have hio:∀F∈qA d,∃u∈ku d,CJ d F=some u:=λF w=>by obtain⟨u,U⟩:=O.intro F w;exact⟨u,S0 O.ok.acc U,U⟩
 have R:∀(a f:Int),0<=a->a<((tys d).length:Int)->∀F∈qA d,(qA d).getD f.toNat []=F->((inh d ((tys d).getD a.toNat 0) F).isSome=true↔(tOf d).sb ((tOf d).io f) a):=λa f B l F w e=>by
  obtain⟨u,U,z⟩:=hio F w;obtain⟨_,n1,n2,_⟩:=O.ok.zV U;have P:(tOf d).io f=(nu d u:Int):=by show(nu d ((CJ d ((qA d).getD f.toNat [])).getD []):Int)=_;rw[e,z];rfl
  rw[ZC O.ok.acc z,P];constructor
  .intro h;exact⟨⟨af,af⟩,⟨B,l⟩,by rw[aT,n2];exact h⟩
  .intro h;have:=h.2.2;rw[aT,n2] at this;exact this
 have D:∀a:Int,0<=a->a<((tys d).length:Int)->∀F∈qA d,∀c,inh d ((tys d).getD a.toNat 0) F=some c->∃q:Nat,Hg (tys d) c=(q:Int)/\q<(tys d).length/\(tys d).getD q 0=c:=λa B l F w c G=>O.num (lI af) w G
 refine⟨⟨⟨hd_hm HD K,JP,λf H I=> ?_,λa f B l H I hs=> ?_,λa f B l H I hs=> ?_,λa b f H I S h2=> ?_,λa b h=> ?_⟩,HD.length,λa b B l b0 V=> ?_⟩,by show(tys d).length<=1000;omega,h64,K.pos⟩
 .obtain⟨j,F,rfl,e1,z,w⟩:=L f H I;obtain⟨u,U,e3⟩:=hio F w;obtain⟨_,n1,n2,_⟩:=O.ok.zV U;have P:(tOf d).io ((j:Nat):Int)=(nu d u:Int):=by
   show(nu d ((CJ d ((qA d).getD (toNat ((j:Nat):Int)) [])).getD []):Int)=_;rw[z,e3];rfl
  obtain⟨g1,g2⟩:=Zm e1
  have:((sk d).bC.getD (toNat ((j:Nat):Int)) default).Intro=(nu d u:Int):=by show((vR d).getD (toNat ((j:Nat):Int)) default).Intro=_;rw[aT,bA,aM g1,g2];show(nu d ((CJ d F).getD []):Int)=_;rw[e3];rfl
  rw[P];exact⟨this,by omega,by show _<((tys d).length:Int);omega⟩
 .obtain⟨i,rfl,N⟩:=DF B l;obtain⟨j,F,rfl,e1,z,w⟩:=L f H I;have S:=(R _ _ B l F w z).2 hs;obtain⟨c,G⟩:=q8.1 S;obtain⟨q,q1,q2,q3⟩:=D _ B l F w c G;have ev:(tOf d).vl ((i:Nat):Int) ((j:Nat):Int)=Hg (tys d) c:=by
   show(match inh d ((tys d).getD (toNat ((i:Nat):Int)) 0) ((qA d).getD (toNat ((j:Nat):Int)) []) with|some c=>Hg (tys d) c|none=>0)=_;rw[z,G]
  rw[aT] at G;rw[o355 O N e1,o356 O N e1,G,ev];exact⟨rfl,rfl,by omega,by show _<((tys d).length:Int);omega⟩
 .obtain⟨i,rfl,N⟩:=DF B l;obtain⟨j,F,rfl,e1,z,w⟩:=L f H I;have S:inh d ((tys d).getD (toNat ((i:Nat):Int)) 0) F=none:=by
   cases e:inh d ((tys d).getD (toNat ((i:Nat):Int)) 0) F with
   |none=>rfl
   |some c=>exact absurd ((R _ _ B l F w z).1 (by rw[e];rfl)) hs
  rw[aT] at S;rw[o355 O N e1,o356 O N e1,S];exact⟨0,rfl,rfl⟩
 .obtain⟨j,F,rfl,e1,z,w⟩:=L f H I;have l:=h2.1;have V:=h2.2.1;have h3:=(R _ _ l.1 l.2 F w z).2 S;obtain⟨c,G⟩:=q8.1 h3;obtain⟨q,q1,q2,q3⟩:=D _ l.1 l.2 F w c G;have h4:=inh_up h2.2.2 h3;obtain⟨c',Q⟩:=q8.1 h4;obtain⟨q',q1',q2',q3'⟩:=D _ V.1 V.2 F w c' Q;have ev:(tOf d).vl a ((j:Nat):Int)=(q:Int):=by
   show(match inh d ((tys d).getD a.toNat 0) ((qA d).getD (toNat ((j:Nat):Int)) []) with|some c=>Hg (tys d) c|none=>0)=_;rw[z,G];exact q1
  have ev':(tOf d).vl b ((j:Nat):Int)=(q':Int):=by show(match inh d ((tys d).getD b.toNat 0) ((qA d).getD (toNat ((j:Nat):Int)) []) with|some c=>Hg (tys d) c|none=>0)=_;rw[z,Q];exact q1'
  rw[ev,ev'];refine⟨⟨af,af⟩,⟨af,af⟩,?_⟩;rw[aT,aT,q3,q3'];exact abU h2.2.2 G Q
 .have:=K.AY a.toNat b.toNat (by have:=h.1;omega) (by have:=h.2.1;omega) h.2.2;have:=h.1;have:=h.2.1;omega
 .obtain⟨i,rfl,N⟩:=DF B l;obtain⟨j,rfl,hj⟩:=DF b0 V;refine⟨_,o339 HD N hj,o340 HD N hj,?_⟩;show _↔(tOf d).sb _ _;constructor
  .intro h;exact⟨⟨B,l⟩,⟨b0,V⟩,by rw[aT,aT];exact h⟩
  .intro h;have:=h.2.2;rw[aT,aT] at this;exact this
end Go.Proofs.YthphfjcnkinkpaaGreatDoor.cl.pf
namespace Go.Proofs.YthphfjcnkinkpaaGreatDoor.cl
open Go Go.AM
theorem Zb {d:List aC}:Ir d=0↔UP d=false/\xm [] d=0/\yL (ku d) d=0/\FK d=1/\Dk d:=by
 unfold Ir;constructor
 .intro h;split at h
  .cases h
  split at h
  .rename_i l;exact absurd h l
  split at h
  .rename_i l;exact absurd h l
  split at h
  .cases h
  split at h
  .rename_i q l w z B;exact⟨by simpa using q,fh l,fh w,fh z,B⟩
  .cases h
 .rintro⟨a,b,c,e,f⟩;rw[az (by simp[a]),az (λh=>h b),az (λh=>h c),az (λh=>h e),aB f]
def leT (tb:List (cn×List cn)) (x y:cn):Bool:=match tb.find? λp=>p.1==x with
 |some p=>p.2.contains y
 |none=>false
def Pp (d:List aC) (x:cn):List cn->List cn->Bool
 |_,[]=>true
 |q,y::l=>(y==x||d.any λt=>t.Name==y&&t.ee.any λs=>q.contains s)&&Pp d x (y::q) l
def tabOk (d:List aC) (tb:List (cn×List cn)):Bool:=
 (tb.all λp=>Pp d p.1 [] p.2)&&(ku d).all λx=>leT tb x x&&(ku d).all λy=> !leT tb x y||(dn d y).all λz=>leT tb x z
def ZT {d:List aC} {x:cn}:∀(l q:List cn),Pp d x q l=true->(∀s∈q,Le d x s)->∀y∈l,Le d x y:=by intro l;induction l with
 |nil=>intro q _ _ y B;cases B
 |cons z l N=>
  intro q h I y B;unfold Pp at h;rw[aV,gE] at h;have K:Le d x z:=by
   rcases h.1 with D|D
   .rw[ja] at D;rw[D];exact .refl
   .obtain⟨t,L,F⟩:=nJ.1 D;rw[aV,ja] at F;obtain⟨s,G,H⟩:=nJ.1 F.2;rw[Eb] at H;exact .step (I s H) (Kk.2 ⟨t,L,F.1,G⟩)
  rcases aS.1 B with rfl|B
  .exact K
  .refine N (z::q) h.2 (λs w=> ?_) y B;rcases aS.1 w with rfl|w
   .exact K
   .exact I s w
def tab_le {d:List aC} {tb:List (cn×List cn)} (h:tabOk d tb=true):∀x∈ku d,∀y,Le d x y↔leT tb x y=true:=by
 unfold tabOk at h;rw[aV,cI,cI] at h;intro x D y;have q:=h.2 x D;rw[aV,cI] at q;have key:∀y,Le d x y->y∈ku d/\leT tb x y=true:=by intro y l;induction l with
  |refl=>exact⟨D,q.1⟩
  |step _ F G=>
   refine⟨U9 F,?_⟩;have:=q.2 _ G.1;rw[gE,G.2,cI] at this;rcases this with w|w
   .cases w
   .exact w _ F
 constructor
 .intro l;exact(key y l).2
 .intro l;unfold leT at l;split at l
  .rename_i p hp;have B:=lR hp;have z:p.1=x:=by simpa using nN hp
   rw[Eb] at l;rw[<-z];exact ZT p.2 [] (h.1 p B) (λs H=>by cases H) y l
  .cases l
def rk (d:List aC) (s:cn):Nat:=(jf (λt:aC=>t.Name==s) d 0).toNat
def chk0 (d:List aC):Bool:= !UP d&&xm [] d==0&&yL (ku d) d==0&&FK d==1&&d.all λt=>t.ee.all λs=>Nat.blt (rk d s) (rk d t.Name)
def chk0_ok {d:List aC} (h:chk0 d=true):Ir d=0:=by unfold chk0 at h;simp only[aV,ja,cI] at h;obtain⟨⟨⟨⟨l,q⟩,w⟩,z⟩,B⟩:=h;refine Zb.2 ⟨by simpa using l,q,w,z,rk d,λt F s D=> ?_⟩;exact fF (B t F s D)
section
variable (d:List aC) (le:cn->cn->Bool)
def cwC (all:List cn) (x:cn):Nat:=mk 0 ((List.range all.length).filter λi=>le x (all.getD i []))
def Zd:List Nat:=(iQ d).map (cwC le (iQ d))
def X7 (l:List cn):List cn:=(oO (l.filter λs=>decide (s∈ku d))).filter λx=>(oO (l.filter λs=>decide (s∈ku d))).all λy=>decide (y=x)|| !le y x
def vE (w:Nat):List cn->List Nat->Nat->List cn->cn
 |s::ss,c::q,i,l=>if c=w then s else vE w ss q (i+1) (if w.testBit i=true then l++[s] else l)
 |_,_,_,l=>yw [38] (X7 d le l)
def abg:List DW:=((AZ (Zd d le)).map λw=>((vE d le w (iQ d) (Zd d le) 0 [],w):DW)).foldl (λE p=>sn ET p E) []
def SX (F:cn):Option cn:=one (X7 d le (oO (xF d F)))
def stpC (w:Nat) (F:cn) (o:Option Nat) (t:aC):Option Nat:=match val t F with
 |some v=>if sub w (cwC le (iQ d) t.Name)=true then some (comb o (cwC le (iQ d) v)) else o
 |none=>o
def abT (w:Nat) (F:cn):Option Nat:=d.foldl (stpC d le w F) none
variable {d le} (hle:∀x∈ku d,∀y,Le d x y↔le x y=true)
include hle
open Classical in
theorem U8 {all:List cn} {x:cn} (l:x∈ku d):cw d all x=cwC le all x:=by
 unfold cw idxs cwC;congr 1;refine lM λi _=> ?_
 rw[iZ,bg];exact hle x l _
theorem Xj:qt d=Zd d le:=by unfold qt Zd;exact iE λx l=>U8 hle (gB.1 l)
theorem Kj (l:List cn):wj d l=X7 d le l:=by
 unfold wj X7;have B:∀x∈oO (l.filter λs=>decide (s∈ku d)),x∈ku d:=λx D=>by have:=(c7.1 (gB.1 D)).2;simpa using this
 generalize oO (l.filter λs=>decide (s∈ku d))=m at B;refine lM λx D=> ?_
 unfold sj;rw[iZ,cI,cI];have key:∀y∈m,((decide (y=x)|| !(open Classical in decide (Le d y x)))=true↔(decide (y=x)|| !le y x)=true):=by intro y q;have z:=hle y (B y q) x;cases w:le y x with
  |true=>
   have:Le d y x:=z.2 w
   simp[this]
  |false=>
   have:¬Le d y x:=λh=>by rw[z.1 h] at w;cases w
   simp[this]
 constructor
 .intro h y q;refine(key y q).1 ?_;have:=h y q;simpa using this
 .intro h y q;have:=(key y q).2 (h y q);simpa using this
theorem Pk {w:Nat}:∀(ss:List cn) (q:List Nat) (i:Nat) (l:List cn),mU d w ss q i l=vE d le w ss q i l:=by intro ss;induction ss with
 |nil=>intro q i l;cases q<;>simp only[mU,vE,Kj hle]
 |cons s ss z=>intro q i l;cases q with
  |nil=>simp only[mU,vE,Kj hle]
  |cons c q=>simp only[mU,vE,z]
theorem JL:eS d=abg d le:=by unfold eS abg EW;rw[Xj hle];congr 1;exact iE λw _=>by rw[Pk hle]
theorem SY (F:cn):CJ d F=SX d le F:=by unfold CJ SX;rw[Kj hle]
theorem XD (z:Vd d) (w:Nat) (F:cn):inh d w F=abT d le w F:=by
 have key:∀(l:List aC) (o:Option Nat),(∀t∈l,t∈d)->l.foldl (Ac d w F) o=l.foldl (stpC d le w F) o:=by intro l;induction l with
  |nil=>intro o _;rfl
  |cons t l G=>
   intro o h;rw[gx,gx];have q:=h t ai;have e:Ac d w F o t=stpC d le w F o t:=by unfold Ac stpC;cases D:val t F with
    |none=>rfl
    |some v=>simp only;rw[show cwd d t.Name=cwC le (iQ d) t.Name from U8 hle (Tq q),show cwd d v=cwC le (iQ d) v from U8 hle (z.val q D)]
   rw[e];exact G _ λu B=>h u (by simp[B])
 exact key d none λt h=>h
end
structure At (d:List aC) (le:cn->cn->Bool) (E:List DW):Prop where
 hl:∀x∈ku d,∀y,Le d x y↔le x y=true
 eS:abg d le=E
 Ir:Ir d=0
def At.tys {d:List aC} {le:cn->cn->Bool} {E:List DW} (h:At d le E):tys d=E.map (·.2):=by unfold cl.tys;rw[JL h.hl,h.eS]
def At.zF {d:List aC} {le:cn->cn->Bool} {E:List DW} (h:At d le E):zF d=E.map Ij:=by unfold cl.zF;rw[JL h.hl,h.eS]
def chk5C (d:List aC) (le:cn->cn->Bool) (E:List DW):Int:=
 if(AZ (Zd d le)).length>256 then 7 else if(qA d).length>64 then 7 else if sg (ku d) d≠0 then sg (ku d) d
 else if((qA d).any λF=>(SX d le F).isNone)=true then 10 else if((E.map (·.2)).any λw=>(qA d).any λF=>abT d le w F==some 0)=true then 11 else 0
def At.xN {d:List aC} {le:cn->cn->Bool} {E:List DW} (h:At d le E):xN d=chk5C d le E:=by
 unfold cl.xN chk5C;have H:=h.Ir;rw[az (λB=>B H),Xj h.hl];by_cases l:(AZ (Zd d le)).length>256
 .rw[aB l,aB l]
 .rw[az l,az l];by_cases q:(qA d).length>64
  .rw[aB q,aB q]
  .rw[az q,az q];by_cases z:sg (ku d) d=0
   .have D:¬(sg (ku d) d≠0):=λB=>B z
    rw[az D,az D];have e1:Cy d (qA d)=(qA d).any λF=>(SX d le F).isNone:=by unfold Cy;congr 1;funext F;rw[SY h.hl]
    have G:Dm d (cl.tys d)=(E.map (·.2)).any λw=>(qA d).any λF=>abT d le w F==some 0:=by unfold Dm;rw[h.tys];congr 1;funext w;congr 1;funext F;rw[XD h.hl (NK z)]
    rw[e1,G]
   .rw[aB z,aB z]
def nuC (E:List DW) (x:cn):Nat:=(jf (λc:fO=>c.Name==x) (E.map Ij) 0).toNat
def Ow (d:List aC) (le:cn->cn->Bool) (E:List DW):List cW:=(qA d).map λF=>⟨F,(nuC E ((SX d le F).getD []):Int)⟩
def At.feats {d:List aC} {le:cn->cn->Bool} {E:List DW} (h:At d le E):vR d=Ow d le E:=by
 unfold vR Ow;refine iE λF _=> ?_
 unfold JO nu nuC;rw[h.zF,SY h.hl]
def ad0 (d:List aC) (le:cn->cn->Bool) (E:List DW) (w:Nat):List cn->Nat->List ga
 |[],_=>[]
 |F::l,k=>match abT d le w F with
  |some c=>⟨(k:Int),Hg (E.map (·.2)) c⟩::ad0 d le E w l (k+1)
  |none=>ad0 d le E w l (k+1)
def At.row {d:List aC} {le:cn->cn->Bool} {E:List DW} (h:At d le E) (z:Vd d) (w:Nat):∀(l:List cn) (k:Nat),x7 d w l k=ad0 d le E w l k:=by intro l;induction l with
 |nil=>intro k;rfl
 |cons F l q=>intro k;unfold x7 ad0;rw[XD h.hl z,h.tys];cases abT d le w F with
  |none=>exact q _
  |some c=>simp only;rw[q]
end Go.Proofs.YthphfjcnkinkpaaGreatDoor.cl
set_option maxRecDepth 100000
namespace Go.Proofs.YthphfjcnkinkpaaGreatDoor.cl.pf
open Go Go.AM
def szB (d:List aC):Bool:=Nat.ble d.length 64&&d.all λt=>Nat.ble t.ee.length 20&&Nat.ble t.bC.length 100
def ad9 {d:List aC} (h:szB d=true):Sz d/\d.length<=64/\Fz d:=by
 unfold szB at h;rw[aV,cI] at h;have q:=fF h.1;have key:∀t∈d,t.ee.length<=20/\t.bC.length<=100:=λt l=>by have:=h.2 t l;rw[aV] at this;exact⟨fF this.1,fF this.2⟩
 exact⟨⟨af,λt l=>by have:=(key t l).1;omega⟩,q,λt l=>by have:=(key t l).2;omega⟩
def TP:List (cn×List cn):=[([116,111,112],
  [[116,111,112],[108,105,115,116],[100,108,105,115,116],[105,110,100,101,120],[114,101,108],
   [113,101,113],[115,101,109],[115,105,103,110],[99,111,110,115],[110,117,108,108],
   [104,97,110,100,108,101],[101,118,101,110,116],[101,110,116,105,116,121]]),
 ([108,105,115,116],[[108,105,115,116],[99,111,110,115],[110,117,108,108]]),
 ([99,111,110,115],[[99,111,110,115]]),([110,117,108,108],[[110,117,108,108]]),
 ([100,108,105,115,116],[[100,108,105,115,116]]),
 ([105,110,100,101,120],
  [[105,110,100,101,120],[104,97,110,100,108,101],[101,118,101,110,116],
   [101,110,116,105,116,121]]),
 ([104,97,110,100,108,101],[[104,97,110,100,108,101]]),
 ([101,118,101,110,116],[[101,118,101,110,116]]),
 ([101,110,116,105,116,121],[[101,110,116,105,116,121]]),([114,101,108],[[114,101,108]]),
 ([113,101,113],[[113,101,113]]),([115,101,109],[[115,101,109]]),
 ([115,105,103,110],[[115,105,103,110]])]
def EP:List DW:=[([116,111,112],8191),([105,110,100,101,120],60),([108,105,115,116],193),([99,111,110,115],1),
  ([100,108,105,115,116],2),([101,110,116,105,116,121],4),([101,118,101,110,116],8),
  ([104,97,110,100,108,101],16),([110,117,108,108],128),([113,101,113],256),([114,101,108],512),
  ([115,101,109],1024),([115,105,103,110],2048)]
def GP:List cn:=[[65,82,71,83],[67,79,78,83],[70,73,82,83,84],[72,73,71,72],[73,78,68,69,88],[76,65,66,69,76],[76,65,83,84],[76,73,83,84],[76,79,87],[82,69,76,83],[82,69,83,84],[83,69,77],[84,79,80]]
def atP:At AU (leT TP) EP:=⟨tab_le (by kernel_rfl),by kernel_rfl,chk0_ok (by kernel_rfl)⟩
def ckP:xN AU=0:=atP.xN.trans (by kernel_rfl)
def okP:Ok5 AU:=by obtain⟨z,l,hf⟩:=ad9 (d:=AU) (by kernel_rfl);exact(KG z l hf ckP).1
def tysP:tys AU=EP.map (·.2):=atP.tys
def lenP:(tys AU).length=13:=by rw[tysP];rfl
def ftsP:qA AU=GP:=by kernel_rfl
def x332:f332 AU=some (sk AU,0):=by obtain⟨z,l,hf⟩:=ad9 (d:=AU) (by kernel_rfl);rw[c332 z l hf,aB ckP]
def c403 {d:List aC} (z:Sz d) (hf:Fz d):∃(h:aK) (t:TH),f403 d=some h/\t.OK h:=by
 have pre:Option.bind (f327) (λl=>Option.bind (f332 l) λq=>some q.1)=some (sk AU):=by rw[c327,aj,x332,aj]
 by_cases B:d.length<=20
 .by_cases w:xN d=0
  .refine⟨_,_,e403 ?_,OG (KG z af hf w).1⟩;rw[cond_pos (by rw[bg];omega),c332 z af hf,aj,aB w,cond_pos (by rfl)]
  .refine⟨_,_,e403 ?_,OG okP⟩;rw[cond_pos (by rw[bg];omega),c332 z af hf,aj,az w,cond_neg (by simpa using w)];exact pre
 .refine⟨_,_,e403 ?_,OG okP⟩;rw[cond_neg (by rw[aQ];omega)];exact pre
end Go.Proofs.YthphfjcnkinkpaaGreatDoor.cl.pf
namespace Go.Proofs.YthphfjcnkinkpaaGreatDoor.cl.pf
open Go Go.AM
def Rq {x:Int} (l:0<=x) (q:x<=1073741824):wrap .i64 x=x:=by obtain⟨n,rfl⟩:=dM l;cases n with
 |zero=>rfl
 |succ n=>exact bM af
def sU {q:Type} (p:q->Bool):List q->Nat->Int
 |[],_=> -1
 |x::l,i=>if p x then(i:Int) else sU p l (i+1)
theorem tv {q:Type} (p:q->Bool) (x:q) (l:List q) (i:Nat):sU p (x::l) i=if p x then(i:Int) else sU p l (i+1):=rfl
def tu {w:Type} (p:w->Bool):∀(l:List w) (i:Nat),(sU p l i= -1/\∀x∈l,p x=false)\/∃k,∃x,sU p l i=((i+k:Nat):Int)/\l[k]? =some x/\p x=true/\∀j,j<k->∀y,l[j]? =some y->p y=false
 |[],i=> .inl ⟨rfl,λx G=>by cases G⟩
 |x::l,i=>by rw[tv];cases hp:p x with
  |true=>exact .inr ⟨0,x,by rfl,rfl,hp,λj q=>absurd q (Nat.not_lt_zero _)⟩
  |false=>
   rw[az ai];rcases tu p l (i+1) with⟨B,D⟩|⟨k,y,B,D,F,H⟩
   .simp_all
   .refine .inr ⟨k+1,y,by omega,by assumption,F,λj q z I=> ?_⟩;grind
def h364 (s:cn) (h:aK) (q:h.Types.length<=1073741824):∀(xs:List fM) (i:Nat),h.Types.drop i=xs->Ql s i h=some (sU (λx=>x.Name==s) xs i):=by intro xs;induction xs with
 |nil=>intro i l;refine acu ?_;rw[aW l];rfl
 |cons x xs w=>intro i l;refine acu ?_;rw[aP l,aJ l,aN l q,w _ (aH l)];grind[tv]
def aaP (s:cn) (h:aK) (l:h.Types.length<=1073741824):f364 h s=some (sU (λx=>x.Name==s) h.Types 0):=e364 (h364 s h l _ 0 rfl)
def h365 (s:cn) (h:aK) (q:h.bC.length<=1073741824):∀(xs:List cW) (i:Nat),h.bC.drop i=xs->Qm s i h=some (sU (λx=>x.Name==s) xs i):=by intro xs;induction xs with
 |nil=>intro i l;refine acv ?_;rw[aW l];rfl
 |cons x xs w=>intro i l;refine acv ?_;rw[aP l,aJ l,aN l q,w _ (aH l)];grind[tv]
theorem yh (s:cn) (h:aK) (l:h.bC.length<=1073741824):f365 h s=some (sU (λx=>x.Name==s) h.bC 0):=e365 (h365 s h l _ 0 rfl)
def h353a (s:cn) (l:List fM) (w:l.length<=1073741824):∀(xs:List fM) (i:Nat),l.drop i=xs->IW l s l.length i=some (sU (λx=>x.Name==s) xs i):=by intro xs;induction xs with
 |nil=>intro i q;refine XN ?_;rw[aW q];rfl
 |cons x xs z=>intro i q;refine XN ?_;rw[aP q,aJ q,e374 rfl,aN q w,z _ (aH q)];grind[tv]
def Y6 (s:cn) (h:aK) (l:h.Types.length<=1073741824):f352 h s=some (sU (λx=>x.Name==s) h.Types 0):=by refine e352 ?_;rw[e353a (h353a s _ l _ 0 rfl)];rfl
def h363 (s:cn) (h:aK) (l:List cW) (w:l.length<=1073741824):∀(xs:List cW) (i:Nat),l.drop i=xs->Qk s l l.length i h=some (sU (λx=>x.Name==s) xs i):=by intro xs;induction xs with
 |nil=>intro i q;refine acs ?_;rw[aW q];rfl
 |cons x xs z=>intro i q;refine acs ?_;rw[aP q,aJ q,aN q w,z _ (aH q)];grind[tv]
def c363 (s:cn) (h:aK) (l:h.bC.length<=1073741824):f363 h s=some (sU (λx=>x.Name==s) h.bC 0):=e363 (h363 s h _ l _ 0 rfl)
def h515 (s:cn) (t:List Template) (q:t.length<=1073741824):∀(xs:List Template) (i:Nat),t.drop i=xs->QW t s i=some (sU (λx=>x.Name==s) xs i):=by intro xs;induction xs with
 |nil=>intro i l;refine ac7 ?_;rw[aW l];rfl
 |cons x xs w=>intro i l;refine ac7 ?_;rw[aP l,aJ l,aN l q,w _ (aH l)];grind[tv]
def UZ (s:cn) (t:List Template) (l:t.length<=1073741824):f515 t s=some (sU (λx=>x.Name==s) t 0):=e515 (h515 s t l _ 0 rfl)
def h539 (s:cn) (t:List Def) (q:t.length<=1073741824):∀(xs:List Def) (i:Nat),t.drop i=xs->Rb t s i=some (sU (λx=>x.Name==s) xs i):=by intro xs;induction xs with
 |nil=>intro i l;refine adb ?_;rw[aW l];rfl
 |cons x xs w=>intro i l;refine adb ?_;rw[aP l,aJ l,aN l q,w _ (aH l)];grind[tv]
def c539 (s:cn) (t:List Def) (l:t.length<=1073741824):f539 t s=some (sU (λx=>x.Name==s) t 0):=e539 (h539 s t l _ 0 rfl)
def h555 (s:cn) (t:List cn) (q:t.length<=1073741824):∀(xs:List cn) (i:Nat),t.drop i=xs->Rf t s i=some (xs.any λx=>x==s):=by intro xs;induction xs with
 |nil=>intro i l;refine adi ?_;rw[aW l];rfl
 |cons x xs w=>intro i l;refine adi ?_;rw[aP l,aJ l,aN l q,w _ (aH l)];grind
def c555 (s:cn) (t:List cn) (l:t.length<=1073741824):f555 t s=some (t.any λx=>x==s):=e555 (h555 s t l _ 0 rfl)
def c414 (t:Int):f414 t=some ⟨t,[]⟩:=e414 rfl
def c460 {l:List Int} (w:l.length<=1000000):f460 l=some l:=by refine ym ?_;refine tZ ?_;have q:Nat.ble ((List.map (dW .i64) l).length *8) 140737488355328=true:=uN (by grind);show(bif Nat.ble _ _ then _ else _)=_;rw[q];rfl
def udN (k:Nat) (x:Node):Node:=⟨x.cR,x.bJ.map λa=>⟨a.bw,wrap .i64 (a.To+(k:Int))⟩⟩
def DS:Nat->List Int->List Node
 |_,[]=>[]
 |k,f::l=>⟨0,[⟨f,(k+1:Nat)⟩]⟩::DS (k+1) l
def Cc:∀(k:Nat) (l:List Int),(DS k l).length=l.length
 |_,[]=>rfl
 |k,f::l=>by simp[DS,bD,Cc _ _]
def vz (l:List Int) (f:FSt):FSt:=⟨DS 0 l++f.au.map (udN l.length)⟩
section
variable {p:List Int} {f:FSt} (hp:p.length<=1000000) (hf:f.au.length<=1000000) (ha:∀x∈f.au,x.bJ.length<=1000000)
include hp hf ha
theorem h430_12 {i:Nat} (G:i<f.au.length) {l:List cz} (I:l.length<=1000000) {ty:Int} {D:FSt} {o:List Node} (K:o.length<=2000000) {z:List cz} {r:FSt}:∀(xs:List cz) (k:Nat) (w:List cz),l.drop k=xs->w.length=k->
  Lp p ((i+1:Nat):Int) f D (o++[⟨ty,w++xs.map λa=>⟨a.bw,wrap .i64 (a.To+(p.length:Int))⟩⟩])=some r->I3 p i l k f D ty o z w=some r:=by
 intro xs;induction xs with
 |nil=>intro k w q B h;refine XQ ?_;rw[aW q,aA,nW ⟨by grind,by grind⟩,bM af];simp_all
 |cons a xs F=>
  intro k w q B h;have H:k<l.length:=by have:=aU length q;simp at this;omega
  refine XQ ?_;rw[aP q,ak,aJ q,aJ q,nW ⟨by grind,by grind⟩,bM af];refine F _ _ (aH q) (by simp[B]) ?_;simp_all
theorem h430_7 {o4:FSt}:∀(xs:List Node) (i:Nat) (o:List Node),f.au.drop i=xs->o.length=p.length+i->Lp p i f o4 o=some ⟨o++xs.map (udN p.length)⟩:=by intro xs;induction xs with
 |nil=>intro i o l w;refine acF ?_;grind
 |cons x xs B=>
  intro i o l w;have q:i<f.au.length:=by have:=aU length l;simp at this;omega
  have z :=by
   have:x∈f.au.drop i:=by rw[l];exact gz ..
   exact je this
  refine acF ?_;rw[aP l,ak,aJ l,aJ l];refine h430_12 hp hf ha q (ha x z) af _ 0 _ rfl rfl ?_;rw[B _ _ (aH l) (by grind),ef];rfl
theorem h430_3 {o4:FSt}:∀(xs:List Int) (i:Nat) (o:List Node),p.drop i=xs->i<=p.length->o.length=i->Lo p i f o4 o=some ⟨o++DS i xs++f.au.map (udN p.length)⟩:=by intro xs;induction xs with
 |nil=>
  intro i o l hle w;refine acE ?_;have q :=by have:=aU length l;simp at this;omega
  rw[aW l];have:=h430_7 hp hf ha (o4:=o4) _ 0 o rfl af;simp_all[DS]
 |cons x xs z=>
  intro i o l hle w;have q :=by have:=aU length l;simp at this;omega
  refine acE ?_;rw[aP l,aJ l,nW ⟨by grind,by grind⟩,bM af];rw[z _ _ (aH l) af (by simp_all)];simp[DS]
theorem c430g:f430 p f=some (vz p f):=by refine e430 ?_;rw[show Lo p 0 f _ _=_ from h430_3 hp hf ha p 0 _ rfl (cZ _) rfl];rfl
theorem h426_12 {i:Nat} (H:i<f.au.length) {l:List cz} (K:l.length<=1000000) {ty:Int} {D:FSt} {G:Node} {o:List Node} (L:o.length<=2000000) {z:List cz} {r:FSt}:∀(xs:List cz) (k:Nat) (w:List cz),l.drop k=xs->w.length=k->
  Ln p f.au f.au.length ((i+1:Nat):Int) f D (o++[⟨ty,w++xs.map λa=>⟨a.bw,wrap .i64 (a.To+(p.length:Int))⟩⟩])=some r->I1 p f.au f.au.length i l l.length k f D G ty o z w=some r:=by
 intro xs;induction xs with
 |nil=>intro k w q B h;refine OV ?_;rw[aW q,aA,nW ⟨by simp only[dV];omega,by simp only[dV];omega⟩,bM af];rw[fI,dF] at h;exact h
 |cons a xs F=>
  intro k w q B h;have I:k<l.length:=by have:=aU length q;simp only[lW,bD] at this;omega
  refine OV ?_;rw[aP q,ak,aJ q,nW ⟨by simp only[dV];omega,by simp only[dV];omega⟩,bM af];refine F (k+1) _ (aH q) (by simp[B]) ?_;rw[ef];exact h
theorem h426_8 {o4:FSt}:∀(xs:List Node) (i:Nat) (o:List Node),f.au.drop i=xs->o.length=p.length+i->Ln p f.au f.au.length i f o4 o=some ⟨o++xs.map (udN p.length)⟩:=by intro xs;induction xs with
 |nil=>intro i o l w;refine OX ?_;rw[aW l,aA,fI,dF]
 |cons x xs B=>
  intro i o l w;have q:i<f.au.length:=by have:=aU length l;simp only[lW,bD] at this;omega
  have z:x∈f.au:=by
   have:x∈f.au.drop i:=by rw[l];exact gz ..
   exact je this
  refine OX ?_;rw[aP l,ak,aJ l];refine h426_12 hp hf ha q (ha x z) af x.bJ 0 [] rfl rfl ?_;rw[B (i+1) _ (aH l) (by rw[cE,dV];omega),ef];rfl
theorem h426_3 {o4:FSt}:∀(xs:List Int) (i:Nat) (o:List Node),p.drop i=xs->i<=p.length->o.length=i->GB p p p.length i f o4 o=some ⟨o++DS i xs++f.au.map (udN p.length)⟩:=by intro xs;induction xs with
 |nil=>
  intro i o l hle q;refine OW ?_;have w:p.length<=i:=by have:=aU length l;simp only[lW,fG] at this;omega
  rw[aW l,aA];have:=h426_8 hp hf ha (o4:=o4) f.au 0 o rfl af;rw[DS,dF];exact this
 |cons x xs z=>
  intro i o l hle q;have w:i<p.length:=by have:=aU length l;simp only[lW,bD] at this;omega
  refine OW ?_;rw[aP l,ak,aJ l,nW ⟨by simp only[dV];omega,by simp only[dV];omega⟩,bM af];rw[z (i+1) _ (aH l) af (by rw[cE,dV,q])];simp[DS]
theorem c426g:f426 p f=some (vz p f):=by refine e426 ?_;rw[show GB p p p.length 0 f ⟨[]⟩ []=_ from h426_3 hp hf ha p 0 [] rfl (cZ _) rfl];rfl
end
end Go.Proofs.YthphfjcnkinkpaaGreatDoor.cl.pf
namespace Go.Proofs.YthphfjcnkinkpaaGreatDoor.cl.pf
open Go Go.AM
def c558 (a b:cn):f558 a b=some (L8 a b):=by refine ym ?_;refine tZ ?_;rfl
def c556 (x:Template) (s:cn):f556 x s=some (L8 x.Name s):=e556 (by rw[c558,aj])
end Go.Proofs.YthphfjcnkinkpaaGreatDoor.cl.pf
namespace Go.Proofs.YthphfjcnkinkpaaGreatDoor.cl.pf
open Go Go.AM
theorem qC {P:bI->Prop} (h:∀d,(∀k∈d.Kids,P k)->P d):∀d,P d
 | .mk a b c l=>h _ λk q=>qC h k
termination_by d=>SizeOf.sizeOf d
decreasing_by
 have:=List.sizeOf_lt_of_mem q;simp only[bI.Kids,bI.mk.sizeOf_spec] at *;omega
inductive iW (P:bI->Prop):bI->Prop
 |mk (d:bI):P d->(∀k∈d.Kids,iW P k)->iW P d
def iW.here {P:bI->Prop} {d:bI} (h:iW P d):P d:=by cases h;assumption
def iW.kids {P:bI->Prop} {d:bI} (h:iW P d):∀k∈d.Kids,iW P k:=by cases h;assumption
def iW.imp {P Q:bI->Prop} (h:∀d,P d->Q d) {d:bI} (q:iW P d):iW Q d:=by induction q with
 |mk d l _ w=>exact .mk d (h d l) w
def iW.and {P Q:bI->Prop}:∀{d:bI},iW P d->iW Q d->iW (λd=>P d/\Q d) d:=by intro d;induction d using qC with
 |h d z=>exact λq w=> .mk d ⟨q.here,w.here⟩ λk l=>z k l (q.kids k l) (w.kids k l)
mutual
def jH:bI->Nat
 | .mk _ _ _ l=>1+dL l
def dL:List bI->Nat
 |[]=>0
 |x::l=>jH x+dL l
end
def F4 (d:bI):jH d=1+dL d.Kids:=by cases d;simp[jH,bI.Kids]
def h511 {w:bI} (G:w.Kids.length<=1073741824) (q:∀k∈w.Kids,∃b,f511 k=some b/\(b=true->iW (λd=>d.Path.length<=4) k)):∀(xs:List bI) (i:Nat),w.Kids.drop i=xs->∃b,QU i w=some b/\(b=true->∀k∈xs,iW (λd=>d.Path.length<=4) k):=by intro xs;induction xs with
 |nil=>intro i l;exact⟨true,VO (by rw[aW l,aA]),λ_ k q=>by cases q⟩
 |cons x xs I=>
  intro i l;have H:x∈w.Kids:=by
   have:x∈w.Kids.drop i:=by rw[l];exact gz ..
   exact je this
  obtain⟨b,e,h⟩:=q x H;obtain⟨z,B,D⟩:=I (i+1) (aH l);cases b with
  |false=>exact⟨false,VO (by rw[aP l,ak,aJ l,e,aj,fS,ak]),λh=>by cases h⟩
  |true=>
   refine⟨z,VO (by rw[aP l,ak,aJ l,e,aj,dS,aA,aN l G];exact B),λF k q=> ?_⟩;rcases aS.1 q with rfl|q
   .exact h rfl
   .exact D F k q
def c511 (d:bI):iW (λd=>d.Kids.length<=1073741824) d->∃b,f511 d=some b/\(b=true->iW (λd=>d.Path.length<=4) d):=by induction d using qC with
 |h d z=>
  intro q;by_cases hp:d.Path.length>4
  .exact⟨false,e511 (by rw[cond_pos (by rw[bg];omega)]),λh=>by cases h⟩
  .obtain⟨b,e,h⟩:=h511 q.here (λk l=>z k l (q.kids k l)) d.Kids 0 rfl;exact⟨b,e511 (by rw[cond_neg (by rw[aQ];omega)];exact e),λw=> .mk d af (h w)⟩
structure Lt1 (most:Nat) (d:bI):Prop where
 nm:d.Name.length<=60
 pl:d.Path.length<=80
 ps:∀s∈d.Path,s.length<=60
 kl:d.Kids.length<=most
def WTd (most:Nat) (l:Nat) (d:bI):Prop:=∃r:Nat,f524 d l most=some (r:Int)/\1<=r/\r<=(82-l) *most+1/\(r<=most->jH d=r/\iW (Lt1 most) d)
def h524p {deep most:Nat} {d:bI} (I:most<=1000) (H:d.Path.length<=80) {q:Nat->Prop} (B:∃r:Nat,FE deep most 1 0 d=some (r:Int)/\q r) (F:q (most+1)):∀(xs:List (List UInt8)) (i:Nat),d.Path.drop i=xs->∃r:Nat,Ra deep most i d=some (r:Int)/\q r/\(r<=most->∀s∈xs,s.length<=60):=by intro xs;induction xs with
 |nil=>intro i l;obtain⟨r,e,h⟩:=B;exact⟨r,VR (by rw[aW l,aA];exact e),h,λ_ s w=>by cases w⟩
 |cons x xs G=>
  intro i l;obtain⟨r,e,h,z⟩:=G (i+1) (aH l);by_cases K:x.length>60
  .exact⟨most+1,VR (by rw[aP l,ak,aJ l,cond_pos (by rw[bg];omega),bM af]),F,λh=>by omega⟩
  .refine⟨r,VR (by rw[aP l,ak,aJ l,cond_neg (by rw[aQ];omega),aN l af];exact e),h,λD s w=> ?_⟩;rcases aS.1 w with rfl|w
   .omega
   .exact z D s w
def h524k {deep most:Nat} {d:bI} (H:most<=1000) (D:deep<=80) (hl:d.Kids.length<=most) (q:∀k∈d.Kids,WTd most (deep+1) k):∀(xs:List bI) (i n:Nat),d.Kids.drop i=xs->1<=n->n<=(82-deep) *most+1->
  ∃r:Nat,FE deep most n i d=some (r:Int)/\1<=r/\r<=(82-deep) *most+1/\(r<=most->r=n+dL xs/\∀k∈xs,iW (Lt1 most) k):=by
 have F:(82-(deep+1)) *most+most=(82-deep) *most:=by rw[show 82-deep=(82-(deep+1))+1 from by omega,jR,Nat.one_mul]
 have B:(82-deep) *most<=82 *1000:=nU af H;intro xs;induction xs with
 |nil=>intro i n l w z;exact⟨n,O5 (by rw[aW l,aA]),w,z,λ_=>⟨by simp[dL],λk q=>by cases q⟩⟩
 |cons x xs L=>
  intro i n l w z;by_cases hn:n<=most
  .have K:x∈d.Kids:=by
    have:x∈d.Kids.drop i:=by rw[l];exact gz ..
    exact je this
   obtain⟨y,e,y1,y2,S⟩:=q x K;obtain⟨r,G,P,Q,R⟩:=L (i+1) (n+y) (aH l) af af;refine⟨r,O5 ?_,P,Q,λI=> ?_⟩
   .rw[aP l,ak,cond_pos (by rw[bg];omega),aJ l,bM af,e,aj,aN l af,Rq (x:=(n:Int)+(y:Int)) af af];exact G
   .obtain⟨N,O⟩:=R I;obtain⟨U,V⟩:=S af;refine⟨by rw[N,dL,U];omega,λk q=> ?_⟩;rcases aS.1 q with rfl|q
    .exact V
    .exact O k q
  .exact⟨n,O5 (by rw[aP l,ak,cond_neg (by rw[aQ];omega)]),w,z,λh=>by omega⟩
def c524 {most:Nat} (z:most<=1000) (d:bI):∀deep:Nat,deep<=81->WTd most deep d:=by induction d using qC with
 |h d H=>
  intro deep F;have q:wrap .i64 ((most:Int)+1)=((most+1:Nat):Int):=bM af;have w:most *1<=(82-deep) *most:=by rw[Nat.mul_comm];exact nU af (aZ _)
  by_cases U:deep>80
  .exact⟨most+1,e524 (by rw[cond_pos (by rw[bg];omega),q]),by omega,by omega,λh=>by omega⟩
  by_cases V:d.Name.length>60
  .exact⟨most+1,e524 (by rw[cond_neg (by rw[aQ];omega),cond_pos (by rw[bg];omega),q]),by omega,by omega,λh=>by omega⟩
  by_cases h3:d.Path.length>80
  .exact⟨most+1,e524 (by rw[cond_neg (by rw[aQ];omega),cond_neg (by rw[aQ];omega),cond_pos (by rw[bg];omega),q]),by omega,by omega,λh=>by omega⟩
  by_cases h4:d.Kids.length>most
  .exact⟨most+1,e524 (by rw[cond_neg (by rw[aQ];omega),cond_neg (by rw[aQ];omega),cond_neg (by rw[aQ];omega),cond_pos (by rw[bg];omega),q]),by omega,by omega,λh=>by omega⟩
  obtain⟨r,e,Q,R,S⟩:=h524k z af af (λk G=>H k G (deep+1) af) d.Kids 0 1 rfl af af;obtain⟨l,D,⟨I,K,L⟩,N⟩:=h524p (deep:=deep) z af (q:=λl=>1<=l/\l<=(82-deep) *most+1/\(l<=most->l=1+dL d.Kids/\∀k∈d.Kids,iW (Lt1 most) k)) ⟨r,e,Q,R,S⟩ ⟨af,by omega,λh=>by omega⟩ d.Path 0 rfl;refine⟨l,e524 (by rw[cond_neg (by rw[aQ];omega),cond_neg (by rw[aQ];omega),cond_neg (by rw[aQ];omega),cond_neg (by rw[aQ];omega)];exact D),I,K,λB=> ?_⟩;obtain⟨O,P⟩:=L B;exact⟨by rw[F4,O], .mk d ⟨af,by omega,N B,af⟩ P⟩
def c509 {most:Nat} (l:most<=1000) (d:bI):∃b,f509 d most=some b/\(b=true->jH d<=most/\iW (Lt1 most) d):=by obtain⟨r,e,B,D,w⟩:=c524 l d 1 af;refine⟨decide ((r:Int)<=(most:Int)),e509 (by rw[show f524 d 1 most=some (r:Int) from e];rfl),λh=> ?_⟩;have h:(r:Int)<=most:=lX h;obtain⟨z,q⟩:=w af;exact⟨af,q⟩
