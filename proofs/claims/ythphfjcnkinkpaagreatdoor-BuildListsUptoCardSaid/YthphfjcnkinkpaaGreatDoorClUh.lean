/- Subsumption; the program's Check of a graph; well-typed feat. -/
import Derived.Test.YthphfjcnkinkpaaGreatDoorClXp
import Derived.Test.YthphfjcnkinkpaaGreatDoorClSh
set_option linter.all false
open Go.IntKind (wrap)
open Int (toNat)
open List (length)
namespace Go.Proofs.YthphfjcnkinkpaaGreatDoor.cl.pf
open Go Go.AM
structure HX (h:aJ) (T F:Nat) (sb:Int->Int->Prop) (bN:Int->Int) (val:Int->Int->Int):Prop where
 hv:HV h T F sb bN val
 tl:h.Types.length=T
 ss:∀a b:Int,0<=a->a<(T:Int)->0<=b->b<(T:Int)->∃r,f339 h a b=some r/\f340 h a b=some r/\(r=true↔sb a b)
def c456 {n:Nat} {x:Node} (F:0<=x.di) (ha:AGood x.bV n) (D:x.bV.length<=1000000):f456 x (n:Int)=some 0:=by
 have key:∀(xs:List b9) (i:Nat) (o:List (Int×Bool)),x.bV.drop i=xs->(∀a∈xs,getM o a.bB=none)->L0 (n:Int) x.bV (x.bV.length:Int) (i:Int) x o=some 0:=by intro xs;induction xs with
  |nil=>intro i o l _;refine ac6 ?_;rw[bp l,aA]
  |cons a xs z=>
   intro i o l w;have B:=ha.1 a (aV (cr l));have hp:((a::xs).map (·.bB)).Nodup:=by rw[<-l];exact List.Nodup.sublist ((List.drop_sublist i _).map _) ha.2
   refine ac6 ?_;rw[aT l,au,aK l,cond_neg (by rw[aS];omega),cond_neg (by rw[aS];omega),cond_neg (by rw[aS];omega),Aj (w a ai),CN,aQ l af];refine z (i+1) _ (aI l) λb q=> ?_
   have:a.bB≠b.bB:=λe=>(gj.1 hp).1 (aD.2 ⟨b,q,e.symm⟩)
   rw[HN af];exact w b (by simp[q])
 refine e456 ?_;rw[cond_neg (by rw[aS];omega)];exact key x.bV 0 [] rfl λa _=>rfl
def c489 (l:List b9):f489 l=some l:=e489 rfl
theorem RR:∀{l:List b9},(l.map (·.bB)).Nodup->BC (l.map λa=>(a.bB,a.To))=true
 |[],_=>rfl
 |x::l,h=>by
  have q:=gj.1 h;simp only[bH,BC,aU,cI,aD,forall_exists_index,and_imp];refine⟨λp a ha e=> ?_,RR q.2⟩;subst e
  have:x.bB≠a.bB:=λe=>q.1 (aD.2 ⟨a,ha,e.symm⟩)
  simp[We];omega
def Ny (x:b9):∀l:List b9,sj We (x.bB,x.To) (l.map λa=>(a.bB,a.To))=(sP x l).map λa=>(a.bB,a.To)
 |[]=>rfl
 |y::l=>by
  rw[bH,sj,sP];by_cases h:y.bB<=x.bB
  .rw[aB h,az (by simp[We];exact h),Ny x l];rfl
  simp_all[az,We]
def ZP (l:List b9):tO We (l.map λa=>(a.bB,a.To))=(Bj l).map λa=>(a.bB,a.To):=by
 have key:∀(xs o:List _),(xs.map λa=>(a.bB,a.To)).foldl (λout x=>sj We x out) (o.map λa=>(a.bB,a.To))=(xs.foldl (λo x=>sP x o) o).map λa=>(a.bB,a.To):=by intro xs;induction xs with
  |nil=>simp
  |cons x xs q=>simp_all[Ny]
 exact key l []
def JQ:∀l:List b9,BD (l.map b9.enc)=some (l.map λa=>(a.bB,a.To))
 |[]=>rfl
 |x::l=>by show(BD _).map _=_;rw[JQ l];rfl
def c490 {l:List b9} (h:(l.map (·.bB)).Nodup) (w:l.length<=1000000):f490 l=some (Bj l):=by
 refine yK (E:=EN _) ?_;refine ua ?_
 show(match BD (l.map b9.enc) with
  |some l=>bif BC l&&Nat.ble l.length 1073741824 then some (AV.gU [.gU [.self 68, .dD 2 ((tO We l).map Sv)]],[]) else none
  |none=>none)=_
 rw[JQ];have q:Nat.ble (l.map λa=>(a.bB,a.To)).length 1073741824=true:=uT (by rw[bf];omega);simp only[RR h,q,ZP,rI,au,eG];rfl
def NM (n:Nat) (num:List (Int×Int)) (o:List Nat):Prop:=∀x,x<n->getM num (x:Int)=if x∈o then some (o.idxOf x:Int) else none
def NM.snoc {n:Nat} {num:List (Int×Int)} {o:List Nat} (h:NM n num o) {y:Nat} (l:y∉o):NM n (yt num (y:Int) (o.length:Int)) (o++[y]):=by
 intro x q;by_cases e:y=x
 .simp_all[MD,zP]
 .rw[HN af,h x q];grind
section
variable {f:FSt} (hg:Hh f) (hs:∀x∈f.ak,x.bV.length<=1000)
include hg hs
theorem Hh.bd:Bd (yA f).sc f.ak.length:=Qh (hg.aaY λx l=>by grind)
theorem Hh.Bj {x:Node} (l:x∈f.ak):(Bj x.bV).length<=1000/\∀a∈Bj x.bV,0<=a.To/\a.To<(f.ak.length:Int):=
 ⟨by simp_all[qI],λa ha=>((hg.2.2 x l).2.1 a (((qI _).2.2 a).1 ha)).2⟩
theorem h488_3 {k:Nat} (ih:∀(x:Nat) (o:List Nat) (num:List (Int×Int)),x<f.ak.length->x∉o->NM f.ak.length num o->Met f.ak.length o->f.ak.length<k+o.length->
   ∃q,f488 (x:Int) f (gL o) num=some ((),gL (nq (AB f) k x o),q)/\NM f.ak.length q (nq (AB f) k x o)) {l:List b9} (P:l.length<=1000/\∀a∈l,0<=a.To/\a.To<(f.ak.length:Int)):
  ∀(xs:List b9) (i:Nat) (o:List Nat) (num:List (Int×Int)),l.drop i=xs->NM f.ak.length num o->Met f.ak.length o->f.ak.length<k+o.length->
   ∃q,L3 (l.length:Int) (i:Int) l f num (gL o)=some ((),gL (sO (AB f) k (xs.map λa=>(a.bB,a.To.toNat)) o),q)/\NM f.ak.length q (sO (AB f) k (xs.map λa=>(a.bB,a.To.toNat)) o):=by
 have hll:=P.1;intro xs;induction xs with
 |nil=>intro i o num w B _ _;refine⟨num,VR ?_,B⟩;rw[bp w,aA];rfl
 |cons a xs D=>
  intro i o num w B K O;have ha:=P.2 a (aV (cr w));obtain⟨x,R⟩:=fU ha.1;have z:x<f.ak.length:=af;have N:a.To.toNat=x:=af;simp only[bH,sO,gb,N];by_cases G:x∈o
  .have U:nq (AB f) k x o=o:=by
    cases k with
    |zero=>rfl
    |succ k=>rw[nq,aB G]
   rw[U];obtain⟨q,H,I⟩:=D (i+1) o num (aI w) B K O;refine⟨q,VR ?_,I⟩;have hg:=B x z;rw[aB G] at hg;rw[aT w,au,od w,oa w,R,Am hg,aQ w af];exact H
  .obtain⟨F,V,S⟩:=ih x o num z G B K O;have L:=AS (hg.bd hs) k x o K z;have Q:=JA (sc:=AB f) k x o;obtain⟨q,H,I⟩:=D (i+1) _ F (aI w) S L af;refine⟨q,VR ?_,I⟩;have hg:=B x z;rw[az G] at hg;rw[aT w,au,od w,oa w,R,Aj hg,V,bG,aQ w af];exact H
theorem h488:∀(k x:Nat) (o:List Nat) (num:List (Int×Int)),x<f.ak.length->x∉o->NM f.ak.length num o->Met f.ak.length o->f.ak.length<k+o.length->
  ∃l,f488 (x:Int) f (gL o) num=some ((),gL (nq (AB f) k x o),l)/\NM f.ak.length l (nq (AB f) k x o):=by
 have P:=hg.2.1;intro k;induction k with
 |zero=>intro x o num z _ _ w L;have:=wC w.nd w.lt;omega
 |succ k O=>
  intro x o num z q I w L;have N:=wC w.nd w.lt;have B:=bU z;have K:=hs _ B;obtain⟨l,G,H⟩:=h488_3 hg hs O (hg.Bj hs B) (Bj f.ak[x].bV) 0 (o++[x]) (yt num (x:Int) (o.length:Int)) rfl (I.snoc q) (w.snoc z q) (by simp only[bQ,c4];omega);have F:nq (AB f) (k+1) x o=sO (AB f) k ((Bj f.ak[x].bV).map λa=>(a.bB,a.To.toNat)) (o++[x]):=by rw[nq,az q,yx z]
  rw[F];refine⟨l,e488 ?_,H⟩;rw[CN,cC _ (by unfold gL;rw[bf];omega) ai af,cH z,c489,aj,c490 (hg.2.2 _ B).2.2 af,aj];have e:gL o++[(x:Int)]=gL (o++[x]):=by simp[gL]
  have D:((gL o).length:Int)=(o.length:Int):=by simp[gL]
  rw[e,D];exact G
theorem h457_12 {o:List Nat} {i y:Nat} (hi:i<=5000) (O:y<f.ak.length) (P:∀p∈AB f y,p.2∈o) {S:FSt} {num:List (Int×Int)} (V:NM f.ak.length num o) {B:List Node} (R:i<B.length) {v:Int} {U:List Int} {a b:List Node} {res:FSt}
  (hr:L1 v ((i+1:Nat):Int) f S num (B.set i ⟨f.ak[y].di,(Bj f.ak[y].bV).map λa=>⟨a.bB,(o.idxOf a.To.toNat:Nat)⟩⟩) U a b=some res):∀(xs w:List b9) (k:Nat),(Bj f.ak[y].bV).drop k=xs->k+xs.length=(Bj f.ak[y].bV).length->w=((Bj f.ak[y].bV).take k).map (λa=>⟨a.bB,(o.idxOf a.To.toNat:Nat)⟩)->
  F7 (i:Int) (y:Int) v (i:Int) ((Bj f.ak[y].bV).length:Int) (k:Int) f S num B (w++xs) U a b=some res:=by
 have hm:=bU O;obtain⟨hal,H⟩:=hg.Bj hs hm;intro xs;induction xs with
 |nil=>intro w k z I l;refine X4 ?_;rw[iG (by simpa using(show _<=k from by rw[<-I];simp))] at l;rw[bp z,aA,cH O,A3 R,aZ,se R,bM af,eo,l];exact hr
 |cons c xs ih=>
  intro w k z I l;have hkl:=dY z;have D:=aV (cr z);have hc:=H c D;obtain⟨x,K⟩:=fU hc.1;have L:x<f.ak.length:=af;have N:x∈o:=P (c.bB,x) (by rw[yx O];exact aD.2 ⟨c,D,by rw[K];rfl⟩);have F:=V x L;rw[aB N] at F;have G:w.length=k:=by rw[l,bf,fh];omega
  have q:k<(w++c::xs).length:=aH;have Q:(w++c::xs)[k]=c:=by rw[List.getElem_append_right af];simp[G]
  refine X4 ?_;rw[aT z,au,A3 q,aZ,se q,Q,K,Am F,bW ⟨af,q⟩,se q,Q,aQ z af];have e1:(w++c::xs).set k ⟨c.bB,(o.idxOf x:Nat)⟩=(w++[⟨c.bB,(o.idxOf x:Nat)⟩])++xs:=by rw[nt _ _ af,G,kD,nN,ee];rfl
  rw[e1];refine ih _ (k+1) (aI z) (by rw[bz] at I;omega) ?_;rw[c7,cr z,cE,<-l,Option.toList_some,List.map_singleton,K];rfl
theorem c457:f457 f 0=some (kj (yA f) f.ak.length 0):=by
 have L:=hg.bd hs;have hn:=hg.2.1;obtain⟨z,H,G⟩:=h488 hg hs (f.ak.length+1) 0 [] [] hg.1 ai (λx O=>rfl) Met.nil ai;have R:nq (AB f) (f.ak.length+1) 0 []=iy (yA f) f.ak.length 0:=rfl;have D:=sn (G:=yA f) L hg.1;have B:=λ{x} O {p} hp=>yX (G:=yA f) L hg.1 (x:=x) O (p:=p) hp
 have U:kj (yA f) f.ak.length 0=⟨(iy (yA f) f.ak.length 0).map (Gj (yA f) (iy (yA f) f.ak.length 0))⟩:=rfl;rw[R] at H G;rw[U];revert H G D B;generalize iy (yA f) f.ak.length 0=o;intro H G D B;have hol:=wC D.nd D.lt;have w:(gL o).length=o.length:=by simp[gL]
 have key:∀(k i:Nat),o.length=i+k->∀a b:List Node,L1 (o.length:Int) (i:Int) f ⟨[]⟩ z ((o.take i).map (Gj (yA f) o)++List.replicate k ⟨0,[]⟩) (gL o) a b=some ⟨o.map (Gj (yA f) o)⟩:=by intro k;induction k with
  |zero=>intro i V a b;refine ac7 ?_;rw[cond_neg (by rw[aS];omega),vg,eo,iG af]
  |succ k ih=>
   intro i V a b;have q:i<o.length:=af;have l:o[i]<f.ak.length:=D.lt _ (bU q);have N:=bU l;have S:=hs _ N;have F:((o.take i).map (Gj (yA f) o)).length=i:=by rw[bf,fh];omega
   refine ac7 ?_;have K:(gL o).getD i 0=(o[i]:Int):=by unfold gL;rw[bw,dA,aM q];rfl
   rw[cond_pos (by rw[bA];omega),tU (by rw[w];exact q),K,cH l,c489,aj,c490 (hg.2.2 _ N).2.2 af,aj];refine h457_12 hg hs af l (λp hp=>B (bU q) hp) G (by rw[bQ,F,pZ];omega) ?_ (Bj f.ak[o[i]].bV) [] 0 rfl ai rfl;have I:Gj (yA f) o o[i]=⟨f.ak[o[i]].di,(Bj f.ak[o[i]].bV).map λa=>⟨a.bB,(o.idxOf a.To.toNat:Nat)⟩⟩:=by have I:(yA f).sc o[i]=_:=yx l;have Q:(yA f).ty o[i]=_:=uF l;unfold Gj;rw[I,Q,eG];rfl
   have e:((o.take i).map (Gj (yA f) o)++List.replicate (k+1) (⟨0,[]⟩:Node)).set i (Gj (yA f) o o[i])=(o.take (i+1)).map (Gj (yA f) o)++List.replicate k ⟨0,[]⟩:=by rw[nt _ _ af,F,kD,oR,nN,c7,aM q,cE,ee,Option.toList_some,List.map_singleton];rfl
   rw[<-I,e];exact ih (i+1) af _ _
 refine e457 ?_;have P:f488 0 f [] []=some ((),gL o,z):=H;rw[P,bG,bW ⟨af,by omega,by rw[w];omega,by rw[w];omega⟩,w,aZ];have:=key o.length 0 af [] [];rw[zQ,ey,dK] at this;exact this
theorem c437g:f437 f=some (kj (yA f) f.ak.length 0,0):=by
 have z:=hg.1;have B:=hg.2.1;have key:∀(xs) (i),f.ak.drop i=xs->QK f.ak (f.ak.length) (i) f ⟨[]⟩=some (kj (yA f) f.ak.length 0,0):=by intro xs;induction xs with
  |nil=>intro i l;refine acV ?_;rw[bp l,aA,c457 hg hs,aj]
  |cons x xs w=>intro i l;have q:=aV (cr l);refine acV ?_;rw[aT l,au,aK l,c456 (hg.2.2 x q).1 (hg.2.2 x q).2 (by grind),aj,cond_neg (by rfl),aQ l af];exact w _ (aI l)
 refine e437 ?_;grind
end
def c437 {T F:Nat} {f:FSt} (hf:Can T F f) (z:f.ak.length<=100000) (w:F<=1000) (l:f.ak.length<=4096):f437 f=some (f,0):=by rw[c437g (hf.good l) λx q=>by have:=(hf.ao q).len;omega,hf.sr]
end Go.Proofs.YthphfjcnkinkpaaGreatDoor.cl.pf
namespace Go.Proofs.YthphfjcnkinkpaaGreatDoor.cl.pf
open Go Go.AM
structure TH where
 T:Nat
 F:Nat
 sb:Int->Int->Prop
 io:Int->Int
 vl:Int->Int->Int
structure TH.OK (t:TH) (h:aJ):Prop where
 hx:HX h t.T t.F t.sb t.io t.vl
 T:t.T<=1000
 F:t.F<=64
 P:0<t.T
noncomputable def tOf (d:List aC):TH:=⟨(tys d).length,(qz d).length,
 λa b=>(0<=a/\a<((tys d).length:Int))/\(0<=b/\b<((tys d).length:Int))/\sub ((tys d).getD b.toNat 0) ((tys d).getD a.toNat 0)=true,
 λf=>(nu d ((C7 d ((qz d).getD f.toNat [])).getD []):Int),
 λa f=>match inh d ((tys d).getD a.toNat 0) ((qz d).getD f.toNat []) with
  |some c=>HK (tys d) c
  |none=>0⟩
def D7 {a:Int} {n:Nat} (h:0<=a) (l:a<(n:Int)):∃i:Nat,a=(i:Int)/\i<n:=⟨a.toNat,by omega,af⟩
def hd_to {q:List Nat} (K:aaN q):TO q.length (λa b=>(0<=a/\a<(q.length:Int))/\(0<=b/\b<(q.length:Int))/\sub (q.getD b.toNat 0) (q.getD a.toNat 0)=true):=by refine⟨λh=>h.1,λh=>h.2.1,λh l=>⟨⟨h,l⟩,⟨h,l⟩,zf _⟩,λh l=>⟨h.1,l.2.1,zg l.2.2 h.2.2⟩,λh l=> ?_,λh l=>⟨⟨af,af⟩,⟨h,l⟩,K.top _ (lF af)⟩⟩;have:=getD_inj K.nd af af (sL h.2.2 l.2.2);omega
def hd_hm {h:aJ} {l:List Nat} (H:Hd h l) (K:aaN l):HM h l.length (λa b=>(0<=a/\a<(l.length:Int))/\(0<=b/\b<(l.length:Int))/\sub (l.getD b.toNat 0) (l.getD a.toNat 0)=true):=by
 refine⟨hd_to K,λa b I L N O=> ?_⟩;obtain⟨i,rfl,z⟩:=D7 I L;obtain⟨j,rfl,D⟩:=D7 N O;rw[o335 H K z D,o336 H K z D];simp only[aZ];by_cases F:l.getD i 0&&&l.getD j 0∈l
 .obtain⟨q,S,G,Q⟩:=OS F;have e:Dv l (l.getD i 0&&&l.getD j 0)=((q:Int),true):=by
   unfold Dv;rw[Q,az af]
  rw[e];refine .inl ⟨q,rfl,rfl,⟨⟨I,L⟩,⟨af,af⟩,?_⟩,⟨⟨N,O⟩,⟨af,af⟩,?_⟩,λc w B=>⟨⟨af,af⟩,w.2.1,?_⟩⟩
  .rw[aZ,G];exact FW _ _
  .rw[aZ,G];exact MV _ _
  .rw[aZ,G];exact Yy w.2.2 B.2.2
 .have e:Dv l (l.getD i 0&&&l.getD j 0)=(0,false):=by
   unfold Dv;rw[Xy F];rfl
  rw[e];refine .inr ⟨0,rfl,rfl,λc w B=>F (K.cl _ (lF z) _ (lF D) λP=> ?_)⟩;have hs:=Yy w.2.2 B.2.2;rw[P] at hs;have R:=w.2.1;refine K.nz _ (lF af) (sL hs ?_);exact j0.2 λi z=>by simp at z
def O0 {d:List aC} (O:Ok5 d):(tOf d).OK (sg d):=by
 have HD:=hd5 O;have K:=O.ok.VC;have hl:=O.ok.cG;have h64:=O.f64;have hvd:=Oa O.fd;have L:∀f:Int,0<=f->f<((qz d).length:Int)->∃j F,f=((j:Nat):Int)/\(qz d)[j]? =some F/\(qz d).getD f.toNat []=F/\F∈qz d:=λf H I=>by obtain⟨j,rfl,hj⟩:=D7 H I;have e:=aM hj;exact⟨j,_,rfl,e,by rw[aZ,bw,e];rfl,bU hj⟩
 have hio:∀F∈qz d,∃u∈kz d,C7 d F=some u:=λF w=>by obtain⟨u,U⟩:=O.intro F w;exact⟨u,Tf O.ok.acc U,U⟩
 have R:∀(a f:Int),0<=a->a<((tys d).length:Int)->∀F∈qz d,(qz d).getD f.toNat []=F->((inh d ((tys d).getD a.toNat 0) F).isSome=true↔(tOf d).sb ((tOf d).io f) a):=λa f B l F w e=>by
  obtain⟨u,U,z⟩:=hio F w;obtain⟨_,n1,n2,_⟩:=O.ok.Ar U;have P:(tOf d).io f=(nu d u:Int):=by show(nu d ((C7 d ((qz d).getD f.toNat [])).getD []):Int)=_;rw[e,z];rfl
  rw[ZN O.ok.acc z,P];constructor
  .intro h;exact⟨⟨af,af⟩,⟨B,l⟩,by rw[aZ,n2];exact h⟩
  .intro h;have:=h.2.2;rw[aZ,n2] at this;exact this
 have D:∀a:Int,0<=a->a<((tys d).length:Int)->∀F∈qz d,∀c,inh d ((tys d).getD a.toNat 0) F=some c->∃q:Nat,HK (tys d) c=(q:Int)/\q<(tys d).length/\(tys d).getD q 0=c:=λa B l F w c G=>O.num (lF af) w G
 refine⟨⟨⟨hd_hm HD K,Kj,λf H I=> ?_,λa f B l H I hs=> ?_,λa f B l H I hs=> ?_,λa b f H I S h2=> ?_,λa b h=> ?_⟩,HD.length,λa b B l b0 V=> ?_⟩,by show(tys d).length<=1000;omega,h64,K.pos⟩
 .obtain⟨j,F,rfl,e1,z,w⟩:=L f H I;obtain⟨u,U,e3⟩:=hio F w;obtain⟨_,n1,n2,_⟩:=O.ok.Ar U;have P:(tOf d).io ((j:Nat):Int)=(nu d u:Int):=by
   show(nu d ((C7 d ((qz d).getD (toNat ((j:Nat):Int)) [])).getD []):Int)=_;rw[z,e3];rfl
  obtain⟨g1,g2⟩:=Zx e1
  have:((sg d).bD.getD (toNat ((j:Nat):Int)) default).Intro=(nu d u:Int):=by show((vZ d).getD (toNat ((j:Nat):Int)) default).Intro=_;rw[aZ,bw,aM g1,g2];show(nu d ((C7 d F).getD []):Int)=_;rw[e3];rfl
  rw[P];exact⟨this,by omega,by show _<((tys d).length:Int);omega⟩
 .obtain⟨i,rfl,N⟩:=D7 B l;obtain⟨j,F,rfl,e1,z,w⟩:=L f H I;have S:=(R _ _ B l F w z).2 hs;obtain⟨c,G⟩:=qX.1 S;obtain⟨q,q1,q2,q3⟩:=D _ B l F w c G;have ev:(tOf d).vl ((i:Nat):Int) ((j:Nat):Int)=HK (tys d) c:=by
   show(match inh d ((tys d).getD (toNat ((i:Nat):Int)) 0) ((qz d).getD (toNat ((j:Nat):Int)) []) with|some c=>HK (tys d) c|none=>0)=_;rw[z,G]
  rw[aZ] at G;rw[o355 O N e1,o356 O N e1,G,ev];exact⟨rfl,rfl,by omega,by show _<((tys d).length:Int);omega⟩
 .obtain⟨i,rfl,N⟩:=D7 B l;obtain⟨j,F,rfl,e1,z,w⟩:=L f H I;have S:inh d ((tys d).getD (toNat ((i:Nat):Int)) 0) F=none:=by
   cases e:inh d ((tys d).getD (toNat ((i:Nat):Int)) 0) F with
   |none=>rfl
   |some c=>exact absurd ((R _ _ B l F w z).1 (by rw[e];rfl)) hs
  rw[aZ] at S;rw[o355 O N e1,o356 O N e1,S];exact⟨0,rfl,rfl⟩
 .obtain⟨j,F,rfl,e1,z,w⟩:=L f H I;have l:=h2.1;have V:=h2.2.1;have h3:=(R _ _ l.1 l.2 F w z).2 S;obtain⟨c,G⟩:=qX.1 h3;obtain⟨q,q1,q2,q3⟩:=D _ l.1 l.2 F w c G;have h4:=inh_up h2.2.2 h3;obtain⟨c',Q⟩:=qX.1 h4;obtain⟨q',q1',q2',q3'⟩:=D _ V.1 V.2 F w c' Q;have ev:(tOf d).vl a ((j:Nat):Int)=(q:Int):=by
   show(match inh d ((tys d).getD a.toNat 0) ((qz d).getD (toNat ((j:Nat):Int)) []) with|some c=>HK (tys d) c|none=>0)=_;rw[z,G];exact q1
  have ev':(tOf d).vl b ((j:Nat):Int)=(q':Int):=by show(match inh d ((tys d).getD b.toNat 0) ((qz d).getD (toNat ((j:Nat):Int)) []) with|some c=>HK (tys d) c|none=>0)=_;rw[z,Q];exact q1'
  rw[ev,ev'];refine⟨⟨af,af⟩,⟨af,af⟩,?_⟩;rw[aZ,aZ,q3,q3'];exact ab9 h2.2.2 G Q
 .have:=K.Bj a.toNat b.toNat (by have:=h.1;omega) (by have:=h.2.1;omega) h.2.2;have:=h.1;have:=h.2.1;omega
 .obtain⟨i,rfl,N⟩:=D7 B l;obtain⟨j,rfl,hj⟩:=D7 b0 V;refine⟨_,o339 HD N hj,o340 HD N hj,?_⟩;show _↔(tOf d).sb _ _;constructor
  .intro h;exact⟨⟨B,l⟩,⟨b0,V⟩,by rw[aZ,aZ];exact h⟩
  .intro h;have:=h.2.2;rw[aZ,aZ] at this;exact this
end Go.Proofs.YthphfjcnkinkpaaGreatDoor.cl.pf
namespace Go.Proofs.YthphfjcnkinkpaaGreatDoor.cl
open Go Go.AM
def Zm {d:List aC}:IX d=0↔UZ d=false/\xG [] d=0/\zb (kz d) d=0/\Gh d=1/\DO d:=by
 unfold IX;constructor
 .intro h;split at h
  .cases h
  split at h
  .rename_i l;exact absurd h l
  split at h
  .rename_i l;exact absurd h l
  split at h
  .cases h
  split at h
  .rename_i q l w z B;exact⟨by simpa using q,ff l,ff w,ff z,B⟩
  .cases h
 .rintro⟨a,b,c,e,f⟩;rw[az (by simp[a]),az (λh=>h b),az (λh=>h c),az (λh=>h e),aB f]
def leT (tb:List (ck×List ck)) (x y:ck):Bool:=match tb.find? λp=>p.1==x with
 |some p=>p.2.contains y
 |none=>false
def PF (d:List aC) (x:ck):List ck->List ck->Bool
 |_,[]=>true
 |q,y::l=>(y==x||d.any λt=>t.Name==y&&t.dS.any λs=>q.contains s)&&PF d x (y::q) l
def tabOk (d:List aC) (tb:List (ck×List ck)):Bool:=
 (tb.all λp=>PF d p.1 [] p.2)&&(kz d).all λx=>leT tb x x&&(kz d).all λy=> !leT tb x y||(dn d y).all λz=>leT tb x z
def Z5 {d:List aC} {x:ck}:∀(l q:List ck),PF d x q l=true->(∀s∈q,Le d x s)->∀y∈l,Le d x y:=by intro l;induction l with
 |nil=>intro q _ _ y B;cases B
 |cons z l L=>
  intro q h hs y B;unfold PF at h;rw[aU,gx] at h;have I:Le d x z:=by
   rcases h.1 with D|D
   .rw[iV] at D;rw[D];exact .refl
   .obtain⟨t,K,F⟩:=nE.1 D;rw[aU,iV] at F;obtain⟨s,G,H⟩:=nE.1 F.2;rw[EI] at H;exact .step (hs s H) (KM.2 ⟨t,K,F.1,G⟩)
  rcases aN.1 B with rfl|B
  .exact I
  .refine L (z::q) h.2 (λs w=> ?_) y B;rcases aN.1 w with rfl|w
   .exact I
   .exact hs s w
def tab_le {d:List aC} {tb:List (ck×List ck)} (h:tabOk d tb=true):∀x∈kz d,∀y,Le d x y↔leT tb x y=true:=by
 unfold tabOk at h;rw[aU,cI,cI] at h;intro x D y;have q:=h.2 x D;rw[aU,cI] at q;have key:∀y,Le d x y->y∈kz d/\leT tb x y=true:=by intro y l;induction l with
  |refl=>exact⟨D,q.1⟩
  |step _ F G=>
   refine⟨Vj F,?_⟩;have:=q.2 _ G.1;rw[gx,G.2,cI] at this;rcases this with w|w
   .cases w
   .exact w _ F
 constructor
 .intro l;exact(key y l).2
 .intro l;unfold leT at l;split at l
  .rename_i p hp;have B:=nJ hp;have z:p.1=x:=by simpa using pY hp
   rw[EI] at l;rw[<-z];exact Z5 p.2 [] (h.1 p B) (λs hs=>by cases hs) y l
  .cases l
def rk (d:List aC) (s:ck):Nat:=(ja (λt:aC=>t.Name==s) d 0).toNat
def chk0 (d:List aC):Bool:= !UZ d&&xG [] d==0&&zb (kz d) d==0&&Gh d==1&&d.all λt=>t.dS.all λs=>Nat.blt (rk d s) (rk d t.Name)
def chk0_ok {d:List aC} (h:chk0 d=true):IX d=0:=by unfold chk0 at h;simp only[aU,iV,cI] at h;obtain⟨⟨⟨⟨l,q⟩,w⟩,z⟩,B⟩:=h;refine Zm.2 ⟨by simpa using l,q,w,z,rk d,λt D s hs=> ?_⟩;exact fF (B t D s hs)
section
variable (d:List aC) (le:ck->ck->Bool)
def cwC (all:List ck) (x:ck):Nat:=mk 0 ((List.range all.length).filter λi=>le x (all.getD i []))
def Zo:List Nat:=(iH d).map (cwC le (iH d))
def Yd (l:List ck):List ck:=(oJ (l.filter λs=>decide (s∈kz d))).filter λx=>(oJ (l.filter λs=>decide (s∈kz d))).all λy=>decide (y=x)|| !le y x
def vK (w:Nat):List ck->List Nat->Nat->List ck->ck
 |s::ss,c::q,i,l=>if c=w then s else vK w ss q (i+1) (if w.testBit i=true then l++[s] else l)
 |_,_,_,l=>yQ [38] (Yd d le l)
def abx:List Ep:=((Bo (Zo d le)).map λw=>((vK d le w (iH d) (Zo d le) 0 [],w):Ep)).foldl (λE p=>sj Fo p E) []
def Tc (F:ck):Option ck:=one (Yd d le (oJ (xR d F)))
def stpC (w:Nat) (F:ck) (o:Option Nat) (t:aC):Option Nat:=match val t F with
 |some v=>if sub w (cwC le (iH d) t.Name)=true then some (comb o (cwC le (iH d) v)) else o
 |none=>o
def ab8 (w:Nat) (F:ck):Option Nat:=d.foldl (stpC d le w F) none
variable {d le} (hle:∀x∈kz d,∀y,Le d x y↔le x y=true)
include hle
open Classical in
theorem Vh {all:List ck} {x:ck} (l:x∈kz d):cw d all x=cwC le all x:=by
 unfold cw idxs cwC;congr 1;refine lI λi _=> ?_
 rw[iU,bA];exact hle x l _
theorem Xn:qs d=Zo d le:=by unfold qs Zo;exact gP λx l=>Vh hle (gw.1 l)
theorem KL (l:List ck):wB d l=Yd d le l:=by
 unfold wB Yd;have B:∀x∈oJ (l.filter λs=>decide (s∈kz d)),x∈kz d:=λx D=>by have:=(cT.1 (gw.1 D)).2;simpa using this
 generalize oJ (l.filter λs=>decide (s∈kz d))=m at B;refine lI λx D=> ?_
 unfold sd;rw[iU,cI,cI];have key:∀y∈m,((decide (y=x)|| !(open Classical in decide (Le d y x)))=true↔(decide (y=x)|| !le y x)=true):=by intro y q;have z:=hle y (B y q) x;cases w:le y x with
  |true=>
   have:Le d y x:=z.2 w
   simp[this]
  |false=>
   have:¬Le d y x:=λh=>by rw[z.1 h] at w;cases w
   simp[this]
 constructor
 .intro h y q;refine(key y q).1 ?_;have:=h y q;simpa using this
 .intro h y q;have:=(key y q).2 (h y q);simpa using this
theorem PB {w:Nat}:∀(ss:List ck) (q:List Nat) (i:Nat) (l:List ck),mQ d w ss q i l=vK d le w ss q i l:=by intro ss;induction ss with
 |nil=>intro q i l;cases q<;>simp only[mQ,vK,KL hle]
 |cons s ss z=>intro q i l;cases q with
  |nil=>simp only[mQ,vK,KL hle]
  |cons c q=>simp only[mQ,vK,z]
theorem Kg:eL d=abx d le:=by unfold eL abx Fs;rw[Xn hle];congr 1;exact gP λw _=>by rw[PB hle]
theorem Td (F:ck):C7 d F=Tc d le F:=by unfold C7 Tc;rw[KL hle]
theorem XJ (z:Vd d) (w:Nat) (F:ck):inh d w F=ab8 d le w F:=by
 have key:∀(l:List aC) (o:Option Nat),(∀t∈l,t∈d)->l.foldl (Bp d w F) o=l.foldl (stpC d le w F) o:=by intro l;induction l with
  |nil=>intro o _;rfl
  |cons t l G=>
   intro o h;rw[gb,gb];have q:=h t ai;have e:Bp d w F o t=stpC d le w F o t:=by unfold Bp stpC;cases D:val t F with
    |none=>rfl
    |some v=>simp only;rw[show cwd d t.Name=cwC le (iH d) t.Name from Vh hle (TE q),show cwd d v=cwC le (iH d) v from Vh hle (z.val q D)]
   rw[e];exact G _ λu B=>h u (by simp[B])
 exact key d none λt h=>h
end
structure At (d:List aC) (le:ck->ck->Bool) (E:List Ep):Prop where
 hl:∀x∈kz d,∀y,Le d x y↔le x y=true
 eL:abx d le=E
 IX:IX d=0
def At.tys {d:List aC} {le:ck->ck->Bool} {E:List Ep} (h:At d le E):tys d=E.map (·.2):=by unfold cl.tys;rw[Kg h.hl,h.eL]
def At.z7 {d:List aC} {le:ck->ck->Bool} {E:List Ep} (h:At d le E):z7 d=E.map IQ:=by unfold cl.z7;rw[Kg h.hl,h.eL]
def chk5C (d:List aC) (le:ck->ck->Bool) (E:List Ep):Int:=
 if(Bo (Zo d le)).length>256 then 7 else if(qz d).length>64 then 7 else if r9 (kz d) d≠0 then r9 (kz d) d
 else if((qz d).any λF=>(Tc d le F).isNone)=true then 10 else if((E.map (·.2)).any λw=>(qz d).any λF=>ab8 d le w F==some 0)=true then 11 else 0
def At.x7 {d:List aC} {le:ck->ck->Bool} {E:List Ep} (h:At d le E):x7 d=chk5C d le E:=by
 unfold cl.x7 chk5C;have H:=h.IX;rw[az (λB=>B H),Xn h.hl];by_cases l:(Bo (Zo d le)).length>256
 .rw[aB l,aB l]
 .rw[az l,az l];by_cases q:(qz d).length>64
  .rw[aB q,aB q]
  .rw[az q,az q];by_cases z:r9 (kz d) d=0
   .have D:¬(r9 (kz d) d≠0):=λB=>B z
    rw[az D,az D];have e1:CP d (qz d)=(qz d).any λF=>(Tc d le F).isNone:=by unfold CP;congr 1;funext F;rw[Td h.hl]
    have G:DQ d (cl.tys d)=(E.map (·.2)).any λw=>(qz d).any λF=>ab8 d le w F==some 0:=by unfold DQ;rw[h.tys];congr 1;funext w;congr 1;funext F;rw[XJ h.hl (Oa z)]
    rw[e1,G]
   .rw[aB z,aB z]
def nuC (E:List Ep) (x:ck):Nat:=(ja (λc:fL=>c.Name==x) (E.map IQ) 0).toNat
def OP (d:List aC) (le:ck->ck->Bool) (E:List Ep):List cO:=(qz d).map λF=>⟨F,(nuC E ((Tc d le F).getD []):Int)⟩
def At.feats {d:List aC} {le:ck->ck->Bool} {E:List Ep} (h:At d le E):vZ d=OP d le E:=by
 unfold vZ OP;refine gP λF _=> ?_
 unfold MA nu nuC;rw[h.z7,Td h.hl]
def ad6 (d:List aC) (le:ck->ck->Bool) (E:List Ep) (w:Nat):List ck->Nat->List fR
 |[],_=>[]
 |F::l,k=>match ab8 d le w F with
  |some c=>⟨(k:Int),HK (E.map (·.2)) c⟩::ad6 d le E w l (k+1)
  |none=>ad6 d le E w l (k+1)
def At.row {d:List aC} {le:ck->ck->Bool} {E:List Ep} (h:At d le E) (z:Vd d) (w:Nat):∀(l:List ck) (k:Nat),yu d w l k=ad6 d le E w l k:=by intro l;induction l with
 |nil=>intro k;rfl
 |cons F l q=>intro k;unfold yu ad6;rw[XJ h.hl z,h.tys];cases ab8 d le w F with
  |none=>exact q _
  |some c=>simp only;rw[q]
end Go.Proofs.YthphfjcnkinkpaaGreatDoor.cl
set_option maxRecDepth 100000
namespace Go.Proofs.YthphfjcnkinkpaaGreatDoor.cl.pf
open Go Go.AM
def szB (d:List aC):Bool:=Nat.ble d.length 64&&d.all λt=>Nat.ble t.dS.length 20&&Nat.ble t.bD.length 100
def aei {d:List aC} (h:szB d=true):Sz d/\d.length<=64/\Fz d:=by
 unfold szB at h;rw[aU,cI] at h;have q:=fF h.1;have key:∀t∈d,t.dS.length<=20/\t.bD.length<=100:=λt l=>by have:=h.2 t l;rw[aU] at this;exact⟨fF this.1,fF this.2⟩
 exact⟨⟨af,λt l=>by have:=(key t l).1;omega⟩,q,λt l=>by have:=(key t l).2;omega⟩
def TP:List (ck×List ck):=[([116,111,112],
  [[116,111,112],[108,105,115,116],[100,108,105,115,116],[105,110,100,101,120],[114,101,108],
   [113,101,113],[115,101,109],[115,105,103,110],[99,111,110,115],[110,117,108,108],
   [104,97,110,100,108,101],[101,118,101,110,116],[101,110,116,105,116,121]]),
 ([108,105,115,116],[[108,105,115,116],[99,111,110,115],[110,117,108,108]]),
 ([99,111,110,115],[[99,111,110,115]]),([110,117,108,108],[[110,117,108,108]]),
 ([100,108,105,115,116],[[100,108,105,115,116]]),
 ([105,110,100,101,120],
  [[105,110,100,101,120],[104,97,110,100,108,101],[101,118,101,110,116],
   [101,110,116,105,116,121]]),
 ([104,97,110,100,108,101],[[104,97,110,100,108,101]]),
 ([101,118,101,110,116],[[101,118,101,110,116]]),
 ([101,110,116,105,116,121],[[101,110,116,105,116,121]]),([114,101,108],[[114,101,108]]),
 ([113,101,113],[[113,101,113]]),([115,101,109],[[115,101,109]]),
 ([115,105,103,110],[[115,105,103,110]])]
def EP:List Ep:=[([116,111,112],8191),([105,110,100,101,120],60),([108,105,115,116],193),([99,111,110,115],1),
  ([100,108,105,115,116],2),([101,110,116,105,116,121],4),([101,118,101,110,116],8),
  ([104,97,110,100,108,101],16),([110,117,108,108],128),([113,101,113],256),([114,101,108],512),
  ([115,101,109],1024),([115,105,103,110],2048)]
def GP:List ck:=[[65,82,71,83],[67,79,78,83],[70,73,82,83,84],[72,73,71,72],[73,78,68,69,88],[76,65,66,69,76],[76,65,83,84],[76,73,83,84],[76,79,87],[82,69,76,83],[82,69,83,84],[83,69,77],[84,79,80]]
def atP:At Bn (leT TP) EP:=⟨tab_le (by kernel_rfl),by kernel_rfl,chk0_ok (by kernel_rfl)⟩
def ckP:x7 Bn=0:=atP.x7.trans (by kernel_rfl)
def okP:Ok5 Bn:=by obtain⟨z,l,hf⟩:=aei (d:=Bn) (by kernel_rfl);exact(K8 z l hf ckP).1
def tysP:tys Bn=EP.map (·.2):=atP.tys
def lenP:(tys Bn).length=13:=by rw[tysP];rfl
def ftsP:qz Bn=GP:=by kernel_rfl
def x332:f332 Bn=some (sg Bn,0):=by obtain⟨z,l,hf⟩:=aei (d:=Bn) (by kernel_rfl);rw[c332 z l hf,aB ckP]
def c403 {d:List aC} (z:Sz d) (hf:Fz d):∃(h:aJ) (t:TH),f403 d=some h/\t.OK h:=by
 have pre:Option.bind (f327) (λl=>Option.bind (f332 l) λq=>some q.1)=some (sg Bn):=by rw[c327,aj,x332,aj]
 by_cases B:d.length<=20
 .by_cases w:x7 d=0
  .refine⟨_,_,e403 ?_,O0 (K8 z af hf w).1⟩;rw[cond_pos (by rw[bA];omega),c332 z af hf,aj,aB w,cond_pos (by rfl)]
  .refine⟨_,_,e403 ?_,O0 okP⟩;rw[cond_pos (by rw[bA];omega),c332 z af hf,aj,az w,cond_neg (by simpa using w)];exact pre
 .refine⟨_,_,e403 ?_,O0 okP⟩;rw[cond_neg (by rw[aS];omega)];exact pre
end Go.Proofs.YthphfjcnkinkpaaGreatDoor.cl.pf
namespace Go.Proofs.YthphfjcnkinkpaaGreatDoor.cl.pf
open Go Go.AM
def Ry {x:Int} (l:0<=x) (q:x<=1073741824):wrap .i64 x=x:=by obtain⟨n,rfl⟩:=fU l;cases n with
 |zero=>rfl
 |succ n=>exact bM af
def sQ {q:Type} (p:q->Bool):List q->Nat->Int
 |[],_=> -1
 |x::l,i=>if p x then(i:Int) else sQ p l (i+1)
theorem tn {q:Type} (p:q->Bool) (x:q) (l:List q) (i:Nat):sQ p (x::l) i=if p x then(i:Int) else sQ p l (i+1):=rfl
def pg {w:Type} (p:w->Bool):∀(l:List w) (i:Nat),(sQ p l i= -1/\∀x∈l,p x=false)\/∃k,∃x,sQ p l i=((i+k:Nat):Int)/\l[k]? =some x/\p x=true/\∀j,j<k->∀y,l[j]? =some y->p y=false
 |[],i=> .inl ⟨rfl,λx G=>by cases G⟩
 |x::l,i=>by rw[tn];cases hp:p x with
  |true=>exact .inr ⟨0,x,by rfl,rfl,hp,λj q=>absurd q (Nat.not_lt_zero _)⟩
  |false=>
   rw[az ai];rcases pg p l (i+1) with⟨B,D⟩|⟨k,y,B,D,F,H⟩
   .simp_all
   .refine .inr ⟨k+1,y,by omega,by assumption,F,λj q z I=> ?_⟩;grind
def h364 (s:ck) (h:aJ) (q:h.Types.length<=1073741824):∀(xs:List fK) (i:Nat),h.Types.drop i=xs->QC s i h=some (sQ (λx=>x.Name==s) xs i):=by intro xs;induction xs with
 |nil=>intro i l;refine acK ?_;rw[bp l];rfl
 |cons x xs w=>intro i l;refine acK ?_;rw[aT l,aK l,aQ l q,w _ (aI l)];grind[tn]
def c364 (s:ck) (h:aJ) (l:h.Types.length<=1073741824):f364 h s=some (sQ (λx=>x.Name==s) h.Types 0):=e364 (h364 s h l _ 0 rfl)
def h365 (s:ck) (h:aJ) (q:h.bD.length<=1073741824):∀(xs:List cO) (i:Nat),h.bD.drop i=xs->QD s i h=some (sQ (λx=>x.Name==s) xs i):=by intro xs;induction xs with
 |nil=>intro i l;refine acL ?_;rw[bp l];rfl
 |cons x xs w=>intro i l;refine acL ?_;rw[aT l,aK l,aQ l q,w _ (aI l)];grind[tn]
def xZ (s:ck) (h:aJ) (l:h.bD.length<=1073741824):f365 h s=some (sQ (λx=>x.Name==s) h.bD 0):=e365 (h365 s h l _ 0 rfl)
def h353a (s:ck) (l:List fK) (w:l.length<=1073741824):∀(xs:List fK) (i:Nat),l.drop i=xs->Jp l s l.length i=some (sQ (λx=>x.Name==s) xs i):=by intro xs;induction xs with
 |nil=>intro i q;refine XT ?_;rw[bp q];rfl
 |cons x xs z=>intro i q;refine XT ?_;rw[aT q,aK q,e374 rfl,aQ q w,z _ (aI q)];grind[tn]
def Zg (s:ck) (h:aJ) (l:h.Types.length<=1073741824):f352 h s=some (sQ (λx=>x.Name==s) h.Types 0):=by refine e352 ?_;rw[e353a (h353a s _ l _ 0 rfl)];rfl
def h363 (s:ck) (h:aJ) (l:List cO) (w:l.length<=1073741824):∀(xs:List cO) (i:Nat),l.drop i=xs->QB s l l.length i h=some (sQ (λx=>x.Name==s) xs i):=by intro xs;induction xs with
 |nil=>intro i q;refine acJ ?_;rw[bp q];rfl
 |cons x xs z=>intro i q;refine acJ ?_;rw[aT q,aK q,aQ q w,z _ (aI q)];grind[tn]
def c363 (s:ck) (h:aJ) (l:h.bD.length<=1073741824):f363 h s=some (sQ (λx=>x.Name==s) h.bD 0):=e363 (h363 s h _ l _ 0 rfl)
def h515 (s:ck) (t:List Template) (q:t.length<=1073741824):∀(xs:List Template) (i:Nat),t.drop i=xs->Ra t s i=some (sQ (λx=>x.Name==s) xs i):=by intro xs;induction xs with
 |nil=>intro i l;refine adg ?_;rw[bp l];rfl
 |cons x xs w=>intro i l;refine adg ?_;rw[aT l,aK l,aQ l q,w _ (aI l)];grind[tn]
def Zh (s:ck) (t:List Template) (l:t.length<=1073741824):f515 t s=some (sQ (λx=>x.Name==s) t 0):=e515 (h515 s t l _ 0 rfl)
def h539 (s:ck) (t:List Def) (q:t.length<=1073741824):∀(xs:List Def) (i:Nat),t.drop i=xs->Rg t s i=some (sQ (λx=>x.Name==s) xs i):=by intro xs;induction xs with
 |nil=>intro i l;refine adk ?_;rw[bp l];rfl
 |cons x xs w=>intro i l;refine adk ?_;rw[aT l,aK l,aQ l q,w _ (aI l)];grind[tn]
def c539 (s:ck) (t:List Def) (l:t.length<=1073741824):f539 t s=some (sQ (λx=>x.Name==s) t 0):=e539 (h539 s t l _ 0 rfl)
def h555 (s:ck) (t:List ck) (q:t.length<=1073741824):∀(xs:List ck) (i:Nat),t.drop i=xs->Rl t s i=some (xs.any λx=>x==s):=by intro xs;induction xs with
 |nil=>intro i l;refine adp ?_;rw[bp l];rfl
 |cons x xs w=>intro i l;refine adp ?_;rw[aT l,aK l,aQ l q,w _ (aI l)];grind
def c555 (s:ck) (t:List ck) (l:t.length<=1073741824):f555 t s=some (t.any λx=>x==s):=e555 (h555 s t l _ 0 rfl)
def c414 (t:Int):f414 t=some ⟨t,[]⟩:=e414 rfl
def c460 {l:List Int} (w:l.length<=1000000):f460 l=some l:=by refine yK ?_;refine ua ?_;have q:Nat.ble ((List.map (dO .i64) l).length *8) 140737488355328=true:=uT (by grind);show(bif Nat.ble _ _ then _ else _)=_;rw[q];rfl
def udN (k:Nat) (x:Node):Node:=⟨x.di,x.bV.map λa=>⟨a.bB,wrap .i64 (a.To+(k:Int))⟩⟩
def Ek:Nat->List Int->List Node
 |_,[]=>[]
 |k,f::l=>⟨0,[⟨f,(k+1:Nat)⟩]⟩::Ek (k+1) l
def Cx:∀(k:Nat) (l:List Int),(Ek k l).length=l.length
 |_,[]=>rfl
 |k,f::l=>by simp[Ek,bz,Cx _ _]
def uG (l:List Int) (f:FSt):FSt:=⟨Ek 0 l++f.ak.map (udN l.length)⟩
section
variable {p:List Int} {f:FSt} (hp:p.length<=1000000) (hf:f.ak.length<=1000000) (ha:∀x∈f.ak,x.bV.length<=1000000)
include hp hf ha
theorem h430_12 {i:Nat} (G:i<f.ak.length) {l:List b9} (I:l.length<=1000000) {ty:Int} {D:FSt} {o:List Node} (K:o.length<=2000000) {z:List b9} {r:FSt}:∀(xs:List b9) (k:Nat) (w:List b9),l.drop k=xs->w.length=k->
  LS p ((i+1:Nat):Int) f D (o++[⟨ty,w++xs.map λa=>⟨a.bB,wrap .i64 (a.To+(p.length:Int))⟩⟩])=some r->Js p i l k f D ty o z w=some r:=by
 intro xs;induction xs with
 |nil=>intro k w q B h;refine XV ?_;rw[bp q,aA,nS ⟨by grind,by grind⟩,bM af];simp_all
 |cons a xs F=>
  intro k w q B h;have H:k<l.length:=by have:=aP length q;simp at this;omega
  refine XV ?_;rw[aT q,au,aK q,aK q,nS ⟨by grind,by grind⟩,bM af];refine F _ _ (aI q) (by simp[B]) ?_;simp_all
theorem h430_7 {o4:FSt}:∀(xs:List Node) (i:Nat) (o:List Node),f.ak.drop i=xs->o.length=p.length+i->LS p i f o4 o=some ⟨o++xs.map (udN p.length)⟩:=by intro xs;induction xs with
 |nil=>intro i o l w;refine acP ?_;grind
 |cons x xs B=>
  intro i o l w;have q:i<f.ak.length:=by have:=aP length l;simp at this;omega
  have z :=by
   have:x∈f.ak.drop i:=by rw[l];exact gm ..
   exact iY this
  refine acP ?_;rw[aT l,au,aK l,aK l];refine h430_12 hp hf ha q (ha x z) af _ 0 _ rfl rfl ?_;rw[B _ _ (aI l) (by grind),ee];rfl
theorem h430_3 {o4:FSt}:∀(xs:List Int) (i:Nat) (o:List Node),p.drop i=xs->i<=p.length->o.length=i->LR p i f o4 o=some ⟨o++Ek i xs++f.ak.map (udN p.length)⟩:=by intro xs;induction xs with
 |nil=>
  intro i o l hle w;refine acO ?_;have q :=by have:=aP length l;simp at this;omega
  rw[bp l];have:=h430_7 hp hf ha (o4:=o4) _ 0 o rfl af;simp_all[Ek]
 |cons x xs z=>
  intro i o l hle w;have q :=by have:=aP length l;simp at this;omega
  refine acO ?_;rw[aT l,aK l,nS ⟨by grind,by grind⟩,bM af];rw[z _ _ (aI l) af (by simp_all)];simp[Ek]
theorem c430g:f430 p f=some (uG p f):=by refine e430 ?_;rw[show LR p 0 f _ _=_ from h430_3 hp hf ha p 0 _ rfl (cS _) rfl];rfl
theorem h426_12 {i:Nat} (H:i<f.ak.length) {l:List b9} (K:l.length<=1000000) {ty:Int} {D:FSt} {G:Node} {o:List Node} (L:o.length<=2000000) {z:List b9} {r:FSt}:∀(xs:List b9) (k:Nat) (w:List b9),l.drop k=xs->w.length=k->
  LQ p f.ak f.ak.length ((i+1:Nat):Int) f D (o++[⟨ty,w++xs.map λa=>⟨a.bB,wrap .i64 (a.To+(p.length:Int))⟩⟩])=some r->Jr p f.ak f.ak.length i l l.length k f D G ty o z w=some r:=by
 intro xs;induction xs with
 |nil=>intro k w q B h;refine Pa ?_;rw[bp q,aA,nS ⟨by simp only[c4];omega,by simp only[c4];omega⟩,bM af];rw[ey,eo] at h;exact h
 |cons a xs F=>
  intro k w q B h;have I:k<l.length:=by have:=aP length q;simp only[lT,bz] at this;omega
  refine Pa ?_;rw[aT q,au,aK q,nS ⟨by simp only[c4];omega,by simp only[c4];omega⟩,bM af];refine F (k+1) _ (aI q) (by simp[B]) ?_;rw[ee];exact h
theorem h426_8 {o4:FSt}:∀(xs:List Node) (i:Nat) (o:List Node),f.ak.drop i=xs->o.length=p.length+i->LQ p f.ak f.ak.length i f o4 o=some ⟨o++xs.map (udN p.length)⟩:=by intro xs;induction xs with
 |nil=>intro i o l w;refine Pc ?_;rw[bp l,aA,ey,eo]
 |cons x xs B=>
  intro i o l w;have q:i<f.ak.length:=by have:=aP length l;simp only[lT,bz] at this;omega
  have z:x∈f.ak:=by
   have:x∈f.ak.drop i:=by rw[l];exact gm ..
   exact iY this
  refine Pc ?_;rw[aT l,au,aK l];refine h426_12 hp hf ha q (ha x z) af x.bV 0 [] rfl rfl ?_;rw[B (i+1) _ (aI l) (by rw[bQ,c4];omega),ee];rfl
theorem h426_3 {o4:FSt}:∀(xs:List Int) (i:Nat) (o:List Node),p.drop i=xs->i<=p.length->o.length=i->G6 p p p.length i f o4 o=some ⟨o++Ek i xs++f.ak.map (udN p.length)⟩:=by intro xs;induction xs with
 |nil=>
  intro i o l hle q;refine Pb ?_;have w:p.length<=i:=by have:=aP length l;simp only[lT,eO] at this;omega
  rw[bp l,aA];have:=h426_8 hp hf ha (o4:=o4) f.ak 0 o rfl af;rw[Ek,eo];exact this
 |cons x xs z=>
  intro i o l hle q;have w:i<p.length:=by have:=aP length l;simp only[lT,bz] at this;omega
  refine Pb ?_;rw[aT l,au,aK l,nS ⟨by simp only[c4];omega,by simp only[c4];omega⟩,bM af];rw[z (i+1) _ (aI l) af (by rw[bQ,c4,q])];simp[Ek]
theorem c426g:f426 p f=some (uG p f):=by refine e426 ?_;rw[show G6 p p p.length 0 f ⟨[]⟩ []=_ from h426_3 hp hf ha p 0 [] rfl (cS _) rfl];rfl
end
end Go.Proofs.YthphfjcnkinkpaaGreatDoor.cl.pf
namespace Go.Proofs.YthphfjcnkinkpaaGreatDoor.cl.pf
open Go Go.AM
def c558 (a b:ck):f558 a b=some (Mt a b):=by refine yK ?_;refine ua ?_;rfl
def c556 (x:Template) (s:ck):f556 x s=some (Mt x.Name s):=e556 (by rw[c558,aj])
