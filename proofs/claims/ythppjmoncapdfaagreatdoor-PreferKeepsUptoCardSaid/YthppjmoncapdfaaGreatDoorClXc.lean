/- Equations over nodes, their universal solution; least upper. -/
import Derived.Test.YthppjmoncapdfaaGreatDoorClXb
set_option linter.all false
namespace Go.Proofs.YthppjmoncapdfaaGreatDoor.cl.pf
open Go Go.AM
structure SH (sb:Int->Int->Prop) (U:Gr) (n:Nat) (W:List (Nat×Nat)) (C:Gr) (m:Nat->Nat):Prop where
 ty:∀x,x<n->sb (U.ty x) (C.ty (m x))
 ar:∀x,x<n->∀p∈U.sc x,(p.1,m p.2)∈C.sc (m x)
 eq:∀p∈W,m p.1=m p.2
def Y6 (C:Gr):Prop:=∀x,zl (C.sc x)
def Can.KC {T F:Nat} {f:FSt} (h:Can T F f):Y6 (mJ f):=λx=>h.yh x
structure Uni (T F:Nat) (sb:Int->Int->Prop) (U:Gr) (n:Nat) (W:List (Nat×Nat)) (G:Gr) (ρ:Nat->Nat):Prop where
 go:GO T F G n
 lt:∀x,x<n->ρ x<n
 idem:∀x,x<n->ρ (ρ x)=ρ x
 cls:∀x,x<n->∀p∈G.sc x,ρ p.2=p.2
 sol:SH sb U n W G ρ
 least:∀C m,Y6 C->SH sb U n W C m->∀x,x<n->m (ρ x)=m x/\sb (G.ty (ρ x)) (C.ty (m x))/\∀p∈G.sc (ρ x),(p.1,m p.2)∈C.sc (m x)
section
variable {T F:Nat} {sb:Int->Int->Prop} (hT:TO T sb) {U:Gr} {n:Nat} {W:List (Nat×Nat)} {G:Gr} {ρ:Nat->Nat} (h:Uni T F sb U n W G ρ) {r:Nat} (hr:r<n)
include h hr
theorem Uni.can:Can T F (lM G n (ρ r)):=Tg h.go (h.lt r hr)
theorem Uni.fix {i:Nat} (w:rX G.sc (ρ r) i):i<n/\ρ i=i:=by induction w with
 |root=>exact⟨h.lt r hr,h.idem r hr⟩
 |step z l q=>exact⟨h.go.bd _ q.1 _ l,h.cls _ q.1 _ l⟩
theorem Uni.hom {C:Gr} {m:Nat->Nat} (w:Y6 C) (z:SH sb U n W C m):CH sb G (ρ r) C (m r) m:=by refine⟨(h.least C m w z r hr).1,λi D=> ?_⟩;obtain⟨l,q⟩:=h.fix hr D;have:=h.least C m w z i l;rw[q] at this;exact this.2
include hT
theorem Uni.le {C:FSt} {m:Nat->Nat} (w:Can T F C) (z:SH sb U n W (mJ C) m) (q:m r=0):Le sb (lM G n (ρ r)) C:=by have l:=h.hom hr w.KC z;rw[q] at l;exact⟨_,CH.comp (s1:=sb) (s2:=sb) (s3:=sb) (λa b=>hT.trans a b) (Vz h.go (h.lt r hr) hT.refl) l⟩
theorem Uni.part {A:Gr} {s:Nat} {e:Nat->Nat} (hA:∀i,rX A.sc s i->e i<n/\U.ty (e i)=A.ty i/\U.sc (e i)=(A.sc i).map λp=>(p.1,e p.2)) (I:ρ (e s)=ρ r):
  CH sb A s (mJ (lM G n (ρ r))) 0 (λi=>(jQ G n (ρ r)).idxOf (ρ (e i))):=by
 have z:CH sb A s G (ρ r) (λi=>ρ (e i)):=by
  refine⟨I,λi D=> ?_⟩;obtain⟨l,q,w⟩:=hA i D;refine⟨?_,λp H=> ?_⟩
  .have:=h.sol.ty _ l;rw[q] at this;exact this
  .have:=h.sol.ar _ l (p.1,e p.2) (by rw[w];exact aD.2 ⟨p,H,rfl⟩);exact this
 exact CH.comp (s1:=sb) (s2:=sb) (s3:=sb) (λa b=>hT.trans a b) z (VW h.go (h.lt r hr) hT.refl)
end
def zo (l:List (Int×Nat)) (f:Int):Option Nat:=(l.find? λp=>p.1==f).map (·.2)
def sQ {l:List (Int×Nat)} (h:zl l) {f:Int} {a:Nat}:zo l f=some a↔(f,a)∈l:=by
 unfold zo;constructor
 .intro e;cases q:l.find? λp=>p.1==f with
  |none=>rw[q] at e;simp at e
  |some p=>rw[q] at e;have z:=oH q;have w:=oI q;simp at e w;rw[<-w,<-e];exact z
 .intro D;cases q:l.find? λp=>p.1==f with
  |none=>have:=tX.1 q _ D;simp at this
  |some p=>
   have z:=oH q;have w:=oI q;simp at w
   have:(f,p.2)∈l:=by rw[<-w];exact z
   rw[cR,h.KC this D]
def AU (G:Gr):Nat->List Int->Option Nat
 |n,[]=>some n
 |n,f::l=>match zo (G.sc n) f with
  |some k=>AU G k l
  |none=>none
def BV (G:Gr):∀(l q:List Int) (n:Nat),AU G n (l++q)=(AU G n l).bind λk=>AU G k q
 |[],_,_=>rfl
 |f::l,q,n=>by simp only[eU,AU];cases zo (G.sc n) f with
  |none=>rfl
  |some k=>exact BV G l q k
def wL {G:Gr} {π:List Int} {f:Int} {n k:Nat}:AU G n (π++[f])=some k↔∃j,AU G n π=some j/\zo (G.sc j) f=some k:=by
 rw[BV,dM];constructor
 .rintro⟨j,q,l⟩;refine⟨j,q,?_⟩;simp only[AU] at l;cases e:zo (G.sc j) f with
  |none=>rw[e] at l;cases l
  |some k'=>rw[e] at l;exact l
 .rintro⟨j,q,l⟩;exact⟨j,q,by simp only[AU,l]⟩
def MT {sb:Int->Int->Prop} {G H:Gr} {r s:Nat} {m:Nat->Nat} (h:CH sb G r H s m) (z:∀i,rX G.sc r i->zl (G.sc i)) (D:Y6 H):∀(q:List Int) (i k:Nat),rX G.sc r i->AU G i q=some k->rX G.sc r k/\AU H (m i) q=some (m k)
 |[],i,k,l,e=>by simp only[AU] at e;cases e;exact⟨l,rfl⟩
 |f::q,i,k,l,e=>by simp only[AU] at e;cases e1:zo (G.sc i) f with
  |none=>rw[e1] at e;cases e
  |some j=>rw[e1] at e;have I:=(sQ (z i l)).1 e1;have K:=(h.2 i l).2 _ I;have w:=MT h z D q j k (l.step (p:=(f,j)) I) e;refine⟨w.1,?_⟩;simp only[AU];rw[(sQ (D _)).2 K];exact w.2
def Vu {G:Gr} {r:Nat} (w:∀i,rX G.sc r i->zl (G.sc i)):∀(q:List Int) (i k:Nat),rX G.sc r i->AU G i q=some k->rX G.sc r k
 |[],i,k,l,e=>by simp only[AU] at e;cases e;exact l
 |f::q,i,k,l,e=>by simp only[AU] at e;cases e1:zo (G.sc i) f with
  |none=>rw[e1] at e;cases e
  |some j=>rw[e1] at e;exact Vu w q j k (l.step (p:=(f,j)) ((sQ (w i l)).1 e1)) e
abbrev zN (f:FSt) (π:List Int):Option Nat:=AU (mJ f) 0 π
def IQ {T F:Nat} {sb:Int->Int->Prop} {f g:FSt} (q:Can T F f) (w:Can T F g) {m:Nat->Nat} (h:CH sb (mJ f) 0 (mJ g) 0 m) {l:List Int} {k:Nat} (e:zN f l=some k):zN g l=some (m k):=by have:=(MT h (λi _=>q.yh i) w.KC l 0 k .root e).2;rw[h.1] at this;exact this
def EB (f:FSt) (P:List (List Int)):Prop:=∀k,k<f.aj.length->∃l∈P,zN f l=some k
def Zn:∀{n:Nat} {l:List Nat},(∀k,k<n->k∈l)->n<=l.length
 |0,_,_=>cZ _
 |n+1,l,h=>by
  have q:=h n af;have w:n<=(l.erase n).length:=Zn λk z=>(List.mem_erase_of_ne af).2 (h k af)
  rw[List.length_erase_of_mem q] at w;have:=xP q;omega
def EB.le {f:FSt} {P:List (List Int)} (h:EB f P):f.aj.length<=P.length:=by
 have:f.aj.length<=(P.filterMap λl=>zN f l).length:=Zn λk q=>by obtain⟨l,w,e⟩:=h k q;exact fo.2 ⟨l,w,e⟩
 exact dB this (xR _ _)
def EB.mono {f:FSt} {P Q:List (List Int)} (h:EB f P) (z:∀l∈P,l∈Q):EB f Q:=λk q=>by obtain⟨l,w,e⟩:=h k q;exact⟨l,z l w,e⟩
structure Lub (T F:Nat) (sb:Int->Int->Prop) (A B f:FSt):Prop where
 can:Can T F f
 l:Le sb A f
 r:Le sb B f
 least:∀C,Can T F C->Le sb A C->Le sb B C->Le sb f C
 Ds:∀P,EB A P->EB B P->EB f P
def ri (A B:FSt):Gr:=⟨λx=>if x<A.aj.length then iY A x else(iY B (x-A.aj.length)).map λp=>(p.1,p.2+A.aj.length),λx=>if x<A.aj.length then ny A x else ny B (x-A.aj.length)⟩
def zQ {A B:FSt} {x:Nat} (h:x<A.aj.length):(ri A B).sc x=iY A x/\(ri A B).ty x=ny A x:=by simp only[ri,h,fS,and_self]
def zR {A B:FSt} {x:Nat} (h:¬x<A.aj.length):(ri A B).sc x=((iY B (x-A.aj.length)).map λp=>(p.1,p.2+A.aj.length))/\(ri A B).ty x=ny B (x-A.aj.length):=by simp only[ri,h,eC,and_self]
section
variable {T F:Nat} {sb:Int->Int->Prop} (hT:TO T sb) {A B:FSt} (hA:Can T F A) (hB:Can T F B)
include hA hB
theorem HS {C:FSt} (N:Can T F C) (z:Le sb A C) (D:Le sb B C):∃m,m 0=0/\SH sb (ri A B) (A.aj.length+B.aj.length) [(0,A.aj.length)] (mJ C) m:=by
 obtain⟨K,z⟩:=z;obtain⟨L,D⟩:=D;refine⟨λx=>if x<A.aj.length then K x else L (x-A.aj.length),by simp only[hA.ne,fS];exact z.1,λx I=> ?_,λx I p w=> ?_,λp w=> ?_⟩
 .by_cases l:x<A.aj.length
  .simp only[ri,l,fS];exact(z.2 x (hA.Jq l)).1
  .simp only[ri,l,eC];exact(D.2 _ (hB.Jq af)).1
 .by_cases l:x<A.aj.length
  .simp only[ri,l,fS] at w⊢;have:=hA.bd x l p w;rw[az this];exact(z.2 x (hA.Jq l)).2 p w
  .simp only[ri,l,eC] at w⊢;obtain⟨q,H,rfl⟩:=aD.1 w;rw[au ah,oC];exact(D.2 _ (hB.Jq af)).2 q H
 .simp only[bX] at w;subst w;simp only[hA.ne,fS,tY,eC,mS];rw[z.1,D.1]
theorem both_go:GO T F (ri A B) (A.aj.length+B.aj.length):=by
 refine⟨λx D p w=> ?_,λx D=> ?_,λx D p w=> ?_,λx D=> ?_⟩<;>by_cases l:x<A.aj.length
 .rw[(zQ l).1] at w;have:=hA.bd x l p w;omega
 .rw[(zR l).1] at w;obtain⟨q,z,rfl⟩:=aD.1 w;have:=hB.bd _ af q z;show q.2+A.aj.length<_;omega
 .rw[(zQ l).1];exact hA.yh x
 .rw[(zR l).1];exact(hB.yh _).map λy=>y+A.aj.length
 .rw[(zQ l).1] at w;exact hA.go.ft x l p w
 .rw[(zR l).1] at w;obtain⟨q,z,rfl⟩:=aD.1 w;exact hB.go.ft _ af q z
 .rw[(zQ l).2];exact hA.go.tp x l
 .rw[(zR l).2];exact hB.go.tp _ af
include hT
theorem PN {G:Gr} {ρ:Nat->Nat} (h:Uni T F sb (ri A B) (A.aj.length+B.aj.length) [(0,A.aj.length)] G ρ):Lub T F sb A B (lM G (A.aj.length+B.aj.length) (ρ 0)):=by
 have w:0<A.aj.length+B.aj.length:=by have:=hA.ne;omega
 have l:=h.part hT w (A:=mJ A) (s:=0) (e:=id) (λi L=>by
  have:=hA.RV L;have hb:=hA.bd i this;refine⟨by simp only[id];omega,by simp only[ri,id,this,fS];rfl,?_⟩;simp only[ri,id,this,fS]
  exact(jX _).symm) rfl
 have q:=h.part hT w (A:=mJ B) (s:=0) (e:=λi=>i+A.aj.length) (λi L=>by
  have:=hB.RV L;refine⟨by show i+A.aj.length<_;omega,?_,?_⟩<;>simp only[ri]
  .rw[au af,oC];rfl
  .rw[au af,oC];rfl) (by
  show ρ (0+A.aj.length)=ρ 0;rw[gy]
  exact(h.sol.eq (0,A.aj.length) ah).symm)
 have K:=h.can w;refine⟨K,⟨_,l⟩,⟨_,q⟩,λC R V h2=> ?_,λP H I k hk=> ?_⟩
 .obtain⟨m,N,hs⟩:=HS hA hB R V h2;exact h.le hT w R hs N
 .obtain⟨x,S⟩:=HZ hk;have hm:=aI S;have z:=uW (uw h.go.bd (h.lt 0 w)).nd S;obtain⟨hxn,D⟩:=h.fix w ((G5 h.go.bd (h.lt 0 w)).1 hm);by_cases hl:x<A.aj.length
  .obtain⟨Q,O,e⟩:=H x hl;refine⟨Q,O,?_⟩;rw[IQ hA K l e];show some ((jQ G (A.aj.length+B.aj.length) (ρ 0)).idxOf (ρ x))=some k;rw[D,z]
  .obtain⟨Q,O,e⟩:=I (x-A.aj.length) af;refine⟨Q,O,?_⟩;rw[IQ hB K q e];show some ((jQ G (A.aj.length+B.aj.length) (ρ 0)).idxOf (ρ (x-A.aj.length+A.aj.length)))=some k;rw[Nat.sub_add_cancel af,D,z]
end
