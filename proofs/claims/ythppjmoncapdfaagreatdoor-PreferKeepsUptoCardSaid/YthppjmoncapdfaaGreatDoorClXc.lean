/- Equations over nodes, their universal solution; least upper. -/
import Derived.Test.YthppjmoncapdfaaGreatDoorClXb
set_option linter.all false
namespace Go.Proofs.YthppjmoncapdfaaGreatDoor.cl.pf
open Go Go.AM
structure Sx (sb:Int->Int->Prop) (U:Gr) (n:Nat) (W:List (Nat×Nat)) (C:Gr) (m:Nat->Nat):Prop where
 ty:∀x,x<n->sb (U.ty x) (C.ty (m x))
 ar:∀x,x<n->∀p∈U.sc x,(p.1,m p.2)∈C.sc (m x)
 eq:∀p∈W,m p.1=m p.2
def YQ (C:Gr):Prop:=∀x,y7 (C.sc x)
def Can.Kt {T F:Nat} {f:FSt} (h:Can T F f):YQ (mI f):=λx=>h.x8 x
structure Uni (T F:Nat) (sb:Int->Int->Prop) (U:Gr) (n:Nat) (W:List (Nat×Nat)) (G:Gr) (ρ:Nat->Nat):Prop where
 go:GO T F G n
 lt:∀x,x<n->ρ x<n
 idem:∀x,x<n->ρ (ρ x)=ρ x
 cls:∀x,x<n->∀p∈G.sc x,ρ p.2=p.2
 sol:Sx sb U n W G ρ
 least:∀C m,YQ C->Sx sb U n W C m->∀x,x<n->m (ρ x)=m x/\sb (G.ty (ρ x)) (C.ty (m x))/\∀p∈G.sc (ρ x),(p.1,m p.2)∈C.sc (m x)
section
variable {T F:Nat} {sb:Int->Int->Prop} (hT:TO T sb) {U:Gr} {n:Nat} {W:List (Nat×Nat)} {G:Gr} {ρ:Nat->Nat} (h:Uni T F sb U n W G ρ) {r:Nat} (hr:r<n)
include h hr
theorem Uni.can:Can T F (lK G n (ρ r)):=S7 h.go (h.lt r hr)
theorem Uni.fix {i:Nat} (w:rR G.sc (ρ r) i):i<n/\ρ i=i:=by induction w with
 |root=>exact⟨h.lt r hr,h.idem r hr⟩
 |step z l q=>exact⟨h.go.bd _ q.1 _ l,h.cls _ q.1 _ l⟩
theorem Uni.hom {C:Gr} {m:Nat->Nat} (w:YQ C) (z:Sx sb U n W C m):CC sb G (ρ r) C (m r) m:=by refine⟨(h.least C m w z r hr).1,λi D=> ?_⟩;obtain⟨l,q⟩:=h.fix hr D;have:=h.least C m w z i l;rw[q] at this;exact this.2
include hT
theorem Uni.le {C:FSt} {m:Nat->Nat} (w:Can T F C) (z:Sx sb U n W (mI C) m) (q:m r=0):Le sb (lK G n (ρ r)) C:=by have l:=h.hom hr w.Kt z;rw[q] at l;exact⟨_,CC.comp (s1:=sb) (s2:=sb) (s3:=sb) (λa b=>hT.trans a b) (Vo h.go (h.lt r hr) hT.refl) l⟩
theorem Uni.part {A:Gr} {s:Nat} {e:Nat->Nat} (hA:∀i,rR A.sc s i->e i<n/\U.ty (e i)=A.ty i/\U.sc (e i)=(A.sc i).map λp=>(p.1,e p.2)) (I:ρ (e s)=ρ r):
  CC sb A s (mI (lK G n (ρ r))) 0 (λi=>(jM G n (ρ r)).idxOf (ρ (e i))):=by
 have z:CC sb A s G (ρ r) (λi=>ρ (e i)):=by
  refine⟨I,λi D=> ?_⟩;obtain⟨l,q,w⟩:=hA i D;refine⟨?_,λp H=> ?_⟩
  .have:=h.sol.ty _ l;rw[q] at this;exact this
  .have:=h.sol.ar _ l (p.1,e p.2) (by rw[w];exact aC.2 ⟨p,H,rfl⟩);exact this
 exact CC.comp (s1:=sb) (s2:=sb) (s3:=sb) (λa b=>hT.trans a b) z (VL h.go (h.lt r hr) hT.refl)
end
def za (l:List (Int×Nat)) (f:Int):Option Nat:=(l.find? λp=>p.1==f).map (·.2)
def sK {l:List (Int×Nat)} (h:y7 l) {f:Int} {a:Nat}:za l f=some a↔(f,a)∈l:=by
 unfold za;constructor
 .intro e;cases q:l.find? λp=>p.1==f with
  |none=>rw[q] at e;simp at e
  |some p=>rw[q] at e;have z:=oF q;have w:=oG q;simp at e w;rw[<-w,<-e];exact z
 .intro D;cases q:l.find? λp=>p.1==f with
  |none=>have:=tQ.1 q _ D;simp at this
  |some p=>
   have z:=oF q;have w:=oG q;simp at w
   have:(f,p.2)∈l:=by rw[<-w];exact z
   rw[cQ,h.Kt this D]
def AG (G:Gr):Nat->List Int->Option Nat
 |n,[]=>some n
 |n,f::l=>match za (G.sc n) f with
  |some k=>AG G k l
  |none=>none
def BK (G:Gr):∀(l q:List Int) (n:Nat),AG G n (l++q)=(AG G n l).bind λk=>AG G k q
 |[],_,_=>rfl
 |f::l,q,n=>by simp only[e7,AG];cases za (G.sc n) f with
  |none=>rfl
  |some k=>exact BK G l q k
def wG {G:Gr} {π:List Int} {f:Int} {n k:Nat}:AG G n (π++[f])=some k↔∃j,AG G n π=some j/\za (G.sc j) f=some k:=by
 rw[BK,dL];constructor
 .rintro⟨j,q,l⟩;refine⟨j,q,?_⟩;simp only[AG] at l;cases e:za (G.sc j) f with
  |none=>rw[e] at l;cases l
  |some k'=>rw[e] at l;exact l
 .rintro⟨j,q,l⟩;exact⟨j,q,by simp only[AG,l]⟩
def MJ {sb:Int->Int->Prop} {G H:Gr} {r s:Nat} {m:Nat->Nat} (h:CC sb G r H s m) (z:∀i,rR G.sc r i->y7 (G.sc i)) (D:YQ H):∀(q:List Int) (i k:Nat),rR G.sc r i->AG G i q=some k->rR G.sc r k/\AG H (m i) q=some (m k)
 |[],i,k,l,e=>by simp only[AG] at e;cases e;exact⟨l,rfl⟩
 |f::q,i,k,l,e=>by simp only[AG] at e;cases e1:za (G.sc i) f with
  |none=>rw[e1] at e;cases e
  |some j=>rw[e1] at e;have I:=(sK (z i l)).1 e1;have K:=(h.2 i l).2 _ I;have w:=MJ h z D q j k (l.step (p:=(f,j)) I) e;refine⟨w.1,?_⟩;simp only[AG];rw[(sK (D _)).2 K];exact w.2
def Vk {G:Gr} {r:Nat} (w:∀i,rR G.sc r i->y7 (G.sc i)):∀(q:List Int) (i k:Nat),rR G.sc r i->AG G i q=some k->rR G.sc r k
 |[],i,k,l,e=>by simp only[AG] at e;cases e;exact l
 |f::q,i,k,l,e=>by simp only[AG] at e;cases e1:za (G.sc i) f with
  |none=>rw[e1] at e;cases e
  |some j=>rw[e1] at e;exact Vk w q j k (l.step (p:=(f,j)) ((sK (w i l)).1 e1)) e
abbrev zz (f:FSt) (π:List Int):Option Nat:=AG (mI f) 0 π
def IG {T F:Nat} {sb:Int->Int->Prop} {f g:FSt} (q:Can T F f) (w:Can T F g) {m:Nat->Nat} (h:CC sb (mI f) 0 (mI g) 0 m) {l:List Int} {k:Nat} (e:zz f l=some k):zz g l=some (m k):=by have:=(MJ h (λi _=>q.x8 i) w.Kt l 0 k .root e).2;rw[h.1] at this;exact this
def Ep (f:FSt) (P:List (List Int)):Prop:=∀k,k<f.aj.length->∃l∈P,zz f l=some k
def Y7:∀{n:Nat} {l:List Nat},(∀k,k<n->k∈l)->n<=l.length
 |0,_,_=>cV _
 |n+1,l,h=>by
  have q:=h n af;have w:n<=(l.erase n).length:=Y7 λk z=>(List.mem_erase_of_ne af).2 (h k af)
  rw[List.length_erase_of_mem q] at w;have:=xH q;omega
def Ep.le {f:FSt} {P:List (List Int)} (h:Ep f P):f.aj.length<=P.length:=by
 have:f.aj.length<=(P.filterMap λl=>zz f l).length:=Y7 λk q=>by obtain⟨l,w,e⟩:=h k q;exact fm.2 ⟨l,w,e⟩
 exact dz this (xJ _ _)
def Ep.mono {f:FSt} {P Q:List (List Int)} (h:Ep f P) (z:∀l∈P,l∈Q):Ep f Q:=λk q=>by obtain⟨l,w,e⟩:=h k q;exact⟨l,z l w,e⟩
structure Lub (T F:Nat) (sb:Int->Int->Prop) (A B f:FSt):Prop where
 can:Can T F f
 l:Le sb A f
 r:Le sb B f
 least:∀C,Can T F C->Le sb A C->Le sb B C->Le sb f C
 Fx:∀P,Ep A P->Ep B P->Ep f P
def q7 (A B:FSt):Gr:=⟨λx=>if x<A.aj.length then iW A x else(iW B (x-A.aj.length)).map λp=>(p.1,p.2+A.aj.length),λx=>if x<A.aj.length then nw A x else nw B (x-A.aj.length)⟩
def zC {A B:FSt} {x:Nat} (h:x<A.aj.length):(q7 A B).sc x=iW A x/\(q7 A B).ty x=nw A x:=by simp only[q7,h,fQ,and_self]
def zD {A B:FSt} {x:Nat} (h:¬x<A.aj.length):(q7 A B).sc x=((iW B (x-A.aj.length)).map λp=>(p.1,p.2+A.aj.length))/\(q7 A B).ty x=nw B (x-A.aj.length):=by simp only[q7,h,ez,and_self]
section
variable {T F:Nat} {sb:Int->Int->Prop} (hT:TO T sb) {A B:FSt} (hA:Can T F A) (hB:Can T F B)
include hA hB
theorem HG {C:FSt} (N:Can T F C) (z:Le sb A C) (D:Le sb B C):∃m,m 0=0/\Sx sb (q7 A B) (A.aj.length+B.aj.length) [(0,A.aj.length)] (mI C) m:=by
 obtain⟨K,z⟩:=z;obtain⟨L,D⟩:=D;refine⟨λx=>if x<A.aj.length then K x else L (x-A.aj.length),by simp only[hA.ne,fQ];exact z.1,λx I=> ?_,λx I p w=> ?_,λp w=> ?_⟩
 .by_cases l:x<A.aj.length
  .simp only[q7,l,fQ];exact(z.2 x (hA.Jh l)).1
  .simp only[q7,l,ez];exact(D.2 _ (hB.Jh af)).1
 .by_cases l:x<A.aj.length
  .simp only[q7,l,fQ] at w⊢;have:=hA.bd x l p w;rw[au this];exact(z.2 x (hA.Jh l)).2 p w
  .simp only[q7,l,ez] at w⊢;obtain⟨q,H,rfl⟩:=aC.1 w;rw[aq ah,oA];exact(D.2 _ (hB.Jh af)).2 q H
 .simp only[bW] at w;subst w;simp only[hA.ne,fQ,tR,ez,mR];rw[z.1,D.1]
theorem both_go:GO T F (q7 A B) (A.aj.length+B.aj.length):=by
 refine⟨λx D p w=> ?_,λx D=> ?_,λx D p w=> ?_,λx D=> ?_⟩<;>by_cases l:x<A.aj.length
 .rw[(zC l).1] at w;have:=hA.bd x l p w;omega
 .rw[(zD l).1] at w;obtain⟨q,z,rfl⟩:=aC.1 w;have:=hB.bd _ af q z;show q.2+A.aj.length<_;omega
 .rw[(zC l).1];exact hA.x8 x
 .rw[(zD l).1];exact(hB.x8 _).map λy=>y+A.aj.length
 .rw[(zC l).1] at w;exact hA.go.ft x l p w
 .rw[(zD l).1] at w;obtain⟨q,z,rfl⟩:=aC.1 w;exact hB.go.ft _ af q z
 .rw[(zC l).2];exact hA.go.tp x l
 .rw[(zD l).2];exact hB.go.tp _ af
include hT
theorem PC {G:Gr} {ρ:Nat->Nat} (h:Uni T F sb (q7 A B) (A.aj.length+B.aj.length) [(0,A.aj.length)] G ρ):Lub T F sb A B (lK G (A.aj.length+B.aj.length) (ρ 0)):=by
 have w:0<A.aj.length+B.aj.length:=by have:=hA.ne;omega
 have l:=h.part hT w (A:=mI A) (s:=0) (e:=id) (λi L=>by
  have:=hA.RL L;have hb:=hA.bd i this;refine⟨by simp only[id];omega,by simp only[q7,id,this,fQ];rfl,?_⟩;simp only[q7,id,this,fQ]
  exact(jT _).symm) rfl
 have q:=h.part hT w (A:=mI B) (s:=0) (e:=λi=>i+A.aj.length) (λi L=>by
  have:=hB.RL L;refine⟨by show i+A.aj.length<_;omega,?_,?_⟩<;>simp only[q7]
  .rw[aq af,oA];rfl
  .rw[aq af,oA];rfl) (by
  show ρ (0+A.aj.length)=ρ 0;rw[gv]
  exact(h.sol.eq (0,A.aj.length) ah).symm)
 have K:=h.can w;refine⟨K,⟨_,l⟩,⟨_,q⟩,λC R V h2=> ?_,λP H I k hk=> ?_⟩
 .obtain⟨m,N,hs⟩:=HG hA hB R V h2;exact h.le hT w R hs N
 .obtain⟨x,S⟩:=HL hk;have hm:=aH S;have z:=uR (uo h.go.bd (h.lt 0 w)).nd S;obtain⟨hxn,D⟩:=h.fix w ((GR h.go.bd (h.lt 0 w)).1 hm);by_cases hl:x<A.aj.length
  .obtain⟨Q,O,e⟩:=H x hl;refine⟨Q,O,?_⟩;rw[IG hA K l e];show some ((jM G (A.aj.length+B.aj.length) (ρ 0)).idxOf (ρ x))=some k;rw[D,z]
  .obtain⟨Q,O,e⟩:=I (x-A.aj.length) af;refine⟨Q,O,?_⟩;rw[IG hB K q e];show some ((jM G (A.aj.length+B.aj.length) (ρ 0)).idxOf (ρ (x-A.aj.length+A.aj.length)))=some k;rw[Nat.sub_add_cancel af,D,z]
end
