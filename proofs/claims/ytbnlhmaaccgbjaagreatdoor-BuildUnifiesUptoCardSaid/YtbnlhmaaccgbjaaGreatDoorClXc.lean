/- Equations over nodes, their universal solution; least upper. -/
import Derived.Test.YtbnlhmaaccgbjaaGreatDoorClXb
set_option linter.all false
namespace Go.Proofs.YtbnlhmaaccgbjaaGreatDoor.cl.pf
open Go Go.AM
structure Uj (sb:Int->Int->Prop) (U:Gr) (n:Nat) (W:List (Nat×Nat)) (C:Gr) (m:Nat->Nat):Prop where
 ty:∀x,x<n->sb (U.ty x) (C.ty (m x))
 ar:∀x,x<n->∀p∈U.sc x,(p.1,m p.2)∈C.sc (m x)
 eq:∀p∈W,m p.1=m p.2
def Det (C:Gr):Prop:=∀x,CO (C.sc x)
def Can.Rc {T F:Nat} {f:FSt} (h:Can T F f):Det (oP f):=λx=>h.Ay x
structure YY (T F:Nat) (sb:Int->Int->Prop) (U:Gr) (n:Nat) (W:List (Nat×Nat)) (G:Gr) (ρ:Nat->Nat):Prop where
 go:GO T F G n
 lt:∀x,x<n->ρ x<n
 idem:∀x,x<n->ρ (ρ x)=ρ x
 cls:∀x,x<n->∀p∈G.sc x,ρ p.2=p.2
 sol:Uj sb U n W G ρ
 least:∀C m,Det C->Uj sb U n W C m->∀x,x<n->m (ρ x)=m x/\sb (G.ty (ρ x)) (C.ty (m x))/\∀p∈G.sc (ρ x),(p.1,m p.2)∈C.sc (m x)
section
variable {T F:Nat} {sb:Int->Int->Prop} (hT:TO T sb) {U:Gr} {n:Nat} {W:List (Nat×Nat)} {G:Gr} {ρ:Nat->Nat} (h:YY T F sb U n W G ρ) {r:Nat} (hr:r<n)
include h hr
theorem YY.can:Can T F (nt G n (ρ r)):=can_mk h.go (h.lt r hr)
theorem YY.fix {i:Nat} (w:sI G.sc (ρ r) i):i<n/\ρ i=i:=by induction w with
 |root=>exact⟨h.lt r hr,h.idem r hr⟩
 |step z l q=>exact⟨h.go.bd _ q.1 _ l,h.cls _ q.1 _ l⟩
theorem YY.hom {C:Gr} {m:Nat->Nat} (w:Det C) (z:Uj sb U n W C m):F8 sb G (ρ r) C (m r) m:=by refine⟨(h.least C m w z r hr).1,λi D=> ?_⟩;obtain⟨l,q⟩:=h.fix hr D;have:=h.least C m w z i l;rw[q] at this;exact this.2
include hT
theorem YY.le {C:FSt} {m:Nat->Nat} (w:Can T F C) (z:Uj sb U n W (oP C) m) (q:m r=0):Le sb (nt G n (ρ r)) C:=by have l:=h.hom hr w.Rc z;rw[q] at l;exact⟨_,F8.comp (s1:=sb) (s2:=sb) (s3:=sb) (λa b=>hT.trans a b) (can_hom h.go (h.lt r hr) hT.refl) l⟩
theorem YY.part {A:Gr} {s:Nat} {e:Nat->Nat} (hA:∀i,sI A.sc s i->e i<n/\U.ty (e i)=A.ty i/\U.sc (e i)=(A.sc i).map λp=>(p.1,e p.2)) (I:ρ (e s)=ρ r):
  F8 sb A s (oP (nt G n (ρ r))) 0 (λi=>(kB G n (ρ r)).idxOf (ρ (e i))):=by
 have z:F8 sb A s G (ρ r) (λi=>ρ (e i)):=by
  refine⟨I,λi D=> ?_⟩;obtain⟨l,q,w⟩:=hA i D;refine⟨?_,λp H=> ?_⟩
  .have:=h.sol.ty _ l;rw[q] at this;exact this
  .have:=h.sol.ar _ l (p.1,e p.2) (by rw[w];exact aD.2 ⟨p,H,rfl⟩);exact this
 exact F8.comp (s1:=sb) (s2:=sb) (s3:=sb) (λa b=>hT.trans a b) z (hom_can h.go (h.lt r hr) hT.refl)
end
def CF (l:List (Int×Nat)) (f:Int):Option Nat:=(l.find? λp=>p.1==f).map (·.2)
def CG {l:List (Int×Nat)} (h:CO l) {f:Int} {a:Nat}:CF l f=some a↔(f,a)∈l:=by
 unfold CF;constructor
 .intro e;cases q:l.find? λp=>p.1==f with
  |none=>rw[q] at e;simp at e
  |some p=>rw[q] at e;have z:=nR q;have w:=p6 q;simp at e w;rw[<-w,<-e];exact z
 .intro D;cases q:l.find? λp=>p.1==f with
  |none=>have:=za.1 q _ D;simp at this
  |some p=>
   have z:=nR q;have w:=p6 q;simp at w
   have:(f,p.2)∈l:=by rw[<-w];exact z
   rw[dX,h.Rc this D]
def Dx (G:Gr):Nat->List Int->Option Nat
 |n,[]=>some n
 |n,f::l=>match CF (G.sc n) f with
  |some k=>Dx G k l
  |none=>none
def Dy (G:Gr):∀(l q:List Int) (n:Nat),Dx G n (l++q)=(Dx G n l).bind λk=>Dx G k q
 |[],_,_=>rfl
 |f::l,q,n=>by simp only[gi,Dx];cases CF (G.sc n) f with
  |none=>rfl
  |some k=>exact Dy G l q k
def JF {G:Gr} {π:List Int} {f:Int} {n k:Nat}:Dx G n (π++[f])=some k↔∃j,Dx G n π=some j/\CF (G.sc j) f=some k:=by
 rw[Dy,dm];constructor
 .rintro⟨j,q,l⟩;refine⟨j,q,?_⟩;simp only[Dx] at l;cases e:CF (G.sc j) f with
  |none=>rw[e] at l;cases l
  |some k'=>rw[e] at l;exact l
 .rintro⟨j,q,l⟩;exact⟨j,q,by simp only[Dx,l]⟩
def abR {sb:Int->Int->Prop} {G H:Gr} {r s:Nat} {m:Nat->Nat} (h:F8 sb G r H s m) (z:∀i,sI G.sc r i->CO (G.sc i)) (D:Det H):∀(q:List Int) (i k:Nat),sI G.sc r i->Dx G i q=some k->sI G.sc r k/\Dx H (m i) q=some (m k)
 |[],i,k,l,e=>by simp only[Dx] at e;cases e;exact⟨l,rfl⟩
 |f::q,i,k,l,e=>by simp only[Dx] at e;cases e1:CF (G.sc i) f with
  |none=>rw[e1] at e;cases e
  |some j=>rw[e1] at e;have I:=(CG (z i l)).1 e1;have K:=(h.2 i l).2 _ I;have w:=abR h z D q j k (l.step (p:=(f,j)) I) e;refine⟨w.1,?_⟩;simp only[Dx];rw[(CG (D _)).2 K];exact w.2
def IF {G:Gr} {r:Nat} (q:∀i,sI G.sc r i->CO (G.sc i)):∀(π:List Int) (i k:Nat),sI G.sc r i->Dx G i π=some k->sI G.sc r k
 |[],i,k,l,e=>by simp only[Dx] at e;cases e;exact l
 |f::π,i,k,l,e=>by simp only[Dx] at e;cases e1:CF (G.sc i) f with
  |none=>rw[e1] at e;cases e
  |some j=>rw[e1] at e;exact IF q π j k (l.step (p:=(f,j)) ((CG (q i l)).1 e1)) e
abbrev xY (f:FSt) (π:List Int):Option Nat:=Dx (oP f) 0 π
def AA {T F:Nat} {sb:Int->Int->Prop} {f g:FSt} (l:Can T F f) (q:Can T F g) {m:Nat->Nat} (h:F8 sb (oP f) 0 (oP g) 0 m) {π:List Int} {k:Nat} (e:xY f π=some k):xY g π=some (m k):=by have:=(abR h (λi _=>l.Ay i) q.Rc π 0 k .root e).2;rw[h.1] at this;exact this
def Cov (f:FSt) (P:List (List Int)):Prop:=∀k,k<f.aA.length->∃l∈P,xY f l=some k
def aaN:∀{n:Nat} {l:List Nat},(∀k,k<n->k∈l)->n<=l.length
 |0,_,_=>cW _
 |n+1,l,h=>by
  have q:=h n af;have w:n<=(l.erase n).length:=aaN λk z=>(List.mem_erase_of_ne af).2 (h k af)
  rw[List.length_erase_of_mem q] at w;have:=y9 q;omega
def Cov.le {f:FSt} {P:List (List Int)} (h:Cov f P):f.aA.length<=P.length:=by
 have:f.aA.length<=(P.filterMap λl=>xY f l).length:=aaN λk q=>by obtain⟨l,w,e⟩:=h k q;exact fk.2 ⟨l,w,e⟩
 exact e7 this (Eg _ _)
def Cov.mono {f:FSt} {P Q:List (List Int)} (h:Cov f P) (z:∀l∈P,l∈Q):Cov f Q:=λk q=>by obtain⟨l,w,e⟩:=h k q;exact⟨l,z l w,e⟩
structure Ui (T F:Nat) (sb:Int->Int->Prop) (A B f:FSt):Prop where
 can:Can T F f
 l:Le sb A f
 r:Le sb B f
 least:∀C,Can T F C->Le sb A C->Le sb B C->Le sb f C
 cov:∀P,Cov A P->Cov B P->Cov f P
def ri (A B:FSt):Gr:=⟨λx=>if x<A.aA.length then kE A x else(kE B (x-A.aA.length)).map λp=>(p.1,p.2+A.aA.length),λx=>if x<A.aA.length then rE A x else rE B (x-A.aA.length)⟩
def Bl {A B:FSt} {x:Nat} (h:x<A.aA.length):(ri A B).sc x=kE A x/\(ri A B).ty x=rE A x:=by simp only[ri,h,fW,and_self]
def Bm {A B:FSt} {x:Nat} (h:¬x<A.aA.length):(ri A B).sc x=((kE B (x-A.aA.length)).map λp=>(p.1,p.2+A.aA.length))/\(ri A B).ty x=rE B (x-A.aA.length):=by simp only[ri,h,eP,and_self]
section
variable {T F:Nat} {sb:Int->Int->Prop} (hT:TO T sb) {A B:FSt} (hA:Can T F A) (hB:Can T F B)
include hA hB
theorem JM {C:FSt} (N:Can T F C) (z:Le sb A C) (D:Le sb B C):∃m,m 0=0/\Uj sb (ri A B) (A.aA.length+B.aA.length) [(0,A.aA.length)] (oP C) m:=by
 obtain⟨K,z⟩:=z;obtain⟨L,D⟩:=D;refine⟨λx=>if x<A.aA.length then K x else L (x-A.aA.length),by simp only[hA.ne,fW];exact z.1,λx I=> ?_,λx I p w=> ?_,λp w=> ?_⟩
 .by_cases l:x<A.aA.length
  .simp only[ri,l,fW];exact(z.2 x (hA.Rf l)).1
  .simp only[ri,l,eP];exact(D.2 _ (hB.Rf af)).1
 .by_cases l:x<A.aA.length
  .simp only[ri,l,fW] at w⊢;have:=hA.bd x l p w;rw[aB this];exact(z.2 x (hA.Rf l)).2 p w
  .simp only[ri,l,eP] at w⊢;obtain⟨q,H,rfl⟩:=aD.1 w;rw[au ai,lV];exact(D.2 _ (hB.Rf af)).2 q H
 .simp only[cv] at w;subst w;simp only[hA.ne,fW,rR,eP,nS];rw[z.1,D.1]
theorem both_go:GO T F (ri A B) (A.aA.length+B.aA.length):=by
 refine⟨λx D p w=> ?_,λx D=> ?_,λx D p w=> ?_,λx D=> ?_⟩<;>by_cases l:x<A.aA.length
 .rw[(Bl l).1] at w;have:=hA.bd x l p w;omega
 .rw[(Bm l).1] at w;obtain⟨q,z,rfl⟩:=aD.1 w;have:=hB.bd _ af q z;show q.2+A.aA.length<_;omega
 .rw[(Bl l).1];exact hA.Ay x
 .rw[(Bm l).1];exact(hB.Ay _).map λy=>y+A.aA.length
 .rw[(Bl l).1] at w;exact hA.go.ft x l p w
 .rw[(Bm l).1] at w;obtain⟨q,z,rfl⟩:=aD.1 w;exact hB.go.ft _ af q z
 .rw[(Bl l).2];exact hA.go.tp x l
 .rw[(Bm l).2];exact hB.go.tp _ af
include hT
theorem Rz {G:Gr} {ρ:Nat->Nat} (h:YY T F sb (ri A B) (A.aA.length+B.aA.length) [(0,A.aA.length)] G ρ):Ui T F sb A B (nt G (A.aA.length+B.aA.length) (ρ 0)):=by
 have w:0<A.aA.length+B.aA.length:=by have:=hA.ne;omega
 have l:=h.part hT w (A:=oP A) (s:=0) (e:=id) (λi L=>by
  have:=hA.Uo L;have hb:=hA.bd i this;refine⟨by simp only[id];omega,by simp only[ri,id,this,fW];rfl,?_⟩;simp only[ri,id,this,fW]
  exact(nH _).symm) rfl
 have q:=h.part hT w (A:=oP B) (s:=0) (e:=λi=>i+A.aA.length) (λi L=>by
  have:=hB.Uo L;refine⟨by show i+A.aA.length<_;omega,?_,?_⟩<;>simp only[ri]
  .rw[au af,lV];rfl
  .rw[au af,lV];rfl) (by
  show ρ (0+A.aA.length)=ρ 0;rw[eO]
  exact(h.sol.eq (0,A.aA.length) ai).symm)
 have K:=h.can w;refine⟨K,⟨_,l⟩,⟨_,q⟩,λC R V h2=> ?_,λP H I k hk=> ?_⟩
 .obtain⟨m,N,hs⟩:=JM hA hB R V h2;exact h.le hT w R hs N
 .obtain⟨x,S⟩:=Om hk;have hm:=aZ S;have z:=vU (vo h.go.bd (h.lt 0 w)).nd S;obtain⟨hxn,D⟩:=h.fix w ((IZ h.go.bd (h.lt 0 w)).1 hm);by_cases hl:x<A.aA.length
  .obtain⟨Q,O,e⟩:=H x hl;refine⟨Q,O,?_⟩;rw[AA hA K l e];show some ((kB G (A.aA.length+B.aA.length) (ρ 0)).idxOf (ρ x))=some k;rw[D,z]
  .obtain⟨Q,O,e⟩:=I (x-A.aA.length) af;refine⟨Q,O,?_⟩;rw[AA hB K q e];show some ((kB G (A.aA.length+B.aA.length) (ρ 0)).idxOf (ρ (x-A.aA.length+A.aA.length)))=some k;rw[Nat.sub_add_cancel af,D,z]
theorem Ui.uniq {f g:FSt} (l:Ui T F sb A B f) (q:Ui T F sb A B g):f=g:=
 Le.anti hT l.can q.can (l.least g q.can q.l q.r) (q.least f l.can l.l l.r)
end
