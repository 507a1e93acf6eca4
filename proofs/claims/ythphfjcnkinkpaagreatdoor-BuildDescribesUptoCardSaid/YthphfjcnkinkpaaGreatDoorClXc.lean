/- Equations over nodes, their universal solution; least upper. -/
import Derived.Test.YthphfjcnkinkpaaGreatDoorClXb
set_option linter.all false
namespace Go.Proofs.YthphfjcnkinkpaaGreatDoor.cl.pf
open Go Go.AM
structure Ux (sb:Int->Int->Prop) (U:Gr) (n:Nat) (W:List (Nat×Nat)) (C:Gr) (m:Nat->Nat):Prop where
 ty:∀x,x<n->sb (U.ty x) (C.ty (m x))
 ar:∀x,x<n->∀p∈U.sc x,(p.1,m p.2)∈C.sc (m x)
 eq:∀p∈W,m p.1=m p.2
def Det (C:Gr):Prop:=∀x,yb (C.sc x)
def Can.LW {T F:Nat} {f:FSt} (h:Can T F f):Det (jI f):=λx=>h.wT x
structure YX (T F:Nat) (sb:Int->Int->Prop) (U:Gr) (n:Nat) (W:List (Nat×Nat)) (G:Gr) (ρ:Nat->Nat):Prop where
 go:GO T F G n
 lt:∀x,x<n->ρ x<n
 idem:∀x,x<n->ρ (ρ x)=ρ x
 cls:∀x,x<n->∀p∈G.sc x,ρ p.2=p.2
 sol:Ux sb U n W G ρ
 least:∀C m,Det C->Ux sb U n W C m->∀x,x<n->m (ρ x)=m x/\sb (G.ty (ρ x)) (C.ty (m x))/\∀p∈G.sc (ρ x),(p.1,m p.2)∈C.sc (m x)
section
variable {T F:Nat} {sb:Int->Int->Prop} (hT:TO T sb) {U:Gr} {n:Nat} {W:List (Nat×Nat)} {G:Gr} {ρ:Nat->Nat} (h:YX T F sb U n W G ρ) {r:Nat} (hr:r<n)
include h hr
theorem YX.can:Can T F (kI G n (ρ r)):=U6 h.go (h.lt r hr)
theorem YX.fix {i:Nat} (w:qG G.sc (ρ r) i):i<n/\ρ i=i:=by induction w with
 |root=>exact⟨h.lt r hr,h.idem r hr⟩
 |step z l q=>exact⟨h.go.bd _ q.1 _ l,h.cls _ q.1 _ l⟩
theorem YX.hom {C:Gr} {m:Nat->Nat} (w:Det C) (z:Ux sb U n W C m):yW sb G (ρ r) C (m r) m:=by refine⟨(h.least C m w z r hr).1,λi D=> ?_⟩;obtain⟨l,q⟩:=h.fix hr D;have:=h.least C m w z i l;rw[q] at this;exact this.2
include hT
theorem YX.le {C:FSt} {m:Nat->Nat} (w:Can T F C) (z:Ux sb U n W (jI C) m) (q:m r=0):Le sb (kI G n (ρ r)) C:=by have l:=h.hom hr w.LW z;rw[q] at l;exact⟨_,yW.comp (s1:=sb) (s2:=sb) (s3:=sb) (λa b=>hT.trans a b) (Xc h.go (h.lt r hr) hT.refl) l⟩
theorem YX.part {A:Gr} {s:Nat} {e:Nat->Nat} (hA:∀i,qG A.sc s i->e i<n/\U.ty (e i)=A.ty i/\U.sc (e i)=(A.sc i).map λp=>(p.1,e p.2)) (I:ρ (e s)=ρ r):
  yW sb A s (jI (kI G n (ρ r))) 0 (λi=>(jo G n (ρ r)).idxOf (ρ (e i))):=by
 have z:yW sb A s G (ρ r) (λi=>ρ (e i)):=by
  refine⟨I,λi D=> ?_⟩;obtain⟨l,q,w⟩:=hA i D;refine⟨?_,λp H=> ?_⟩
  .have:=h.sol.ty _ l;rw[q] at this;exact this
  .have:=h.sol.ar _ l (p.1,e p.2) (by rw[w];exact aG.2 ⟨p,H,rfl⟩);exact this
 exact yW.comp (s1:=sb) (s2:=sb) (s3:=sb) (λa b=>hT.trans a b) z (XB h.go (h.lt r hr) hT.refl)
end
def Ac (l:List (Int×Nat)) (f:Int):Option Nat:=(l.find? λp=>p.1==f).map (·.2)
def xA {l:List (Int×Nat)} (h:yb l) {f:Int} {a:Nat}:Ac l f=some a↔(f,a)∈l:=by
 unfold Ac;constructor
 .intro e;cases q:l.find? λp=>p.1==f with
  |none=>rw[q] at e;simp at e
  |some p=>rw[q] at e;have z:=lR q;have w:=nN q;simp at e w;rw[<-w,<-e];exact z
 .intro D;cases q:l.find? λp=>p.1==f with
  |none=>have:=uS.1 q _ D;simp at this
  |some p=>
   have z:=lR q;have w:=nN q;simp at w
   have:(f,p.2)∈l:=by rw[<-w];exact z
   rw[ff,h.LW this D]
def Av (G:Gr):Nat->List Int->Option Nat
 |n,[]=>some n
 |n,f::l=>match Ac (G.sc n) f with
  |some k=>Av G k l
  |none=>none
theorem vI (G:Gr):∀(l q:List Int) (n:Nat),Av G n (l++q)=(Av G n l).bind λk=>Av G k q
 |[],_,_=>rfl
 |f::l,q,n=>by simp only[gC,Av];cases Ac (G.sc n) f with
  |none=>rfl
  |some k=>exact vI G l q k
def Eg {G:Gr} {π:List Int} {f:Int} {n k:Nat}:Av G n (π++[f])=some k↔∃j,Av G n π=some j/\Ac (G.sc j) f=some k:=by
 rw[vI,dA];constructor
 .rintro⟨j,q,l⟩;refine⟨j,q,?_⟩;simp only[Av] at l;cases e:Ac (G.sc j) f with
  |none=>rw[e] at l;cases l
  |some k'=>rw[e] at l;exact l
 .rintro⟨j,q,l⟩;exact⟨j,q,by simp only[Av,l]⟩
def Vv {sb:Int->Int->Prop} {G H:Gr} {r s:Nat} {m:Nat->Nat} (h:yW sb G r H s m) (z:∀i,qG G.sc r i->yb (G.sc i)) (D:Det H):∀(q:List Int) (i k:Nat),qG G.sc r i->Av G i q=some k->qG G.sc r k/\Av H (m i) q=some (m k)
 |[],i,k,l,e=>by simp only[Av] at e;cases e;exact⟨l,rfl⟩
 |f::q,i,k,l,e=>by simp only[Av] at e;cases e1:Ac (G.sc i) f with
  |none=>rw[e1] at e;cases e
  |some j=>rw[e1] at e;have I:=(xA (z i l)).1 e1;have K:=(h.2 i l).2 _ I;have w:=Vv h z D q j k (l.step (p:=(f,j)) I) e;refine⟨w.1,?_⟩;simp only[Av];rw[(xA (D _)).2 K];exact w.2
theorem Cl {G:Gr} {r:Nat} (q:∀i,qG G.sc r i->yb (G.sc i)):∀(π:List Int) (i k:Nat),qG G.sc r i->Av G i π=some k->qG G.sc r k
 |[],i,k,l,e=>by simp only[Av] at e;cases e;exact l
 |f::π,i,k,l,e=>by simp only[Av] at e;cases e1:Ac (G.sc i) f with
  |none=>rw[e1] at e;cases e
  |some j=>rw[e1] at e;exact Cl q π j k (l.step (p:=(f,j)) ((xA (q i l)).1 e1)) e
abbrev oW (f:FSt) (π:List Int):Option Nat:=Av (jI f) 0 π
def AB {T F:Nat} {sb:Int->Int->Prop} {f g:FSt} (l:Can T F f) (q:Can T F g) {m:Nat->Nat} (h:yW sb (jI f) 0 (jI g) 0 m) {π:List Int} {k:Nat} (e:oW f π=some k):oW g π=some (m k):=by have:=(Vv h (λi _=>l.wT i) q.LW π 0 k .root e).2;rw[h.1] at this;exact this
def Cov (f:FSt) (P:List (List Int)):Prop:=∀k,k<f.au.length->∃l∈P,oW f l=some k
theorem aaD:∀{n:Nat} {l:List Nat},(∀k,k<n->k∈l)->n<=l.length
 |0,_,_=>cZ _
 |n+1,l,h=>by
  have q:=h n af;have w:n<=(l.erase n).length:=aaD λk z=>(List.mem_erase_of_ne af).2 (h k af)
  rw[List.length_erase_of_mem q] at w;have:=ze q;omega
def Cov.le {f:FSt} {P:List (List Int)} (h:Cov f P):f.au.length<=P.length:=by
 have:f.au.length<=(P.filterMap λl=>oW f l).length:=aaD λk q=>by obtain⟨l,w,e⟩:=h k q;exact fe.2 ⟨l,w,e⟩
 exact fU this (D4 _ _)
def Cov.mono {f:FSt} {P Q:List (List Int)} (h:Cov f P) (z:∀l∈P,l∈Q):Cov f Q:=λk q=>by obtain⟨l,w,e⟩:=h k q;exact⟨l,z l w,e⟩
structure Uw (T F:Nat) (sb:Int->Int->Prop) (A B f:FSt):Prop where
 can:Can T F f
 l:Le sb A f
 r:Le sb B f
 least:∀C,Can T F C->Le sb A C->Le sb B C->Le sb f C
 cov:∀P,Cov A P->Cov B P->Cov f P
def ry (A B:FSt):Gr:=⟨λx=>if x<A.au.length then iD A x else(iD B (x-A.au.length)).map λp=>(p.1,p.2+A.au.length),λx=>if x<A.au.length then mI A x else mI B (x-A.au.length)⟩
def Bm {A B:FSt} {x:Nat} (h:x<A.au.length):(ry A B).sc x=iD A x/\(ry A B).ty x=mI A x:=by simp only[ry,h,ia,and_self]
def Bn {A B:FSt} {x:Nat} (h:¬x<A.au.length):(ry A B).sc x=((iD B (x-A.au.length)).map λp=>(p.1,p.2+A.au.length))/\(ry A B).ty x=mI B (x-A.au.length):=by simp only[ry,h,gL,and_self]
section
variable {T F:Nat} {sb:Int->Int->Prop} (hT:TO T sb) {A B:FSt} (hA:Can T F A) (hB:Can T F B)
include hA hB
theorem Jv {C:FSt} (N:Can T F C) (z:Le sb A C) (D:Le sb B C):∃m,m 0=0/\Ux sb (ry A B) (A.au.length+B.au.length) [(0,A.au.length)] (jI C) m:=by
 obtain⟨K,z⟩:=z;obtain⟨L,D⟩:=D;refine⟨λx=>if x<A.au.length then K x else L (x-A.au.length),by simp only[hA.ne,ia];exact z.1,λx I=> ?_,λx I p w=> ?_,λp w=> ?_⟩
 .by_cases l:x<A.au.length
  .simp only[ry,l,ia];exact(z.2 x (hA.LX l)).1
  .simp only[ry,l,gL];exact(D.2 _ (hB.LX af)).1
 .by_cases l:x<A.au.length
  .simp only[ry,l,ia] at w⊢;have:=hA.bd x l p w;rw[aB this];exact(z.2 x (hA.LX l)).2 p w
  .simp only[ry,l,gL] at w⊢;obtain⟨q,H,rfl⟩:=aG.1 w;rw[az ai,lN];exact(D.2 _ (hB.LX af)).2 q H
 .simp only[cQ] at w;subst w;simp only[hA.ne,ia,rT,gL,kC];rw[z.1,D.1]
theorem both_go:GO T F (ry A B) (A.au.length+B.au.length):=by
 refine⟨λx D p w=> ?_,λx D=> ?_,λx D p w=> ?_,λx D=> ?_⟩<;>by_cases l:x<A.au.length
 .rw[(Bm l).1] at w;have:=hA.bd x l p w;omega
 .rw[(Bn l).1] at w;obtain⟨q,z,rfl⟩:=aG.1 w;have:=hB.bd _ af q z;show q.2+A.au.length<_;omega
 .rw[(Bm l).1];exact hA.wT x
 .rw[(Bn l).1];exact(hB.wT _).map λy=>y+A.au.length
 .rw[(Bm l).1] at w;exact hA.go.ft x l p w
 .rw[(Bn l).1] at w;obtain⟨q,z,rfl⟩:=aG.1 w;exact hB.go.ft _ af q z
 .rw[(Bm l).2];exact hA.go.tp x l
 .rw[(Bn l).2];exact hB.go.tp _ af
include hT
theorem RO {G:Gr} {ρ:Nat->Nat} (h:YX T F sb (ry A B) (A.au.length+B.au.length) [(0,A.au.length)] G ρ):Uw T F sb A B (kI G (A.au.length+B.au.length) (ρ 0)):=by
 have w:0<A.au.length+B.au.length:=by have:=hA.ne;omega
 have l:=h.part hT w (A:=jI A) (s:=0) (e:=id) (λi L=>by
  have:=hA.Ms L;have hb:=hA.bd i this;refine⟨by simp only[id];omega,by simp only[ry,id,this,ia];rfl,?_⟩;simp only[ry,id,this,ia]
  exact(pY _).symm) rfl
 have q:=h.part hT w (A:=jI B) (s:=0) (e:=λi=>i+A.au.length) (λi L=>by
  have:=hB.Ms L;refine⟨by show i+A.au.length<_;omega,?_,?_⟩<;>simp only[ry]
  .rw[az af,lN];rfl
  .rw[az af,lN];rfl) (by
  show ρ (0+A.au.length)=ρ 0;rw[eO]
  exact(h.sol.eq (0,A.au.length) ai).symm)
 have K:=h.can w;refine⟨K,⟨_,l⟩,⟨_,q⟩,λC R V h2=> ?_,λP H I k hk=> ?_⟩
 .obtain⟨m,N,hs⟩:=Jv hA hB R V h2;exact h.le hT w R hs N
 .obtain⟨x,S⟩:=Of hk;have hm:=aR S;have z:=vW (sw h.go.bd (h.lt 0 w)).nd S;obtain⟨hxn,D⟩:=h.fix w ((IL h.go.bd (h.lt 0 w)).1 hm);by_cases hl:x<A.au.length
  .obtain⟨Q,O,e⟩:=H x hl;refine⟨Q,O,?_⟩;rw[AB hA K l e];show some ((jo G (A.au.length+B.au.length) (ρ 0)).idxOf (ρ x))=some k;rw[D,z]
  .obtain⟨Q,O,e⟩:=I (x-A.au.length) af;refine⟨Q,O,?_⟩;rw[AB hB K q e];show some ((jo G (A.au.length+B.au.length) (ρ 0)).idxOf (ρ (x-A.au.length+A.au.length)))=some k;rw[Nat.sub_add_cancel af,D,z]
theorem Uw.uniq {f g:FSt} (l:Uw T F sb A B f) (q:Uw T F sb A B g):f=g:=
 Le.anti hT l.can q.can (l.least g q.can q.l q.r) (q.least f l.can l.l l.r)
end
