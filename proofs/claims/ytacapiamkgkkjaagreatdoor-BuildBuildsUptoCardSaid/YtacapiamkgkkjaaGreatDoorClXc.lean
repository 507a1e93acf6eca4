/- Equations over nodes, their universal solution; least upper. -/
import Derived.Test.YtacapiamkgkkjaaGreatDoorClXb
set_option linter.all false
namespace Go.Proofs.YtacapiamkgkkjaaGreatDoor.cl.pf
open Go Go.AM
structure Te (sb:Int->Int->Prop) (U:Gr) (n:Nat) (W:List (Nat×Nat)) (C:Gr) (m:Nat->Nat):Prop where
 ty:∀x,x<n->sb (U.ty x) (C.ty (m x))
 ar:∀x,x<n->∀p∈U.sc x,(p.1,m p.2)∈C.sc (m x)
 eq:∀p∈W,m p.1=m p.2
def Det (C:Gr):Prop:=∀x,Cn (C.sc x)
def Can.Qd {T F:Nat} {f:FSt} (h:Can T F f):Det (qe f):=λx=>h.Aj x
structure XL (T F:Nat) (sb:Int->Int->Prop) (U:Gr) (n:Nat) (W:List (Nat×Nat)) (G:Gr) (ρ:Nat->Nat):Prop where
 go:GO T F G n
 lt:∀x,x<n->ρ x<n
 idem:∀x,x<n->ρ (ρ x)=ρ x
 cls:∀x,x<n->∀p∈G.sc x,ρ p.2=p.2
 Zc:Te sb U n W G ρ
 least:∀C m,Det C->Te sb U n W C m->∀x,x<n->m (ρ x)=m x/\sb (G.ty (ρ x)) (C.ty (m x))/\∀p∈G.sc (ρ x),(p.1,m p.2)∈C.sc (m x)
section
variable {T F:Nat} {sb:Int->Int->Prop} (hT:TO T sb) {U:Gr} {n:Nat} {W:List (Nat×Nat)} {G:Gr} {ρ:Nat->Nat} (h:XL T F sb U n W G ρ) {r:Nat} (hr:r<n)
include h hr
theorem XL.can:Can T F (nh G n (ρ r)):=can_mk h.go (h.lt r hr)
theorem XL.fix {i:Nat} (w:sV G.sc (ρ r) i):i<n/\ρ i=i:=by induction w with
 |root=>exact⟨h.lt r hr,h.idem r hr⟩
 |step z l q=>exact⟨h.go.bd _ q.1 _ l,h.cls _ q.1 _ l⟩
theorem XL.hom {C:Gr} {m:Nat->Nat} (w:Det C) (z:Te sb U n W C m):HF sb G (ρ r) C (m r) m:=by refine⟨(h.least C m w z r hr).1,λi D=> ?_⟩;obtain⟨l,q⟩:=h.fix hr D;have:=h.least C m w z i l;rw[q] at this;exact this.2
include hT
theorem XL.le {C:FSt} {m:Nat->Nat} (w:Can T F C) (z:Te sb U n W (qe C) m) (q:m r=0):Le sb (nh G n (ρ r)) C:=by have l:=h.hom hr w.Qd z;rw[q] at l;exact⟨_,HF.comp (s1:=sb) (s2:=sb) (s3:=sb) (λa b=>hT.trans a b) (can_hom h.go (h.lt r hr) hT.refl) l⟩
theorem XL.part {A:Gr} {s:Nat} {e:Nat->Nat} (hA:∀i,sV A.sc s i->e i<n/\U.ty (e i)=A.ty i/\U.sc (e i)=(A.sc i).map λp=>(p.1,e p.2)) (I:ρ (e s)=ρ r):
  HF sb A s (qe (nh G n (ρ r))) 0 (λi=>(kC G n (ρ r)).idxOf (ρ (e i))):=by
 have z:HF sb A s G (ρ r) (λi=>ρ (e i)):=by
  refine⟨I,λi D=> ?_⟩;obtain⟨l,q,w⟩:=hA i D;refine⟨?_,λp H=> ?_⟩
  .have:=h.Zc.ty _ l;rw[q] at this;exact this
  .have:=h.Zc.ar _ l (p.1,e p.2) (by rw[w];exact aD.2 ⟨p,H,rfl⟩);exact this
 exact HF.comp (s1:=sb) (s2:=sb) (s3:=sb) (λa b=>hT.trans a b) z (hom_can h.go (h.lt r hr) hT.refl)
end
def Cs (l:List (Int×Nat)) (f:Int):Option Nat:=(l.find? λp=>p.1==f).map (·.2)
def Cf {l:List (Int×Nat)} (h:Cn l) {f:Int} {a:Nat}:Cs l f=some a↔(f,a)∈l:=by
 unfold Cs;constructor
 .intro e;cases q:l.find? λp=>p.1==f with
  |none=>rw[q] at e;simp at e
  |some p=>rw[q] at e;have z:=nJ q;have w:=pZ q;simp at e w;rw[<-w,<-e];exact z
 .intro D;cases q:l.find? λp=>p.1==f with
  |none=>have:=uI.1 q _ D;simp at this
  |some p=>
   have z:=nJ q;have w:=pZ q;simp at w
   have:(f,p.2)∈l:=by rw[<-w];exact z
   rw[cV,h.Qd this D]
def D6 (G:Gr):Nat->List Int->Option Nat
 |n,[]=>some n
 |n,f::l=>match Cs (G.sc n) f with
  |some k=>D6 G k l
  |none=>none
def C6 (G:Gr):∀(l q:List Int) (n:Nat),D6 G n (l++q)=(D6 G n l).bind λk=>D6 G k q
 |[],_,_=>rfl
 |f::l,q,n=>by simp only[fS,D6];cases Cs (G.sc n) f with
  |none=>rfl
  |some k=>exact C6 G l q k
def IX {G:Gr} {π:List Int} {f:Int} {n k:Nat}:D6 G n (π++[f])=some k↔∃j,D6 G n π=some j/\Cs (G.sc j) f=some k:=by
 rw[C6,dx];constructor
 .rintro⟨j,q,l⟩;refine⟨j,q,?_⟩;simp only[D6] at l;cases e:Cs (G.sc j) f with
  |none=>rw[e] at l;cases l
  |some k'=>rw[e] at l;exact l
 .rintro⟨j,q,l⟩;exact⟨j,q,by simp only[D6,l]⟩
def aax {sb:Int->Int->Prop} {G H:Gr} {r s:Nat} {m:Nat->Nat} (h:HF sb G r H s m) (z:∀i,sV G.sc r i->Cn (G.sc i)) (D:Det H):∀(q:List Int) (i k:Nat),sV G.sc r i->D6 G i q=some k->sV G.sc r k/\D6 H (m i) q=some (m k)
 |[],i,k,l,e=>by simp only[D6] at e;cases e;exact⟨l,rfl⟩
 |f::q,i,k,l,e=>by simp only[D6] at e;cases e1:Cs (G.sc i) f with
  |none=>rw[e1] at e;cases e
  |some j=>rw[e1] at e;have I:=(Cf (z i l)).1 e1;have K:=(h.2 i l).2 _ I;have w:=aax h z D q j k (l.step (p:=(f,j)) I) e;refine⟨w.1,?_⟩;simp only[D6];rw[(Cf (D _)).2 K];exact w.2
def Nn {G:Gr} {r:Nat} (q:∀i,sV G.sc r i->Cn (G.sc i)):∀(π:List Int) (i k:Nat),sV G.sc r i->D6 G i π=some k->sV G.sc r k
 |[],i,k,l,e=>by simp only[D6] at e;cases e;exact l
 |f::π,i,k,l,e=>by simp only[D6] at e;cases e1:Cs (G.sc i) f with
  |none=>rw[e1] at e;cases e
  |some j=>rw[e1] at e;exact Nn q π j k (l.step (p:=(f,j)) ((Cf (q i l)).1 e1)) e
abbrev FD (f:FSt) (π:List Int):Option Nat:=D6 (qe f) 0 π
def EE {T F:Nat} {sb:Int->Int->Prop} {f g:FSt} (l:Can T F f) (q:Can T F g) {m:Nat->Nat} (h:HF sb (qe f) 0 (qe g) 0 m) {π:List Int} {k:Nat} (e:FD f π=some k):FD g π=some (m k):=by have:=(aax h (λi _=>l.Aj i) q.Qd π 0 k .root e).2;rw[h.1] at this;exact this
def Cov (f:FSt) (P:List (List Int)):Prop:=∀k,k<f.az.length->∃l∈P,FD f l=some k
def Zv:∀{n:Nat} {l:List Nat},(∀k,k<n->k∈l)->n<=l.length
 |0,_,_=>c4 _
 |n+1,l,h=>by
  have q:=h n af;have w:n<=(l.erase n).length:=Zv λk z=>(List.mem_erase_of_ne af).2 (h k af)
  rw[List.length_erase_of_mem q] at w;have:=yL q;omega
def Cov.le {f:FSt} {P:List (List Int)} (h:Cov f P):f.az.length<=P.length:=by
 have:f.az.length<=(P.filterMap λl=>FD f l).length:=Zv λk q=>by obtain⟨l,w,e⟩:=h k q;exact fe.2 ⟨l,w,e⟩
 exact eE this (DT _ _)
def Cov.mono {f:FSt} {P Q:List (List Int)} (h:Cov f P) (z:∀l∈P,l∈Q):Cov f Q:=λk q=>by obtain⟨l,w,e⟩:=h k q;exact⟨l,z l w,e⟩
structure Zq (T F:Nat) (sb:Int->Int->Prop) (A B f:FSt):Prop where
 can:Can T F f
 l:Le sb A f
 r:Le sb B f
 least:∀C,Can T F C->Le sb A C->Le sb B C->Le sb f C
 cov:∀P,Cov A P->Cov B P->Cov f P
def qZ (A B:FSt):Gr:=⟨λx=>if x<A.az.length then kY A x else(kY B (x-A.az.length)).map λp=>(p.1,p.2+A.az.length),λx=>if x<A.az.length then sU A x else sU B (x-A.az.length)⟩
def AN {A B:FSt} {x:Nat} (h:x<A.az.length):(qZ A B).sc x=kY A x/\(qZ A B).ty x=sU A x:=by simp only[qZ,h,fZ,and_self]
def AP {A B:FSt} {x:Nat} (h:¬x<A.az.length):(qZ A B).sc x=((kY B (x-A.az.length)).map λp=>(p.1,p.2+A.az.length))/\(qZ A B).ty x=sU B (x-A.az.length):=by simp only[qZ,h,eF,and_self]
section
variable {T F:Nat} {sb:Int->Int->Prop} (hT:TO T sb) {A B:FSt} (hA:Can T F A) (hB:Can T F B)
include hA hB
theorem I5 {C:FSt} (N:Can T F C) (z:Le sb A C) (D:Le sb B C):∃m,m 0=0/\Te sb (qZ A B) (A.az.length+B.az.length) [(0,A.az.length)] (qe C) m:=by
 obtain⟨K,z⟩:=z;obtain⟨L,D⟩:=D;refine⟨λx=>if x<A.az.length then K x else L (x-A.az.length),by simp only[hA.ne,fZ];exact z.1,λx I=> ?_,λx I p w=> ?_,λp w=> ?_⟩
 .by_cases l:x<A.az.length
  .simp only[qZ,l,fZ];exact(z.2 x (hA.Tk l)).1
  .simp only[qZ,l,eF];exact(D.2 _ (hB.Tk af)).1
 .by_cases l:x<A.az.length
  .simp only[qZ,l,fZ] at w⊢;have:=hA.bd x l p w;rw[aB this];exact(z.2 x (hA.Tk l)).2 p w
  .simp only[qZ,l,eF] at w⊢;obtain⟨q,H,rfl⟩:=aD.1 w;rw[aA ai,lR];exact(D.2 _ (hB.Tk af)).2 q H
 .simp only[bS] at w;subst w;simp only[hA.ne,fZ,rI,eF,nK];rw[z.1,D.1]
theorem both_go:GO T F (qZ A B) (A.az.length+B.az.length):=by
 refine⟨λx D p w=> ?_,λx D=> ?_,λx D p w=> ?_,λx D=> ?_⟩<;>by_cases l:x<A.az.length
 .rw[(AN l).1] at w;have:=hA.bd x l p w;omega
 .rw[(AP l).1] at w;obtain⟨q,z,rfl⟩:=aD.1 w;have:=hB.bd _ af q z;show q.2+A.az.length<_;omega
 .rw[(AN l).1];exact hA.Aj x
 .rw[(AP l).1];exact(hB.Aj _).map λy=>y+A.az.length
 .rw[(AN l).1] at w;exact hA.go.ft x l p w
 .rw[(AP l).1] at w;obtain⟨q,z,rfl⟩:=aD.1 w;exact hB.go.ft _ af q z
 .rw[(AN l).2];exact hA.go.tp x l
 .rw[(AP l).2];exact hB.go.tp _ af
include hT
theorem Qu {G:Gr} {ρ:Nat->Nat} (h:XL T F sb (qZ A B) (A.az.length+B.az.length) [(0,A.az.length)] G ρ):Zq T F sb A B (nh G (A.az.length+B.az.length) (ρ 0)):=by
 have w:0<A.az.length+B.az.length:=by have:=hA.ne;omega
 have l:=h.part hT w (A:=qe A) (s:=0) (e:=id) (λi L=>by
  have:=hA.rlt L;have hb:=hA.bd i this;refine⟨by simp only[id];omega,by simp only[qZ,id,this,fZ];rfl,?_⟩;simp only[qZ,id,this,fZ]
  exact(pT _).symm) rfl
 have q:=h.part hT w (A:=qe B) (s:=0) (e:=λi=>i+A.az.length) (λi L=>by
  have:=hB.rlt L;refine⟨by show i+A.az.length<_;omega,?_,?_⟩<;>simp only[qZ]
  .rw[aA af,lR];rfl
  .rw[aA af,lR];rfl) (by
  show ρ (0+A.az.length)=ρ 0;rw[eN]
  exact(h.Zc.eq (0,A.az.length) ai).symm)
 have K:=h.can w;refine⟨K,⟨_,l⟩,⟨_,q⟩,λC R V h2=> ?_,λP H I k hk=> ?_⟩
 .obtain⟨m,N,hs⟩:=I5 hA hB R V h2;exact h.le hT w R hs N
 .obtain⟨x,S⟩:=Ny hk;have hm:=bf S;have z:=vF (vf h.go.bd (h.lt 0 w)).nd S;obtain⟨hxn,D⟩:=h.fix w ((Ib h.go.bd (h.lt 0 w)).1 hm);by_cases hl:x<A.az.length
  .obtain⟨Q,O,e⟩:=H x hl;refine⟨Q,O,?_⟩;rw[EE hA K l e];show some ((kC G (A.az.length+B.az.length) (ρ 0)).idxOf (ρ x))=some k;rw[D,z]
  .obtain⟨Q,O,e⟩:=I (x-A.az.length) af;refine⟨Q,O,?_⟩;rw[EE hB K q e];show some ((kC G (A.az.length+B.az.length) (ρ 0)).idxOf (ρ (x-A.az.length+A.az.length)))=some k;rw[Nat.sub_add_cancel af,D,z]
theorem Zq.uniq {f g:FSt} (l:Zq T F sb A B f) (q:Zq T F sb A B g):f=g:=
 Le.anti hT l.can q.can (l.least g q.can q.l q.r) (q.least f l.can l.l l.r)
end
