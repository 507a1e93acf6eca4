/- Equations over nodes, their universal solution; least upper. -/
import Derived.Test.YthphfjcnkinkpaaGreatDoorClXb
set_option linter.all false
namespace Go.Proofs.YthphfjcnkinkpaaGreatDoor.cl.pf
open Go Go.AM
structure UG (sb:Int->Int->Prop) (U:Gr) (n:Nat) (W:List (Nat×Nat)) (C:Gr) (m:Nat->Nat):Prop where
 ty:∀x,x<n->sb (U.ty x) (C.ty (m x))
 ar:∀x,x<n->∀p∈U.sc x,(p.1,m p.2)∈C.sc (m x)
 eq:∀p∈W,m p.1=m p.2
def Det (C:Gr):Prop:=∀x,wV (C.sc x)
def Can.Mk {T F:Nat} {f:FSt} (h:Can T F f):Det (jj f):=λx=>h.vP x
structure Y6 (T F:Nat) (sb:Int->Int->Prop) (U:Gr) (n:Nat) (W:List (Nat×Nat)) (G:Gr) (ρ:Nat->Nat):Prop where
 go:GO T F G n
 lt:∀x,x<n->ρ x<n
 idem:∀x,x<n->ρ (ρ x)=ρ x
 cls:∀x,x<n->∀p∈G.sc x,ρ p.2=p.2
 sol:UG sb U n W G ρ
 least:∀C m,Det C->UG sb U n W C m->∀x,x<n->m (ρ x)=m x/\sb (G.ty (ρ x)) (C.ty (m x))/\∀p∈G.sc (ρ x),(p.1,m p.2)∈C.sc (m x)
section
variable {T F:Nat} {sb:Int->Int->Prop} (hT:TO T sb) {U:Gr} {n:Nat} {W:List (Nat×Nat)} {G:Gr} {ρ:Nat->Nat} (h:Y6 T F sb U n W G ρ) {r:Nat} (hr:r<n)
include h hr
theorem Y6.can:Can T F (kj G n (ρ r)):=Vf h.go (h.lt r hr)
theorem Y6.fix {i:Nat} (w:kO G.sc (ρ r) i):i<n/\ρ i=i:=by induction w with
 |root=>exact⟨h.lt r hr,h.idem r hr⟩
 |step z l q=>exact⟨h.go.bd _ q.1 _ l,h.cls _ q.1 _ l⟩
theorem Y6.hom {C:Gr} {m:Nat->Nat} (w:Det C) (z:UG sb U n W C m):tK sb G (ρ r) C (m r) m:=by refine⟨(h.least C m w z r hr).1,λi D=> ?_⟩;obtain⟨l,q⟩:=h.fix hr D;have:=h.least C m w z i l;rw[q] at this;exact this.2
include hT
theorem Y6.le {C:FSt} {m:Nat->Nat} (w:Can T F C) (z:UG sb U n W (jj C) m) (q:m r=0):Le sb (kj G n (ρ r)) C:=by have l:=h.hom hr w.Mk z;rw[q] at l;exact⟨_,tK.comp (s1:=sb) (s2:=sb) (s3:=sb) (λa b=>hT.trans a b) (IW h.go (h.lt r hr) hT.refl) l⟩
theorem Y6.part {A:Gr} {s:Nat} {e:Nat->Nat} (hA:∀i,kO A.sc s i->e i<n/\U.ty (e i)=A.ty i/\U.sc (e i)=(A.sc i).map λp=>(p.1,e p.2)) (I:ρ (e s)=ρ r):
  tK sb A s (jj (kj G n (ρ r))) 0 (λi=>(iy G n (ρ r)).idxOf (ρ (e i))):=by
 have z:tK sb A s G (ρ r) (λi=>ρ (e i)):=by
  refine⟨I,λi D=> ?_⟩;obtain⟨l,q,w⟩:=hA i D;refine⟨?_,λp H=> ?_⟩
  .have:=h.sol.ty _ l;rw[q] at this;exact this
  .have:=h.sol.ar _ l (p.1,e p.2) (by rw[w];exact aD.2 ⟨p,H,rfl⟩);exact this
 exact tK.comp (s1:=sb) (s2:=sb) (s3:=sb) (λa b=>hT.trans a b) z (O1 h.go (h.lt r hr) hT.refl)
end
def Bp (l:List (Int×Nat)) (f:Int):Option Nat:=(l.find? λp=>p.1==f).map (·.2)
def xM {l:List (Int×Nat)} (h:wV l) {f:Int} {a:Nat}:Bp l f=some a↔(f,a)∈l:=by
 unfold Bp;constructor
 .intro e;cases q:l.find? λp=>p.1==f with
  |none=>rw[q] at e;simp at e
  |some p=>rw[q] at e;have z:=nJ q;have w:=pY q;simp at e w;rw[<-w,<-e];exact z
 .intro D;cases q:l.find? λp=>p.1==f with
  |none=>have:=zH.1 q _ D;simp at this
  |some p=>
   have z:=nJ q;have w:=pY q;simp at w
   have:(f,p.2)∈l:=by rw[<-w];exact z
   rw[e9,h.Mk this D]
def AZ (G:Gr):Nat->List Int->Option Nat
 |n,[]=>some n
 |n,f::l=>match Bp (G.sc n) f with
  |some k=>AZ G k l
  |none=>none
theorem vQ (G:Gr):∀(l q:List Int) (n:Nat),AZ G n (l++q)=(AZ G n l).bind λk=>AZ G k q
 |[],_,_=>rfl
 |f::l,q,n=>by simp only[gF,AZ];cases Bp (G.sc n) f with
  |none=>rfl
  |some k=>exact vQ G l q k
def BF {G:Gr} {π:List Int} {f:Int} {n k:Nat}:AZ G n (π++[f])=some k↔∃j,AZ G n π=some j/\Bp (G.sc j) f=some k:=by
 rw[vQ,dy];constructor
 .rintro⟨j,q,l⟩;refine⟨j,q,?_⟩;simp only[AZ] at l;cases e:Bp (G.sc j) f with
  |none=>rw[e] at l;cases l
  |some k'=>rw[e] at l;exact l
 .rintro⟨j,q,l⟩;exact⟨j,q,by simp only[AZ,l]⟩
def Kx {sb:Int->Int->Prop} {G H:Gr} {r s:Nat} {m:Nat->Nat} (h:tK sb G r H s m) (z:∀i,kO G.sc r i->wV (G.sc i)) (D:Det H):∀(q:List Int) (i k:Nat),kO G.sc r i->AZ G i q=some k->kO G.sc r k/\AZ H (m i) q=some (m k)
 |[],i,k,l,e=>by simp only[AZ] at e;cases e;exact⟨l,rfl⟩
 |f::q,i,k,l,e=>by simp only[AZ] at e;cases e1:Bp (G.sc i) f with
  |none=>rw[e1] at e;cases e
  |some j=>rw[e1] at e;have I:=(xM (z i l)).1 e1;have K:=(h.2 i l).2 _ I;have w:=Kx h z D q j k (l.step (p:=(f,j)) I) e;refine⟨w.1,?_⟩;simp only[AZ];rw[(xM (D _)).2 K];exact w.2
def xm {G:Gr} {r:Nat} (q:∀i,kO G.sc r i->wV (G.sc i)):∀(π:List Int) (i k:Nat),kO G.sc r i->AZ G i π=some k->kO G.sc r k
 |[],i,k,l,e=>by simp only[AZ] at e;cases e;exact l
 |f::π,i,k,l,e=>by simp only[AZ] at e;cases e1:Bp (G.sc i) f with
  |none=>rw[e1] at e;cases e
  |some j=>rw[e1] at e;exact xm q π j k (l.step (p:=(f,j)) ((xM (q i l)).1 e1)) e
abbrev oN (f:FSt) (π:List Int):Option Nat:=AZ (jj f) 0 π
def A6 {T F:Nat} {sb:Int->Int->Prop} {f g:FSt} (l:Can T F f) (q:Can T F g) {m:Nat->Nat} (h:tK sb (jj f) 0 (jj g) 0 m) {π:List Int} {k:Nat} (e:oN f π=some k):oN g π=some (m k):=by have:=(Kx h (λi _=>l.vP i) q.Mk π 0 k .root e).2;rw[h.1] at this;exact this
def Cov (f:FSt) (P:List (List Int)):Prop:=∀k,k<f.ak.length->∃l∈P,oN f l=some k
def aaV:∀{n:Nat} {l:List Nat},(∀k,k<n->k∈l)->n<=l.length
 |0,_,_=>cS _
 |n+1,l,h=>by
  have q:=h n af;have w:n<=(l.erase n).length:=aaV λk z=>(List.mem_erase_of_ne af).2 (h k af)
  rw[List.length_erase_of_mem q] at w;have:=zG q;omega
def Cov.le {f:FSt} {P:List (List Int)} (h:Cov f P):f.ak.length<=P.length:=by
 have:f.ak.length<=(P.filterMap λl=>oN f l).length:=aaV λk q=>by obtain⟨l,w,e⟩:=h k q;exact e8.2 ⟨l,w,e⟩
 exact fO this (EB _ _)
def Cov.mono {f:FSt} {P Q:List (List Int)} (h:Cov f P) (z:∀l∈P,l∈Q):Cov f Q:=λk q=>by obtain⟨l,w,e⟩:=h k q;exact⟨l,z l w,e⟩
structure RL (T F:Nat) (sb:Int->Int->Prop) (A B f:FSt):Prop where
 can:Can T F f
 l:Le sb A f
 r:Le sb B f
 least:∀C,Can T F C->Le sb A C->Le sb B C->Le sb f C
 cov:∀P,Cov A P->Cov B P->Cov f P
def q9 (A B:FSt):Gr:=⟨λx=>if x<A.ak.length then iN A x else(iN B (x-A.ak.length)).map λp=>(p.1,p.2+A.ak.length),λx=>if x<A.ak.length then oB A x else oB B (x-A.ak.length)⟩
def BJ {A B:FSt} {x:Nat} (h:x<A.ak.length):(q9 A B).sc x=iN A x/\(q9 A B).ty x=oB A x:=by simp only[q9,h,gV,and_self]
def BK {A B:FSt} {x:Nat} (h:¬x<A.ak.length):(q9 A B).sc x=((iN B (x-A.ak.length)).map λp=>(p.1,p.2+A.ak.length))/\(q9 A B).ty x=oB B (x-A.ak.length):=by simp only[q9,h,gG,and_self]
section
variable {T F:Nat} {sb:Int->Int->Prop} (hT:TO T sb) {A B:FSt} (hA:Can T F A) (hB:Can T F B)
include hA hB
theorem JX {C:FSt} (N:Can T F C) (z:Le sb A C) (D:Le sb B C):∃m,m 0=0/\UG sb (q9 A B) (A.ak.length+B.ak.length) [(0,A.ak.length)] (jj C) m:=by
 obtain⟨K,z⟩:=z;obtain⟨L,D⟩:=D;refine⟨λx=>if x<A.ak.length then K x else L (x-A.ak.length),by simp only[hA.ne,gV];exact z.1,λx I=> ?_,λx I p w=> ?_,λp w=> ?_⟩
 .by_cases l:x<A.ak.length
  .simp only[q9,l,gV];exact(z.2 x (hA.Eo l)).1
  .simp only[q9,l,gG];exact(D.2 _ (hB.Eo af)).1
 .by_cases l:x<A.ak.length
  .simp only[q9,l,gV] at w⊢;have:=hA.bd x l p w;rw[aB this];exact(z.2 x (hA.Eo l)).2 p w
  .simp only[q9,l,gG] at w⊢;obtain⟨q,H,rfl⟩:=aD.1 w;rw[az ai,lK];exact(D.2 _ (hB.Eo af)).2 q H
 .simp only[cz] at w;subst w;simp only[hA.ne,gV,rP,gG,kD];rw[z.1,D.1]
theorem both_go:GO T F (q9 A B) (A.ak.length+B.ak.length):=by
 refine⟨λx D p w=> ?_,λx D=> ?_,λx D p w=> ?_,λx D=> ?_⟩<;>by_cases l:x<A.ak.length
 .rw[(BJ l).1] at w;have:=hA.bd x l p w;omega
 .rw[(BK l).1] at w;obtain⟨q,z,rfl⟩:=aD.1 w;have:=hB.bd _ af q z;show q.2+A.ak.length<_;omega
 .rw[(BJ l).1];exact hA.vP x
 .rw[(BK l).1];exact(hB.vP _).map λy=>y+A.ak.length
 .rw[(BJ l).1] at w;exact hA.go.ft x l p w
 .rw[(BK l).1] at w;obtain⟨q,z,rfl⟩:=aD.1 w;exact hB.go.ft _ af q z
 .rw[(BJ l).2];exact hA.go.tp x l
 .rw[(BK l).2];exact hB.go.tp _ af
include hT
theorem RW {G:Gr} {ρ:Nat->Nat} (h:Y6 T F sb (q9 A B) (A.ak.length+B.ak.length) [(0,A.ak.length)] G ρ):RL T F sb A B (kj G (A.ak.length+B.ak.length) (ρ 0)):=by
 have w:0<A.ak.length+B.ak.length:=by have:=hA.ne;omega
 have l:=h.part hT w (A:=jj A) (s:=0) (e:=id) (λi L=>by
  have:=hA.IL L;have hb:=hA.bd i this;refine⟨by simp only[id];omega,by simp only[q9,id,this,gV];rfl,?_⟩;simp only[q9,id,this,gV]
  exact(lJ _).symm) rfl
 have q:=h.part hT w (A:=jj B) (s:=0) (e:=λi=>i+A.ak.length) (λi L=>by
  have:=hB.IL L;refine⟨by show i+A.ak.length<_;omega,?_,?_⟩<;>simp only[q9]
  .rw[az af,lK];rfl
  .rw[az af,lK];rfl) (by
  show ρ (0+A.ak.length)=ρ 0;rw[eF]
  exact(h.sol.eq (0,A.ak.length) ai).symm)
 have K:=h.can w;refine⟨K,⟨_,l⟩,⟨_,q⟩,λC R V h2=> ?_,λP H I k hk=> ?_⟩
 .obtain⟨m,N,hs⟩:=JX hA hB R V h2;exact h.le hT w R hs N
 .obtain⟨x,S⟩:=OB hk;have hm:=aV S;have z:=wm (sn h.go.bd (h.lt 0 w)).nd S;obtain⟨hxn,D⟩:=h.fix w ((Jf h.go.bd (h.lt 0 w)).1 hm);by_cases hl:x<A.ak.length
  .obtain⟨Q,O,e⟩:=H x hl;refine⟨Q,O,?_⟩;rw[A6 hA K l e];show some ((iy G (A.ak.length+B.ak.length) (ρ 0)).idxOf (ρ x))=some k;rw[D,z]
  .obtain⟨Q,O,e⟩:=I (x-A.ak.length) af;refine⟨Q,O,?_⟩;rw[A6 hB K q e];show some ((iy G (A.ak.length+B.ak.length) (ρ 0)).idxOf (ρ (x-A.ak.length+A.ak.length)))=some k;rw[Nat.sub_add_cancel af,D,z]
theorem RL.uniq {f g:FSt} (l:RL T F sb A B f) (q:RL T F sb A B g):f=g:=
 Le.anti hT l.can q.can (l.least g q.can q.l q.r) (q.least f l.can l.l l.r)
end
