/- Equations over nodes, their universal solution; least upper. -/
import Derived.Test.YtacapiamkgkkjaaGreatDoorClXb
set_option linter.all false
namespace Go.Proofs.YtacapiamkgkkjaaGreatDoor.cl.pf
open Go Go.AM
structure U8 (sb:Int->Int->Prop) (U:Gr) (n:Nat) (W:List (Nat×Nat)) (C:Gr) (m:Nat->Nat):Prop where
 ty:∀x,x<n->sb (U.ty x) (C.ty (m x))
 ar:∀x,x<n->∀p∈U.sc x,(p.1,m p.2)∈C.sc (m x)
 eq:∀p∈W,m p.1=m p.2
def Det (C:Gr):Prop:=∀x,CU (C.sc x)
def Can.RX {T F:Nat} {f:FSt} (h:Can T F f):Det (qS f):=λx=>h.zW x
structure ZJ (T F:Nat) (sb:Int->Int->Prop) (U:Gr) (n:Nat) (W:List (Nat×Nat)) (G:Gr) (ρ:Nat->Nat):Prop where
 go:GO T F G n
 lt:∀x,x<n->ρ x<n
 idem:∀x,x<n->ρ (ρ x)=ρ x
 cls:∀x,x<n->∀p∈G.sc x,ρ p.2=p.2
 sol:U8 sb U n W G ρ
 least:∀C m,Det C->U8 sb U n W C m->∀x,x<n->m (ρ x)=m x/\sb (G.ty (ρ x)) (C.ty (m x))/\∀p∈G.sc (ρ x),(p.1,m p.2)∈C.sc (m x)
section
variable {T F:Nat} {sb:Int->Int->Prop} (hT:TO T sb) {U:Gr} {n:Nat} {W:List (Nat×Nat)} {G:Gr} {ρ:Nat->Nat} (h:ZJ T F sb U n W G ρ) {r:Nat} (hr:r<n)
include h hr
theorem ZJ.can:Can T F (nU G n (ρ r)):=can_mk h.go (h.lt r hr)
theorem ZJ.fix {i:Nat} (w:tH G.sc (ρ r) i):i<n/\ρ i=i:=by induction w with
 |root=>exact⟨h.lt r hr,h.idem r hr⟩
 |step z l q=>exact⟨h.go.bd _ q.1 _ l,h.cls _ q.1 _ l⟩
theorem ZJ.hom {C:Gr} {m:Nat->Nat} (w:Det C) (z:U8 sb U n W C m):Gp sb G (ρ r) C (m r) m:=by refine⟨(h.least C m w z r hr).1,λi D=> ?_⟩;obtain⟨l,q⟩:=h.fix hr D;have:=h.least C m w z i l;rw[q] at this;exact this.2
include hT
theorem ZJ.le {C:FSt} {m:Nat->Nat} (w:Can T F C) (z:U8 sb U n W (qS C) m) (q:m r=0):Le sb (nU G n (ρ r)) C:=by have l:=h.hom hr w.RX z;rw[q] at l;exact⟨_,Gp.comp (s1:=sb) (s2:=sb) (s3:=sb) (λa b=>hT.trans a b) (can_hom h.go (h.lt r hr) hT.refl) l⟩
theorem ZJ.part {A:Gr} {s:Nat} {e:Nat->Nat} (hA:∀i,tH A.sc s i->e i<n/\U.ty (e i)=A.ty i/\U.sc (e i)=(A.sc i).map λp=>(p.1,e p.2)) (I:ρ (e s)=ρ r):
  Gp sb A s (qS (nU G n (ρ r))) 0 (λi=>(kU G n (ρ r)).idxOf (ρ (e i))):=by
 have z:Gp sb A s G (ρ r) (λi=>ρ (e i)):=by
  refine⟨I,λi D=> ?_⟩;obtain⟨l,q,w⟩:=hA i D;refine⟨?_,λp H=> ?_⟩
  .have:=h.sol.ty _ l;rw[q] at this;exact this
  .have:=h.sol.ar _ l (p.1,e p.2) (by rw[w];exact aG.2 ⟨p,H,rfl⟩);exact this
 exact Gp.comp (s1:=sb) (s2:=sb) (s3:=sb) (λa b=>hT.trans a b) z (hom_can h.go (h.lt r hr) hT.refl)
end
def DG (l:List (Int×Nat)) (f:Int):Option Nat:=(l.find? λp=>p.1==f).map (·.2)
def CL {l:List (Int×Nat)} (h:CU l) {f:Int} {a:Nat}:DG l f=some a↔(f,a)∈l:=by
 unfold DG;constructor
 .intro e;cases q:l.find? λp=>p.1==f with
  |none=>rw[q] at e;simp at e
  |some p=>rw[q] at e;have z:=oq q;have w:=qt q;simp at e w;rw[<-w,<-e];exact z
 .intro D;cases q:l.find? λp=>p.1==f with
  |none=>have:=zz.1 q _ D;simp at this
  |some p=>
   have z:=oq q;have w:=qt q;simp at w
   have:(f,p.2)∈l:=by rw[<-w];exact z
   rw[ey,h.RX this D]
def EO (G:Gr):Nat->List Int->Option Nat
 |n,[]=>some n
 |n,f::l=>match DG (G.sc n) f with
  |some k=>EO G k l
  |none=>none
def DN (G:Gr):∀(l q:List Int) (n:Nat),EO G n (l++q)=(EO G n l).bind λk=>EO G k q
 |[],_,_=>rfl
 |f::l,q,n=>by simp only[gB,EO];cases DG (G.sc n) f with
  |none=>rfl
  |some k=>exact DN G l q k
def Kb {G:Gr} {π:List Int} {f:Int} {n k:Nat}:EO G n (π++[f])=some k↔∃j,EO G n π=some j/\DG (G.sc j) f=some k:=by
 rw[DN,dB];constructor
 .rintro⟨j,q,l⟩;refine⟨j,q,?_⟩;simp only[EO] at l;cases e:DG (G.sc j) f with
  |none=>rw[e] at l;cases l
  |some k'=>rw[e] at l;exact l
 .rintro⟨j,q,l⟩;exact⟨j,q,by simp only[EO,l]⟩
def acO {sb:Int->Int->Prop} {G H:Gr} {r s:Nat} {m:Nat->Nat} (h:Gp sb G r H s m) (z:∀i,tH G.sc r i->CU (G.sc i)) (D:Det H):∀(q:List Int) (i k:Nat),tH G.sc r i->EO G i q=some k->tH G.sc r k/\EO H (m i) q=some (m k)
 |[],i,k,l,e=>by simp only[EO] at e;cases e;exact⟨l,rfl⟩
 |f::q,i,k,l,e=>by simp only[EO] at e;cases e1:DG (G.sc i) f with
  |none=>rw[e1] at e;cases e
  |some j=>rw[e1] at e;have I:=(CL (z i l)).1 e1;have K:=(h.2 i l).2 _ I;have w:=acO h z D q j k (l.step (p:=(f,j)) I) e;refine⟨w.1,?_⟩;simp only[EO];rw[(CL (D _)).2 K];exact w.2
def OR {G:Gr} {r:Nat} (q:∀i,tH G.sc r i->CU (G.sc i)):∀(π:List Int) (i k:Nat),tH G.sc r i->EO G i π=some k->tH G.sc r k
 |[],i,k,l,e=>by simp only[EO] at e;cases e;exact l
 |f::π,i,k,l,e=>by simp only[EO] at e;cases e1:DG (G.sc i) f with
  |none=>rw[e1] at e;cases e
  |some j=>rw[e1] at e;exact OR q π j k (l.step (p:=(f,j)) ((CL (q i l)).1 e1)) e
abbrev Gl (f:FSt) (π:List Int):Option Nat:=EO (qS f) 0 π
def Fl {T F:Nat} {sb:Int->Int->Prop} {f g:FSt} (l:Can T F f) (q:Can T F g) {m:Nat->Nat} (h:Gp sb (qS f) 0 (qS g) 0 m) {π:List Int} {k:Nat} (e:Gl f π=some k):Gl g π=some (m k):=by have:=(acO h (λi _=>l.zW i) q.RX π 0 k .root e).2;rw[h.1] at this;exact this
def Cov (f:FSt) (P:List (List Int)):Prop:=∀k,k<f.az.length->∃l∈P,Gl f l=some k
def abD:∀{n:Nat} {l:List Nat},(∀k,k<n->k∈l)->n<=l.length
 |0,_,_=>cO _
 |n+1,l,h=>by
  have q:=h n af;have w:n<=(l.erase n).length:=abD λk z=>(List.mem_erase_of_ne af).2 (h k af)
  rw[List.length_erase_of_mem q] at w;have:=zy q;omega
def Cov.le {f:FSt} {P:List (List Int)} (h:Cov f P):f.az.length<=P.length:=by
 have:f.az.length<=(P.filterMap λl=>Gl f l).length:=abD λk q=>by obtain⟨l,w,e⟩:=h k q;exact fC.2 ⟨l,w,e⟩
 exact fk this (Ey _ _)
def Cov.mono {f:FSt} {P Q:List (List Int)} (h:Cov f P) (z:∀l∈P,l∈Q):Cov f Q:=λk q=>by obtain⟨l,w,e⟩:=h k q;exact⟨l,z l w,e⟩
structure Lub (T F:Nat) (sb:Int->Int->Prop) (A B f:FSt):Prop where
 can:Can T F f
 l:Le sb A f
 r:Le sb B f
 least:∀C,Can T F C->Le sb A C->Le sb B C->Le sb f C
 cov:∀P,Cov A P->Cov B P->Cov f P
def r7 (A B:FSt):Gr:=⟨λx=>if x<A.az.length then lU A x else(lU B (x-A.az.length)).map λp=>(p.1,p.2+A.az.length),λx=>if x<A.az.length then tU A x else tU B (x-A.az.length)⟩
def Bz {A B:FSt} {x:Nat} (h:x<A.az.length):(r7 A B).sc x=lU A x/\(r7 A B).ty x=tU A x:=by simp only[r7,h,gj,and_self]
def BA {A B:FSt} {x:Nat} (h:¬x<A.az.length):(r7 A B).sc x=((lU B (x-A.az.length)).map λp=>(p.1,p.2+A.az.length))/\(r7 A B).ty x=tU B (x-A.az.length):=by simp only[r7,h,e8,and_self]
section
variable {T F:Nat} {sb:Int->Int->Prop} (hT:TO T sb) {A B:FSt} (hA:Can T F A) (hB:Can T F B)
include hA hB
theorem Kg {C:FSt} (N:Can T F C) (z:Le sb A C) (D:Le sb B C):∃m,m 0=0/\U8 sb (r7 A B) (A.az.length+B.az.length) [(0,A.az.length)] (qS C) m:=by
 obtain⟨K,z⟩:=z;obtain⟨L,D⟩:=D;refine⟨λx=>if x<A.az.length then K x else L (x-A.az.length),by simp only[hA.ne,gj];exact z.1,λx I=> ?_,λx I p w=> ?_,λp w=> ?_⟩
 .by_cases l:x<A.az.length
  .simp only[r7,l,gj];exact(z.2 x (hA.Uv l)).1
  .simp only[r7,l,e8];exact(D.2 _ (hB.Uv af)).1
 .by_cases l:x<A.az.length
  .simp only[r7,l,gj] at w⊢;have:=hA.bd x l p w;rw[aC this];exact(z.2 x (hA.Uv l)).2 p w
  .simp only[r7,l,e8] at w⊢;obtain⟨q,H,rfl⟩:=aG.1 w;rw[aA ai,mF];exact(D.2 _ (hB.Uv af)).2 q H
 .simp only[bZ] at w;subst w;simp only[hA.ne,gj,qu,e8,ot];rw[z.1,D.1]
theorem both_go:GO T F (r7 A B) (A.az.length+B.az.length):=by
 refine⟨λx D p w=> ?_,λx D=> ?_,λx D p w=> ?_,λx D=> ?_⟩<;>by_cases l:x<A.az.length
 .rw[(Bz l).1] at w;have:=hA.bd x l p w;omega
 .rw[(BA l).1] at w;obtain⟨q,z,rfl⟩:=aG.1 w;have:=hB.bd _ af q z;show q.2+A.az.length<_;omega
 .rw[(Bz l).1];exact hA.zW x
 .rw[(BA l).1];exact(hB.zW _).map λy=>y+A.az.length
 .rw[(Bz l).1] at w;exact hA.go.ft x l p w
 .rw[(BA l).1] at w;obtain⟨q,z,rfl⟩:=aG.1 w;exact hB.go.ft _ af q z
 .rw[(Bz l).2];exact hA.go.tp x l
 .rw[(BA l).2];exact hB.go.tp _ af
include hT
theorem Si {G:Gr} {ρ:Nat->Nat} (h:ZJ T F sb (r7 A B) (A.az.length+B.az.length) [(0,A.az.length)] G ρ):Lub T F sb A B (nU G (A.az.length+B.az.length) (ρ 0)):=by
 have w:0<A.az.length+B.az.length:=by have:=hA.ne;omega
 have l:=h.part hT w (A:=qS A) (s:=0) (e:=id) (λi L=>by
  have:=hA.rlt L;have hb:=hA.bd i this;refine⟨by simp only[id];omega,by simp only[r7,id,this,gj];rfl,?_⟩;simp only[r7,id,this,gj]
  exact(qo _).symm) rfl
 have q:=h.part hT w (A:=qS B) (s:=0) (e:=λi=>i+A.az.length) (λi L=>by
  have:=hB.rlt L;refine⟨by show i+A.az.length<_;omega,?_,?_⟩<;>simp only[r7]
  .rw[aA af,mF];rfl
  .rw[aA af,mF];rfl) (by
  show ρ (0+A.az.length)=ρ 0;rw[eY]
  exact(h.sol.eq (0,A.az.length) ai).symm)
 have K:=h.can w;refine⟨K,⟨_,l⟩,⟨_,q⟩,λC R V h2=> ?_,λP H I k hk=> ?_⟩
 .obtain⟨m,N,hs⟩:=Kg hA hB R V h2;exact h.le hT w R hs N
 .obtain⟨x,S⟩:=O1 hk;have hm:=aP S;have z:=wE (vJ h.go.bd (h.lt 0 w)).nd S;obtain⟨hxn,D⟩:=h.fix w ((Js h.go.bd (h.lt 0 w)).1 hm);by_cases hl:x<A.az.length
  .obtain⟨Q,O,e⟩:=H x hl;refine⟨Q,O,?_⟩;rw[Fl hA K l e];show some ((kU G (A.az.length+B.az.length) (ρ 0)).idxOf (ρ x))=some k;rw[D,z]
  .obtain⟨Q,O,e⟩:=I (x-A.az.length) af;refine⟨Q,O,?_⟩;rw[Fl hB K q e];show some ((kU G (A.az.length+B.az.length) (ρ 0)).idxOf (ρ (x-A.az.length+A.az.length)))=some k;rw[Nat.sub_add_cancel af,D,z]
theorem Lub.uniq {f g:FSt} (l:Lub T F sb A B f) (q:Lub T F sb A B g):f=g:=
 Le.anti hT l.can q.can (l.least g q.can q.l q.r) (q.least f l.can l.l l.r)
end
