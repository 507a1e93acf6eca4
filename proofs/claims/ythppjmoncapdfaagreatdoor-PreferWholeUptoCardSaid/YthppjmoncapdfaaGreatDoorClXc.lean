/- Equations over nodes, their universal solution; least upper. -/
import Derived.Test.YthppjmoncapdfaaGreatDoorClXb
set_option linter.all false
namespace Go.Proofs.YthppjmoncapdfaaGreatDoor.cl.pf
open Go Go.AM
structure YM (sb:Int→Int→Prop) (U:Gr) (n:Nat) (W:List (Nat×Nat)) (C:Gr) (m:Nat→Nat):Prop where
 ty:∀x,x<n→sb (U.ty x) (C.ty (m x))
 ar:∀x,x<n→∀p∈U.sc x,(p.1,m p.2)∈C.sc (m x)
 eq:∀p∈W,m p.1=m p.2
def YV (C:Gr):Prop:=∀x,AU (C.sc x)
theorem Can.Lp {T F:Nat} {f:FSt} (h:Can T F f):YV (nY f):=fun x=>h.Bo x
structure Uni (T F:Nat) (sb:Int→Int→Prop) (U:Gr) (n:Nat) (W:List (Nat×Nat)) (G:Gr) (ρ:Nat→Nat):Prop where
 go:GO T F G n
 lt:∀x,x<n→ρ x<n
 idem:∀x,x<n→ρ (ρ x)=ρ x
 cls:∀x,x<n→∀p∈G.sc x,ρ p.2=p.2
 sol:YM sb U n W G ρ
 least:∀C m,YV C→YM sb U n W C m→∀x,x<n→m (ρ x)=m x∧sb (G.ty (ρ x)) (C.ty (m x))∧∀p∈G.sc (ρ x),(p.1,m p.2)∈C.sc (m x)
section
variable {T F:Nat} {sb:Int→Int→Prop} (hT:TO T sb) {U:Gr} {n:Nat} {W:List (Nat×Nat)} {G:Gr} {ρ:Nat→Nat} (h:Uni T F sb U n W G ρ) {r:Nat} (hr:r<n)
include h hr
theorem Uni.can:Can T F (mI G n (ρ r)):=SP h.go (h.lt r hr)
theorem Uni.fix {i:Nat} (hi:sN G.sc (ρ r) i):i<n∧ρ i=i:=by
 induction hi with
 |root=>exact ⟨h.lt r hr,h.idem r hr⟩
 |step hn hp ih=>exact ⟨h.go.bd _ ih.1 _ hp,h.cls _ ih.1 _ hp⟩
theorem Uni.hom {C:Gr} {m:Nat→Nat} (hC:YV C) (hs:YM sb U n W C m):EF sb G (ρ r) C (m r) m:=by
 refine ⟨(h.least C m hC hs r hr).1,fun i hi=> ?_⟩;obtain ⟨hin,hir⟩:=h.fix hr hi;have:=h.least C m hC hs i hin;rw [hir] at this;exact this.2
include hT
theorem Uni.le {C:FSt} {m:Nat→Nat} (hC:Can T F C) (hs:YM sb U n W (nY C) m) (h0:m r=0):Le sb (mI G n (ρ r)) C:=by
 have hh:=h.hom hr hC.Lp hs;rw [h0] at hh;exact ⟨_,EF.comp (s1:=sb) (s2:=sb) (s3:=sb) (fun a b=>hT.trans a b) (Va h.go (h.lt r hr) hT.refl) hh⟩
theorem Uni.part {A:Gr} {s:Nat} {e:Nat→Nat} (hA:∀i,sN A.sc s i→e i<n∧U.ty (e i)=A.ty i∧U.sc (e i)=(A.sc i).map fun p=>(p.1,e p.2)) (hs:ρ (e s)=ρ r):
  EF sb A s (nY (mI G n (ρ r))) 0 (fun i=>(j4 G n (ρ r)).idxOf (ρ (e i))):=by
 have hh:EF sb A s G (ρ r) (fun i=>ρ (e i)):=by
  refine ⟨hs,fun i hi=> ?_⟩;obtain ⟨h1,h2,h3⟩:=hA i hi;refine ⟨?_,fun p hp=> ?_⟩
  ·have:=h.sol.ty _ h1;rw [h2] at this;exact this
  ·have:=h.sol.ar _ h1 (p.1,e p.2) (by rw [h3];exact aB.2 ⟨p,hp,rfl⟩)
   exact this
 exact EF.comp (s1:=sb) (s2:=sb) (s3:=sb) (fun a b=>hT.trans a b) hh (VA h.go (h.lt r hr) hT.refl)
end
def Bj (l:List (Int×Nat)) (f:Int):Option Nat:=(l.find? fun p=>p.1==f).map (·.2)
theorem uK {l:List (Int×Nat)} (h:AU l) {f:Int} {a:Nat}:Bj l f=some a↔(f,a)∈l:=by
 unfold Bj;constructor
 ·intro e
  cases e2:l.find? fun p=>p.1==f with
  |none=>rw [e2] at e;simp at e
  |some p=>
   rw [e2] at e;have h1:=oV e2;have h2:=oW e2;simp at e h2;rw [←h2,←e];exact h1
 ·intro hm
  cases e2:l.find? fun p=>p.1==f with
  |none=>
   have:=uj.1 e2 _ hm;simp at this
  |some p=>
   have h1:=oV e2;have h2:=oW e2;simp at h2;have:(f,p.2)∈l:=by rw [←h2];exact h1
   rw [cS,h.Lp this hm]
def Bv (G:Gr):Nat→List Int→Option Nat
 |n,[]=>some n
 |n,f::π=>match Bj (G.sc n) f with
  |some k=>Bv G k π
  |none=>none
theorem B0 (G:Gr):∀(π σ:List Int) (n:Nat),Bv G n (π++σ)=(Bv G n π).bind fun k=>Bv G k σ
 |[],_,_=>rfl
 |f::π,σ,n=>by
  simp only [ff,Bv];cases Bj (G.sc n) f with
  |none=>rfl
  |some k=>exact B0 G π σ k
theorem zT {G:Gr} {π:List Int} {f:Int} {n k:Nat}:Bv G n (π++[f])=some k↔∃j,Bv G n π=some j∧Bj (G.sc j) f=some k:=by
 rw [B0,dw];constructor
 ·rintro ⟨j,h1,h2⟩
  refine ⟨j,h1,?_⟩;simp only [Bv] at h2;cases e:Bj (G.sc j) f with
  |none=>rw [e] at h2;cases h2
  |some k'=>rw [e] at h2;exact h2
 ·rintro ⟨j,h1,h2⟩
  exact ⟨j,h1,by simp only [Bv,h2]⟩
theorem MU {sb:Int→Int→Prop} {G H:Gr} {r s:Nat} {m:Nat→Nat} (h:EF sb G r H s m) (hG:∀i,sN G.sc r i→AU (G.sc i)) (hH:YV H):∀(π:List Int) (i k:Nat),sN G.sc r i→Bv G i π=some k→sN G.sc r k∧Bv H (m i) π=some (m k)
 |[],i,k,hi,e=>by simp only [Bv] at e;cases e;exact ⟨hi,rfl⟩
 |f::π,i,k,hi,e=>by
  simp only [Bv] at e;cases e1:Bj (G.sc i) f with
  |none=>rw [e1] at e;cases e
  |some j=>
   rw [e1] at e;have hm:=(uK (hG i hi)).1 e1;have h2:=(h.2 i hi).2 _ hm;have h3:=MU h hG hH π j k (hi.step (p:=(f,j)) hm) e;refine ⟨h3.1,?_⟩;simp only [Bv];rw [(uK (hH _)).2 h2];exact h3.2
theorem U7 {G:Gr} {r:Nat} (hG:∀i,sN G.sc r i→AU (G.sc i)):∀(π:List Int) (i k:Nat),sN G.sc r i→Bv G i π=some k→sN G.sc r k
 |[],i,k,hi,e=>by simp only [Bv] at e;cases e;exact hi
 |f::π,i,k,hi,e=>by
  simp only [Bv] at e;cases e1:Bj (G.sc i) f with
  |none=>rw [e1] at e;cases e
  |some j=>
   rw [e1] at e;exact U7 hG π j k (hi.step (p:=(f,j)) ((uK (hG i hi)).1 e1)) e
abbrev BZ (f:FSt) (π:List Int):Option Nat:=Bv (nY f) 0 π
theorem Jg {T F:Nat} {sb:Int→Int→Prop} {f g:FSt} (hf:Can T F f) (hg:Can T F g) {m:Nat→Nat} (h:EF sb (nY f) 0 (nY g) 0 m) {π:List Int} {k:Nat} (e:BZ f π=some k):BZ g π=some (m k):=by
 have:=(MU h (fun i _=>hf.Bo i) hg.Lp π 0 k .root e).2;rw [h.1] at this;exact this
def YK (f:FSt) (P:List (List Int)):Prop:=∀k,k<f.az.length→∃π∈P,BZ f π=some k
theorem Za:∀{n:Nat} {l:List Nat},(∀k,k<n→k∈l)→n≤l.length
 |0,_,_=>dh _
 |n+1,l,h=>by
  have hm:=h n (by omega);have h2:n≤(l.erase n).length:=Za fun k hk=>(List.mem_erase_of_ne (by omega)).2 (h k (by omega))
  rw [List.length_erase_of_mem hm] at h2;have:=xQ hm;omega
theorem YK.le {f:FSt} {P:List (List Int)} (h:YK f P):f.az.length≤P.length:=by
 have:f.az.length≤(P.filterMap fun π=>BZ f π).length:=Za fun k hk=>by
  obtain ⟨π,hp,e⟩:=h k hk;exact fV.2 ⟨π,hp,e⟩
 exact dB this (CW _ _)
structure Lub (T F:Nat) (sb:Int→Int→Prop) (A B f:FSt):Prop where
 can:Can T F f
 l:Le sb A f
 r:Le sb B f
 least:∀C,Can T F C→Le sb A C→Le sb B C→Le sb f C
 cov:∀P,YK A P→YK B P→YK f P
def tf (A B:FSt):Gr:=⟨fun x=>if x<A.az.length then kX A x else (kX B (x-A.az.length)).map fun p=>(p.1,p.2+A.az.length),fun x=>if x<A.az.length then sg A x else sg B (x-A.az.length)⟩
theorem EO {A B:FSt} {x:Nat} (h:x<A.az.length):(tf A B).sc x=kX A x∧(tf A B).ty x=sg A x:=by
 simp only [tf,h,fN,and_self]
theorem ER {A B:FSt} {x:Nat} (h:¬x<A.az.length):(tf A B).sc x=((kX B (x-A.az.length)).map fun p=>(p.1,p.2+A.az.length))∧(tf A B).ty x=sg B (x-A.az.length):=by
 simp only [tf,h,ez,and_self]
section
variable {T F:Nat} {sb:Int→Int→Prop} (hT:TO T sb) {A B:FSt} (hA:Can T F A) (hB:Can T F B)
include hA hB
theorem Pt {C:FSt} (hC:Can T F C) (h1:Le sb A C) (h2:Le sb B C):∃m,m 0=0∧YM sb (tf A B) (A.az.length+B.az.length) [(0,A.az.length)] (nY C) m:=by
 obtain ⟨mA,h1⟩:=h1;obtain ⟨mB,h2⟩:=h2;refine ⟨fun x=>if x<A.az.length then mA x else mB (x-A.az.length),by simp only [hA.ne,fN];exact h1.1,fun x hx=> ?_,fun x hx p hp=> ?_,fun p hp=> ?_⟩
 ·by_cases hl:x<A.az.length
  ·simp only [tf,hl,fN];exact (h1.2 x (hA.NJ hl)).1
  ·simp only [tf,hl,ez];exact (h2.2 _ (hB.NJ (by omega))).1
 ·by_cases hl:x<A.az.length
  ·simp only [tf,hl,fN] at hp⊢
   have:=hA.bd x hl p hp;rw [au this];exact (h1.2 x (hA.NJ hl)).2 p hp
  ·simp only [tf,hl,ez] at hp⊢
   obtain ⟨q,hq,rfl⟩:=aB.1 hp;rw [ak (by simp),oR];exact (h2.2 _ (hB.NJ (by omega))).2 q hq
 ·simp only [bP] at hp;subst hp
  simp only [hA.ne,fN,xS,ez,oZ];rw [h1.1,h2.1]
theorem both_go:GO T F (tf A B) (A.az.length+B.az.length):=by
 refine ⟨fun x hx p hp=> ?_,fun x hx=> ?_,fun x hx p hp=> ?_,fun x hx=> ?_⟩<;>by_cases hl:x<A.az.length
 ·rw [(EO hl).1] at hp
  have:=hA.bd x hl p hp;omega
 ·rw [(ER hl).1] at hp
  obtain ⟨q,hq,rfl⟩:=aB.1 hp;have:=hB.bd _ (by omega) q hq;show q.2+A.az.length<_;omega
 ·rw [(EO hl).1];exact hA.Bo x
 ·rw [(ER hl).1];exact (hB.Bo _).map fun y=>y+A.az.length
 ·rw [(EO hl).1] at hp;exact hA.go.ft x hl p hp
 ·rw [(ER hl).1] at hp
  obtain ⟨q,hq,rfl⟩:=aB.1 hp;exact hB.go.ft _ (by omega) q hq
 ·rw [(EO hl).2];exact hA.go.tp x hl
 ·rw [(ER hl).2];exact hB.go.tp _ (by omega)
include hT
theorem Zq {G:Gr} {ρ:Nat→Nat} (h:Uni T F sb (tf A B) (A.az.length+B.az.length) [(0,A.az.length)] G ρ):Lub T F sb A B (mI G (A.az.length+B.az.length) (ρ 0)):=by
 have h0:0<A.az.length+B.az.length:=by have:=hA.ne;omega
 have homA:=h.part hT h0 (A:=nY A) (s:=0) (e:=id) (fun i hi=>by
  have:=hA.Yr hi;have hb:=hA.bd i this;refine ⟨by simp only [id];omega,by simp only [tf,id,this,fN];rfl,?_⟩;simp only [tf,id,this,fN]
  exact (j8 _).symm) rfl
 have homB:=h.part hT h0 (A:=nY B) (s:=0) (e:=fun i=>i+A.az.length) (fun i hi=>by
  have:=hB.Yr hi;refine ⟨by show i+A.az.length<_;omega,?_,?_⟩<;>simp only [tf]
  ·rw [ak (by omega),oR];rfl
  ·rw [ak (by omega),oR];rfl) (by
  show ρ (0+A.az.length)=ρ 0;rw [gE]
  exact (h.sol.eq (0,A.az.length) (by simp)).symm)
 have hc:=h.can h0;refine ⟨hc,⟨_,homA⟩,⟨_,homB⟩,fun C hC h1 h2=> ?_,fun P hPA hPB k hk=> ?_⟩
 ·obtain ⟨m,hm0,hs⟩:=Pt hA hB hC h1 h2
  exact h.le hT h0 hC hs hm0
 ·obtain ⟨x,hx⟩:=Iy hk
  have hm:=aT hx;have hk':=vc (uG h.go.bd (h.lt 0 h0)).nd hx;obtain ⟨YS,hxr⟩:=h.fix h0 ((Hv h.go.bd (h.lt 0 h0)).1 hm);by_cases hl:x<A.az.length
  ·obtain ⟨π,hp,e⟩:=hPA x hl
   refine ⟨π,hp,?_⟩;rw [Jg hA hc homA e];show some ((j4 G (A.az.length+B.az.length) (ρ 0)).idxOf (ρ x))=some k;rw [hxr,hk']
  ·obtain ⟨π,hp,e⟩:=hPB (x-A.az.length) (by omega)
   refine ⟨π,hp,?_⟩;rw [Jg hB hc homB e];show some ((j4 G (A.az.length+B.az.length) (ρ 0)).idxOf (ρ (x-A.az.length+A.az.length)))=some k;rw [Nat.sub_add_cancel (by omega),hxr,hk']
end
end Go.Proofs.YthppjmoncapdfaaGreatDoor.cl.pf
