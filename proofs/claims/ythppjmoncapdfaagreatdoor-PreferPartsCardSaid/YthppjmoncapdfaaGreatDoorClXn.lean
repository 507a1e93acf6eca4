/- Chains. -/
import Derived.Test.YthppjmoncapdfaaGreatDoorClXl
set_option linter.unusedVariables false
set_option linter.unusedSimpArgs false
set_option linter.unusedSectionVars false
namespace Go.Proofs.YthppjmoncapdfaaGreatDoor.cl.pf
open Go Go.AM
def q8:Nat→List Int→Int→List Node
 |_,[],t=>[⟨t,[]⟩]
 |k,f::π,t=>⟨0,[⟨f,(k+1:Nat)⟩]⟩::q8 (k+1) π t
def lu (π:List Int) (t:Int):FSt:=⟨q8 0 π t⟩
theorem rL:∀(k:Nat) (π:List Int) (t:Int),(q8 k π t).length=π.length+1
 |_,[],_=>rfl
 |k,f::π,t=>by simp only [q8,List.length_cons,rL (k+1) π t]
theorem dU (π:List Int) (t:Int):(lu π t).aj.length=π.length+1:=rL 0 π t
theorem nN:∀(k:Nat) (π:List Int) (t:Int) (i:Nat),(q8 k π t)[i]? =if h:i<π.length then some ⟨0,[⟨π[i],(k+i+1:Nat)⟩]⟩ else if i=π.length then some ⟨t,[]⟩ else none
 |k,[],t,0=>by simp [q8]
 |k,[],t,i+1=>by simp [q8]
 |k,f::π,t,0=>by simp [q8]
 |k,f::π,t,i+1=>by
  simp only [q8,List.getElem?_cons_succ,nN (k+1) π t i,List.length_cons,Nat.add_lt_add_iff_right,List.getElem_cons_succ,Nat.add_right_cancel_iff];by_cases h:i<π.length
  ·simp only [h,dite_true]
   congr 4
   omega
  ·simp only [h,dite_false]
theorem uk {π:List Int} {t:Int} {i:Nat} (h:i<π.length):iO (lu π t) i=[(π[i],i+1)]:=by
 unfold iO;have:(lu π t).aj[i]? =some ⟨0,[⟨π[i],(0+i+1:Nat)⟩]⟩:=by
  show (q8 0 π t)[i]? =_;rw [nN,dif_pos h]
 rw [this];simp [Rb]
theorem kV {π:List Int} {t:Int}:iO (lu π t) π.length=[]:=by
 unfold iO;have:(lu π t).aj[π.length]? =some ⟨t,[]⟩:=by
  show (q8 0 π t)[π.length]? =_;rw [nN,dif_neg (Nat.lt_irrefl _),if_pos rfl]
 rw [this];rfl
theorem RI {π:List Int} {t:Int} {i:Nat} (h:i<π.length):pq (lu π t) i=0:=by
 unfold pq;have:(lu π t).aj[i]? =some ⟨0,[⟨π[i],(0+i+1:Nat)⟩]⟩:=by
  show (q8 0 π t)[i]? =_;rw [nN,dif_pos h]
 rw [this]
theorem wk {π:List Int} {t:Int}:pq (lu π t) π.length=t:=by
 unfold pq;have:(lu π t).aj[π.length]? =some ⟨t,[]⟩:=by
  show (q8 0 π t)[π.length]? =_;rw [nN,dif_neg (Nat.lt_irrefl _),if_pos rfl]
 rw [this]
theorem NS:∀(k:Nat) (π:List Int) (t:Int),∀x∈q8 k π t,∀a∈x.cO,0≤a.To
 |_,[],t,x,hx,a,ha=>by simp [q8] at hx;subst hx;cases ha
 |k,f::π,t,x,hx,a,ha=>by
  simp only [q8,List.mem_cons] at hx;rcases hx with rfl|hx
  ·simp at ha;subst ha;show 0≤((k+1:Nat):Int);omega
  ·exact NS (k+1) π t x hx a ha
theorem XD {T F:Nat} (hT:0<T) {π:List Int} {t:Int} (hπ:∀f∈π,0≤f∧f<(F:Int)) (ht:0≤t∧t<(T:Int)):GO T F (kD (lu π t)) (lu π t).aj.length:=by
 rw [dU];refine ⟨fun i hi p hp=> ?_,fun i hi=> ?_,fun i hi p hp=> ?_,fun i hi=> ?_⟩<;>by_cases h:i<π.length
 ·have hp:p∈iO (lu π t) i:=hp
  rw [uk h] at hp;simp at hp;subst hp;show i+1<_;omega
 ·have hp:p∈iO (lu π t) i:=hp
  have e:i=π.length:=by omega
  rw [e,kV] at hp;cases hp
 ·show vc (iO _ i);rw [uk h];exact List.pairwise_singleton _ _
 ·have e:i=π.length:=by omega
  show vc (iO _ i);rw [e,kV];exact vc.nil
 ·have hp:p∈iO (lu π t) i:=hp
  rw [uk h] at hp;simp at hp;subst hp;exact hπ _ (List.getElem_mem h)
 ·have hp:p∈iO (lu π t) i:=hp
  have e:i=π.length:=by omega
  rw [e,kV] at hp;cases hp
 ·show 0≤pq _ i∧pq _ i<_;rw [RI h];omega
 ·have e:i=π.length:=by omega
  show 0≤pq _ i∧pq _ i<_;rw [e,wk];exact ht
theorem Va {π:List Int} {t:Int}:∀(j i k:Nat),π.length=i+j→j<k→lg (iO (lu π t)) k i (List.range i)=List.range (π.length+1):=by
 intro j
 induction j with
 |zero=>
  intro i k hi hk;have e:i=π.length:=by omega
  obtain ⟨k,rfl⟩:∃k',k=k'+1:=⟨k-1,by omega⟩
  rw [lg,if_neg (by simp),e,kV,List.range_succ];rfl
 |succ j ih=>
  intro i k hi hk;obtain ⟨k,rfl⟩:∃k',k=k'+1:=⟨k-1,by omega⟩
  rw [lg,if_neg (by simp),uk (by omega),←List.range_succ];exact ih (i+1) k (by omega) (by omega)
theorem nv {T F:Nat} (hT:0<T) {π:List Int} {t:Int} (hπ:∀f∈π,0≤f∧f<(F:Int)) (ht:0≤t∧t<(T:Int)):Can T F (lu π t):=by
 refine Ck (by rw [dU];omega) (XD hT hπ ht) (NS 0 π t) ?_;rw [dU];exact Va π.length 0 _ (by omega) (by omega)
theorem FY {π:List Int} {t:Int}:∀(i:Nat),i≤π.length→wg (lu π t) (π.take i)=some i:=by
 intro i
 induction i with
 |zero=>intro _;rfl
 |succ i ih=>
  intro hi;rw [List.take_add_one,List.getElem?_eq_getElem (by omega:i<π.length)];refine ug.2 ⟨i,ih (by omega),?_⟩;show Rc (iO _ i) _=_;rw [uk (by omega)];simp [Rc]
theorem UP {C:Gr} {n k:Nat} {π:List Int} (h:vE C n π=some k) (i:Nat):∃j,vE C n (π.take i)=some j∧vE C j (π.drop i)=some k:=by
 rw [←List.take_append_drop i π,wh,Option.bind_eq_some_iff] at h;obtain ⟨j,h1,h2⟩:=h;refine ⟨j,h1,h2⟩
def IK (C:Gr) (π:List Int) (i:Nat):Nat:=(vE C 0 (π.take i)).getD 0
theorem Ld {C:Gr} {k:Nat} {π:List Int} (h:vE C 0 π=some k) (i:Nat):vE C 0 (π.take i)=some (IK C π i):=by
 obtain ⟨j,h1,_⟩:=UP h i;unfold IK;rw [h1];rfl
theorem xE {C:Gr} {k:Nat} {π:List Int} (h:vE C 0 π=some k):IK C π π.length=k:=by
 unfold IK;rw [List.take_length,h];rfl
theorem pM {C:Gr} (hC:Rf C) {k:Nat} {π:List Int} (h:vE C 0 π=some k) {i:Nat} (hi:i<π.length):(π[i],IK C π (i+1))∈C.sc (IK C π i):=by
 have h1:=Ld h (i+1);rw [List.take_add_one,List.getElem?_eq_getElem hi] at h1;obtain ⟨j,h2,h3⟩:=ug.1 h1;rw [Ld h i] at h2;cases h2;exact (pg (hC _)).1 h3
section
variable {T F:Nat} {sb:Int→Int→Prop} (hT:TO T sb) {π:List Int} {t:Int} (hπ:∀f∈π,0≤f∧f<(F:Int)) (ht:0≤t∧t<(T:Int))
include hT hπ ht
theorem RH {C:FSt} (hC:Can T F C):Le sb (lu π t) C↔∃k,wg C π=some k∧sb t (pq C k):=by
 have hT0:0<T:=by omega
 have hc:=nv (F:=F) hT0 hπ ht;constructor
 ·rintro ⟨m,hm⟩
  have e:=FY (π:=π) (t:=t) π.length (Nat.le_refl _);rw [List.take_length] at e;refine ⟨m π.length,J5 hc hC hm e,?_⟩;have:=(hm.2 π.length (hc.Ug (by rw [dU];omega))).1;have e2:(kD (lu π t)).ty π.length=t:=wk;rw [e2] at this;exact this
 ·rintro ⟨k,hk,hs⟩
  refine ⟨IK (kD C) π,by simp [IK,vE],fun i hi=> ?_⟩;have hi2:=hc.UB hi;rw [dU] at hi2;by_cases h:i<π.length
  ·refine ⟨?_,fun p hp=> ?_⟩
   ·show sb (pq (lu π t) i) _
    rw [RI h];have hr:=NI (fun i _=>hC.xG i) _ 0 _ .root (Ld hk i);have:=hC.go.tp _ (hC.UB hr);exact hT.top this.1 this.2
   ·have hp:p∈iO (lu π t) i:=hp
    rw [uk h] at hp;simp at hp;subst hp;exact pM hC.IL hk h
  ·have e:i=π.length:=by omega
   subst e;refine ⟨?_,fun p hp=> ?_⟩
   ·show sb (pq (lu π t) _) _
    rw [wk,xE hk];exact hs
   ·have hp:p∈iO (lu π t) π.length:=hp
    rw [kV] at hp;cases hp
end
theorem U9 {π:List Int} {t:Int} {P:List (List Int)} (h:∀i,i≤π.length→π.take i∈P):K2 (lu π t) P:=fun k hk=>by
 rw [dU] at hk;exact ⟨π.take k,h k (by omega),FY k (by omega)⟩
theorem EW (π:List Int) (t:Int):q8 0 π t=(q8 0 π t).take π.length++[⟨t,[]⟩]:=by
 have h:(q8 0 π t).drop π.length=[⟨t,[]⟩]:=by
  apply List.ext_getElem?;intro i;rw [List.getElem?_drop,nN];cases i with
  |zero=>simp
  |succ i=>rw [dif_neg (by omega),if_neg (by omega)];simp
 rw [←h,List.take_append_drop]
theorem c430 {p:List Int} (hp:p.length≤1000000) (t:Int):f430 p ⟨[⟨t,[]⟩]⟩=some (lu p t):=by
 refine e430 _ _ ?_;have key:∀(k i:Nat),p.length=i+k→Ij p (i:Int) ⟨[⟨t,[]⟩]⟩ ⟨[]⟩ ((q8 0 p t).take i)=some (lu p t):=by
  intro k
  induction k with
  |zero=>
   intro i hi;have e:i=p.length:=by omega
   subst e;refine Th _ _ _ _ _ ?_;rw [cond_neg (by rw [decide_eq_false_iff_not];omega)];refine Ti _ _ _ _ _ ?_;rw [cond_pos (by rfl),eZ,eZ];refine VD _ _ _ _ _ _ _ _ _ _ ?_;rw [cond_neg (by rfl),cM _ (by rw [List.length_take,rL];omega) (by simp) (by omega),←EW];refine Ti _ _ _ _ _ ?_;rw [cond_neg (by rfl)];rfl
  |succ k ih=>
   intro i hi;have hil:i<p.length:=by omega
   refine Th _ _ _ _ _ ?_;rw [cond_pos (by rw [decide_eq_true_iff];omega),ek hil,cM _ (by rw [List.length_take,rL];omega) (by simp) (by omega),cU (by omega)];have:=ih (i+1) (by omega);rw [List.take_add_one,nN,dif_pos hil] at this;simpa using this
 have:=key p.length 0 (by omega);simpa using this
theorem Xw {p:List Int} (hp:p.length≤1000000) (t:Int):f426 p ⟨[⟨t,[]⟩]⟩=some (lu p t):=by
 refine e426 _ _ ?_;have key:∀(k i:Nat),p.length=i+k→Ia p p (p.length:Int) (i:Int) ⟨[⟨t,[]⟩]⟩ ⟨[]⟩ ((q8 0 p t).take i)=some (lu p t):=by
  intro k
  induction k with
  |zero=>
   intro i hi;have e:i=p.length:=by omega
   subst e;refine Tb _ _ _ _ _ _ _ ?_;rw [cond_neg (by rw [decide_eq_false_iff_not];omega)];refine Tc _ _ _ _ _ _ _ ?_;rw [cond_pos (by rfl),eZ];refine VC _ _ _ _ _ _ _ _ _ _ _ _ _ _ ?_;rw [cond_neg (by rfl),cM _ (by rw [List.length_take,rL];omega) (by simp) (by omega),←EW];refine Tc _ _ _ _ _ _ _ ?_;rw [cond_neg (by rfl)];rfl
  |succ k ih=>
   intro i hi;have hil:i<p.length:=by omega
   refine Tb _ _ _ _ _ _ _ ?_;rw [cond_pos (by rw [decide_eq_true_iff];omega),ek hil,cM _ (by rw [List.length_take,rL];omega) (by simp) (by omega),cU (by omega)];have:=ih (i+1) (by omega);rw [List.take_add_one,nN,dif_pos hil] at this;simpa using this
 have:=key p.length 0 (by omega);simpa using this
end Go.Proofs.YthppjmoncapdfaaGreatDoor.cl.pf
set_option linter.unusedVariables false
set_option linter.unusedSimpArgs false
set_option linter.unusedSectionVars false
namespace Go.Proofs.YthppjmoncapdfaaGreatDoor.cl.pf
open Go Go.AM
def K0 (a b:Int):Prop:=a=0∧b=0
theorem UC:TO 1 K0:=⟨fun h=>by have:=h.1;omega,fun h=>by have:=h.2;omega,fun h h'=>⟨by omega,by omega⟩,fun h h'=>⟨h.1,h'.2⟩,fun h h'=>by rw [h.1,h.2],fun h h'=>⟨rfl,by omega⟩⟩
theorem Can.up {T T' F:Nat} {f:FSt} (h:Can T F f) (hT:T≤T'):Can T' F f:=
 ⟨h.ne,⟨h.go.bd,h.go.xG,h.go.ft,fun n hn=>⟨(h.go.tp n hn).1,by have:=(h.go.tp n hn).2;omega⟩⟩,h.eq⟩
structure QS (F:Nat) (A B:List Int) (f:FSt):Prop where
 can:Can 1 F f
 at_:∃k,wg f A=some k∧wg f B=some k
 least:∀(C:FSt) (T':Nat) (sb:Int→Int→Prop),TO T' sb→Can T' F C→(∃k,wg C A=some k∧wg C B=some k)→Le sb f C
theorem QS.uniq {F:Nat} {A B:List Int} {f g:FSt} (h1:QS F A B f) (h2:QS F A B g):f=g:=
 Le.anti UC h1.can h2.can (h1.least g 1 K0 UC h2.can h2.at_) (h2.least f 1 K0 UC h1.can h1.at_)
theorem QS.le {F T:Nat} {sb:Int→Int→Prop} (hT:TO T sb) {A B:List Int} {f C:FSt} (h:QS F A B f) (Zm:1≤T) (hC:Can T F C):Le sb f C↔∃k,wg C A=some k∧wg C B=some k:=by
 constructor
 ·rintro ⟨m,hm⟩
  obtain ⟨k,h1,h2⟩:=h.at_;exact ⟨m k,J5 (h.can.up Zm) hC hm h1,J5 (h.can.up Zm) hC hm h2⟩
 ·exact h.least C T sb hT hC
theorem le_zero {T F:Nat} {sb:Int→Int→Prop} (hT:TO T sb) {f C:FSt} (hf:Can 1 F f) (hC:Can T F C) (h:Le K0 f (Fo C (List.replicate C.aj.length 0))):Le sb f C:=by
 obtain ⟨m,hm⟩:=h;have hl:(List.replicate C.aj.length (0:Int)).length=C.aj.length:=by simp
 have hz:Can 1 F (Fo C (List.replicate C.aj.length 0)):=hC.Fo hl fun i hi=>by
  rw [List.getD_eq_getElem?_getD,List.getElem?_replicate,if_pos hi];simp
 refine ⟨m,hm.1,fun i hi=>⟨?_,fun p hp=> ?_⟩⟩
 ·have h1:=hf.go.tp i (hf.UB hi)
  have e:(kD f).ty i=0:=by omega
  rw [e];have hr:=hz.UB (hm.Ug hi);rw [yD hl] at hr;have:=hC.go.tp _ hr;exact hT.top this.1 this.2
 ·have:=(hm.2 i hi).2 p hp
  have e:(kD (Fo C (List.replicate C.aj.length 0))).sc=(kD C).sc:=HB hl;rw [e] at this;exact this
theorem RF {T F:Nat} {C:FSt} (hC:Can T F C):Can 1 F (Fo C (List.replicate C.aj.length 0)):=hC.Fo (by simp) fun i hi=>by
 rw [List.getD_eq_getElem?_getD,List.getElem?_replicate,if_pos hi];simp
def vI (A B:List Int):List Node:=[⟨0,[]⟩]++(lu A 0).aj.map (V8 1)++(lu B 0).aj.map (V8 (A.length+2))
section
variable {F:Nat} {A B:List Int} (hA:∀f∈A,0≤f∧f<(F:Int)) (hB:∀f∈B,0≤f∧f<(F:Int))
theorem sH:(vI A B).length=A.length+B.length+3:=by
 unfold vI;simp [dU];omega
theorem ZY:(vI A B)[0]? =some ⟨0,[]⟩:=rfl
theorem Wt {i:Nat} (h:i<A.length+1):(vI A B)[i+1]? =some (V8 1 ((lu A 0).aj[i]'(by rw [dU];exact h))):=by
 unfold vI;rw [List.append_assoc,List.singleton_append,List.getElem?_cons_succ,List.getElem?_append_left (by simp [dU];omega),List.getElem?_map,List.getElem?_eq_getElem (by rw [dU];exact h)];rfl
theorem Wu {i:Nat} (h:i<B.length+1):(vI A B)[i+(A.length+2)]? =some (V8 (A.length+2) ((lu B 0).aj[i]'(by rw [dU];exact h))):=by
 unfold vI;rw [List.getElem?_append_right (by simp [dU]),List.getElem?_map];have:i+(A.length+2)-([(⟨0,[]⟩:Node)]++(lu A 0).aj.map (V8 1)).length=i:=by simp [dU]
 rw [this,List.getElem?_eq_getElem (by rw [dU];exact h)];rfl
theorem y6 {x:Nat} (hx:x<A.length+B.length+3):x=0∨(∃i,i<A.length+1∧x=i+1)∨∃i,i<B.length+1∧x=i+(A.length+2):=by
 by_cases h0:x=0
 ·exact .inl h0
 ·by_cases h1:x<A.length+2
  ·exact .inr (.inl ⟨x-1,by omega,by omega⟩)
  ·exact .inr (.inr ⟨x-(A.length+2),by omega,by omega⟩)
include hA hB
theorem Ct {x:Node} (hx:x∈vI A B):AO F (A.length+B.length+3) x.cO∧x.dN=0:=by
 obtain ⟨j,hj⟩:=List.mem_iff_getElem?.1 hx;have hjl:=(List.getElem?_eq_some_iff.1 hj).1;rw [sH] at hjl;have cA:=nv (T:=1) (by omega) hA ⟨Int.le_refl 0,by omega⟩;have cB:=nv (T:=1) (by omega) hB ⟨Int.le_refl 0,by omega⟩;rcases y6 hjl with rfl|⟨i,hi,rfl⟩|⟨i,hi,rfl⟩
 ·rw [ZY] at hj;cases hj
  exact ⟨⟨List.Pairwise.nil,fun a ha=>by cases ha⟩,rfl⟩
 ·rw [Wt hi] at hj;cases hj
  have hm:(lu A 0).aj[i]'(by rw [dU];exact hi)∈(lu A 0).aj:=List.getElem_mem _;have h1:=cA.ao hm;have h2:=cA.tyr hm;have lA:=dU A 0;have lB:=dU B 0;refine ⟨h1.sh (by omega),?_⟩;unfold V8;simp only;omega
 ·rw [Wu hi] at hj;cases hj
  have hm:(lu B 0).aj[i]'(by rw [dU];exact hi)∈(lu B 0).aj:=List.getElem_mem _;have h1:=cB.ao hm;have h2:=cB.tyr hm;have lA:=dU A 0;have lB:=dU B 0;refine ⟨h1.sh (by omega),?_⟩;unfold V8;simp only;omega
theorem NZ {i:Nat} (hi:i<A.length+1):(lG (vI A B)).sc (i+1)=(iO (lu A 0) i).map fun p=>(p.1,p.2+1):=by
 have hl:i+1<(vI A B).length:=by rw [sH];omega
 have e:=(List.getElem?_eq_some_iff.1 (Wt (A:=A) (B:=B) hi)).2;have cA:=nv (T:=1) (by omega) hA ⟨Int.le_refl 0,by omega⟩;have hi':i<(lu A 0).aj.length:=by rw [dU];exact hi
 rw [Ov hl,e,zY hi'];exact W7 (cA.ao (List.getElem_mem hi'))
theorem N0 {i:Nat} (hi:i<B.length+1):(lG (vI A B)).sc (i+(A.length+2))=(iO (lu B 0) i).map fun p=>(p.1,p.2+(A.length+2)):=by
 have hl:i+(A.length+2)<(vI A B).length:=by rw [sH];omega
 have e:=(List.getElem?_eq_some_iff.1 (Wu (A:=A) (B:=B) hi)).2;have cB:=nv (T:=1) (by omega) hB ⟨Int.le_refl 0,by omega⟩;have hi':i<(lu B 0).aj.length:=by rw [dU];exact hi
 rw [Ov hl,e,zY hi'];exact W7 (cB.ao (List.getElem_mem hi'))
theorem F7 {x:Nat} (hx:x<A.length+B.length+3):(lG (vI A B)).ty x=0:=by
 have hl:x<(vI A B).length:=by rw [sH];exact hx
 rw [lG_ty hl];exact (Ct hA hB (List.getElem_mem hl)).2
theorem Vh:(lG (vI A B)).sc 0=[]:=rfl
theorem XL:Bd (lG (vI A B)).sc (A.length+B.length+3):=fun x hx p hp=>by
 have hl:x<(vI A B).length:=by rw [sH];exact hx
 rw [Ov hl] at hp;obtain ⟨a,ha,rfl⟩:=List.mem_map.1 hp;have:=((Ct hA hB (List.getElem_mem hl)).1.ok a ha).2;show a.To.toNat<_;omega
abbrev eqW (A B:List Int):List (Nat×Nat):=[(0,1),(1,A.length+2),(1+A.length,A.length+2+B.length)]
theorem XN {C:FSt} {T':Nat} (hC:Can T' F C) (h:∃k,wg C A=some k∧wg C B=some k):
  Rj K0 (lG (vI A B)) (A.length+B.length+3) (eqW A B) (kD (Fo C (List.replicate C.aj.length 0))) (fun x=>if x=0 then 0 else if x<A.length+2 then IK (kD C) A (x-1) else IK (kD C) B (x-(A.length+2))):=by
 obtain ⟨k,hkA,hkB⟩:=h;have hl:(List.replicate C.aj.length (0:Int)).length=C.aj.length:=by simp
 have esc:(kD (Fo C (List.replicate C.aj.length 0))).sc=(kD C).sc:=HB hl;have ety:∀y,(kD (Fo C (List.replicate C.aj.length 0))).ty y=0:=fun y=>by
  show pq _ y=0;by_cases hy:y<C.aj.length
  ·rw [Nd hl hy,List.getD_eq_getElem?_getD,List.getElem?_replicate,if_pos hy];rfl
  ·unfold pq;rw [List.getElem?_eq_none (by rw [yD hl];omega)]
 have a0:IK (kD C) A 0=0:=rfl;have b0:IK (kD C) B 0=0:=rfl;refine ⟨fun x hx=>⟨F7 hA hB hx,ety _⟩,fun x hx p hp=> ?_,fun p hp=> ?_⟩
 ·rw [esc]
  rcases y6 hx with rfl|⟨i,hi,rfl⟩|⟨i,hi,rfl⟩
  ·rw [Vh hA hB] at hp;cases hp
  ·rw [NZ hA hB hi] at hp
   obtain ⟨q,hq,rfl⟩:=List.mem_map.1 hp;by_cases hi2:i<A.length
   ·rw [uk hi2] at hq;simp at hq;subst hq
    show (A[i],if i+1+1=0 then 0 else if i+1+1<A.length+2 then _ else _)∈(kD C).sc (if i+1=0 then 0 else if i+1<A.length+2 then _ else _);rw [if_neg (by omega),if_pos (by omega),if_neg (by omega),if_pos (by omega)];exact pM hC.IL hkA hi2
   ·have e:i=A.length:=by omega
    rw [e,kV] at hq;cases hq
  ·rw [N0 hA hB hi] at hp
   obtain ⟨q,hq,rfl⟩:=List.mem_map.1 hp;by_cases hi2:i<B.length
   ·rw [uk hi2] at hq;simp at hq;subst hq
    show (B[i],if i+1+(A.length+2)=0 then 0 else if i+1+(A.length+2)<A.length+2 then _ else _)∈(kD C).sc (if i+(A.length+2)=0 then 0 else if i+(A.length+2)<A.length+2 then _ else _);rw [if_neg (by omega),if_neg (by omega),if_neg (by omega),if_neg (by omega),Nat.add_sub_cancel,Nat.add_sub_cancel];exact pM hC.IL hkB hi2
   ·have e:i=B.length:=by omega
    rw [e,kV] at hq;cases hq
 ·simp only [eqW,List.mem_cons,List.not_mem_nil,or_false] at hp
  rcases hp with rfl|rfl|rfl
  ·simp [a0]
  ·simp [a0,b0]
  ·show (if 1+A.length=0 then 0 else if 1+A.length<A.length+2 then _ else _)=(if A.length+2+B.length=0 then 0 else if A.length+2+B.length<A.length+2 then _ else _)
   rw [if_neg (by omega),if_pos (by omega),if_neg (by omega),if_neg (by omega),Nat.add_sub_cancel_left,Nat.add_sub_cancel_left,xE hkA,xE hkB]
theorem XM {G:Gr} {ρ:Nat→Nat} (hU:Wn 1 F K0 (lG (vI A B)) (A.length+B.length+3) (eqW A B) G ρ):QS F A B (iz G (A.length+B.length+3) (ρ 0))∧
  ∀P,(∀i,i≤A.length→A.take i∈P)→(∀i,i<B.length→B.take i∈P)→K2 (iz G (A.length+B.length+3) (ρ 0)) P:=by
 have h0:0<A.length+B.length+3:=by omega
 have hc:=hU.can h0;have cA:=nv (T:=1) (by omega) hA ⟨Int.le_refl 0,by omega⟩;have cB:=nv (T:=1) (by omega) hB ⟨Int.le_refl 0,by omega⟩;have q0:=hU.sol.eq (0,1) (by simp);have q1:=hU.sol.eq (1,A.length+2) (by simp);have q2:=hU.sol.eq (1+A.length,A.length+2+B.length) (by simp);simp only at q0 q1 q2
 have homA:=hU.part UC h0 (A:=kD (lu A 0)) (s:=0) (e:=fun i=>i+1) (fun i hi=>by
  have hi2:=cA.UB hi;rw [dU] at hi2;refine ⟨by show i+1<_;omega,?_,NZ hA hB hi2⟩;have:=cA.tyr (List.getElem_mem (by rw [dU];exact hi2:i<(lu A 0).aj.length));have e2:(kD (lu A 0)).ty i=_:=uX (by rw [dU];exact hi2:i<(lu A 0).aj.length)
  rw [F7 hA hB (by omega),e2];omega) (by show ρ (0+1)=ρ 0;exact q0.symm)
 have homB:=hU.part UC h0 (A:=kD (lu B 0)) (s:=0) (e:=fun i=>i+(A.length+2)) (fun i hi=>by
  have hi2:=cB.UB hi;rw [dU] at hi2;refine ⟨by show i+(A.length+2)<_;omega,?_,N0 hA hB hi2⟩;have:=cB.tyr (List.getElem_mem (by rw [dU];exact hi2:i<(lu B 0).aj.length));have e2:(kD (lu B 0)).ty i=_:=uX (by rw [dU];exact hi2:i<(lu B 0).aj.length)
  rw [F7 hA hB (by omega),e2];omega) (by show ρ (0+(A.length+2))=ρ 0;rw [Nat.zero_add,q0];exact q1.symm)
 have atA:∀i,i≤A.length→wg (iz G (A.length+B.length+3) (ρ 0)) (A.take i)=some ((gj G (A.length+B.length+3) (ρ 0)).idxOf (ρ (i+1))):=fun i hi=>J5 cA hc homA (FY i hi)
 have atB:∀i,i≤B.length→wg (iz G (A.length+B.length+3) (ρ 0)) (B.take i)=some ((gj G (A.length+B.length+3) (ρ 0)).idxOf (ρ (i+(A.length+2)))):=fun i hi=>J5 cB hc homB (FY i hi)
 have q2':ρ (A.length+1)=ρ (B.length+(A.length+2)):=by
  rw [Nat.add_comm A.length 1,Nat.add_comm B.length];exact q2
 refine ⟨⟨hc,⟨(gj G (A.length+B.length+3) (ρ 0)).idxOf (ρ (A.length+1)),?_,?_⟩,fun C T' sb hT hC hk=> ?_⟩,fun P Z7 hPB k hk=> ?_⟩
 ·have:=atA A.length (Nat.le_refl _)
  rw [List.take_length] at this;exact this
 ·have:=atB B.length (Nat.le_refl _)
  rw [List.take_length] at this;rw [q2'];exact this
 ·refine le_zero hT hc hC ?_
  exact hU.le UC h0 (RF hC) (XN hA hB hC hk) (by simp)
 ·obtain ⟨x,hx⟩:=FV hk
  have hm:=List.mem_of_getElem? hx;have hk':=rO (qT hU.go.bd (hU.lt 0 h0)).nd hx;obtain ⟨Sw,Yw⟩:=hU.fix h0 ((G6 hU.go.bd (hU.lt 0 h0)).1 hm);rcases y6 Sw with rfl|⟨i,hi,rfl⟩|⟨i,hi,rfl⟩
  ·refine ⟨[],by have:=Z7 0 (by omega);simpa using this,?_⟩
   have:=atA 0 (by omega);rw [List.take_zero] at this;refine this.trans (congrArg some ?_);rw [←q0];exact (congrArg (fun z=>List.idxOf z (gj G (A.length+B.length+3) (ρ 0))) Yw).trans hk'
  ·exact ⟨A.take i,Z7 i (by omega),by rw [atA i (by omega),Yw,hk']⟩
  ·by_cases hi2:i<B.length
   ·exact ⟨B.take i,hPB i hi2,by rw [atB i (by omega),Yw,hk']⟩
   ·have e:i=B.length:=by omega
    subst e;refine ⟨A.take A.length,Z7 _ (Nat.le_refl _),?_⟩;rw [atA _ (Nat.le_refl _),q2',Yw,hk']
def Rm (F:Nat):Gr:=⟨fun _=>(List.range F).map fun (f:Nat)=>((f:Int),0),fun _=>0⟩
omit hA hB in
theorem BY:Rf (Rm F):=fun x=>by
 show List.Pairwise _ (List.map _ _);rw [List.pairwise_map];exact List.pairwise_lt_range.imp fun h=>by simp only;omega
theorem FJ {W:List (Nat×Nat)}:Rj K0 (lG (vI A B)) (A.length+B.length+3) W (Rm F) (fun _=>0):=by
 refine ⟨fun x hx=>⟨F7 hA hB hx,rfl⟩,fun x hx p hp=> ?_,fun _ _=>rfl⟩;have hl:x<(vI A B).length:=by rw [sH];exact hx
 rw [Ov hl] at hp;obtain ⟨a,ha,rfl⟩:=List.mem_map.1 hp;have:=((Ct hA hB (List.getElem_mem hl)).1.ok a ha).1;exact List.mem_map.2 ⟨a.aP.toNat,List.mem_range.2 (by omega),by show ((a.aP.toNat:Int),0)=(a.aP,0);congr 1;omega⟩
theorem c438 {h:bq} (H:HM h 1 K0) (hF:F≤300) (Zj:A.length≤1000) (QU:B.length≤1000):∃f,f438 h ⟨[⟨0,[]⟩]⟩ A B=some (f,true)∧QS F A B f∧∀P,(∀i,i≤A.length→A.take i∈P)→(∀i,i<B.length→B.take i∈P)→K2 f P:=by
 have cA:=nv (T:=1) (by omega) hA ⟨Int.le_refl 0,by omega⟩;have cB:=nv (T:=1) (by omega) hB ⟨Int.le_refl 0,by omega⟩;have lA:=dU A 0;have lB:=dU B 0;have a1:f442 [⟨0,[]⟩] h.Types h.bV [] [] []=some ((),ids 0 1,[0],[[]]):=by
  rw [Xx (fr:=0) rfl rfl rfl (by simp) (fun x hx=>by simp at hx;subst hx;exact ⟨by simp,fun a ha=>by cases ha⟩)];rfl
 have a2:f442 (lu A 0).aj h.Types h.bV (ids 0 1) [0] [[]]=some ((),ids 0 1++ids 1 (A.length+1),[0]++(lu A 0).aj.map (·.dN),[[]]++(lu A 0).aj.map fun x=>KL 1 x.cO):=by
  rw [Xx (fr:=1) (x5 _ _) rfl rfl (by omega) (cA.small (by omega) (by omega)),lA]
 have a3:f442 (lu B 0).aj h.Types h.bV (ids 0 1++ids 1 (A.length+1)) ([0]++(lu A 0).aj.map (·.dN)) ([[]]++(lu A 0).aj.map fun x=>KL 1 x.cO)=
   some ((),ids 0 (A.length+B.length+3),(vI A B).map (·.dN),(vI A B).map (·.cO)):=by
  rw [Xx (fr:=A.length+2) (by simp [x5];omega) (by simp [lA]) (by simp [lA]) (by omega) (cB.small (by omega) (by omega)),lB];have e1:ids 0 1++ids 1 (A.length+1)++ids (A.length+2) (B.length+1)=ids 0 (A.length+B.length+3):=by
   have x1:=Og 0 1 (A.length+1);have x2:=Og 0 (1+(A.length+1)) (B.length+1);rw [Nat.zero_add] at x1 x2;have x3:1+(A.length+1)=A.length+2:=by omega
   rw [x1];rw [x3] at x2⊢;rw [x2]
   congr 1;omega
  rw [e1];have e2:[0]++(lu A 0).aj.map (·.dN)++(lu B 0).aj.map (·.dN)=(vI A B).map (·.dN):=by
   unfold vI;simp [V8,Function.comp_def]
  have e3:[[]]++((lu A 0).aj.map fun x=>KL 1 x.cO)++((lu B 0).aj.map fun x=>KL (A.length+2) x.cO)=(vI A B).map (·.cO):=by
   unfold vI;simp [V8,Function.comp_def]
  rw [e2,e3]
 have hl:=sH (A:=A) (B:=B);have J0:JI 1 (AO F (A.length+B.length+3)) K0 (lG (vI A B)) (A.length+B.length+3) [] [] (ids 0 (A.length+B.length+3)) ((vI A B).map (·.dN)) ((vI A B).map (·.cO)) id (fun _=>0):=by
  refine JI.init UC.refl rfl (by simpa using hl) (by simpa using hl) (fun x hx=> ?_) (fun x hx=> ?_) (fun x _=>rfl) (fun x _=>rfl)
  ·have hx2:x<(vI A B).length:=by omega
   rw [jB hx2,(Ct hA hB (List.getElem_mem hx2)).2];omega
  ·have hx2:x<(vI A B).length:=by omega
   rw [jB hx2];exact (Ct hA hB (List.getElem_mem hx2)).1
 have Zp:(A.length+B.length+3) *F≤400000000:=by
  have:=Nat.mul_le_mul (by omega:A.length+B.length+3≤10000) hF;omega
 have e0:(0:Int)=((0:Nat):Int):=rfl;have w1:((ids 0 1).length:Int)=((1:Nat):Int):=by rw [x5]
 have w2:((ids 0 1++ids 1 (A.length+1)).length:Int)=((A.length+2:Nat):Int):=by simp [x5];omega
 rcases Xy H (by omega) (by omega:0<A.length+B.length+3) (by omega:1<A.length+B.length+3) Zp J0 with ⟨p1,t1,r1,rep1,d1,j1,J1⟩|⟨_,hno⟩
 ·rcases Xy H (by omega) (by omega:1<A.length+B.length+3) (by omega:A.length+2<A.length+B.length+3) Zp J1 with ⟨p2,t2,r2,rep2,d2,j2,J2⟩|⟨_,hno⟩
  ·rcases Xy H (by omega) (by omega:1+A.length<A.length+B.length+3) (by omega:A.length+2+B.length<A.length+B.length+3) Zp J2 with ⟨p3,t3,r3,rep3,d3,j3,J3⟩|⟨_,hno⟩
   ·obtain ⟨p4,g⟩:=c444 (TL:=h.Types) (FL:=h.bV) (d:=d3) J3.la J3.lt J3.ao J3.pi.rl J3.pi.rr (by omega) (by omega) (by omega:0<A.length+B.length+3) J3.pi
    obtain ⟨s1,s2⟩:=XM hA hB (J3.uni (XL hA hB));refine ⟨_,e438 _ _ _ _ ?_,s1,s2⟩;have v1:IntKind.wrap .i64 (((1:Nat):Int)+(A.length:Int))=((1+A.length:Nat):Int):=by rw [iK (by omega) (by omega)];omega
    have v2:IntKind.wrap .i64 (((A.length+2:Nat):Int)+(B.length:Int))=((A.length+2+B.length:Nat):Int):=by rw [iK (by omega) (by omega)];omega
    rw [e425 0 rfl,aH,Xw (by omega),aH,aH,Xw (by omega),aH,a1,gp,a2,gp,a3,gp,w1,w2,v1,v2,e0,j1,gp,cond_neg (by rfl),j2,gp,cond_neg (by rfl),j3,gp,cond_neg (by rfl),g,gp]
   ·exact (hno (Rm F) _ BY (FJ hA hB)).elim
  ·exact (hno (Rm F) _ BY (FJ hA hB)).elim
 ·exact (hno (Rm F) _ BY (FJ hA hB)).elim
end
end Go.Proofs.YthppjmoncapdfaaGreatDoor.cl.pf
