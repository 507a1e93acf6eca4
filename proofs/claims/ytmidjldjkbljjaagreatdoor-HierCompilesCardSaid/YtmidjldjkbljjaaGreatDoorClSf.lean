/- Layer 5. -/
import Derived.Test.YtmidjldjkbljjaaGreatDoorClSd
set_option linter.unusedVariables false
set_option linter.unusedSimpArgs false
set_option linter.unusedSectionVars false
namespace Go.AM
end Go.AM
namespace Go.Proofs.YtmidjldjkbljjaaGreatDoor.cl
open Go Go.AM
inductive Wf (v:List (List au)):Nat→Prop
 |mk (i:Nat):(∀x∈v.getD i [],Wf v x.Value.toNat)→Wf v i
structure Vz (v:List (List au)):Prop where
 len:v.length≤1000
 row:∀r∈v,r.length≤20
 val:∀r∈v,∀x∈r,0≤x.Value∧x.Value<(v.length:Int)
structure Lf (n:Nat) (o:List (Int×Bool)) (S:Nat→Bool):Prop where
 nd:(o.map Prod.fst).Nodup
 at_:∀i:Nat,getM o (i:Int)=if i<n∧S i=true then some true else none
 neg:∀k:Int,k<0→getM o k=none
section
variable {v:List (List au)} (Z:Vz v)
include Z
end
end Go.Proofs.YtmidjldjkbljjaaGreatDoor.cl
set_option linter.unusedVariables false
set_option linter.unusedSimpArgs false
set_option linter.unusedSectionVars false
namespace Go.Proofs.YtmidjldjkbljjaaGreatDoor.cl
open Go Go.AM
theorem UW {d:List af} {w:Nat}:∀(l:List aT) (k:Nat),∀x∈kG d w l k,(k:Int)≤x.cF:=by
 intro l
 induction l with
 |nil=>intro k x hx;cases hx
 |cons F l ih=>
  intro k x hx;unfold kG at hx;cases h:inh d w F with
  |none=>
   rw [h] at hx;have:=ih (k+1) x hx;omega
  |some c=>
   rw [h] at hx;rcases List.mem_cons.1 hx with rfl|hx
   ·simp
   ·have:=ih (k+1) x hx
    omega
theorem Pg {d:List af} {w:Nat}:∀(l:List aT) (k j:Nat) (F:aT),l[j]? =some F→(kG d w l k).find? (fun x=>x.cF==((k+j:Nat):Int))=(inh d w F).map fun c=>(⟨((k+j:Nat):Int),tU (tys d) c⟩:au):=by
 intro l
 induction l with
 |nil=>intro k j F h;simp at h
 |cons G l ih=>
  intro k j F h;unfold kG;cases j with
  |zero=>
   have:G=F:=by simpa using h
   subst this;cases hG:inh d w G with
   |none=>
    simp only [Option.map_none];rw [List.find?_eq_none];intro x hx;have:=UW l (k+1) x hx;simp only [beq_iff_eq];omega
   |some c=>
    simp only [List.find?_cons,Nat.add_zero,beq_self_eq_true,Option.map_some]
  |succ j=>
   have h':l[j]? =some F:=by simpa using h
   have hr:=ih (k+1) j F h';have e:k+1+j=k+(j+1):=by omega
   rw [e] at hr;cases hG:inh d w G with
   |none=>exact hr
   |some c=>
    simp only [List.find?_cons];rw [show ((k:Int)==((k+(j+1):Nat):Int))=false by rw [beq_eq_false_iff_ne];omega];exact hr
theorem JN {d:List af} {T:Nat} (hT:T<(tys d).length):∃h:T<(uS d).length,(uS d)[T]=kG d ((tys d).getD T 0) (eR d) 0:=by
 refine ⟨by rw [Pv];exact hT,?_⟩;unfold uS;rw [List.getElem_map]
 congr 1
 rw [List.getD_eq_getElem?_getD,List.getElem?_eq_getElem hT];rfl
end Go.Proofs.YtmidjldjkbljjaaGreatDoor.cl
