/-
  The Closure laws: Finds, Relations, Chains.
-/
import Derived.Test.YtneahmpmicoplaaGreatDoorClL
import Derived.Test.YtneahmpmicoplaaGreatDoorClX
set_option linter.unusedVariables false
set_option linter.unusedSimpArgs false
set_option linter.unusedSectionVars false
namespace Go.Proofs.YtneahmpmicoplaaGreatDoor.cl
open Go Go.AM
theorem c13 : f13 = some true := dec_some example13
theorem light_sz {d : List TypeDecl} (h : (lightB d && decide (d.length ≤ 12)) = true) : Sz d ∧ d.length ≤ 12 := by
  simp only [lightB, Bool.and_eq_true, decide_eq_true_eq, List.all_eq_true] at h
  exact ⟨⟨by omega, fun t ht => by have := (h.1.2 t ht).1; omega⟩, h.2⟩
/-- accepted declarations -/
structure Ok (d : List TypeDecl) : Prop where
  z : Sz d
  acc : Acc d
  len : d.length ≤ 12
  le : (fam (cws d)).length ≤ 256
noncomputable def tys (d : List TypeDecl) : List Nat := (ents d).map (·.2)
theorem tys_length {d : List TypeDecl} : ((ents d).map toC).length = (tys d).length := by simp [tys]
/-! ClosureChains -/
section
variable {l : List Coded} {cs : List Nat} (H : Cd l cs) (K : Hier cs) {a : Nat} (ha : a < cs.length)
/-- what is known of the list of types to do, and of the marks -/
structure Inv (cs : List Nat) (a n : Nat) (rd : List Bool) (todo : List Nat) : Prop where
  rl : rd.length = cs.length
  nd : todo.Nodup
  lt : ∀ x ∈ todo, x < cs.length
  mark : ∀ x, x < cs.length → (rd.getD x false = true ↔ x ∈ todo)
  start : a ∈ todo
  up : ∀ x ∈ todo, sub (cs.getD a 0) (cs.getD x 0) = true
  done : ∀ m x, m < n → todo[m]? = some x → ∀ k ∈ sups cs x, k ∈ todo
include H K ha
end
/-! ClosureLaws -/
end Go.Proofs.YtneahmpmicoplaaGreatDoor.cl
