/-
  The closed facts on the program that all rows share.
-/
import Derived.Test.YthphfjcnkinkpaaGreatDoorCards
import Derived.Test.YthphfjcnkinkpaaGreatDoorTie
import Derived.ProofKit
import Derived.KernelRfl
set_option maxRecDepth 100000
set_option linter.all false
namespace Go.Proofs.YthphfjcnkinkpaaGreatDoor.cl
open Go
theorem band {a b : Bool} (h : a = true) (k : b = true) : (a && b) = true := by rw [h, k]; rfl
theorem fact1 : (laidOutB Tryz.pinned.checked.prog) = true := by kernel_rfl
theorem fact2 : (mapsRowed Tryz.pinned.checked.prog) = true := by kernel_rfl
theorem fact6 : ((Tryz.pinned.checked.prog.stops == [])) = true := by kernel_rfl
theorem fact8 : ((Tryz.pinned.checked.prog.stopKnobs == [])) = true := by kernel_rfl
theorem fact22 : ((Rows.buildListsUptoRow.plainKeys == Tryz.pinned.checked.prog.plainKeys)) = true := by kernel_rfl
theorem fact24 : (Tryz.pinned.checked.prog.stopsHeard) = true := by kernel_rfl
theorem fact25 : (Tryz.pinned.checked.prog.mayEnter) = true := by kernel_rfl
theorem fact26 : ((Rows.buildListsUptoRow.lifted == Tryz.pinned.checked.prog.liftsFinal)) = true := by kernel_rfl
theorem fact27 : ((Tryz.pinned.checked.prog.make == some Rows.buildListsUptoRow.make)) = true := by kernel_rfl
theorem mainIs : Tryz.pinned.checked.prog.mainIs = some (Rows.buildListsUptoCard.stood.harness.1, Rows.buildListsUptoCard.stood.harness.2.toList) := by kernel_rfl
theorem no_go : Tryz.pinned.checked.prog.funcs.any Func.goes = false := by kernel_rfl
theorem goes_none {P : Program} (h : P.funcs.any Func.goes = false) (s : Start) (f : String) : false = P.goesAt s f := by
  have h1 : ∀ g : FuncId, (P.funcs[g]?).any Func.goes = false := fun g => by
    cases e : P.funcs[g]? with
    | none => rfl
    | some x =>
      obtain ⟨hg, e⟩ := Array.getElem?_eq_some_iff.1 e
      have := Array.any_eq_false.1 h g hg
      rw [e] at this; simpa using this
  have h2 : ∀ g : FuncId, P.goes g = false := fun g => by
    unfold Program.goes
    rw [h, Bool.and_false, Bool.or_false, List.any_eq_false]
    exact fun x _ => by rw [h1 x]; simp
  unfold Program.goesAt Program.goesFrom
  have h3 : ∀ o : Option FuncId, o.any P.goes = false := fun o => by
    cases o with
    | none => rfl
    | some x => exact h2 x
  rw [h3]
  cases s with
  | entering => rfl
  | _ => exact (List.any_eq_false.2 fun x _ => by rw [h2 x]; simp).symm
end Go.Proofs.YthphfjcnkinkpaaGreatDoor.cl
