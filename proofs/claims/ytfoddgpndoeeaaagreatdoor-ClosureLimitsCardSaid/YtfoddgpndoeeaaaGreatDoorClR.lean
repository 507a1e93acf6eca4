/-
  ClosureLimits: reading the argument.
-/
import Derived.Test.YtfoddgpndoeeaaaGreatDoorClT
import Derived.Test.YtfoddgpndoeeaaaGreatDoorAmR
import Derived.Test.YtfoddgpndoeeaaaGreatDoorRows
set_option linter.unusedVariables false
set_option linter.unusedSimpArgs false
set_option maxRecDepth 100000
namespace Go.Proofs.YtfoddgpndoeeaaaGreatDoor.cl
open Go Go.AM Go.RowKit Go.ChangeShapes Go.WideShapes Go.ChangeAt

theorem exists_map {T : Type} {en : T → List AV} : ∀ {xs : List (List AV)}, (∀ x ∈ xs, ∃ y : T, x = en y) → ∃ l : List T, xs = l.map en := by
  intro xs
  induction xs with
  | nil => intro _; exact ⟨[], rfl⟩
  | cons x xs ih =>
    intro h
    obtain ⟨y, rfl⟩ := h x (by simp)
    obtain ⟨l, rfl⟩ := ih fun z hz => h z (by simp [hz])
    exact ⟨y :: l, rfl⟩

section
variable {H : Type} {enc : TypeId × Value → H} {w : World}
theorem bulks : BulkLike (H := H) Rows.uptoBulk Rows.uptoBulkAll where
  str := fun _ => rfl
  lit := fun l => by cases l <;> simp [Rows.uptoBulk]
  nil := by simp [Rows.uptoBulk]
  slice := fun _ _ => by simp [Rows.uptoBulk]
  agg := fun _ => by simp [Rows.uptoBulk]
  nilA := by simp [Rows.uptoBulkAll]
  consA := fun _ _ => by simp [Rows.uptoBulkAll]
end
/-- a byte, read -/
theorem wf_u8 {x : Int} (h : (AV.int .u8 x).wf) : 0 ≤ x ∧ x ≤ 255 := by
  have h' : (decide (IntKind.min .u8 ≤ x) && decide (x ≤ IntKind.max .u8)) = true := by
    rw [AV.wf] at h; exact h
  simp only [Bool.and_eq_true, decide_eq_true_eq] at h'
  exact h'
section
variable {H : Type} {enc : TypeId × Value → H} {w : World} {base : Nat} {rch : Reach}
theorem arg_u8 {v : Value} {d : DataW H} {ps : List MemPlace} (hok : Value.okWide Tryz.prog w rch base 5 v) (hd : DataW.Trod enc Tryz.prog w 0 (fun _ => true) true 5 v d ps) : ∃ x : Int, rep (muW w) (.int .u8 x) v ∧ 0 ≤ x ∧ x ≤ 255 := by
  obtain ⟨n, rfl⟩ := okWide_int Tryz.underlying5 hok
  obtain ⟨a, ⟨x, hl⟩, hr, _, hw⟩ := arg_one rfl hd (fun n => rd_int bulks (n := n) Tryz.underlying5)
  simp only [eInt, List.cons.injEq, and_true] at hl
  subst hl
  exact ⟨x, hr, wf_u8 hw⟩
end
end Go.Proofs.YtfoddgpndoeeaaaGreatDoor.cl
