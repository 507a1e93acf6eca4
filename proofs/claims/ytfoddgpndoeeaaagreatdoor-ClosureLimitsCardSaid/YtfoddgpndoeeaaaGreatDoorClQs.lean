/-
  Sorting: what a sorted permutation is; the merge sort and the insertion sort of strings agree.
-/
import Derived.Test.YtfoddgpndoeeaaaGreatDoorClT
set_option linter.unusedVariables false
set_option linter.unusedSimpArgs false
namespace Go.Proofs.YtfoddgpndoeeaaaGreatDoor.cl
open Go Go.AM Go.RowKit

theorem sorted_uniq {α : Type} {lt : α → α → Bool} : ∀ {l l' : List α}, l.Perm l' → Sorted lt l → Sorted lt l' → (∀ x ∈ l, ∀ y ∈ l, lt x y = false → lt y x = false → x = y) → l = l' := by
  intro l
  induction l with
  | nil => intro l' h _ _ _; exact (List.nil_perm.1 h).symm
  | cons x l ih =>
    intro l' h h1 h2 h3
    cases l' with
    | nil => exact absurd h.symm (by simp)
    | cons y l' =>
      have h1' := List.pairwise_cons.1 h1
      have h2' := List.pairwise_cons.1 h2
      have hxy : x = y := by
        have hy : y ∈ x :: l := h.mem_iff.2 (by simp)
        have hx : x ∈ y :: l' := h.mem_iff.1 (by simp)
        rcases List.mem_cons.1 hy with e | hy'
        · exact e.symm
        · rcases List.mem_cons.1 hx with e | hx'
          · exact e
          · exact h3 x (by simp) y hy (h2'.1 x hx') (h1'.1 y hy')
      subst hxy
      rw [ih (List.Perm.cons_inv h) h1'.2 h2'.2 fun a ha b hb => h3 a (by simp [ha]) b (by simp [hb])]
theorem isortQ_spec {α : Type} (lt : α → α → Bool) (asymm : ∀ a b, lt a b = true → lt b a = false) (up : ∀ x y z, lt x y = true → lt z y = false → lt x z = true) (l : List α) : Sorted lt (isort lt l) ∧ (isort lt l).Perm l := by
  have ins : ∀ (x : α) (l : List α), (insL lt x l).Perm (x :: l) := by
    intro x l
    induction l with
    | nil => exact .refl _
    | cons y l ih =>
      unfold insL
      split
      · exact .refl _
      · exact (ih.cons y).trans (.swap x y l)
  have key : ∀ (l E : List α), Sorted lt E → Sorted lt (l.foldl (fun out x => insL lt x out) E) ∧ (l.foldl (fun out x => insL lt x out) E).Perm (E ++ l) := by
    intro l
    induction l with
    | nil => intro E hE; exact ⟨hE, by simp⟩
    | cons p l ih =>
      intro E hE
      obtain ⟨h1, h2⟩ := ih _ (insL_sorted lt asymm up hE (x := p))
      refine ⟨h1, h2.trans ?_⟩
      exact ((ins p E).append_right l).trans (List.perm_middle (a := p) (l₁ := E) (l₂ := l)).symm
  have := key l [] (by simp [Sorted])
  simpa [isort] using this
theorem bl_up' (x y z : List UInt8) (h : Op.bytesLess x y = true) (h' : Op.bytesLess z y = false) : Op.bytesLess x z = true := by
  by_cases e : z = y
  · rw [e]; exact h
  · exact bl_trans _ _ _ h (bl_total _ _ h' e)
end Go.Proofs.YtfoddgpndoeeaaaGreatDoor.cl
