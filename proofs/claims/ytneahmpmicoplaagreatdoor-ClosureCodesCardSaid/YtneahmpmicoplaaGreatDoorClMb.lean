/-
  The Closure laws: Codes, Meets, Orders, Declared.
-/
import Derived.Test.YtneahmpmicoplaaGreatDoorClNe
import Derived.Test.YtneahmpmicoplaaGreatDoorClCr
set_option linter.unusedVariables false
set_option linter.unusedSimpArgs false
set_option linter.unusedSectionVars false
namespace Go.Proofs.YtneahmpmicoplaaGreatDoor.cl
open Go Go.AM
theorem h16 (l : List Coded) (hl : l.length ≤ 1048576) (hc : ∀ c ∈ l, c.Code.length ≤ 1048576) : ∀ (xs : List Coded) (i : Nat), l.drop i = xs → t16_4 l l i = some true := by
  intro xs
  induction xs with
  | nil => intro i h; refine k16_4 _ _ _ ?_; rw [end_drop h]; rfl
  | cons x xs ih =>
    intro i h
    refine k16_4 _ _ _ ?_
    have hx := hc x (List.mem_of_getElem? (drop_get h))
    rw [in_drop h, cond_true, at_drop h, at_drop h, cond_neg (by simp), at_drop h, at_drop h, c57 _ _ (by omega), bind_some', cond_neg (by simp), wrap_drop h (by omega)]
    exact ih (i + 1) (drop_next h)
theorem c16 (l : List Coded) (hl : l.length ≤ 1048576) (hc : ∀ c ∈ l, c.Code.length ≤ 1048576) : f16 l l = some true := by
  refine e16 _ _ ?_
  rw [cond_neg (by simp)]
  exact h16 l hl hc l 0 rfl
/-- ClosureCodes -/
theorem law3 {d : List TypeDecl} : f3 d = some true := by
  refine e3 _ ?_
  rw [c12, bind_some']
  cases hL : (lightB d && decide (d.length ≤ 12)) with
  | false => rw [Bool.not_false, cond_true, c13]; rfl
  | true =>
    obtain ⟨z, hlen⟩ := light_sz hL
    rw [Bool.not_true, cond_false, i14 z (by omega), c15 z (by omega), bind_some', bind_some', cond_pos (by simp)]
    rw [c16 _ (by
      split
      · simp
      · split
        · simp
        · rename_i h0 h1
          have h0' : chk d = 0 := Classical.byContradiction h0
          have := (cd_ents (acc_of_chk h0') (by omega) (by omega)).len
          simpa using this) (fun c hc => by
      have : c ∈ (ents d).map toC := by
        split at hc
        · cases hc
        · split at hc
          · cases hc
          · exact hc
      obtain ⟨p, _, rfl⟩ := List.mem_map.1 this
      have := e1_length p.2
      show (e1 p.2).length ≤ 1048576
      omega), bind_some', cond_true, c13]; rfl
end Go.Proofs.YtneahmpmicoplaaGreatDoor.cl
