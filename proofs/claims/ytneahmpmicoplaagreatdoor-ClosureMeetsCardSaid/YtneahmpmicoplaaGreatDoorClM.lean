/-
  The Closure laws: Finds, Relations, Chains.
-/
import Derived.Test.YtneahmpmicoplaaGreatDoorClL
import Derived.Test.YtneahmpmicoplaaGreatDoorClX
set_option linter.unusedVariables false
set_option linter.unusedSimpArgs false
set_option linter.unusedSectionVars false
namespace Go.Proofs.YtneahmpmicoplaaGreatDoor.cl
open Go Go.AM
theorem c13 : f13 = some true := dec_some example13
theorem light_sz {d : List TypeDecl} (h : (lightB d && decide (d.length ≤ 12)) = true) : Sz d ∧ d.length ≤ 12 := by
  simp only [lightB, Bool.and_eq_true, decide_eq_true_eq, List.all_eq_true] at h
  exact ⟨⟨by omega, fun t ht => by have := (h.1.2 t ht).1; omega⟩, h.2⟩
theorem tmod_u8 {i : Int} (h0 : 0 ≤ i) (h1 : i ≤ 255) {n : Nat} (hn : 0 < n) : ∃ a : Nat, a < n ∧ Int.tmod (IntKind.wrap .i64 i) (n : Int) = (a : Int) := by
  refine ⟨i.toNat % n, Nat.mod_lt _ hn, ?_⟩
  rw [wrap64_id (by omega) (by omega), Int.tmod_eq_emod_of_nonneg h0]
  have : i = ((i.toNat : Nat) : Int) := by omega
  rw [this]; simp
/-- accepted declarations -/
structure Ok (d : List TypeDecl) : Prop where
  z : Sz d
  acc : Acc d
  len : d.length ≤ 12
  le : (fam (cws d)).length ≤ 256
noncomputable def tys (d : List TypeDecl) : List Nat := (ents d).map (·.2)
theorem tys_length {d : List TypeDecl} : ((ents d).map toC).length = (tys d).length := by simp [tys]
theorem Ok.hier {d : List TypeDecl} (h : Ok d) : Hier (tys d) := cl.hier h.acc (by have := h.len; omega) h.le
theorem Ok.cd {d : List TypeDecl} (h : Ok d) : Cd ((ents d).map toC) (tys d) := cd_ents h.acc (by have := h.len; omega) h.le
theorem c17 {d : List TypeDecl} {i j : Int} (hi0 : 0 ≤ i) (hi1 : i ≤ 255) (hj0 : 0 ≤ j) (hj1 : j ≤ 255) : f17 d i j = some ([], 0, 0, false) ∨ (Ok d ∧ ∃ a b : Nat, a < (tys d).length ∧ b < (tys d).length ∧ f17 d i j = some ((ents d).map toC, (a : Int), (b : Int), true)) := by
  cases hL : (lightB d && decide (d.length ≤ 12)) with
  | false => left; refine e17 _ _ _ ?_; rw [c12, hL]; rfl
  | true =>
    obtain ⟨z, hlen⟩ := light_sz hL
    by_cases h0 : chk d = 0
    · by_cases h1 : (fam (cws d)).length > 256
      · left
        refine e17 _ _ _ ?_
        rw [c12, hL, bind_some', c15 z (by omega), if_neg (by simpa using h0), if_pos h1]; rfl
      · right
        have ok : Ok d := ⟨z, acc_of_chk h0, hlen, by omega⟩
        have hpos := ok.hier.pos
        have hl := tys_length (d := d)
        obtain ⟨a, ha, ea⟩ := tmod_u8 hi0 hi1 hpos
        obtain ⟨b, hb, eb⟩ := tmod_u8 hj0 hj1 hpos
        refine ⟨ok, a, b, ha, hb, ?_⟩
        refine e17 _ _ _ ?_
        rw [c12, hL, bind_some', c15 z (by omega), if_neg (by simpa using h0), if_neg h1, bind_some']
        rw [Bool.not_true, cond_false, cond_neg (by simp), hl, check_pos (by omega), check_pos (by omega), ea, eb]
    · left
      refine e17 _ _ _ ?_
      rw [c12, hL, bind_some', c15 z (by omega), if_pos h0, bind_some', Bool.not_true, cond_false, cond_pos (by simpa using h0)]
/-! ClosureChains -/
section
variable {l : List Coded} {cs : List Nat} (H : Cd l cs) (K : Hier cs) {a : Nat} (ha : a < cs.length)
/-- what is known of the list of types to do, and of the marks -/
structure Inv (cs : List Nat) (a n : Nat) (rd : List Bool) (todo : List Nat) : Prop where
  rl : rd.length = cs.length
  nd : todo.Nodup
  lt : ∀ x ∈ todo, x < cs.length
  mark : ∀ x, x < cs.length → (rd.getD x false = true ↔ x ∈ todo)
  start : a ∈ todo
  up : ∀ x ∈ todo, sub (cs.getD a 0) (cs.getD x 0) = true
  done : ∀ m x, m < n → todo[m]? = some x → ∀ k ∈ sups cs x, k ∈ todo
include H K ha
end
/-! ClosureLaws -/
end Go.Proofs.YtneahmpmicoplaaGreatDoor.cl
