/-
  The Closure laws: what the comparator of closure.Codes answers.
-/
import Derived.Test.YtfoddgpndoeeaaaGreatDoorClCq
import Derived.Test.YtfoddgpndoeeaaaGreatDoorClPd
set_option linter.unusedVariables false
set_option linter.unusedSimpArgs false
namespace Go.Proofs.YtfoddgpndoeeaaaGreatDoor.cl
open Go Go.AM
namespace cq
theorem i69 {x : Nat} (hx : x < 18446744073709551616) : f69 (x : Int) = some ((cntN 64 x : Nat) : Int) := by
  obtain ⟨p1, p2, p3, p4, p5⟩ := pop.pop_eq hx
  obtain ⟨k1, k2, k3⟩ := pop.fold_parts p5
  refine e69 _ ?_
  rw [check_pos (by decide), check_pos (by decide), check_pos (by decide), check_pos (by decide), check_pos (by decide), check_pos (by decide)]
  rw [pop.t1 hx p2, pop.t2 p2 p3, pop.t3 p4, pop.t48 k1, pop.t416 k2, pop.t432 (by rw [← k3]; omega), ← k3, pop.t5 p5, p1]
def wl (w : Nat) : List Int := bif Nat.beq w 0 then [] else [(w : Int)]
theorem beq0 {w : Nat} (h : w ≠ 0) : Nat.beq w 0 = false := by
  cases hc : Nat.beq w 0 with
  | false => rfl
  | true => exact absurd (Nat.eq_of_beq_eq_true hc) h
theorem i30 {w : Nat} (hw : w < 18446744073709551616) : f30 (wl w) = some ((cntN 64 w : Nat) : Int) := by
  refine e30 _ ?_
  by_cases h0 : w = 0
  · subst h0
    show t30_3 0 [] 0 0 = some 0
    refine k30_3 _ _ _ _ ?_
    rfl
  · have e : wl w = [(w : Int)] := by unfold wl; rw [beq0 h0]; rfl
    have hle := pop.cntN_le 64 w
    rw [e]
    refine k30_3 _ _ _ _ ?_
    rw [cond_pos (by simp), show (0 : Int) = ((0 : Nat) : Int) from rfl, getK_nat (x := (w : Int)) (by simp), i69 hw, bind_some']
    refine k30_3 _ _ _ _ ?_
    rw [wrap_succ (by omega), cond_neg (by simp), wrap64_id (by omega) (by omega)]; simp
def cmpE (p q : EntW) : Int :=
  if cntN 64 q.2 < cntN 64 p.2 then -1 else if cntN 64 p.2 < cntN 64 q.2 then 1 else if Op.bytesLess p.1 q.1 = true then -1 else if p.1 = q.1 then 0 else 1
def tc (p : EntW) : Coded := ⟨p.1, wl p.2⟩
theorem i48 {p q : EntW} (hp : p.2 < 18446744073709551616) (hq : q.2 < 18446744073709551616) : f392 (tc p) (tc q) = some (cmpE p q) := by
  refine e392 _ _ ?_
  show Option.bind (f30 (wl q.2)) _ = _
  rw [i30 hq, bind_some']
  show Option.bind (f30 (wl p.2)) _ = _
  rw [i30 hp, bind_some']
  have h96 : ∀ x : Int, f396 x = some false := fun x => e396 _ (by simp)
  have h97 : ∀ x : List UInt8, f97 x = some false := fun x => e97 _ (by simp)
  have h50 : ∀ x y : Int, f393 x y = some (if x < y then -1 else if y < x then 1 else 0) := by
    intro x y
    refine e393 _ _ ?_
    rw [h96, bind_some', h96, bind_some', cond_false, cond_false]
    by_cases h1 : x < y
    · rw [cond_pos (by simpa using h1), if_pos h1]
    · rw [cond_neg (by simpa using h1), if_neg h1]
      by_cases h2 : y < x
      · rw [cond_pos (by simpa using h2), if_pos h2]
      · rw [cond_neg (by simpa using h2), if_neg h2]
  have h51 : ∀ x y : List UInt8, f394 x y = some (if Op.bytesLess x y = true then -1 else if x = y then 0 else 1) := by
    intro x y
    refine e394 _ _ ?_
    rw [h97, bind_some', h97, bind_some', cond_false, cond_false]
    by_cases h1 : Op.bytesLess x y = true
    · rw [cond_pos h1, if_pos h1]
    · have h1' : Op.bytesLess x y = false := by simpa using h1
      rw [cond_neg h1', if_neg h1, h1', Bool.false_or]
      by_cases h2 : x = y
      · rw [cond_neg (by simp [h2]), if_pos h2]
      · rw [cond_pos (by simp [h2]), if_neg h2]
  have h49 : ∀ x y : Int, f395 [x, y] = some (if x ≠ 0 then x else y) := by
    intro x y
    refine e395 _ ?_
    refine k395_3 _ _ _ _ ?_
    rw [cond_pos (by simp), show (0 : Int) = ((0 : Nat) : Int) from rfl, getK_nat (x := x) (by simp)]
    by_cases h1 : x = 0
    · rw [cond_neg (by simp [h1]), if_neg (by simp [h1]), wrap_succ (by omega)]
      refine k395_3 _ _ _ _ ?_
      rw [cond_pos (by simp), getK_nat (x := y) (by simp)]
      by_cases h2 : y = 0
      · rw [cond_neg (by simp [h2]), wrap_succ (by omega)]
        refine k395_3 _ _ _ _ ?_
        rw [cond_neg (by simp), h2]; rfl
      · rw [cond_pos (by simp [h2])]
    · rw [cond_pos (by simp [h1]), if_pos (by simp [h1])]
  rw [h50, bind_some']
  show Option.bind (f394 p.1 q.1) _ = _
  rw [h51, bind_some', h49, bind_some']
  unfold cmpE
  generalize cntN 64 q.2 = b
  generalize cntN 64 p.2 = a
  by_cases h1 : b < a
  · rw [if_pos (show ((b : Nat) : Int) < ((a : Nat) : Int) by omega), if_pos h1, if_pos (by decide)]
  · rw [if_neg (show ¬ ((b : Nat) : Int) < ((a : Nat) : Int) by omega), if_neg h1]
    by_cases h2 : a < b
    · rw [if_pos (show ((a : Nat) : Int) < ((b : Nat) : Int) by omega), if_pos h2, if_pos (by decide)]
    · rw [if_neg (show ¬ ((a : Nat) : Int) < ((b : Nat) : Int) by omega), if_neg h2, if_neg (by decide)]
theorem cmpE_lt (p q : EntW) : decide (cmpE p q < 0) = ltC p q := by
  unfold cmpE ltC
  by_cases h1 : cntN 64 q.2 < cntN 64 p.2
  · have : Nat.blt (cntN 64 q.2) (cntN 64 p.2) = true := Nat.ble_eq_true_of_le h1
    rw [if_pos h1, this]; rfl
  · have hb : Nat.blt (cntN 64 q.2) (cntN 64 p.2) = false := by
      cases hc : Nat.blt (cntN 64 q.2) (cntN 64 p.2) with
      | false => rfl
      | true => exact absurd (Nat.le_of_ble_eq_true hc) h1
    rw [if_neg h1, hb, Bool.false_or]
    by_cases h2 : cntN 64 p.2 < cntN 64 q.2
    · have he : Nat.beq (cntN 64 p.2) (cntN 64 q.2) = false := by
        cases hc : Nat.beq (cntN 64 p.2) (cntN 64 q.2) with
        | false => rfl
        | true => have := Nat.eq_of_beq_eq_true hc; omega
      rw [if_pos h2, he]; rfl
    · have he : Nat.beq (cntN 64 p.2) (cntN 64 q.2) = true := by
        rw [show cntN 64 p.2 = cntN 64 q.2 by omega]; exact Nat.beq_refl _
      rw [if_neg h2, he, Bool.true_and]
      cases hl : Op.bytesLess p.1 q.1 with
      | true => rw [if_pos rfl]; rfl
      | false =>
        rw [if_neg (by simp)]
        by_cases h3 : p.1 = q.1
        · rw [if_pos h3]; rfl
        · rw [if_neg h3]; rfl
end cq
end Go.Proofs.YtfoddgpndoeeaaaGreatDoor.cl
