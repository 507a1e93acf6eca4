/-
  RankOrders: functions of which only this is asked, that they return; and what Check accepts.
-/
import Derived.Test.YtogpflcfahjafaaRkE
set_option linter.unusedVariables false
set_option linter.unusedSimpArgs false
namespace Go.Proofs.Ytogpflcfahjafaa.rk
open Go Go.AM

theorem ex_of {T : Type} {enc : T → AV} {X Y : Option Out} (f : ∀ {r : Out}, X = some r → Y = some r) (h : ∃ b, X = some (enc b, [])) : ∃ b, Y = some (enc b, []) := h.imp fun b hb => f hb
theorem ex_cond {T : Type} {enc : T → AV} {X Y : Option Out} {c : Bool} (h : c = true → ∃ b, X = some (enc b, [])) (k : c = false → ∃ b, Y = some (enc b, [])) : ∃ b, (bif c then X else Y) = some (enc b, []) := by
  cases c with
  | true => exact h rfl
  | false => exact k rfl

theorem c39 (c : Int) : ∃ b, Rn 39 [.pv (.int .u8 c)] [] = some (R39.enc b, []) := by
  refine ex_of (b39 c) ?_
  repeat' first | exact ⟨_, rfl⟩ | (apply ex_cond <;> intro _)
theorem c46 (c : Int) : ∃ b, Rn 46 [.pv (.int .u8 c)] [] = some (R46.enc b, []) := by
  refine ex_of (b46 c) ?_
  repeat' first | exact ⟨_, rfl⟩ | (apply ex_cond <;> intro _)
theorem c47 (c : Int) : ∃ b, Rn 47 [.pv (.int .u8 c)] [] = some (R47.enc b, []) := by
  refine ex_of (b47 c) ?_
  repeat' first | exact ⟨_, rfl⟩ | (apply ex_cond <;> intro _)
theorem c40 (c : Int) (b : Bool) : ∃ b', Rn 40 [.pv (.int .u8 c), .pv (.bool b)] [] = some (R40.enc b', []) := by
  obtain ⟨x1, h1⟩ := c39 c
  obtain ⟨x2, h2⟩ := c46 c
  obtain ⟨x3, h3⟩ := c47 c
  refine ex_of (b40 c b) ?_
  simp only [h1, h2, h3, callE_some', asE_enc]
  repeat' first | exact ⟨_, rfl⟩ | (apply ex_cond <;> intro _)
theorem h30 (s : List UInt8) (b : Bool) (hs : s.length ≤ 1073741824) : ∀ (n i : Nat), s.length - i = n → ∃ b', headT P cods H prim 30 4 [] [(0, (.pv (.str s))), (1, (.pv (.bool b))), (5, (.pv (.int .i64 i)))] [] = some (R30.enc b', []) := by
  intro n
  induction n with
  | zero =>
    intro i hi
    refine ex_of (L30_4 s b i) ?_
    apply ex_cond <;> intro h
    · simp at h; omega
    · exact ⟨_, rfl⟩
  | succ n ih =>
    intro i hi
    refine ex_of (L30_4 s b i) ?_
    apply ex_cond <;> intro h
    · rw [getK_lt (by omega)]
      obtain ⟨x, hx⟩ := c40 (UInt8.toNat (s.getD i default) : Int) b
      simp only [hx, callE_some', asE_enc]
      apply ex_cond <;> intro h
      · exact ⟨_, rfl⟩
      · rw [wrap_succ (by omega)]
        exact ih (i + 1) (by omega)
    · exact ⟨_, rfl⟩
theorem c30 (s : List UInt8) (b : Bool) (hs : s.length ≤ 1073741824) : ∃ b', Rn 30 [.pv (.str s), .pv (.bool b)] [] = some (R30.enc b', []) := by
  refine ex_of (b30 s b) ?_
  apply ex_cond <;> intro h
  · exact ⟨_, rfl⟩
  apply ex_cond <;> intro h2
  · exact ⟨_, rfl⟩
  have hl : 0 < s.length := by simp at h; omega
  rw [show (0 : Int) = ((0 : Nat) : Int) from rfl, getK_lt hl]
  obtain ⟨x, hx⟩ := c39 (UInt8.toNat (s.getD 0 default) : Int)
  simp only [hx, callE_some', asE_enc]
  apply ex_cond <;> intro h3
  · exact ⟨_, rfl⟩
  rw [getK_lt hl]
  apply ex_cond <;> intro h3
  · exact ⟨_, rfl⟩
  exact h30 s b hs _ 0 rfl
theorem c19 (s : List UInt8) (hs : s.length ≤ 1073741824) : ∃ b', Rn 19 [.pv (.str s)] [] = some (R19.enc b', []) := by
  obtain ⟨x, hx⟩ := c30 s false hs
  refine ex_of (b19 s) ?_
  simp only [hx, callE_some', asE_enc]
  exact ⟨_, rfl⟩

theorem exQ_of {T : Type} {enc : T → AV} {Q : T → Prop} {X Y : Option Out} (f : ∀ {r : Out}, X = some r → Y = some r) (h : ∃ b, X = some (enc b, []) ∧ Q b) : ∃ b, Y = some (enc b, []) ∧ Q b := h.imp fun b hb => ⟨f hb.1, hb.2⟩
theorem exQ_cond {T : Type} {enc : T → AV} {Q : T → Prop} {X Y : Option Out} {c : Bool} (h : c = true → ∃ b, X = some (enc b, []) ∧ Q b) (k : c = false → ∃ b, Y = some (enc b, []) ∧ Q b) : ∃ b, (bif c then X else Y) = some (enc b, []) ∧ Q b := by
  cases c with
  | true => exact h rfl
  | false => exact k rfl

theorem h20 (s : List UInt8) (hs : s.length ≤ 1073741824) : ∀ (n i v : Nat) (o : List (List UInt8)), s.length - i = n → v ≤ i → i ≤ s.length → o.length ≤ i → (∀ x ∈ o, x.length ≤ s.length) →
    ∃ b', headT P cods H prim 20 4 [] [(0, (.pv (.str s))), (3, (.row 6)), (4, (.pv (.int .i64 v))), (5, (.pv (.int .i64 i)))] [(6, (.row 9 1 (List.map eStr o)))] = some (R20.enc b', []) ∧ (∀ x ∈ b', x.length ≤ s.length) ∧ b'.length ≤ s.length + 1 := by
  intro n
  induction n with
  | zero =>
    intro i v o hi hv hle ho hx
    refine exQ_of (L20_4 s v i o) ?_
    apply exQ_cond <;> intro h
    · simp at h; omega
    · rw [check_pos (by omega), check_pos (by simp; omega)]
      refine ⟨o ++ [((List.take (List.length s) s).drop (Int.toNat v))], by simp only [← List.map_append]; rfl, ?_, by simp; omega⟩
      intro x hm
      simp only [List.mem_append, List.mem_singleton] at hm
      cases hm with
      | inl hm => exact hx x hm
      | inr hm => subst hm; simp
  | succ n ih =>
    intro i v o hi hv hle ho hx
    refine exQ_of (L20_4 s v i o) ?_
    apply exQ_cond <;> intro h
    · rw [getK_lt (by omega)]
      apply exQ_cond <;> intro h2
      · rw [check_pos (by omega), check_pos (by omega), check_pos (by simp; omega), wrap_succ (by omega), ← List.map_append]
        refine ih (i + 1) (i + 1) _ (by omega) (by omega) (by omega) (by simp; omega) ?_
        intro x hm
        simp only [List.mem_append, List.mem_singleton] at hm
        cases hm with
        | inl hm => exact hx x hm
        | inr hm => subst hm; simp; omega
      · rw [wrap_succ (by omega)]
        exact ih (i + 1) v o (by omega) (by omega) (by omega) (by omega) hx
    · simp at h; omega
theorem c20 (s : List UInt8) (hs : s.length ≤ 1073741824) : ∃ b', Rn 20 [.pv (.str s)] [] = some (R20.enc b', []) ∧ (∀ x ∈ b', x.length ≤ s.length) ∧ b'.length ≤ s.length + 1 :=
  exQ_of (b20 s) (h20 s hs _ 0 0 [] rfl (by omega) (by omega) (by simp) (by simp))

theorem h11b (l : List (List UInt8)) (hl : l.length ≤ 1073741825) (hs : ∀ x ∈ l, x.length ≤ 1073741824) : ∀ (n i : Nat), l.length - i = n → ∃ b', headT P cods H prim 11 11 [] [(4, (.pv (.lst 1 (List.map eStr l)))), (5, (.pv (.int .i64 i)))] [] = some (R11.enc b', []) := by
  intro n
  induction n with
  | zero =>
    intro i hi
    refine ex_of (L11_11 l i) ?_
    apply ex_cond <;> intro h
    · simp at h; omega
    · exact ⟨_, rfl⟩
  | succ n ih =>
    intro i hi
    refine ex_of (L11_11 l i) ?_
    apply ex_cond <;> intro h
    · rw [getK_map, getK_lt (by omega)]
      obtain ⟨x, hx⟩ := c19 (l.getD i default) (hs _ (getD_mem (by omega)))
      simp only [asE_enc, hx, callE_some']
      apply ex_cond <;> intro h
      · exact ⟨_, rfl⟩
      · rw [wrap_succ (by omega)]
        exact ih (i + 1) (by omega)
    · exact ⟨_, rfl⟩
theorem h11 (s : List UInt8) (hs : s.length ≤ 1073741824) : ∀ (n i : Nat), s.length - i = n → ∃ b', headT P cods H prim 11 4 [] [(0, (.pv (.str s))), (3, (.pv (.int .i64 i)))] [] = some (R11.enc b', []) := by
  intro n
  induction n with
  | zero =>
    intro i hi
    refine ex_of (L11_4 s i) ?_
    apply ex_cond <;> intro h
    · simp at h; omega
    · exact ⟨_, rfl⟩
  | succ n ih =>
    intro i hi
    refine ex_of (L11_4 s i) ?_
    apply ex_cond <;> intro h
    · rw [getK_lt (by omega)]
      apply ex_cond <;> intro h2
      · rw [wrap_succ (by omega)]
        exact ih (i + 1) (by omega)
      · rw [wrap_succ (by omega), check_pos (by omega)]
        obtain ⟨l, hl, hlen, hn⟩ := c20 ((List.take (List.length s) s).drop (Int.toNat ((i + 1 : Nat) : Int))) (by simp; omega)
        have hsm : ((List.take (List.length s) s).drop (Int.toNat ((i + 1 : Nat) : Int))).length ≤ 1073741824 := by simp; omega
        simp only [hl, callE_some', asE_enc]
        rw [check_pos (by omega)]
        obtain ⟨x, hx⟩ := c19 ((List.take (Int.toNat i) s).drop 0) (by simp; omega)
        simp only [hx, callE_some', asE_enc]
        apply ex_cond <;> intro h3
        · exact ⟨_, rfl⟩
        apply ex_cond <;> intro h4
        · exact ⟨_, rfl⟩
        exact h11b l (by omega) (fun x hm => by have := hlen x hm; omega) _ 0 rfl
    · exact ⟨_, rfl⟩
theorem c11 (s : List UInt8) (hs : s.length ≤ 1073741824) : ∃ b', Rn 11 [.pv (.str s)] [] = some (R11.enc b', []) := by
  obtain ⟨x, hx⟩ := c19 s hs
  refine ex_of (b11 s) ?_
  simp only [hx, callE_some', asE_enc]
  apply ex_cond <;> intro h
  · exact ⟨_, rfl⟩
  exact h11 s hs _ 0 rfl

/-- the features of the weights ascend -/
def Asc (l : List Weight) : Prop := ∀ i, i + 1 < l.length → Op.bytesLess (l.getD i default).Feature (l.getD (i + 1) default).Feature = true

theorem h5 (m : Model) (hl : m.Weights.length ≤ 1073741824) (hs : ∀ x ∈ m.Weights, x.Feature.length ≤ 1073741824) : ∀ (n i : Nat), m.Weights.length - i = n → (∀ j, j + 1 < m.Weights.length → j + 1 < i → Op.bytesLess (m.Weights.getD j default).Feature (m.Weights.getD (j + 1) default).Feature = true) →
    ∃ v, headT P cods H prim 5 2 [] [(1, (.ptr 1 0)), (3, (.pv (.int .i64 i)))] [(1, (.box 24 (List.map .pv (Model.enc m))))] = some (R5.enc v, []) ∧ (v = 0 → Asc m.Weights) := by
  intro n
  induction n with
  | zero =>
    intro i hi hasc
    refine exQ_of (L5_2 i m) ?_
    apply exQ_cond <;> intro h
    · simp at h; omega
    · exact ⟨0, rfl, fun _ j hj => hasc j hj (by omega)⟩
  | succ n ih =>
    intro i hi hasc
    refine exQ_of (L5_2 i m) ?_
    apply exQ_cond <;> intro h
    · rw [getK_map, getK_lt (by omega)]
      obtain ⟨x, hx⟩ := c11 (m.Weights.getD i default).Feature (hs _ (getD_mem (by omega)))
      simp only [asE_enc, hx, callE_some']
      apply exQ_cond <;> intro h1
      · exact ⟨1, rfl, fun h => absurd h (by decide)⟩
      apply exQ_cond <;> intro h2
      · exact ⟨2, rfl, fun h => absurd h (by decide)⟩
      apply exQ_cond <;> intro h3
      · exact ⟨2, rfl, fun h => absurd h (by decide)⟩
      apply exQ_cond <;> intro h4
      · exact ⟨2, rfl, fun h => absurd h (by decide)⟩
      apply exQ_cond <;> intro h5
      · obtain ⟨j, rfl⟩ : ∃ j, i = j + 1 := ⟨i - 1, by simp at h5; omega⟩
        rw [show ((j + 1 : Nat) : Int) - 1 = (j : Int) by omega, wrap64_id (by omega) (by omega), getK_map, getK_lt (by omega)]
        simp only [asE_enc]
        apply exQ_cond <;> intro h6
        · exact ⟨3, rfl, fun h => absurd h (by decide)⟩
        · rw [wrap_succ (by omega)]
          refine ih (j + 2) (by omega) fun q hq hq2 => ?_
          by_cases e : q = j
          · subst e
            simp only [Bool.or_eq_false_iff] at h6
            exact bl_total _ _ h6.1 (by simpa using h6.2)
          · exact hasc q hq (by omega)
      · have : i = 0 := by simp at h5; omega
        subst this
        rw [wrap_succ (by omega)]
        exact ih 1 (by omega) fun q hq hq2 => by omega
    · simp at h; omega
theorem c5 (m : Model) (hl : m.Weights.length ≤ 1073741824) (hs : ∀ x ∈ m.Weights, x.Feature.length ≤ 1073741824) : ∃ v, Rn 5 [.pv (.agg (Model.enc m))] [] = some (R5.enc v, []) ∧ (v = 0 → Asc m.Weights) :=
  exQ_of (b5 m) (h5 m hl hs _ 0 rfl fun j _ h => by omega)
end Go.Proofs.Ytogpflcfahjafaa.rk
