/-
  The Closure laws: the functions over sets (bits, ref02).
-/
import Derived.Test.YtfoddgpndoeeaaaGreatDoorClF
import Derived.Test.YtfoddgpndoeeaaaGreatDoorClO
import Derived.Test.YtfoddgpndoeeaaaGreatDoorClH
set_option linter.unusedVariables false
set_option linter.unusedSimpArgs false
namespace Go.Proofs.YtfoddgpndoeeaaaGreatDoor.cl
open Go Go.AM

/-! plain sets -/
abbrev W := List Int
def wd (b : W) (i : Nat) : Int := b.getD i 0
/-- how many words are kept -/
def nl (b : W) : Nat → Nat
  | 0 => 0
  | n + 1 => if wd b n = 0 then nl b n else n + 1
def norm (b : W) : W := b.take (nl b b.length)
def and64 (x y : Int) : Int := IntKind.wrap .u64 ((BitVec.ofInt (IntKind.bits .u64) x &&& BitVec.ofInt (IntKind.bits .u64) y).toNat : Int)
def or64 (x y : Int) : Int := IntKind.wrap .u64 ((BitVec.ofInt (IntKind.bits .u64) x ||| BitVec.ofInt (IntKind.bits .u64) y).toNat : Int)
def sub64 (x y : Int) : Int := IntKind.wrap .u64 ((BitVec.ofInt (IntKind.bits .u64) x &&& ~~~BitVec.ofInt (IntKind.bits .u64) y).toNat : Int)

theorem nl_le (b : W) : ∀ n, nl b n ≤ n
  | 0 => Nat.le_refl _
  | n + 1 => by unfold nl; split; exact Nat.le_succ_of_le (nl_le b n); exact Nat.le_refl _
theorem wd_at {b : W} {i : Nat} (h : i < b.length) : b[i] = wd b i := by simp [wd, List.getD_eq_getElem?_getD, List.getElem?_eq_getElem h]
theorem wd_out {b : W} {i : Nat} (h : b.length ≤ i) : wd b i = 0 := by simp [wd, List.getD_eq_getElem?_getD, List.getElem?_eq_none h]

theorem c107 (b : W) (i : Nat) : f107 b i = some (wd b i) := by
  refine e107 b i ?_
  by_cases h : i < b.length
  · rw [cond_pos (by simp; omega), getK_at h, wd_at h]
  · rw [cond_neg (by simp; omega), wd_out (by omega)]

/-! words 0 at the end go -/
theorem h68 (b : W) (hb : b.length ≤ 1073741824) : ∀ (n : Nat), n ≤ b.length → t68_2 b n = some (b.take (nl b n)) := by
  intro n
  induction n with
  | zero =>
    intro hn
    refine k68_2 b _ ?_
    rw [cond_neg (by simp), check_pos (by simp)]
    simp [nl]
  | succ n ih =>
    intro hn
    refine k68_2 b _ ?_
    rw [cond_pos (by simp), wrap_pred (by omega), getK_at (by omega), wd_at]
    by_cases h : wd b n = 0
    · rw [cond_pos (by simpa using h), ih (by omega)]
      simp [nl, h]
    · rw [cond_neg (by simpa using h), check_pos (by simp; omega)]
      have : nl b (n + 1) = n + 1 := by simp [nl, h]
      simp [this]
theorem c68 (b : W) (hb : b.length ≤ 1073741824) : f68 b = some (norm b) := e68 b (h68 b hb _ (Nat.le_refl _))
/-! tables -/
def tab (n : Nat) (f : Nat → Int) : W := (List.range n).map f
theorem tab_succ (n : Nat) (f : Nat → Int) : tab (n + 1) f = tab n f ++ [f n] := by simp [tab, List.range_succ]
theorem tab_length (n : Nat) (f : Nat → Int) : (tab n f).length = n := by simp [tab]
theorem wd_tab (n : Nat) (f : Nat → Int) (i : Nat) : wd (tab n f) i = if i < n then f i else 0 := by
  by_cases h : i < n <;> simp [wd, tab, List.getD_eq_getElem?_getD, List.getElem?_map, List.getElem?_range, h]

theorem maxI (x y : Nat) : (if (y : Int) > (x : Int) then (y : Int) else (x : Int)) = ((max x y : Nat) : Int) := by split <;> omega
theorem minI (x y : Nat) : (if (y : Int) < (x : Int) then (y : Int) else (x : Int)) = ((min x y : Nat) : Int) := by split <;> omega
/-! the same, word by word in a row that is there -/
def ftab (n i : Nat) (f : Nat → Int) : W := tab n fun j => if j < i then f j else 0
theorem ftab_zero (n : Nat) (f : Nat → Int) : ftab n 0 f = List.replicate n 0 := by
  apply List.ext_getElem <;> simp [ftab, tab]
theorem ftab_full (n : Nat) (f : Nat → Int) : ftab n n f = tab n f := by
  apply List.ext_getElem
  · simp [ftab, tab]
  · intro j h1 h2; simp [ftab, tab] at h1 ⊢; intro h; omega
theorem ftab_length (n i : Nat) (f : Nat → Int) : (ftab n i f).length = n := by simp [ftab, tab]
theorem ftab_set (n i : Nat) (f : Nat → Int) (h : i < n) : (ftab n i f).set i (f i) = ftab n (i + 1) f := by
  apply List.ext_getElem
  · simp [ftab, tab]
  · intro j h1 h2
    simp only [ftab, tab, List.getElem_set, List.getElem_map, List.getElem_range]
    by_cases e : i = j
    · subst e; simp
    · simp only [e, if_false]
      by_cases h3 : j < i
      · simp [h3, Nat.lt_succ_of_lt h3]
      · have : ¬ j < i + 1 := by omega
        simp [h3, this]
theorem h62 (a b : W) (m : Nat) (hm : m ≤ 1073741824) : ∀ (n i : Nat), m - i = n → i ≤ m →
    t62_3 a b m i (ftab m i fun j => or64 (wd a j) (wd b j)) = some (norm (tab m fun j => or64 (wd a j) (wd b j))) := by
  intro n
  induction n with
  | zero =>
    intro i hi hle
    have : i = m := by omega
    subst this
    refine k62_3 a b _ _ _ ?_
    rw [cond_neg (by simp), ftab_full, c68 _ (by rw [tab_length]; exact hm)]; rfl
  | succ n ih =>
    intro i hi hle
    refine k62_3 a b _ _ _ ?_
    rw [cond_pos (by simp; omega), c107, bind_some', c107, bind_some', chk_at (by rw [ftab_length]; omega), Int.toNat_natCast, getN_at (by rw [ftab_length]; omega), wrap_succ (by omega)]
    have := ih (i + 1) (by omega) (by omega)
    rw [← ftab_set m i _ (by omega)] at this
    exact this
theorem h29 (a b : W) (m : Nat) (hm : m ≤ 1073741824) (ha : m ≤ a.length) (hb : m ≤ b.length) : ∀ (n i : Nat), m - i = n → i ≤ m →
    t29_3 a b m i (ftab m i fun j => and64 (wd a j) (wd b j)) = some (norm (tab m fun j => and64 (wd a j) (wd b j))) := by
  intro n
  induction n with
  | zero =>
    intro i hi hle
    have : i = m := by omega
    subst this
    refine k29_3 a b _ _ _ ?_
    rw [cond_neg (by simp), ftab_full, c68 _ (by rw [tab_length]; exact hm)]; rfl
  | succ n ih =>
    intro i hi hle
    refine k29_3 a b _ _ _ ?_
    rw [cond_pos (by simp; omega), getK_at (by omega), getK_at (by omega), chk_at (by rw [ftab_length]; omega), Int.toNat_natCast, getN_at (by rw [ftab_length]; omega), wrap_succ (by omega), wd_at, wd_at]
    have := ih (i + 1) (by omega) (by omega)
    rw [← ftab_set m i _ (by omega)] at this
    exact this
theorem c29 (a b : W) (ha : a.length ≤ 1073741824) (hb : b.length ≤ 1073741824) : f29 a b = some (norm (tab (min a.length b.length) fun j => and64 (wd a j) (wd b j))) := by
  refine e29 a b ?_
  simp only [minI, Int.toNat_natCast, List.length_replicate]
  rw [check_pos (by omega)]
  have := h29 a b (min a.length b.length) (by omega) (by omega) (by omega) _ 0 rfl (Nat.zero_le _)
  rw [ftab_zero] at this
  exact this
theorem c62 (a b : W) (ha : a.length ≤ 1073741824) (hb : b.length ≤ 1073741824) : f62 a b = some (norm (tab (max a.length b.length) fun j => or64 (wd a j) (wd b j))) := by
  refine e62 a b ?_
  simp only [maxI, Int.toNat_natCast, List.length_replicate]
  rw [check_pos (by omega)]
  have := h62 a b (max a.length b.length) (by omega) _ 0 rfl (Nat.zero_le _)
  rw [ftab_zero] at this
  exact this

/-! is one set in another? -/
def subs (a b : W) : Bool := (List.range a.length).all fun j => sub64 (wd a j) (wd b j) == 0
def subsFrom (a b : W) (i : Nat) : Bool := (List.range' i (a.length - i)).all fun j => sub64 (wd a j) (wd b j) == 0
theorem subsFrom_end (a b : W) (i : Nat) (h : a.length ≤ i) : subsFrom a b i = true := by
  have : a.length - i = 0 := by omega
  simp [subsFrom, this]
theorem subsFrom_step (a b : W) (i : Nat) (h : i < a.length) : subsFrom a b i = (sub64 (wd a i) (wd b i) == 0 && subsFrom a b (i + 1)) := by
  have : a.length - i = (a.length - (i + 1)) + 1 := by omega
  rw [subsFrom, this, List.range'_succ, List.all_cons]; rfl
theorem h63 (a b : W) (ha : a.length ≤ 1073741824) : ∀ (n i : Nat), a.length - i = n → i ≤ a.length → t63_2 b a a.length i = some (subsFrom a b i) := by
  intro n
  induction n with
  | zero =>
    intro i hi hle
    refine k63_2 b a _ _ ?_
    rw [cond_neg (by simp; omega), subsFrom_end a b i (by omega)]
  | succ n ih =>
    intro i hi hle
    refine k63_2 b a _ _ ?_
    rw [cond_pos (by simp; omega), getK_at (by omega), c107, bind_some', subsFrom_step a b i (by omega), wd_at]
    by_cases h : sub64 (wd a i) (wd b i) = 0
    · rw [cond_neg (by simpa [sub64] using h), wrap_succ (by omega), ih (i + 1) (by omega) (by omega)]
      simp [h]
    · rw [cond_pos (by simpa [sub64] using h)]
      simp only [show (sub64 (wd a i) (wd b i) == 0) = false by simpa using h, Bool.false_and]
theorem c63 (a b : W) (ha : a.length ≤ 1073741824) : f63 a b = some (subs a b) := by
  refine e63 a b ?_
  rw [show subs a b = subsFrom a b 0 by simp [subs, subsFrom, List.range_eq_range']]
  exact h63 a b ha _ 0 rfl (Nat.zero_le _)
theorem nl_zero (b : W) : ∀ n, nl b n = 0 ↔ ∀ j, j < n → wd b j = 0
  | 0 => by simp [nl]
  | n + 1 => by
    unfold nl
    split
    · rename_i h
      rw [nl_zero b n]
      constructor
      · intro hh j hj
        by_cases e : j = n
        · subst e; exact h
        · exact hh j (by omega)
      · intro hh j hj; exact hh j (by omega)
    · rename_i h
      constructor
      · intro hh; omega
      · intro hh; exact absurd (hh n (by omega)) h
theorem norm_nil (b : W) : (norm b).length = 0 ↔ ∀ j, j < b.length → wd b j = 0 := by
  rw [norm, List.length_take, Nat.min_eq_left (nl_le b _), nl_zero]
theorem c31 (a b : W) (ha : a.length ≤ 1073741824) (hb : b.length ≤ 1073741824) : f31 a b = some (subs a b && subs b a) := by
  refine e31 a b ?_
  rw [c63 a b ha, c63 b a hb]
  cases subs a b <;> rfl
/-! are two sets, or two lists of numbers, the same? -/
theorem h57 (a b : W) (ha : a.length ≤ 1073741824) (hab : a.length = b.length) : ∀ (xs : W) (i : Nat), a.drop i = xs → t57_4 a b i = some (decide (a.drop i = b.drop i)) := by
  intro xs
  induction xs with
  | nil =>
    intro i h
    refine k57_4 a b _ ?_
    have := drop_ge h
    rw [end_drop h, cond_false, h, List.drop_eq_nil_of_le (by omega)]; simp
  | cons x xs ih =>
    intro i h
    refine k57_4 a b _ ?_
    have hlt := drop_lt h
    rw [in_drop h, cond_true, at_drop h, getK_at (by omega), wrap_drop h ha, h, List.drop_eq_getElem_cons (l := b) (i := i) (by omega)]
    have e := ih (i + 1) (drop_next h)
    rw [drop_next h] at e
    by_cases hx : x = b[i]
    · rw [cond_neg (by simpa using hx), e]; simp only [hx, List.cons.injEq, true_and]
    · rw [cond_pos (by simpa using hx)]; simp only [List.cons.injEq, hx, false_and, decide_false]
theorem c57 (a b : W) (ha : a.length ≤ 1073741824) : f57 a b = some (decide (a = b)) := by
  refine e57 a b ?_
  by_cases h : a.length = b.length
  · rw [cond_neg (by simp; omega)]
    exact h57 a b ha h _ 0 rfl
  · rw [cond_pos (by simp; omega)]
    have : a ≠ b := fun e => h (by rw [e])
    simp [this]
theorem h26 (a b : W) (ha : a.length ≤ 1073741824) (hab : a.length = b.length) : ∀ (xs : W) (i : Nat), a.drop i = xs → t26_4 a b i = some (decide (a.drop i = b.drop i)) := by
  intro xs
  induction xs with
  | nil =>
    intro i h
    refine k26_4 a b _ ?_
    have := drop_ge h
    rw [end_drop h, cond_false, h, List.drop_eq_nil_of_le (by omega)]; simp
  | cons x xs ih =>
    intro i h
    refine k26_4 a b _ ?_
    have hlt := drop_lt h
    rw [in_drop h, cond_true, at_drop h, getK_at (by omega), wrap_drop h ha, h, List.drop_eq_getElem_cons (l := b) (i := i) (by omega)]
    have e := ih (i + 1) (drop_next h)
    rw [drop_next h] at e
    by_cases hx : x = b[i]
    · rw [cond_neg (by simpa using hx), e]; simp only [hx, List.cons.injEq, true_and]
    · rw [cond_pos (by simpa using hx)]; simp only [List.cons.injEq, hx, false_and, decide_false]
theorem c26 (a b : W) (ha : a.length ≤ 1073741824) : f26 a b = some (decide (a = b)) := by
  refine e26 a b ?_
  by_cases h : a.length = b.length
  · rw [cond_neg (by simp; omega)]
    exact h26 a b ha h _ 0 rfl
  · rw [cond_pos (by simp; omega)]
    have : a ≠ b := fun e => h (by rw [e])
    simp [this]
end Go.Proofs.YtfoddgpndoeeaaaGreatDoor.cl
