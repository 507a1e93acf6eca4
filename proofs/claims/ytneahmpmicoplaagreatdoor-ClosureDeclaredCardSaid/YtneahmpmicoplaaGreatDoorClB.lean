/-
  The Closure laws: sets of one word; Find, Meet, Join, Subsumes and Supers over types whose codes are such sets.
-/
import Derived.Test.YtneahmpmicoplaaGreatDoorClA
set_option linter.unusedVariables false
set_option linter.unusedSimpArgs false
set_option linter.unusedSectionVars false
namespace Go.Proofs.YtneahmpmicoplaaGreatDoor.cl
open Go Go.AM
/-- a set of one word -/
def e1 (w : Nat) : W := if w = 0 then [] else [(w : Int)]
theorem e1_length (w : Nat) : (e1 w).length ≤ 1 := by unfold e1; split <;> simp
theorem wd_e1 (w : Nat) : wd (e1 w) 0 = (w : Int) := by
  unfold e1; split
  · rename_i h; simp [wd, h]
  · simp [wd]
theorem wd_e1_succ (w j : Nat) : wd (e1 w) (j + 1) = 0 := wd_out (by have := e1_length w; omega)
theorem e1_inj {w v : Nat} (h : e1 w = e1 v) : w = v := by
  have := wd_e1 w
  rw [h, wd_e1] at this; omega
theorem ofInt_nat (w : Nat) : BitVec.ofInt (IntKind.bits .u64) (w : Int) = BitVec.ofNat 64 w := BitVec.ofInt_natCast 64 w
theorem and64_nat {w v : Nat} (hw : w < 18446744073709551616) (hv : v < 18446744073709551616) : and64 (w : Int) (v : Int) = ((w &&& v : Nat) : Int) := by
  unfold and64
  rw [ofInt_nat, ofInt_nat]
  have h : w &&& v ≤ w := Nat.and_le_left
  have e : (BitVec.ofNat 64 w &&& BitVec.ofNat 64 v).toNat = w &&& v := by
    rw [BitVec.toNat_and, BitVec.toNat_ofNat, BitVec.toNat_ofNat, Nat.mod_eq_of_lt (by simpa using hw), Nat.mod_eq_of_lt (by simpa using hv)]
  show IntKind.wrap .u64 (((BitVec.ofNat 64 w &&& BitVec.ofNat 64 v).toNat : Nat) : Int) = _
  rw [e, wrapU64_id (by omega) (by omega)]
theorem or_lt {w v : Nat} (hw : w < 18446744073709551616) (hv : v < 18446744073709551616) : w ||| v < 18446744073709551616 := by
  have := Nat.or_lt_two_pow (n := 64) (x := w) (y := v) (by simpa using hw) (by simpa using hv)
  simpa using this
theorem or64_nat {w v : Nat} (hw : w < 18446744073709551616) (hv : v < 18446744073709551616) : or64 (w : Int) (v : Int) = ((w ||| v : Nat) : Int) := by
  unfold or64
  rw [ofInt_nat, ofInt_nat]
  have h := or_lt hw hv
  have e : (BitVec.ofNat 64 w ||| BitVec.ofNat 64 v).toNat = w ||| v := by
    rw [BitVec.toNat_or, BitVec.toNat_ofNat, BitVec.toNat_ofNat, Nat.mod_eq_of_lt (by simpa using hw), Nat.mod_eq_of_lt (by simpa using hv)]
  show IntKind.wrap .u64 (((BitVec.ofNat 64 w ||| BitVec.ofNat 64 v).toNat : Nat) : Int) = _
  rw [e, wrapU64_id (by omega) (by omega)]
theorem sub64_nat {w v : Nat} (hw : w < 18446744073709551616) (hv : v < 18446744073709551616) : sub64 (w : Int) (v : Int) = 0 ↔ sub w v = true := by
  unfold sub64
  rw [ofInt_nat, ofInt_nat]
  have hlt : (BitVec.ofNat 64 w &&& ~~~BitVec.ofNat 64 v).toNat < 18446744073709551616 := (BitVec.ofNat 64 w &&& ~~~BitVec.ofNat 64 v).isLt
  show IntKind.wrap .u64 (((BitVec.ofNat 64 w &&& ~~~BitVec.ofNat 64 v).toNat : Nat) : Int) = 0 ↔ _
  rw [wrapU64_id (by omega) (by omega)]
  have e : ((((BitVec.ofNat 64 w &&& ~~~BitVec.ofNat 64 v).toNat : Nat) : Int) = 0) ↔ (BitVec.ofNat 64 w &&& ~~~BitVec.ofNat 64 v).toNat = 0 := by omega
  rw [e, sub_bit]
  constructor
  · intro h i hi
    have hi64 : i < 64 := by
      apply Classical.byContradiction; intro hc
      have : w.testBit i = false := Nat.testBit_lt_two_pow (Nat.lt_of_lt_of_le (by simpa using hw : w < 2 ^ 64) (Nat.pow_le_pow_right (by omega) (by omega)))
      rw [this] at hi; cases hi
    have := congrArg (fun x => x.testBit i) h
    simp only [BitVec.testBit_toNat, BitVec.getLsbD_and, BitVec.getLsbD_not, BitVec.getLsbD_ofNat, hi64, decide_true, Bool.true_and, hi, Nat.zero_testBit, Bool.not_eq_false'] at this
    exact this
  · intro h
    apply Nat.eq_of_testBit_eq
    intro i
    simp only [BitVec.testBit_toNat, BitVec.getLsbD_and, BitVec.getLsbD_not, BitVec.getLsbD_ofNat, Nat.zero_testBit]
    cases hi : w.testBit i with
    | false => simp
    | true => simp [h i hi]
theorem norm_tab0 (f : Nat → Int) : norm (tab 0 f) = [] := by simp [norm, tab]
theorem norm_tab1 (f : Nat → Int) : norm (tab 1 f) = if f 0 = 0 then [] else [f 0] := by
  have : tab 1 f = [f 0] := by simp [tab, List.range_succ]
  rw [this]
  unfold norm
  simp only [List.length_singleton, nl]
  have hw : wd [f 0] 0 = f 0 := rfl
  rw [hw]
  split <;> simp
theorem norm_one {f : Nat → Int} {n w : Nat} (hn : n ≤ 1) (h1 : n = 1 → f 0 = (w : Int)) (h0 : n = 0 → w = 0) : norm (tab n f) = e1 w := by
  cases n with
  | zero => rw [norm_tab0, h0 rfl]; simp [e1]
  | succ n =>
    have : n = 0 := by omega
    subst this
    rw [norm_tab1, h1 rfl]
    unfold e1
    by_cases h : w = 0 <;> simp [h]
theorem e1_len0 {w : Nat} (h : (e1 w).length = 0) : w = 0 := by
  unfold e1 at h; split at h
  · assumption
  · simp at h
section
variable {w v : Nat} (hw : w < 18446744073709551616) (hv : v < 18446744073709551616)
include hw hv
theorem o61 : f61 (e1 w) (e1 v) = some (e1 (w &&& v)) := by
  have hl := e1_length w
  rw [c61 _ _ (by omega)]
  congr 1
  refine norm_one hl (fun _ => ?_) (fun h => ?_)
  · rw [wd_e1, wd_e1, and64_nat hw hv]
  · rw [e1_len0 h]; simp
theorem o29 : f29 (e1 w) (e1 v) = some (e1 (w &&& v)) := by
  have hl := e1_length w
  have hl' := e1_length v
  rw [c29 _ _ (by omega) (by omega)]
  congr 1
  refine norm_one (by omega) (fun _ => ?_) (fun h => ?_)
  · rw [wd_e1, wd_e1, and64_nat hw hv]
  · by_cases h0 : (e1 w).length = 0
    · rw [e1_len0 h0]; simp
    · rw [e1_len0 (show (e1 v).length = 0 by omega)]; simp
theorem subs_e1 : subs (e1 w) (e1 v) = sub w v := by
  rw [Bool.eq_iff_iff]
  simp only [subs, List.all_eq_true, List.mem_range, beq_iff_eq]
  have hl := e1_length w
  constructor
  · intro h
    by_cases h0 : (e1 w).length = 0
    · rw [e1_len0 h0]; exact sub_bit.2 fun i hi => by simp at hi
    · have := h 0 (by omega)
      rwa [wd_e1, wd_e1, sub64_nat hw hv] at this
  · intro h j hj
    have : j = 0 := by omega
    subst this
    rw [wd_e1, wd_e1, sub64_nat hw hv]; exact h
theorem o63 : f63 (e1 w) (e1 v) = some (sub w v) := by
  rw [c63 _ _ (by have := e1_length w; omega), subs_e1 hw hv]
theorem o57 : f57 (e1 w) (e1 v) = some (decide (w = v)) := by
  rw [c57 _ _ (by have := e1_length w; omega)]
  congr 1
  rw [decide_eq_decide]
  exact ⟨e1_inj, fun h => by rw [h]⟩
end
/-! normal sets, by their words -/
theorem nl_congr {a b : W} (h : ∀ j, wd a j = wd b j) : ∀ n, nl a n = nl b n
  | 0 => rfl
  | n + 1 => by unfold nl; rw [h n, nl_congr h n]
theorem nl_far (a : W) : ∀ n, a.length ≤ n → nl a n = nl a a.length := by
  intro n hn
  induction n with
  | zero => rw [show a.length = 0 by omega]
  | succ n ih =>
    by_cases h : a.length = n + 1
    · rw [h]
    · rw [← ih (by omega)]
      show (if wd a n = 0 then nl a n else n + 1) = _
      rw [if_pos (wd_out (by omega))]
theorem norm_ext {a b : W} (h : ∀ j, wd a j = wd b j) : norm a = norm b := by
  have hn : nl a a.length = nl b b.length := by
    rw [← nl_far a (max a.length b.length) (by omega), ← nl_far b (max a.length b.length) (by omega), nl_congr h]
  unfold norm
  apply List.ext_getElem
  · simp only [List.length_take]
    have := nl_le a a.length
    have := nl_le b b.length
    omega
  · intro j h1 h2
    simp only [List.getElem_take]
    simp only [List.length_take] at h1 h2
    rw [wd_at, wd_at, h j]
theorem nl_pos {a : W} : ∀ n j, nl a n ≤ j → j < n → wd a j = 0 := by
  intro n
  induction n with
  | zero => intro j _ h; omega
  | succ n ih =>
    intro j h1 h2
    unfold nl at h1
    split at h1
    · rename_i h
      by_cases e : j = n
      · subst e; exact h
      · exact ih j h1 (by omega)
    · omega
theorem wd_norm (a : W) (j : Nat) : wd (norm a) j = wd a j := by
  unfold norm
  by_cases h : j < nl a a.length
  · have hl := nl_le a a.length
    rw [wd, List.getD_eq_getElem?_getD, List.getElem?_take_of_lt h, wd, List.getD_eq_getElem?_getD]
  · rw [wd_out (by simp; omega)]
    by_cases h2 : j < a.length
    · exact (nl_pos _ _ (by omega) h2).symm
    · exact (wd_out (by omega)).symm
theorem norm_e1 (w : Nat) : norm (e1 w) = e1 w := by
  unfold e1; split
  · rfl
  · rename_i h
    have : wd [(w : Int)] 0 = (w : Int) := rfl
    have h2 : (w : Int) ≠ 0 := by omega
    simp [norm, nl, this, h2, h]
/-- words are words -/
def Wds (b : W) : Prop := ∀ x ∈ b, 0 ≤ x ∧ x < 18446744073709551616
theorem wds_wd {b : W} (h : Wds b) (j : Nat) : ∃ w : Nat, wd b j = (w : Int) ∧ w < 18446744073709551616 := by
  by_cases hj : j < b.length
  · have := h _ (List.getElem_mem hj)
    rw [wd_at] at this
    exact ⟨(wd b j).toNat, by omega, by omega⟩
  · exact ⟨0, by rw [wd_out (by omega)]; rfl, by omega⟩
theorem subs_both {a b : W} (ha : Wds a) (hb : Wds b) : (subs a b && subs b a) = decide (norm a = norm b) := by
  rw [Bool.eq_iff_iff]
  simp only [Bool.and_eq_true, decide_eq_true_eq, subs, List.all_eq_true, List.mem_range, beq_iff_eq]
  constructor
  · rintro ⟨h1, h2⟩
    apply norm_ext
    intro j
    obtain ⟨x, hx, hxl⟩ := wds_wd ha j
    obtain ⟨y, hy, hyl⟩ := wds_wd hb j
    have s1 : sub x y = true := by
      by_cases hj : j < a.length
      · have := h1 j hj; rwa [hx, hy, sub64_nat hxl hyl] at this
      · rw [wd_out (by omega)] at hx
        have : x = 0 := by omega
        subst this; exact sub_bit.2 fun i hi => by simp at hi
    have s2 : sub y x = true := by
      by_cases hj : j < b.length
      · have := h2 j hj; rwa [hx, hy, sub64_nat hyl hxl] at this
      · rw [wd_out (by omega)] at hy
        have : y = 0 := by omega
        subst this; exact sub_bit.2 fun i hi => by simp at hi
    rw [hx, hy, sub_antisymm s1 s2]
  · intro h
    have hw : ∀ j, wd a j = wd b j := fun j => by rw [← wd_norm a, h, wd_norm]
    constructor
    · intro j _
      obtain ⟨x, hx, hxl⟩ := wds_wd ha j
      rw [← hw, hx, sub64_nat hxl hxl]; exact sub_refl _
    · intro j _
      obtain ⟨x, hx, hxl⟩ := wds_wd ha j
      rw [← hw, hx, sub64_nat hxl hxl]; exact sub_refl _
theorem wds_e1 {w : Nat} (hw : w < 18446744073709551616) : Wds (e1 w) := by
  intro x hx
  unfold e1 at hx; split at hx
  · cases hx
  · simp only [List.mem_singleton] at hx; subst hx; omega
/-! types with codes of one word -/
structure Cd (l : List Coded) (cs : List Nat) : Prop where
  eq : l.map (·.Code) = cs.map e1
  lt : ∀ c ∈ cs, c < 18446744073709551616
  len : cs.length ≤ 1048576
theorem Cd.length {l : List Coded} {cs : List Nat} (h : Cd l cs) : l.length = cs.length := by
  have := congrArg List.length h.eq; simpa using this
theorem Cd.code {l : List Coded} {cs : List Nat} (h : Cd l cs) {i : Nat} (hi : i < l.length) : l[i].Code = e1 (cs.getD i 0) := by
  have hi' : i < cs.length := by rw [← h.length]; exact hi
  have := congrArg (fun m => m[i]?) h.eq
  simp only [List.getElem?_map, List.getElem?_eq_getElem hi, List.getElem?_eq_getElem hi', Option.map_some, Option.some.injEq] at this
  rw [this, List.getD_eq_getElem?_getD, List.getElem?_eq_getElem hi']; rfl
theorem Cd.get {l : List Coded} {cs : List Nat} (h : Cd l cs) {i : Nat} (hi : i < cs.length) : cs.getD i 0 < 18446744073709551616 := h.lt _ (getD_mem0 hi)
theorem Cd.mem {l : List Coded} {cs : List Nat} (h : Cd l cs) {x : Coded} (hx : x ∈ l) : ∃ c, c ∈ cs ∧ x.Code = e1 c := by
  have : x.Code ∈ l.map (·.Code) := List.mem_map_of_mem hx
  rw [h.eq, List.mem_map] at this
  obtain ⟨c, hc, e⟩ := this
  exact ⟨c, hc, e.symm⟩
theorem h58 {l : List Coded} {cs : List Nat} (H : Cd l cs) {code : W} (hc : Wds code) (hcl : code.length ≤ 1073741824) : ∀ (xs : List Coded) (i : Nat), l.drop i = xs →
    t58_2 code l l.length i = some (ixFrom (fun x => decide (x.Code = norm code)) xs i) := by
  have hl : l.length ≤ 1073741824 := by have := H.len; rw [H.length]; omega
  intro xs
  induction xs with
  | nil =>
    intro i h
    refine k58_2 _ _ _ _ ?_
    rw [end_drop h]; rfl
  | cons x xs ih =>
    intro i h
    refine k58_2 _ _ _ _ ?_
    have hx : x ∈ l := by rw [← List.take_append_drop i l, h]; simp
    obtain ⟨c, hcm, e⟩ := H.mem hx
    have h59 : f59 x code = some (decide (x.Code = norm code)) := by
      refine e59 _ _ ?_
      have hclt := H.lt c hcm
      rw [e, c31 _ _ (by have := e1_length c; omega) hcl, subs_both (wds_e1 hclt) hc, norm_e1]; rfl
    rw [in_drop h, cond_true, at_drop h, h59, bind_some', wrap_drop h hl, ih (i + 1) (drop_next h), ixFrom]
    cases decide (x.Code = norm code) <;> rfl
theorem c18 {l : List Coded} {cs : List Nat} (H : Cd l cs) {code : W} (hc : Wds code) (hcl : code.length ≤ 1073741824) : f18 l code = some (ixFrom (fun x => decide (x.Code = norm code)) l 0) := by
  refine e18 _ _ ?_
  have : f58 l code = some (ixFrom (fun x => decide (x.Code = norm code)) l 0) := e58 _ _ (h58 H hc hcl l 0 rfl)
  rw [this]; rfl
theorem ix_fnd : ∀ (l : List Coded) (cs : List Nat) (w i : Nat), l.map (·.Code) = cs.map e1 →
    ixFrom (fun x => decide (x.Code = e1 w)) l i = match cs.findIdx? (· == w) with
      | some j => ((i + j : Nat) : Int)
      | none => -1 := by
  intro l
  induction l with
  | nil =>
    intro cs w i h
    cases cs with
    | nil => rfl
    | cons c cs => simp at h
  | cons x l ih =>
    intro cs w i h
    cases cs with
    | nil => simp at h
    | cons c cs =>
      simp only [List.map_cons, List.cons.injEq] at h
      rw [ixFrom, ih cs w (i + 1) h.2, List.findIdx?_cons]
      by_cases e : c = w
      · subst e; simp [h.1]
      · have h1 : ¬ (x.Code = e1 w) := by rw [h.1]; exact fun e' => e (e1_inj e')
        have h2 : (c == w) = false := by simpa using e
        simp only [h1, decide_false, Bool.false_eq_true, if_false, h2]
        cases cs.findIdx? (· == w) with
        | none => rfl
        | some j =>
          show (((i + 1) + j : Nat) : Int) = ((i + (j + 1) : Nat) : Int)
          rw [Nat.add_assoc, Nat.add_comm 1 j]
theorem ix_fnd0 {l : List Coded} {cs : List Nat} (H : Cd l cs) (w : Nat) : ixFrom (fun x => decide (x.Code = e1 w)) l 0 = fnd cs w := by
  rw [ix_fnd l cs w 0 H.eq, fnd]
  cases cs.findIdx? (· == w) <;> simp
theorem o18 {l : List Coded} {cs : List Nat} (H : Cd l cs) {w : Nat} (hw : w < 18446744073709551616) : f18 l (e1 w) = some (fnd cs w) := by
  rw [c18 H (wds_e1 hw) (by have := e1_length w; omega), norm_e1, ix_fnd0 H]
section
variable {l : List Coded} {cs : List Nat} (H : Cd l cs) {i j : Nat} (hi : i < cs.length) (hj : j < cs.length)
include H hi hj
theorem o20 : f20 l i j = some (fnd cs (cs.getD i 0 &&& cs.getD j 0)) := by
  refine e20 _ _ _ ?_
  have hl := H.length
  rw [getK_at (by omega), getK_at (by omega), H.code, H.code, o29 (H.get hi) (H.get hj), bind_some', o18 H (Nat.lt_of_le_of_lt Nat.and_le_left (H.get hi))]; rfl
theorem o24 : f24 l i j = some (sub (cs.getD j 0) (cs.getD i 0)) := by
  refine e24 _ _ _ ?_
  have hl := H.length
  rw [getK_at (by omega), getK_at (by omega), H.code, H.code, o63 (H.get hj) (H.get hi)]; rfl
end
section
variable {l : List Coded} {cs : List Nat} (H : Cd l cs) {i j : Nat} (hi : i < cs.length) (hj : j < cs.length)
include H hi hj
end
/-! Supers -/
abbrev cast (l : List Nat) : List Int := l.map fun n : Nat => (n : Int)
theorem cast_drop {l : List Nat} {i : Nat} {x : Nat} {xs : List Nat} (h : l.drop i = x :: xs) : (cast l).drop i = (x : Int) :: cast xs := by
  rw [← List.map_drop, h]; rfl
theorem cast_end {l : List Nat} {i : Nat} (h : l.drop i = []) : (cast l).drop i = [] := by rw [← List.map_drop, h]; rfl
section
variable {l : List Coded} {cs : List Nat} (H : Cd l cs)
include H
end
section
variable {l : List Coded} {cs : List Nat} (H : Cd l cs)
include H
end
end Go.Proofs.YtneahmpmicoplaaGreatDoor.cl
