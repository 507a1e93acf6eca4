/-
  The Closure laws: sets of one word; Find, Meet, Join, Subsumes and Supers over types whose codes are such sets.
-/
import Derived.Test.YtfoddgpndoeeaaaGreatDoorClA
set_option linter.unusedVariables false
set_option linter.unusedSimpArgs false
set_option linter.unusedSectionVars false
namespace Go.Proofs.YtfoddgpndoeeaaaGreatDoor.cl
open Go Go.AM

/-- a set of one word -/
def e1 (w : Nat) : W := if w = 0 then [] else [(w : Int)]
theorem e1_length (w : Nat) : (e1 w).length ≤ 1 := by unfold e1; split <;> simp
theorem wd_e1 (w : Nat) : wd (e1 w) 0 = (w : Int) := by
  unfold e1; split
  · rename_i h; simp [wd, h]
  · simp [wd]
theorem wd_e1_succ (w j : Nat) : wd (e1 w) (j + 1) = 0 := wd_out (by have := e1_length w; omega)
theorem e1_inj {w v : Nat} (h : e1 w = e1 v) : w = v := by
  have := wd_e1 w
  rw [h, wd_e1] at this; omega

theorem ofInt_nat (w : Nat) : BitVec.ofInt (IntKind.bits .u64) (w : Int) = BitVec.ofNat 64 w := BitVec.ofInt_natCast 64 w
theorem and64_nat {w v : Nat} (hw : w < 18446744073709551616) (hv : v < 18446744073709551616) : and64 (w : Int) (v : Int) = ((w &&& v : Nat) : Int) := by
  unfold and64
  rw [ofInt_nat, ofInt_nat]
  have h : w &&& v ≤ w := Nat.and_le_left
  have e : (BitVec.ofNat 64 w &&& BitVec.ofNat 64 v).toNat = w &&& v := by
    rw [BitVec.toNat_and, BitVec.toNat_ofNat, BitVec.toNat_ofNat, Nat.mod_eq_of_lt (by simpa using hw), Nat.mod_eq_of_lt (by simpa using hv)]
  show IntKind.wrap .u64 (((BitVec.ofNat 64 w &&& BitVec.ofNat 64 v).toNat : Nat) : Int) = _
  rw [e, wrapU64_id (by omega) (by omega)]
theorem or_lt {w v : Nat} (hw : w < 18446744073709551616) (hv : v < 18446744073709551616) : w ||| v < 18446744073709551616 := by
  have := Nat.or_lt_two_pow (n := 64) (x := w) (y := v) (by simpa using hw) (by simpa using hv)
  simpa using this
theorem or64_nat {w v : Nat} (hw : w < 18446744073709551616) (hv : v < 18446744073709551616) : or64 (w : Int) (v : Int) = ((w ||| v : Nat) : Int) := by
  unfold or64
  rw [ofInt_nat, ofInt_nat]
  have h := or_lt hw hv
  have e : (BitVec.ofNat 64 w ||| BitVec.ofNat 64 v).toNat = w ||| v := by
    rw [BitVec.toNat_or, BitVec.toNat_ofNat, BitVec.toNat_ofNat, Nat.mod_eq_of_lt (by simpa using hw), Nat.mod_eq_of_lt (by simpa using hv)]
  show IntKind.wrap .u64 (((BitVec.ofNat 64 w ||| BitVec.ofNat 64 v).toNat : Nat) : Int) = _
  rw [e, wrapU64_id (by omega) (by omega)]
theorem sub64_nat {w v : Nat} (hw : w < 18446744073709551616) (hv : v < 18446744073709551616) : sub64 (w : Int) (v : Int) = 0 ↔ sub w v = true := by
  unfold sub64
  rw [ofInt_nat, ofInt_nat]
  have hlt : (BitVec.ofNat 64 w &&& ~~~BitVec.ofNat 64 v).toNat < 18446744073709551616 := (BitVec.ofNat 64 w &&& ~~~BitVec.ofNat 64 v).isLt
  show IntKind.wrap .u64 (((BitVec.ofNat 64 w &&& ~~~BitVec.ofNat 64 v).toNat : Nat) : Int) = 0 ↔ _
  rw [wrapU64_id (by omega) (by omega)]
  have e : ((((BitVec.ofNat 64 w &&& ~~~BitVec.ofNat 64 v).toNat : Nat) : Int) = 0) ↔ (BitVec.ofNat 64 w &&& ~~~BitVec.ofNat 64 v).toNat = 0 := by omega
  rw [e, sub_bit]
  constructor
  · intro h i hi
    have hi64 : i < 64 := by
      apply Classical.byContradiction; intro hc
      have : w.testBit i = false := Nat.testBit_lt_two_pow (Nat.lt_of_lt_of_le (by simpa using hw : w < 2 ^ 64) (Nat.pow_le_pow_right (by omega) (by omega)))
      rw [this] at hi; cases hi
    have := congrArg (fun x => x.testBit i) h
    simp only [BitVec.testBit_toNat, BitVec.getLsbD_and, BitVec.getLsbD_not, BitVec.getLsbD_ofNat, hi64, decide_true, Bool.true_and, hi, Nat.zero_testBit, Bool.not_eq_false'] at this
    exact this
  · intro h
    apply Nat.eq_of_testBit_eq
    intro i
    simp only [BitVec.testBit_toNat, BitVec.getLsbD_and, BitVec.getLsbD_not, BitVec.getLsbD_ofNat, Nat.zero_testBit]
    cases hi : w.testBit i with
    | false => simp
    | true => simp [h i hi]

theorem norm_tab0 (f : Nat → Int) : norm (tab 0 f) = [] := by simp [norm, tab]
theorem norm_tab1 (f : Nat → Int) : norm (tab 1 f) = if f 0 = 0 then [] else [f 0] := by
  have : tab 1 f = [f 0] := by simp [tab, List.range_succ]
  rw [this]
  unfold norm
  simp only [List.length_singleton, nl]
  have hw : wd [f 0] 0 = f 0 := rfl
  rw [hw]
  split <;> simp
theorem norm_one {f : Nat → Int} {n w : Nat} (hn : n ≤ 1) (h1 : n = 1 → f 0 = (w : Int)) (h0 : n = 0 → w = 0) : norm (tab n f) = e1 w := by
  cases n with
  | zero => rw [norm_tab0, h0 rfl]; simp [e1]
  | succ n =>
    have : n = 0 := by omega
    subst this
    rw [norm_tab1, h1 rfl]
    unfold e1
    by_cases h : w = 0 <;> simp [h]
theorem e1_len0 {w : Nat} (h : (e1 w).length = 0) : w = 0 := by
  unfold e1 at h; split at h
  · assumption
  · simp at h
section
variable {w v : Nat} (hw : w < 18446744073709551616) (hv : v < 18446744073709551616)
include hw hv
theorem o29 : f29 (e1 w) (e1 v) = some (e1 (w &&& v)) := by
  have hl := e1_length w
  have hl' := e1_length v
  rw [c29 _ _ (by omega) (by omega)]
  congr 1
  refine norm_one (by omega) (fun _ => ?_) (fun h => ?_)
  · rw [wd_e1, wd_e1, and64_nat hw hv]
  · by_cases h0 : (e1 w).length = 0
    · rw [e1_len0 h0]; simp
    · rw [e1_len0 (show (e1 v).length = 0 by omega)]; simp
theorem o62 : f62 (e1 w) (e1 v) = some (e1 (w ||| v)) := by
  have hl := e1_length w
  have hl' := e1_length v
  rw [c62 _ _ (by omega) (by omega)]
  congr 1
  refine norm_one (by omega) (fun _ => ?_) (fun h => ?_)
  · rw [wd_e1, wd_e1, or64_nat hw hv]
  · rw [e1_len0 (show (e1 w).length = 0 by omega), e1_len0 (show (e1 v).length = 0 by omega)]; simp
theorem subs_e1 : subs (e1 w) (e1 v) = sub w v := by
  rw [Bool.eq_iff_iff]
  simp only [subs, List.all_eq_true, List.mem_range, beq_iff_eq]
  have hl := e1_length w
  constructor
  · intro h
    by_cases h0 : (e1 w).length = 0
    · rw [e1_len0 h0]; exact sub_bit.2 fun i hi => by simp at hi
    · have := h 0 (by omega)
      rwa [wd_e1, wd_e1, sub64_nat hw hv] at this
  · intro h j hj
    have : j = 0 := by omega
    subst this
    rw [wd_e1, wd_e1, sub64_nat hw hv]; exact h
theorem o63 : f63 (e1 w) (e1 v) = some (sub w v) := by
  rw [c63 _ _ (by have := e1_length w; omega), subs_e1 hw hv]
theorem o57 : f57 (e1 w) (e1 v) = some (decide (w = v)) := by
  rw [c57 _ _ (by have := e1_length w; omega)]
  congr 1
  rw [decide_eq_decide]
  exact ⟨e1_inj, fun h => by rw [h]⟩
end

/-! normal sets, by their words -/
theorem nl_congr {a b : W} (h : ∀ j, wd a j = wd b j) : ∀ n, nl a n = nl b n
  | 0 => rfl
  | n + 1 => by unfold nl; rw [h n, nl_congr h n]
theorem nl_far (a : W) : ∀ n, a.length ≤ n → nl a n = nl a a.length := by
  intro n hn
  induction n with
  | zero => rw [show a.length = 0 by omega]
  | succ n ih =>
    by_cases h : a.length = n + 1
    · rw [h]
    · rw [← ih (by omega)]
      show (if wd a n = 0 then nl a n else n + 1) = _
      rw [if_pos (wd_out (by omega))]
theorem norm_ext {a b : W} (h : ∀ j, wd a j = wd b j) : norm a = norm b := by
  have hn : nl a a.length = nl b b.length := by
    rw [← nl_far a (max a.length b.length) (by omega), ← nl_far b (max a.length b.length) (by omega), nl_congr h]
  unfold norm
  apply List.ext_getElem
  · simp only [List.length_take]
    have := nl_le a a.length
    have := nl_le b b.length
    omega
  · intro j h1 h2
    simp only [List.getElem_take]
    simp only [List.length_take] at h1 h2
    rw [wd_at, wd_at, h j]
theorem nl_pos {a : W} : ∀ n j, nl a n ≤ j → j < n → wd a j = 0 := by
  intro n
  induction n with
  | zero => intro j _ h; omega
  | succ n ih =>
    intro j h1 h2
    unfold nl at h1
    split at h1
    · rename_i h
      by_cases e : j = n
      · subst e; exact h
      · exact ih j h1 (by omega)
    · omega
theorem wd_norm (a : W) (j : Nat) : wd (norm a) j = wd a j := by
  unfold norm
  by_cases h : j < nl a a.length
  · have hl := nl_le a a.length
    rw [wd, List.getD_eq_getElem?_getD, List.getElem?_take_of_lt h, wd, List.getD_eq_getElem?_getD]
  · rw [wd_out (by simp; omega)]
    by_cases h2 : j < a.length
    · exact (nl_pos _ _ (by omega) h2).symm
    · exact (wd_out (by omega)).symm
theorem norm_e1 (w : Nat) : norm (e1 w) = e1 w := by
  unfold e1; split
  · rfl
  · rename_i h
    have : wd [(w : Int)] 0 = (w : Int) := rfl
    have h2 : (w : Int) ≠ 0 := by omega
    simp [norm, nl, this, h2, h]
theorem norm_e1z (w : Nat) : norm (e1 w ++ [0]) = e1 w := by
  rw [← norm_e1 w]
  apply norm_ext
  intro j
  rw [norm_e1]
  by_cases h : j < (e1 w).length
  · simp [wd, List.getD_eq_getElem?_getD, List.getElem?_append_left h]
  · rw [wd_out (b := e1 w) (by omega)]
    simp only [wd, List.getD_eq_getElem?_getD]
    rw [List.getElem?_append_right (by omega)]
    cases hj : j - (e1 w).length with
    | zero => rfl
    | succ n => rfl
/-- words are words -/
def Wds (b : W) : Prop := ∀ x ∈ b, 0 ≤ x ∧ x < 18446744073709551616
theorem wds_wd {b : W} (h : Wds b) (j : Nat) : ∃ w : Nat, wd b j = (w : Int) ∧ w < 18446744073709551616 := by
  by_cases hj : j < b.length
  · have := h _ (List.getElem_mem hj)
    rw [wd_at] at this
    exact ⟨(wd b j).toNat, by omega, by omega⟩
  · exact ⟨0, by rw [wd_out (by omega)]; rfl, by omega⟩
theorem subs_both {a b : W} (ha : Wds a) (hb : Wds b) : (subs a b && subs b a) = decide (norm a = norm b) := by
  rw [Bool.eq_iff_iff]
  simp only [Bool.and_eq_true, decide_eq_true_eq, subs, List.all_eq_true, List.mem_range, beq_iff_eq]
  constructor
  · rintro ⟨h1, h2⟩
    apply norm_ext
    intro j
    obtain ⟨x, hx, hxl⟩ := wds_wd ha j
    obtain ⟨y, hy, hyl⟩ := wds_wd hb j
    have s1 : sub x y = true := by
      by_cases hj : j < a.length
      · have := h1 j hj; rwa [hx, hy, sub64_nat hxl hyl] at this
      · rw [wd_out (by omega)] at hx
        have : x = 0 := by omega
        subst this; exact sub_bit.2 fun i hi => by simp at hi
    have s2 : sub y x = true := by
      by_cases hj : j < b.length
      · have := h2 j hj; rwa [hx, hy, sub64_nat hyl hxl] at this
      · rw [wd_out (by omega)] at hy
        have : y = 0 := by omega
        subst this; exact sub_bit.2 fun i hi => by simp at hi
    rw [hx, hy, sub_antisymm s1 s2]
  · intro h
    have hw : ∀ j, wd a j = wd b j := fun j => by rw [← wd_norm a, h, wd_norm]
    constructor
    · intro j _
      obtain ⟨x, hx, hxl⟩ := wds_wd ha j
      rw [← hw, hx, sub64_nat hxl hxl]; exact sub_refl _
    · intro j _
      obtain ⟨x, hx, hxl⟩ := wds_wd ha j
      rw [← hw, hx, sub64_nat hxl hxl]; exact sub_refl _
theorem wds_e1 {w : Nat} (hw : w < 18446744073709551616) : Wds (e1 w) := by
  intro x hx
  unfold e1 at hx; split at hx
  · cases hx
  · simp only [List.mem_singleton] at hx; subst hx; omega

/-! types with codes of one word -/
structure Cd (l : List Coded) (cs : List Nat) : Prop where
  eq : l.map (·.Code) = cs.map e1
  lt : ∀ c ∈ cs, c < 18446744073709551616
  len : cs.length ≤ 1048576
theorem Cd.length {l : List Coded} {cs : List Nat} (h : Cd l cs) : l.length = cs.length := by
  have := congrArg List.length h.eq; simpa using this
theorem Cd.code {l : List Coded} {cs : List Nat} (h : Cd l cs) {i : Nat} (hi : i < l.length) : l[i].Code = e1 (cs.getD i 0) := by
  have hi' : i < cs.length := by rw [← h.length]; exact hi
  have := congrArg (fun m => m[i]?) h.eq
  simp only [List.getElem?_map, List.getElem?_eq_getElem hi, List.getElem?_eq_getElem hi', Option.map_some, Option.some.injEq] at this
  rw [this, List.getD_eq_getElem?_getD, List.getElem?_eq_getElem hi']; rfl
theorem Cd.get {l : List Coded} {cs : List Nat} (h : Cd l cs) {i : Nat} (hi : i < cs.length) : cs.getD i 0 < 18446744073709551616 := h.lt _ (getD_mem0 hi)
theorem Cd.mem {l : List Coded} {cs : List Nat} (h : Cd l cs) {x : Coded} (hx : x ∈ l) : ∃ c, c ∈ cs ∧ x.Code = e1 c := by
  have : x.Code ∈ l.map (·.Code) := List.mem_map_of_mem hx
  rw [h.eq, List.mem_map] at this
  obtain ⟨c, hc, e⟩ := this
  exact ⟨c, hc, e.symm⟩

theorem h58 {l : List Coded} {cs : List Nat} (H : Cd l cs) {code : W} (hc : Wds code) (hcl : code.length ≤ 1073741824) : ∀ (xs : List Coded) (i : Nat), l.drop i = xs →
    t58_2 code l l.length i = some (ixFrom (fun x => decide (x.Code = norm code)) xs i) := by
  have hl : l.length ≤ 1073741824 := by have := H.len; rw [H.length]; omega
  intro xs
  induction xs with
  | nil =>
    intro i h
    refine k58_2 _ _ _ _ ?_
    rw [end_drop h]; rfl
  | cons x xs ih =>
    intro i h
    refine k58_2 _ _ _ _ ?_
    have hx : x ∈ l := by rw [← List.take_append_drop i l, h]; simp
    obtain ⟨c, hcm, e⟩ := H.mem hx
    have h59 : f59 x code = some (decide (x.Code = norm code)) := by
      refine e59 _ _ ?_
      have hclt := H.lt c hcm
      rw [e, c31 _ _ (by have := e1_length c; omega) hcl, subs_both (wds_e1 hclt) hc, norm_e1]; rfl
    rw [in_drop h, cond_true, at_drop h, h59, bind_some', wrap_drop h hl, ih (i + 1) (drop_next h), ixFrom]
    cases decide (x.Code = norm code) <;> rfl
theorem c18 {l : List Coded} {cs : List Nat} (H : Cd l cs) {code : W} (hc : Wds code) (hcl : code.length ≤ 1073741824) : f18 l code = some (ixFrom (fun x => decide (x.Code = norm code)) l 0) := by
  refine e18 _ _ ?_
  have : f58 l code = some (ixFrom (fun x => decide (x.Code = norm code)) l 0) := e58 _ _ (h58 H hc hcl l 0 rfl)
  rw [this]; rfl
theorem ix_fnd : ∀ (l : List Coded) (cs : List Nat) (w i : Nat), l.map (·.Code) = cs.map e1 →
    ixFrom (fun x => decide (x.Code = e1 w)) l i = match cs.findIdx? (· == w) with
      | some j => ((i + j : Nat) : Int)
      | none => -1 := by
  intro l
  induction l with
  | nil =>
    intro cs w i h
    cases cs with
    | nil => rfl
    | cons c cs => simp at h
  | cons x l ih =>
    intro cs w i h
    cases cs with
    | nil => simp at h
    | cons c cs =>
      simp only [List.map_cons, List.cons.injEq] at h
      rw [ixFrom, ih cs w (i + 1) h.2, List.findIdx?_cons]
      by_cases e : c = w
      · subst e; simp [h.1]
      · have h1 : ¬ (x.Code = e1 w) := by rw [h.1]; exact fun e' => e (e1_inj e')
        have h2 : (c == w) = false := by simpa using e
        simp only [h1, decide_false, Bool.false_eq_true, if_false, h2]
        cases cs.findIdx? (· == w) with
        | none => rfl
        | some j =>
          show (((i + 1) + j : Nat) : Int) = ((i + (j + 1) : Nat) : Int)
          rw [Nat.add_assoc, Nat.add_comm 1 j]
theorem ix_fnd0 {l : List Coded} {cs : List Nat} (H : Cd l cs) (w : Nat) : ixFrom (fun x => decide (x.Code = e1 w)) l 0 = fnd cs w := by
  rw [ix_fnd l cs w 0 H.eq, fnd]
  cases cs.findIdx? (· == w) <;> simp
theorem o18 {l : List Coded} {cs : List Nat} (H : Cd l cs) {w : Nat} (hw : w < 18446744073709551616) : f18 l (e1 w) = some (fnd cs w) := by
  rw [c18 H (wds_e1 hw) (by have := e1_length w; omega), norm_e1, ix_fnd0 H]
theorem o18z {l : List Coded} {cs : List Nat} (H : Cd l cs) {w : Nat} (hw : w < 18446744073709551616) : f18 l ((([] : List Int) ++ e1 w) ++ [0]) = some (fnd cs w) := by
  rw [List.nil_append, c18 H, norm_e1z, ix_fnd0 H]
  · intro x hx
    rcases List.mem_append.1 hx with hx | hx
    · exact wds_e1 hw x hx
    · simp only [List.mem_singleton] at hx; subst hx; omega
  · have := e1_length w; simp; omega
section
variable {l : List Coded} {cs : List Nat} (H : Cd l cs) {i j : Nat} (hi : i < cs.length) (hj : j < cs.length)
include H hi hj
theorem o20 : f20 l i j = some (fnd cs (cs.getD i 0 &&& cs.getD j 0)) := by
  refine e20 _ _ _ ?_
  have hl := H.length
  rw [getK_at (by omega), getK_at (by omega), H.code, H.code, o29 (H.get hi) (H.get hj), bind_some', o18 H (Nat.lt_of_le_of_lt Nat.and_le_left (H.get hi))]; rfl
theorem o24 : f24 l i j = some (sub (cs.getD j 0) (cs.getD i 0)) := by
  refine e24 _ _ _ ?_
  have hl := H.length
  rw [getK_at (by omega), getK_at (by omega), H.code, H.code, o63 (H.get hj) (H.get hi)]; rfl
end
theorem cd_drop {l : List Coded} {cs : List Nat} (H : Cd l cs) {i c : Nat} {xs : List Nat} (h : cs.drop i = c :: xs) : ∃ hi : i < l.length, l[i].Code = e1 c ∧ c < 18446744073709551616 := by
  have hi := drop_lt h
  have hl := H.length
  refine ⟨by omega, ?_, ?_⟩
  · rw [H.code, List.getD_eq_getElem?_getD, drop_get h]; rfl
  · exact H.lt c (List.mem_of_getElem? (drop_get h))
theorem h22 {l : List Coded} {cs : List Nat} (H : Cd l cs) {u : Nat} (hu : u < 18446744073709551616) : ∀ (xs : List Nat) (i b : Nat), cs.drop i = xs → b < 18446744073709551616 →
    t22_4 l (e1 u) (e1 b) l l.length i = some (fnd cs (joinw u xs b)) := by
  have hl : l.length ≤ 1073741824 := by have := H.len; rw [H.length]; omega
  intro xs
  induction xs with
  | nil =>
    intro i b h hb
    refine k22_4 _ _ _ _ _ _ ?_
    rw [H.length, end_drop h, cond_false, o18 H hb]; rfl
  | cons c xs ih =>
    intro i b h hb
    refine k22_4 _ _ _ _ _ _ ?_
    obtain ⟨hi, hc, hclt⟩ := cd_drop H h
    rw [cond_pos (by simp; omega), getK_at hi, hc, o63 hu hclt, bind_some', wrap_succ (by omega), joinw]
    by_cases hs : sub u c = true
    · rw [hs, cond_true, o29 hb hclt, bind_some', ih (i + 1) _ (drop_next h) (Nat.lt_of_le_of_lt Nat.and_le_left hb)]; simp
    · have hs' : sub u c = false := by simpa using hs
      rw [hs', cond_false, ih (i + 1) _ (drop_next h) hb]; simp
section
variable {l : List Coded} {cs : List Nat} (H : Cd l cs) {i j : Nat} (hi : i < cs.length) (hj : j < cs.length)
include H hi hj
theorem o22 : f22 l i j = some (fnd cs (join cs (cs.getD i 0) (cs.getD j 0))) := by
  refine e22 _ _ _ ?_
  have hl := H.length
  rw [getK_at (by omega), getK_at (by omega), H.code, H.code, o62 (H.get hi) (H.get hj), bind_some', show (0 : Int) = ((0 : Nat) : Int) from rfl, getK_at (by omega), H.code]
  exact h22 H (or_lt (H.get hi) (H.get hj)) cs 0 _ rfl (H.get (by omega))
end

/-! Supers -/
abbrev cast (l : List Nat) : List Int := l.map fun n : Nat => (n : Int)
theorem cast_drop {l : List Nat} {i : Nat} {x : Nat} {xs : List Nat} (h : l.drop i = x :: xs) : (cast l).drop i = (x : Int) :: cast xs := by
  rw [← List.map_drop, h]; rfl
theorem cast_end {l : List Nat} {i : Nat} (h : l.drop i = []) : (cast l).drop i = [] := by rw [← List.map_drop, h]; rfl
section
variable {l : List Coded} {cs : List Nat} (H : Cd l cs)
include H
theorem o66 {m a : Nat} (hm : m < cs.length) (ha : a < cs.length) : f66 m a l = some (m != a && sub (cs.getD m 0) (cs.getD a 0)) := by
  refine e66 _ _ _ ?_
  by_cases h : m = a
  · subst h; rw [cond_neg (by simp)]; simp
  · rw [cond_pos (by simp; omega), o24 H ha hm]; simp [h]
theorem h109 {ab : List Nat} (hab : ab.length ≤ 1073741824) (hm : ∀ m ∈ ab, m < cs.length) {a : Nat} (ha : a < cs.length) : ∀ (xs : List Nat) (i : Nat), ab.drop i = xs →
    t109_2 (cast ab) a l (cast ab).length i = some (ixFrom (fun m => m != a && sub (cs.getD m 0) (cs.getD a 0)) xs i) := by
  intro xs
  induction xs with
  | nil =>
    intro i h
    refine k109_2 _ _ _ _ _ ?_
    rw [end_drop (cast_end h)]; rfl
  | cons x xs ih =>
    intro i h
    refine k109_2 _ _ _ _ _ ?_
    have hx : x ∈ ab := List.mem_of_getElem? (drop_get h)
    rw [in_drop (cast_drop h), cond_true, at_drop (cast_drop h), o66 H (hm x hx) ha, bind_some', wrap_drop (cast_drop h) (by simpa using hab), ih (i + 1) (drop_next h), ixFrom]
    cases (x != a && sub (cs.getD x 0) (cs.getD a 0)) <;> rfl
theorem ix_any {α : Type} (p : α → Bool) : ∀ (xs : List α) (i : Nat), decide (ixFrom p xs i ≥ 0) = xs.any p := by
  clear H
  intro xs
  induction xs with
  | nil => intro i; rfl
  | cons x xs ih =>
    intro i
    rw [ixFrom, List.any_cons]
    cases h : p x with
    | true => simp
    | false => rw [← ih (i + 1)]; simp
theorem o67 {ab : List Nat} (hab : ab.length ≤ 1073741824) (hm : ∀ m ∈ ab, m < cs.length) {a : Nat} (ha : a < cs.length) : f67 (cast ab) a l = some (ab.any fun m => m != a && sub (cs.getD m 0) (cs.getD a 0)) := by
  refine e67 _ _ _ ?_
  have : f109 (cast ab) a l = some (ixFrom (fun m => m != a && sub (cs.getD m 0) (cs.getD a 0)) ab 0) := e109 _ _ _ (h109 H hab hm ha ab 0 rfl)
  rw [this, bind_some', ix_any]
  exact H
theorem h27b {ab : List Nat} (hab : ab.length ≤ 1073741824) (hm : ∀ m ∈ ab, m < cs.length) : ∀ (xs : List Nat) (i : Nat) (acc : List Nat), ab.drop i = xs → acc.length ≤ i →
    t27_9 l (cast ab).length i (cast ab) (cast acc) = some (cast (acc ++ xs.filter fun k => !ab.any fun m => m != k && sub (cs.getD m 0) (cs.getD k 0))) := by
  intro xs
  induction xs with
  | nil =>
    intro i acc h hacc
    refine k27_9 _ _ _ _ _ ?_
    rw [end_drop (cast_end h)]; simp
  | cons x xs ih =>
    intro i acc h hacc
    refine k27_9 _ _ _ _ _ ?_
    have hx : x ∈ ab := List.mem_of_getElem? (drop_get h)
    have hlt := drop_lt h
    rw [in_drop (cast_drop h), cond_true, chk_drop (cast_drop h), atN_drop (cast_drop h), o67 H hab hm (hm x hx), bind_some', wrap_drop (cast_drop h) (by simpa using hab), List.filter_cons]
    cases hb : ab.any fun m => m != x && sub (cs.getD m 0) (cs.getD x 0) with
    | true => simp only [Bool.not_true, cond_false]; rw [ih (i + 1) acc (drop_next h) (by omega)]; simp
    | false =>
      simp only [Bool.not_false, cond_true]
      rw [chk_app _ (by simp; omega) (by simp) (by omega)]
      have := ih (i + 1) (acc ++ [x]) (drop_next h) (by simp; omega)
      simpa using this
theorem h27a {i : Nat} (hi : i < cs.length) : ∀ (m k : Nat), cs.length - k = m → k ≤ cs.length →
    t27_3 i cs.length k l (cast ((List.range k).filter fun k => k != i && sub (cs.getD i 0) (cs.getD k 0))) [] = some (cast (sups cs i)) := by
  intro m
  induction m with
  | zero =>
    intro k hk hle
    have : k = cs.length := by omega
    subst this
    refine k27_3 _ _ _ _ _ _ ?_
    rw [cond_neg (by simp)]
    have := h27b H (ab := aboves cs i) (by
      have h1 : (aboves cs i).length ≤ cs.length := by
        unfold aboves
        refine Nat.le_trans (List.length_filter_le _ _) ?_
        simp
      have := H.len; omega) (fun m hm => (mem_aboves.1 hm).1) (aboves cs i) 0 [] rfl (by simp)
    exact this
  | succ m ih =>
    intro k hk hle
    refine k27_3 _ _ _ _ _ _ ?_
    have hlen := H.len
    have h1 := ih (k + 1) (by omega) (by omega)
    rw [cond_pos (by simp; omega), wrap_succ (by omega)]
    rw [List.range_succ, List.filter_append] at h1
    by_cases e : k = i
    · subst e
      rw [cond_neg (by simp)]
      rw [show List.filter (fun k' => k' != k && sub (cs.getD k 0) (cs.getD k' 0)) [k] = [] by simp, List.append_nil] at h1
      exact h1
    · rw [cond_pos (by simp; omega), o24 H (by omega) hi, bind_some']
      cases hb : sub (cs.getD i 0) (cs.getD k 0) with
      | true =>
        rw [cond_true, chk_app _ (by
          simp only [List.length_map]
          refine Nat.le_trans (List.length_filter_le _ _) ?_
          simp; omega) (by simp) (by omega)]
        rw [show List.filter (fun k' => k' != i && sub (cs.getD i 0) (cs.getD k' 0)) [k] = [k] by rw [List.filter_cons, hb]; simp [e], cast, List.map_append] at h1
        exact h1
      | false =>
        rw [cond_false]
        rw [show List.filter (fun k' => k' != i && sub (cs.getD i 0) (cs.getD k' 0)) [k] = [] by rw [List.filter_cons, hb]; simp [e], List.append_nil] at h1
        exact h1
theorem o27 {i : Nat} (hi : i < cs.length) : f27 l i = some (cast (sups cs i)) := by
  refine e27 _ _ ?_
  have := h27a H hi _ 0 rfl (by omega)
  rw [H.length]
  simpa using this
end
/-- what R.Supers asks of each m -/
def okAt (cs : List Nat) (i k m : Nat) : Bool := m == i || m == k || !sub (cs.getD m 0) (cs.getD k 0) || !sub (cs.getD i 0) (cs.getD m 0)
section
variable {l : List Coded} {cs : List Nat} (H : Cd l cs)
include H
def dirs (cs : List Nat) (i : Nat) (k : Nat) : Bool := k != i && sub (cs.getD i 0) (cs.getD k 0) && (List.range cs.length).all (okAt cs i k)
omit H in
theorem dirs_sups (i : Nat) : (List.range cs.length).filter (dirs cs i) = sups cs i := by
  unfold sups aboves
  rw [List.filter_filter]
  apply List.filter_congr
  intro k hk
  rw [Bool.eq_iff_iff]
  simp only [dirs, Bool.and_eq_true, List.all_eq_true, List.mem_range, Bool.not_eq_true', List.any_eq_false, List.mem_filter, bne_iff_ne, ne_eq, okAt, Bool.or_eq_true, beq_iff_eq]
  constructor
  · rintro ⟨⟨h1, h2⟩, h3⟩
    refine ⟨?_, h1, h2⟩
    rintro m ⟨hm, hm1, hm2⟩ ⟨hm3, hm4⟩
    rcases h3 m hm with ((h | h) | h) | h
    · exact hm1 h
    · exact hm3 h
    · rw [hm4] at h; cases h
    · rw [hm2] at h; cases h
  · rintro ⟨h3, h1, h2⟩
    refine ⟨⟨h1, h2⟩, ?_⟩
    intro m hm
    by_cases e1 : m = i
    · exact .inl (.inl (.inl e1))
    by_cases e2 : m = k
    · exact .inl (.inl (.inr e2))
    cases h4 : sub (cs.getD m 0) (cs.getD k 0) with
    | false => exact .inl (.inr rfl)
    | true =>
      cases h5 : sub (cs.getD i 0) (cs.getD m 0) with
      | false => exact .inr rfl
      | true => exact absurd ⟨e2, h4⟩ (h3 m ⟨hm, e1, h5⟩)
end
end Go.Proofs.YtfoddgpndoeeaaaGreatDoor.cl
