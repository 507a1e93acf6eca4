/-
  How many types the hierarchies of ClosureLimits have.
-/
import Derived.Test.YtfoddgpndoeeaaaGreatDoorClNe
import Derived.KernelRfl
set_option linter.unusedVariables false
set_option linter.unusedSimpArgs false
set_option linter.unusedSectionVars false
set_option maxRecDepth 100000
namespace Go.Proofs.YtfoddgpndoeeaaaGreatDoor.cl
open Go Go.AM

def tN : Str := [116]
def xN (i : Nat) : Str := [120, UInt8.ofNat (97 + i)]
def yN (i : Nat) : Str := [121, UInt8.ofNat (97 + i)]
def xsup (n i : Nat) : List Str := ((List.range n).filter (fun k => k != i)).map xN
def dX (n : Nat) : List TypeDecl := (List.range n).map fun i => ⟨xN i, [tN], []⟩
def dY (n m : Nat) : List TypeDecl := (List.range m).map fun i => ⟨yN i, xsup n i, []⟩
def dL (n : Nat) : List TypeDecl := ⟨tN, [], []⟩ :: (dX n ++ dY n n)

/-! the codes -/
def bitc (n m j : Nat) : Bool :=
  bif Nat.ble j n then Nat.beq m 0 || (Nat.blt 0 j && Nat.beq m (2 ^ (j - 1))) else !(m.testBit (j - n - 1))
def code (n m : Nat) : Nat := mk 0 ((List.range (2 * n + 1)).filter (bitc n m))
theorem code_bit {n m j : Nat} : (code n m).testBit j = (decide (j < 2 * n + 1) && bitc n m j) := by
  rw [code, mk_bit, Nat.zero_testBit, Bool.false_or]
  rw [Bool.eq_iff_iff]
  simp only [decide_eq_true_eq, List.mem_filter, List.mem_range, Bool.and_eq_true]
theorem or_zero {a b : Nat} : a ||| b = 0 ↔ a = 0 ∧ b = 0 := by
  constructor
  · intro h
    have key : ∀ i, a.testBit i = false ∧ b.testBit i = false := fun i => by
      have : (a ||| b).testBit i = false := by rw [h]; exact Nat.zero_testBit i
      rw [Nat.testBit_or] at this
      exact Bool.or_eq_false_iff.1 this
    exact ⟨Nat.eq_of_testBit_eq fun i => by rw [(key i).1, Nat.zero_testBit], Nat.eq_of_testBit_eq fun i => by rw [(key i).2, Nat.zero_testBit]⟩
  · rintro ⟨rfl, rfl⟩; rfl
theorem sub_pow {a k : Nat} (h : ∀ i, a.testBit i = true → i = k) : a = 0 ∨ a = 2 ^ k := by
  cases hb : a.testBit k with
  | true =>
    refine .inr (Nat.eq_of_testBit_eq fun i => ?_)
    rw [Nat.testBit_two_pow]
    by_cases e : i = k
    · subst e; simp [hb]
    · have : ¬ k = i := fun h => e h.symm
      cases ha : a.testBit i with
      | true => exact absurd (h i ha) e
      | false => simp [this]
  | false =>
    refine .inl (Nat.eq_of_testBit_eq fun i => ?_)
    rw [Nat.zero_testBit]
    cases ha : a.testBit i with
    | true => rw [h i ha] at ha; rw [ha] at hb; cases hb
    | false => rfl
theorem or_pow {a b k : Nat} : (a ||| b = 0 ∨ a ||| b = 2 ^ k) ↔ (a = 0 ∨ a = 2 ^ k) ∧ (b = 0 ∨ b = 2 ^ k) := by
  constructor
  · intro h
    have key : ∀ i, (a ||| b).testBit i = true → i = k := fun i hi => by
      rcases h with h | h
      · rw [h, Nat.zero_testBit] at hi; cases hi
      · rw [h, Nat.testBit_two_pow] at hi; exact (of_decide_eq_true hi).symm
    refine ⟨sub_pow fun i hi => key i ?_, sub_pow fun i hi => key i ?_⟩ <;> rw [Nat.testBit_or, hi] <;> simp
  · rintro ⟨rfl | rfl, rfl | rfl⟩ <;> simp
theorem bitc_or {n a b j : Nat} : bitc n (a ||| b) j = (bitc n a j && bitc n b j) := by
  unfold bitc
  cases hj : Nat.ble j n with
  | false =>
    simp only [cond_false, Nat.testBit_or]
    cases a.testBit (j - n - 1) <;> cases b.testBit (j - n - 1) <;> rfl
  | true =>
    simp only [cond_true]
    rw [Bool.eq_iff_iff]
    simp only [Bool.and_eq_true, Bool.or_eq_true, beq_iff, Nat.blt_eq]
    by_cases h0 : 0 < j
    · simp only [h0, true_and]; exact or_pow
    · simp only [h0, false_and, or_false]; exact or_zero
theorem code_and {n a b : Nat} : code n a &&& code n b = code n (a ||| b) := by
  refine Nat.eq_of_testBit_eq fun j => ?_
  rw [Nat.testBit_and, code_bit, code_bit, code_bit, bitc_or]
  cases decide (j < 2 * n + 1) <;> simp
theorem code_hi {n m i : Nat} (hi : i < n) : (code n m).testBit (n + 1 + i) = !(m.testBit i) := by
  have h1 : n + 1 + i - n - 1 = i := by omega
  have h2 : Nat.ble (n + 1 + i) n = false := by
    cases h : Nat.ble (n + 1 + i) n with
    | false => rfl
    | true => have := Nat.le_of_ble_eq_true h; omega
  rw [code_bit, decide_eq_true (by omega), Bool.true_and, bitc, h2, cond_false, h1]
theorem hi_false {m n i : Nat} (hm : m < 2 ^ n) (hi : n ≤ i) : m.testBit i = false :=
  Nat.testBit_lt_two_pow (Nat.lt_of_lt_of_le hm (Nat.pow_le_pow_right (by omega) hi))
theorem code_inj {n a b : Nat} (ha : a < 2 ^ n) (hb : b < 2 ^ n) (h : code n a = code n b) : a = b := by
  refine Nat.eq_of_testBit_eq fun i => ?_
  by_cases hi : i < n
  · have h1 := code_hi (m := a) hi
    have h2 := code_hi (m := b) hi
    rw [h, h2] at h1
    revert h1
    cases a.testBit i <;> cases b.testBit i <;> simp
  · rw [hi_false ha (by omega), hi_false hb (by omega)]
theorem code_top {n : Nat} (hn : 2 ≤ n) : code n (2 ^ n - 1) = 0 := by
  refine Nat.eq_of_testBit_eq fun j => ?_
  rw [code_bit, Nat.zero_testBit]
  cases hj : decide (j < 2 * n + 1) with
  | false => rfl
  | true =>
    simp only [decide_eq_true_eq] at hj
    rw [Bool.true_and]
    unfold bitc
    have h4 : 4 ≤ 2 ^ n := Nat.pow_le_pow_right (n := 2) (by omega) hn
    cases hb : Nat.ble j n with
    | false =>
      have hlt : n < j := by
        apply Classical.byContradiction; intro hc
        rw [Nat.ble_eq_true_of_le (by omega)] at hb; cases hb
      rw [cond_false, Nat.testBit_two_pow_sub_one, decide_eq_true (by omega)]; rfl
    | true =>
      have hle := Nat.le_of_ble_eq_true hb
      rw [cond_true]
      rw [Bool.eq_false_iff]
      intro hc
      simp only [Bool.or_eq_true, Bool.and_eq_true, beq_iff, Nat.blt_eq] at hc
      rcases hc with hc | ⟨h0, hc⟩
      · omega
      · have h2 : 2 * 2 ^ (j - 1) = 2 ^ j := by rw [← Nat.pow_succ']; congr 1; omega
        have hp : 1 < 2 ^ n := by omega
        have h5 : (2 ^ n - 1) % 2 = 1 := by
          have : 2 ^ n = 2 * 2 ^ (n - 1) := by rw [← Nat.pow_succ']; congr 1; omega
          have h6 : 0 < 2 ^ (n - 1) := Nat.two_pow_pos _
          omega
        rw [hc] at h5
        by_cases hj1 : j = 1
        · subst hj1; simp at hc; omega
        · have : 2 ^ (j - 1) = 2 * 2 ^ (j - 2) := by rw [← Nat.pow_succ']; congr 1; omega
          omega
theorem code_nz {n m : Nat} (hm : m < 2 ^ n) (h : m ≠ 2 ^ n - 1) : code n m ≠ 0 := by
  intro h0
  apply h
  refine Nat.eq_of_testBit_eq fun i => ?_
  rw [Nat.testBit_two_pow_sub_one]
  by_cases hi : i < n
  · have := code_hi (m := m) hi
    rw [h0, Nat.zero_testBit] at this
    rw [decide_eq_true hi]
    revert this; cases m.testBit i <;> simp
  · rw [hi_false hm (by omega), decide_eq_false (by omega)]
theorem lowBit {m : Nat} (h : m ≠ 0) : ∃ k, m.testBit k = true := by
  apply Classical.byContradiction
  intro hc
  apply h
  refine Nat.eq_of_testBit_eq fun i => ?_
  rw [Nat.zero_testBit]
  cases hb : m.testBit i with
  | false => rfl
  | true => exact absurd ⟨i, hb⟩ hc

/-! the family of such codes -/
def base (n : Nat) : List Nat := 0 :: ((List.range n).map (fun k => 2 ^ k) ++ (List.range n).map (fun i => 2 ^ n - 1 - 2 ^ i))
theorem fam_base {n : Nat} (hn : 2 ≤ n) {cs : List Nat} (hcs : cs = (base n).map (code n)) (hF : Fm cs (fam cs)) (hclo : (fam cs).length ≤ 256 → ∀ a ∈ fam cs, ∀ b ∈ fam cs, a &&& b ≠ 0 → a &&& b ∈ fam cs) :
    (fam cs).length ≤ 2 ^ n - 1 ∧ ((fam cs).length ≤ 256 → (fam cs).length = 2 ^ n - 1) := by
  have hp : 0 < 2 ^ n := Nat.two_pow_pos n
  have hbase : ∀ m ∈ base n, m < 2 ^ n := fun m hm => by
    simp only [base, List.mem_cons, List.mem_append, List.mem_map, List.mem_range] at hm
    rcases hm with rfl | ⟨k, hk, rfl⟩ | ⟨i, hi, rfl⟩
    · exact hp
    · exact Nat.pow_lt_pow_right (by omega) hk
    · exact Nat.lt_of_le_of_lt (Nat.sub_le _ _) (Nat.sub_lt hp Nat.one_pos)
  have hmem : ∀ c ∈ fam cs, ∃ m, m < 2 ^ n - 1 ∧ c = code n m := fun c hc => by
    obtain ⟨m, hm, e⟩ := hF.gen (fun c => ∃ m, m < 2 ^ n ∧ c = code n m) (fun c hc => by
      rw [hcs] at hc
      obtain ⟨m, hm, rfl⟩ := List.mem_map.1 hc
      exact ⟨m, hbase m hm, rfl⟩) (fun a b ⟨m, hm, e⟩ ⟨k, hk, e'⟩ => ⟨m ||| k, Nat.or_lt_two_pow hm hk, by rw [e, e', code_and]⟩) c hc
    refine ⟨m, ?_, e⟩
    have : m ≠ 2 ^ n - 1 := fun h => hF.nz c hc (by rw [e, h, code_top hn])
    omega
  have hup : (fam cs).length ≤ 2 ^ n - 1 := by
    have := nodup_length_le (l := fam cs) (m := (List.range (2 ^ n - 1)).map (code n)) hF.nd fun c hc => by
      obtain ⟨m, hm, rfl⟩ := hmem c hc
      exact List.mem_map.2 ⟨m, List.mem_range.2 hm, rfl⟩
    simpa using this
  refine ⟨hup, fun hle => ?_⟩
  have hin : ∀ m ∈ base n, code n m ∈ fam cs := fun m hm => by
    obtain ⟨e, he⟩ := hF.pre
    rw [he]
    exact List.mem_append_left _ (by rw [hcs]; exact List.mem_map.2 ⟨m, hm, rfl⟩)
  have hall : ∀ m, m < 2 ^ n - 1 → code n m ∈ fam cs := by
    intro m
    induction m using Nat.strongRecOn with
    | ind m ih =>
      intro hm
      by_cases h0 : m = 0
      · subst h0; exact hin 0 (by simp [base])
      · obtain ⟨k, hk⟩ := lowBit h0
        have hkn : k < n := by
          apply Classical.byContradiction; intro hc
          rw [hi_false (show m < 2 ^ n by omega) (by omega)] at hk; cases hk
        have hpk : code n (2 ^ k) ∈ fam cs := hin _ (by simp only [base, List.mem_cons, List.mem_append, List.mem_map, List.mem_range]; exact .inr (.inl ⟨k, hkn, rfl⟩))
        have hsplit : (m ^^^ 2 ^ k) ||| 2 ^ k = m := Nat.eq_of_testBit_eq fun i => by
          rw [Nat.testBit_or, Nat.testBit_xor, Nat.testBit_two_pow]
          by_cases e : k = i
          · subst e; simp [hk]
          · simp [e]
        have hlt : m ^^^ 2 ^ k < m := by
          have h1 : m ^^^ 2 ^ k ≤ m := by
            have : (m ^^^ 2 ^ k) &&& m = m ^^^ 2 ^ k := Nat.eq_of_testBit_eq fun i => by
              rw [Nat.testBit_and, Nat.testBit_xor, Nat.testBit_two_pow]
              by_cases e : k = i
              · subst e; simp [hk]
              · simp [e]
            rw [← this]; exact Nat.and_le_right
          have h2 : m ^^^ 2 ^ k ≠ m := fun e => by
            have := congrArg (fun x => x.testBit k) e
            simp only [Nat.testBit_xor, Nat.testBit_two_pow, hk] at this
            simp at this
          omega
        have := ih _ hlt (by omega)
        have hnz : code n m ≠ 0 := code_nz (by omega) (by omega)
        have e : code n (m ^^^ 2 ^ k) &&& code n (2 ^ k) = code n m := by rw [code_and, hsplit]
        rw [← e]
        exact hclo hle _ this _ hpk (by rw [e]; exact hnz)
  have := nodup_length_le (l := (List.range (2 ^ n - 1)).map (code n)) (m := fam cs) (nodup_map List.nodup_range fun a ha b hb e => by
    have h1 := List.mem_range.1 ha
    have h2 := List.mem_range.1 hb
    exact code_inj (by omega) (by omega) e) fun c hc => by
      obtain ⟨m, hm, rfl⟩ := List.mem_map.1 hc
      exact hall m (List.mem_range.1 hm)
  simp only [List.length_map, List.length_range] at this
  omega

/-! what lies below a type -/
def leN (x y : Str) : Bool := x == y || x == tN || (x.getD 0 0 == 120 && y.getD 0 0 == 121 && x.getD 1 0 != y.getD 1 0)
def cwN (n : Nat) (x : Str) : Nat := mk 0 ((List.range (nms (dL n)).length).filter fun i => leN x ((nms (dL n)).getD i []))
/-- what is checked by running, for each of the seven numbers -/
def fits (n : Nat) : Bool :=
  !(bigB (dL n)) && (nmErr [] (dL n) == 0) && (spErr (nms (dL n)) (dL n) == 0) && (tops (dL n) == 1) && (sortS (nms (dL n)) == nms (dL n)) &&
  ((dL n).all fun t => t.Supers.all fun s => Nat.blt (if s = tN then 0 else if s.getD 0 0 = 120 then 1 else 2) (if t.Name = tN then 0 else if t.Name.getD 0 0 = 120 then 1 else 2)) &&
  ((nms (dL n)).all fun x => (nms (dL n)).all fun y => !(leN x y) || x == y || (dn (dL n) x).contains y || (dn (dL n) x).any fun z => (dn (dL n) z).contains y) &&
  ((nms (dL n)).all fun x => (nms (dL n)).all fun y => (dn (dL n) y).all fun z => !(leN x y) || leN x z) &&
  (((nms (dL n)).map (cwN n)) == (base n).map (code n))
theorem fits3 : fits 3 = true := by kernel_rfl
theorem fits4 : fits 4 = true := by kernel_rfl
theorem fits5 : fits 5 = true := by kernel_rfl
theorem fits6 : fits 6 = true := by kernel_rfl
theorem fits7 : fits 7 = true := by kernel_rfl
theorem fits8 : fits 8 = true := by kernel_rfl
theorem fits9 : fits 9 = true := by kernel_rfl
theorem fits_all {n : Nat} (h3 : 3 ≤ n) (h9 : n ≤ 9) : fits n = true := by
  have : n = 3 ∨ n = 4 ∨ n = 5 ∨ n = 6 ∨ n = 7 ∨ n = 8 ∨ n = 9 := by omega
  rcases this with rfl | rfl | rfl | rfl | rfl | rfl | rfl
  · exact fits3
  · exact fits4
  · exact fits5
  · exact fits6
  · exact fits7
  · exact fits8
  · exact fits9
theorem getD_in {l : List Str} {i : Nat} (h : i < l.length) : l.getD i [] ∈ l := by
  rw [List.getD_eq_getElem?_getD, List.getElem?_eq_getElem h]; exact List.getElem_mem h
/-- these declarations are accepted, and their codes are those -/
theorem lim_ok {n : Nat} (h3 : 3 ≤ n) (h9 : n ≤ 9) : chk (dL n) = 0 ∧ cws (dL n) = (base n).map (code n) := by
  have hf := fits_all h3 h9
  simp only [fits, Bool.and_eq_true, List.all_eq_true, Bool.not_eq_true', beq_iff_eq] at hf
  obtain ⟨⟨⟨⟨⟨⟨⟨⟨f1, f2⟩, f3⟩, f4⟩, f5⟩, f6⟩, f7⟩, f8⟩, f9⟩ := hf
  have hle : ∀ x ∈ nms (dL n), ∀ y, Le (dL n) x y → y ∈ nms (dL n) ∧ leN x y = true := fun x hx y h => by
    induction h with
    | refl => exact ⟨hx, by simp [leN]⟩
    | @step y z _ hz ih =>
      obtain ⟨hy, hl⟩ := ih
      refine ⟨dn_nms hz, ?_⟩
      have := f8 x hx y hy z hz
      rw [hl] at this
      simpa using this
  have hge : ∀ x ∈ nms (dL n), ∀ y ∈ nms (dL n), leN x y = true → Le (dL n) x y := fun x hx y hy h => by
    have := f7 x hx y hy
    rw [h] at this
    simp only [Bool.not_true, Bool.false_or, Bool.or_eq_true, beq_iff_eq, List.contains_iff_mem, List.any_eq_true] at this
    rcases this with (rfl | h1) | ⟨z, h1, h2⟩
    · exact .refl
    · exact .step .refl h1
    · exact .step (.step .refl h1) h2
  constructor
  · unfold chk
    rw [if_neg (by simp [f1]), if_neg (by simp [f2]), if_neg (by simp [f3]), if_neg (by simp [f4]), if_pos]
    refine ⟨fun s => if s = tN then 0 else if s.getD 0 0 = 120 then 1 else 2, fun t ht s hs => ?_⟩
    exact Nat.blt_eq.mp (f6 t ht s hs)
  · have ha : alln (dL n) = nms (dL n) := f5
    rw [← f9, cws, ha]
    refine List.map_congr_left fun x hx => ?_
    rw [cw, cwN, idxs]
    congr 1
    refine List.filter_congr fun i hi => ?_
    have hi := getD_in (List.mem_range.1 hi)
    rw [Bool.eq_iff_iff]
    simp only [decide_eq_true_eq]
    exact ⟨fun h => (hle x hx _ h).2, fun h => hge x hx _ hi h⟩
theorem lim_len {n : Nat} : (dL n).length = 2 * n + 1 := by simp [dL, dX, dY]; omega
/-- how many types the completed hierarchy has -/
theorem lim_fam {n : Nat} (h3 : 3 ≤ n) (h9 : n ≤ 9) : (n ≠ 9 → (fam (cws (dL n))).length = 2 ^ n - 1) ∧ (n = 9 → 256 < (fam (cws (dL n))).length) := by
  obtain ⟨h0, hc⟩ := lim_ok h3 h9
  have A := acc_of_chk h0
  have hl := lim_len (n := n)
  have hlen : (cws (dL n)).length ≤ 256 := by have := cws_len (d := dL n); omega
  obtain ⟨F, h2, hclo⟩ := fam_spec (cws_nodup A) cws_nz hlen
  obtain ⟨k1, k2⟩ := fam_base (by omega) hc F hclo
  constructor
  · intro hn
    have : n = 3 ∨ n = 4 ∨ n = 5 ∨ n = 6 ∨ n = 7 ∨ n = 8 := by omega
    have hp : 2 ^ n ≤ 256 := by rcases this with rfl | rfl | rfl | rfl | rfl | rfl <;> decide
    exact k2 (by omega)
  · rintro rfl
    apply Classical.byContradiction
    intro hc
    have := k2 (by omega)
    have : (2 : Nat) ^ 9 = 512 := by decide
    omega
theorem lim_sz {n : Nat} (h9 : n ≤ 9) : Sz (dL n) := by
  refine ⟨by rw [lim_len]; omega, fun t ht => ?_⟩
  simp only [dL, dX, dY, List.mem_cons, List.mem_append, List.mem_map, List.mem_range] at ht
  rcases ht with rfl | ⟨i, _, rfl⟩ | ⟨i, _, rfl⟩
  · simp
  · simp
  · simp only [xsup, List.length_map]
    refine Nat.le_trans (List.length_filter_le _ _) ?_
    simp; omega
end Go.Proofs.YtfoddgpndoeeaaaGreatDoor.cl
