/-
  The Closure laws: the program's Codes (bits.List, lookup, names, the sorting, all).
-/
import Derived.Test.YtfoddgpndoeeaaaGreatDoorClNd
import Derived.Test.YtfoddgpndoeeaaaGreatDoorClL
set_option linter.unusedVariables false
set_option linter.unusedSimpArgs false
set_option linter.unusedSectionVars false
namespace Go.Proofs.YtfoddgpndoeeaaaGreatDoor.cl
open Go Go.AM

/-! List -/
theorem tz_spec : ∀ (n w : Nat), 0 < w → w < 2 ^ n → tz n w < n ∧ ∃ m, w = 2 ^ (tz n w) * (2 * m + 1) := by
  intro n
  induction n with
  | zero => intro w h0 h1; simp at h1; omega
  | succ n ih =>
    intro w h0 h1
    unfold tz
    by_cases h : w % 2 = 1
    · rw [show Nat.beq (w % 2) 1 = true by rw [h]; rfl, cond_true]
      exact ⟨by omega, w / 2, by rw [Nat.pow_zero, Nat.one_mul]; omega⟩
    · have h2 : Nat.beq (w % 2) 1 = false := by
        have : w % 2 = 0 := by omega
        rw [this]; rfl
      rw [h2, cond_false]
      rw [Nat.pow_succ] at h1
      obtain ⟨a, m, e⟩ := ih (w / 2) (by omega) (by omega)
      refine ⟨by omega, m, ?_⟩
      rw [Nat.add_comm, Nat.pow_succ, Nat.mul_comm _ 2, Nat.mul_assoc, ← e]; omega
theorem low_bit {k m : Nat} (j : Nat) : (2 ^ k * (2 * m + 1)).testBit j = (decide (k ≤ j) && (2 * m + 1).testBit (j - k)) := by
  have := Nat.testBit_two_pow_mul_add (2 * m + 1) (Nat.two_pow_pos k) j
  rw [Nat.add_zero] at this
  rw [this]
  by_cases h : j < k
  · rw [if_pos h]; simp; omega
  · rw [if_neg h]; simp; omega
theorem low_clear {k m : Nat} (j : Nat) : ((2 ^ k * (2 * m + 1)) &&& (2 ^ k * (2 * m + 1) - 1)).testBit j = ((2 ^ k * (2 * m + 1)).testBit j && !decide (j = k)) := by
  have hp := Nat.two_pow_pos k
  have e : 2 ^ k * (2 * m + 1) - 1 = 2 ^ k * (2 * m) + (2 ^ k - 1) := by
    rw [Nat.mul_add, Nat.mul_one]; omega
  rw [Nat.testBit_and, low_bit, e, Nat.testBit_two_pow_mul_add _ (by omega)]
  by_cases h : k ≤ j
  · rw [if_neg (by omega)]
    by_cases h2 : j = k
    · subst h2; simp
    · obtain ⟨i, hi⟩ : ∃ i, j - k = i + 1 := ⟨j - k - 1, by omega⟩
      rw [hi, Nat.testBit_succ, Nat.testBit_succ]
      have e1 : (2 * m + 1) / 2 = m := by omega
      have e2 : (2 * m) / 2 = m := by omega
      rw [e1, e2]; simp [h2]
  · simp [h]
theorem bits_low {w : Nat} (h0 : 0 < w) (hw : w < 18446744073709551616) : tz 64 w < 64 ∧ bitsOf w = tz 64 w :: bitsOf (w &&& (w - 1)) := by
  obtain ⟨h1, m, e⟩ := tz_spec 64 w h0 (by omega)
  refine ⟨h1, ?_⟩
  generalize tz 64 w = k at h1 e
  subst e
  unfold bitsOf
  have hr : List.range 64 = List.range k ++ k :: (List.range (63 - k)).map (· + (k + 1)) := by
    have h3 := List.range_add (n := k + 1) (m := 63 - k)
    rw [show k + 1 + (63 - k) = 64 by omega] at h3
    rw [h3, List.range_succ]
    simp [Nat.add_comm]
  have hl : ∀ (p : Nat → Bool), (∀ j, j < k → p j = false) → (List.range k).filter p = [] := by
    intro p hp
    rw [List.filter_eq_nil_iff]
    intro j hj
    rw [hp j (List.mem_range.1 hj)]; simp
  rw [hr, List.filter_append, List.filter_append, hl _ (fun j hj => by rw [low_bit]; simp; omega), hl _ (fun j hj => by rw [low_clear, low_bit]; simp; omega), List.filter_cons, List.filter_cons]
  rw [if_pos (by rw [low_bit]; simp), if_neg (by rw [low_clear]; simp), List.nil_append, List.nil_append]
  congr 1
  apply List.filter_congr
  intro j hj
  obtain ⟨i, _, rfl⟩ := List.mem_map.1 hj
  rw [low_clear]
  have : decide (i + (k + 1) = k) = false := by rw [decide_eq_false_iff_not]; omega
  rw [this]; simp
theorem bitsOf_length (w : Nat) : (bitsOf w).length ≤ 64 := by
  have := List.length_filter_le w.testBit (List.range 64)
  simpa [bitsOf] using this
theorem i86 {w : Nat} (hw : w < 18446744073709551616) : f86 (w : Int) = some ((tz 64 w : Nat) : Int) := by
  refine dec_some ?_
  refine run_of_prim ?_
  have hb : Nat.blt w 18446744073709551616 = true := Nat.ble_eq_true_of_le hw
  show (bif Nat.blt w 18446744073709551616 then some (AV.int .i64 (tz 64 w : Nat), []) else none) = _
  rw [hb]; rfl
theorem h44 {W0 : Nat} (hW : W0 < 18446744073709551616) {r : List Int} : ∀ (w : Nat), w < 18446744073709551616 → ∀ (o : List Nat), o.length + (bitsOf w).length ≤ 64 → t44_3 [(W0 : Int)] 1 1 (cast (o ++ bitsOf w)) = some r → t44_5 0 w [(W0 : Int)] 1 0 (cast o) = some r := by
  intro w
  induction w using Nat.strongRecOn with
  | _ w ih =>
    intro hw o ho hr
    refine k44_5 _ _ _ _ _ _ ?_
    by_cases h0 : w = 0
    · subst h0
      have e0 : bitsOf 0 = [] := by simp [bitsOf]
      rw [e0, List.append_nil] at hr
      rw [cond_neg (by decide)]
      exact hr
    · obtain ⟨h1, e⟩ := bits_low (by omega) hw
      have e1 : IntKind.wrap .i64 (IntKind.wrap .i64 (64 * 0) + ((tz 64 w : Nat) : Int)) = ((tz 64 w : Nat) : Int) := by
        rw [show IntKind.wrap .i64 (64 * 0) = 0 from rfl, Int.zero_add, wrap64_id (by omega) (by omega)]
      have e2 : IntKind.wrap .u64 ((w : Int) - 1) = ((w - 1 : Nat) : Int) := by
        rw [show (w : Int) - 1 = ((w - 1 : Nat) : Int) by omega, wrapU64_nat (by omega)]
      have e3 : IntKind.wrap .u64 ((BitVec.ofInt (IntKind.bits .u64) (w : Int) &&& BitVec.ofInt (IntKind.bits .u64) ((w - 1 : Nat) : Int)).toNat : Int) = ((w &&& (w - 1) : Nat) : Int) := and64_nat hw (by omega)
      have hlt : w &&& (w - 1) < w := Nat.lt_of_le_of_lt Nat.and_le_right (by omega)
      rw [e] at ho hr
      simp only [List.length_cons] at ho
      rw [cond_pos (by simp; omega), i86 hw, bind_some', e1, e2, e3, chk_app _ (by simp; omega) (by simp) (by omega)]
      have := ih (w &&& (w - 1)) hlt (by omega) (o ++ [tz 64 w]) (by simp; omega) (by rw [List.append_assoc]; exact hr)
      rw [show cast (o ++ [tz 64 w]) = cast o ++ [((tz 64 w : Nat) : Int)] from List.map_append] at this
      exact this
theorem i44 {w : Nat} (hw : w < 18446744073709551616) : f44 (e1 w) = some (cast (bitsOf w)) := by
  refine e44 _ ?_
  by_cases h0 : w = 0
  · subst h0
    have e0 : bitsOf 0 = [] := by simp [bitsOf]
    rw [e0, show e1 0 = [] from rfl]
    refine k44_3 _ _ _ _ ?_
    rw [cond_neg (by decide)]; rfl
  · have hl : e1 w = [(w : Int)] := by simp [e1, h0]
    rw [hl]
    refine k44_3 _ _ _ _ ?_
    rw [cond_pos (by simp), show (0 : Int) = ((0 : Nat) : Int) from rfl, getK_nat (x := (w : Int)) (by simp)]
    refine h44 hw w hw [] (by have := bitsOf_length w; simp; omega) ?_
    refine k44_3 _ _ _ _ ?_
    rw [cond_neg (by simp)]; rfl

/-! lookup -/
theorem i43 {w v : Nat} (hw : w < 18446744073709551616) (hv : v < 18446744073709551616) : f43 (e1 w) (e1 v) = some (w == v) := by
  refine e43 _ _ ?_
  have h1 := e1_length w
  have h2 := e1_length v
  rw [c31 _ _ (by omega) (by omega), subs_both (wds_e1 hv) (wds_e1 hw), norm_e1, norm_e1, bind_some']
  congr 1
  rw [Bool.eq_iff_iff, decide_eq_true_iff, beq_iff_eq]
  exact ⟨fun h => (e1_inj h).symm, fun h => by rw [h]⟩
theorem h42 {cs : List Nat} (hcs : ∀ c ∈ cs, c < 18446744073709551616) (hlen : cs.length ≤ 1048576) {w : Nat} (hw : w < 18446744073709551616) : ∀ (xs : List Nat) (i : Nat), cs.drop i = xs → t42_2 (e1 w) (cs.map e1) (cs.map e1).length i = some (ixFrom (fun c => c == w) xs i) := by
  intro xs
  induction xs with
  | nil =>
    intro i h
    refine k42_2 _ _ _ _ ?_
    have hm : (cs.map e1).drop i = [] := by rw [← List.map_drop, h]; rfl
    rw [end_drop hm]; rfl
  | cons x xs ih =>
    intro i h
    refine k42_2 _ _ _ _ ?_
    have hm : (cs.map e1).drop i = e1 x :: xs.map e1 := by rw [← List.map_drop, h]; rfl
    rw [in_drop hm, cond_true, at_drop hm, i43 (hcs x (List.mem_of_getElem? (drop_get h))) hw, bind_some', wrap_drop hm (by simp; omega), ih (i + 1) (drop_next h), ixFrom]
    cases x == w <;> rfl
theorem i42 {cs : List Nat} (hcs : ∀ c ∈ cs, c < 18446744073709551616) (hlen : cs.length ≤ 1048576) {w : Nat} (hw : w < 18446744073709551616) : f42 (cs.map e1) (e1 w) = some (ixFrom (fun c => c == w) cs 0) := e42 _ _ (h42 hcs hlen hw cs 0 rfl)
theorem joinB_length (l : List Str) {n : Nat} (h : ∀ x ∈ l, x.length ≤ n) : (joinB [38] l).length ≤ (n + 1) * l.length := by
  cases l with
  | nil => simp [joinB]
  | cons x l =>
    rw [joinB_cons]
    have key : ∀ l : List Str, (∀ x ∈ l, x.length ≤ n) → (tailA l).length ≤ (n + 1) * l.length := by
      intro l
      induction l with
      | nil => intro _; simp [tailA]
      | cons y l ih =>
        intro h
        have h1 := h y (by simp)
        have h2 := ih fun z hz => h z (by simp [hz])
        have e : tailA (y :: l) = 38 :: (y ++ tailA l) := by simp [tailA]
        rw [e]
        simp only [List.length_cons, List.length_append, Nat.mul_add, Nat.mul_one]
        omega
    have h1 := h x (by simp)
    have h2 := key l fun z hz => h z (by simp [hz])
    simp only [List.length_cons, List.length_append, Nat.mul_add, Nat.mul_one]
    omega
theorem i45 (l : List Str) (hl : l.length ≤ 1048576) (hx : ∀ x ∈ l, x.length ≤ 1000) : f45 l [38] = some (joinB [38] l) := by
  refine dec_some ?_
  refine run_of_prim ?_
  have h0 := joinB_length l hx
  have hb : (Nat.ble (joinB [38] l).length 140737488355328 && Nat.ble l.length 140737488355328) = true := by
    rw [Bool.and_eq_true]
    exact ⟨Nat.ble_eq_true_of_le (by omega), Nat.ble_eq_true_of_le (by omega)⟩
  simp only [prim, prim0, strs_map, hb, cond_true]
  rfl

/-! names -/
noncomputable def bn (d : List TypeDecl) (w : Nat) : List Str := (bitsOf w).map fun i => (alln d).getD i []
noncomputable def nmW (d : List TypeDecl) (w : Nat) : Str := nameW d (alln d) (cws d) w
theorem nameFrom_in {d : List TypeDecl} {w : Nat} : ∀ (ss : List Str) (cs : List Nat) (i : Nat) (acc : List Str) (k : Nat), ss.length = cs.length → ixFrom (fun c => c == w) cs i = (k : Int) → i ≤ k ∧ ss[k - i]? = some (nameFrom d w ss cs i acc) := by
  intro ss
  induction ss with
  | nil =>
    intro cs i acc k hl h
    have : cs = [] := List.length_eq_zero_iff.1 hl.symm
    subst this
    have h' : (-1 : Int) = (k : Int) := h
    omega
  | cons s ss ih =>
    intro cs i acc k hl h
    cases cs with
    | nil => simp at hl
    | cons c cs =>
      rw [ixFrom] at h
      simp only [nameFrom]
      by_cases e : c = w
      · subst e
        rw [show (c == c) = true by simp, if_pos rfl] at h
        obtain rfl : i = k := by omega
        simp
      · rw [show (c == w) = false by simpa using e, if_neg (by simp)] at h
        rw [if_neg e]
        obtain ⟨h1, h2⟩ := ih cs (i + 1) (if w.testBit i = true then acc ++ [s] else acc) k (by simpa using hl) h
        refine ⟨by omega, ?_⟩
        rw [show k - i = (k - (i + 1)) + 1 by omega, List.getElem?_cons_succ]
        exact h2
theorem nameFrom_out {d : List TypeDecl} {w : Nat} : ∀ (ss : List Str) (cs : List Nat) (i : Nat) (acc : List Str), ss.length = cs.length → (∀ c ∈ cs, c ≠ w) → nameFrom d w ss cs i acc = joinB [38] (maxi d (acc ++ ((List.range ss.length).filter fun j => w.testBit (i + j)).map fun j => ss.getD j [])) := by
  intro ss
  induction ss with
  | nil =>
    intro cs i acc hl h
    cases cs <;> simp [nameFrom]
  | cons s ss ih =>
    intro cs i acc hl h
    cases cs with
    | nil => simp at hl
    | cons c cs =>
      simp only [nameFrom]
      rw [if_neg (h c (by simp)), ih cs (i + 1) _ (by simpa using hl) fun c hc => h c (by simp [hc])]
      congr 2
      rw [List.length_cons, List.range_succ_eq_map, List.filter_cons, List.filter_map, Nat.add_zero]
      have e : ((List.range ss.length).filter ((fun j => w.testBit (i + j)) ∘ Nat.succ)).map ((fun j => (s :: ss).getD j []) ∘ Nat.succ) = ((List.range ss.length).filter fun j => w.testBit (i + 1 + j)).map fun j => ss.getD j [] := by
        have e1 : ((fun j => w.testBit (i + j)) ∘ Nat.succ) = fun j => w.testBit (i + 1 + j) := by
          funext j; simp only [Function.comp]; congr 1; omega
        have e2 : ((fun j => (s :: ss).getD j []) ∘ Nat.succ) = fun j => ss.getD j [] := by
          funext j; simp
        rw [e1, e2]
      cases hb : w.testBit i with
      | true => simp only [if_true, List.map_cons, List.map_map, e]; simp
      | false => simp only [Bool.false_eq_true, if_false, List.map_map, e]
theorem bitsOf_below {w n : Nat} (hn : n ≤ 64) (h : ∀ i, w.testBit i = true → i < n) : bitsOf w = (List.range n).filter w.testBit := by
  unfold bitsOf
  have h3 := List.range_add (n := n) (m := 64 - n)
  rw [show n + (64 - n) = 64 by omega] at h3
  rw [h3, List.filter_append]
  have : List.filter w.testBit (List.map (n + ·) (List.range (64 - n))) = [] := by
    rw [List.filter_eq_nil_iff]
    intro j hj hc
    obtain ⟨i, _, rfl⟩ := List.mem_map.1 hj
    have := h _ hc; omega
  rw [this, List.append_nil]

/-- a set of declared types, closed below -/
structure Dn (d : List TypeDecl) (w : Nat) : Prop where
  lt : ∀ i, w.testBit i = true → i < (alln d).length
  dn : ∀ i j, i < (alln d).length → j < (alln d).length → w.testBit i = true → Le d ((alln d).getD i []) ((alln d).getD j []) → w.testBit j = true
theorem dn_cw {d : List TypeDecl} (x : Str) : Dn d (cw d (alln d) x) :=
  ⟨fun i h => (cw_bit.1 h).1, fun i j hi hj h hl => cw_bit.2 ⟨hj, Rch.trans (cw_bit.1 h).2 hl⟩⟩
theorem dn_and {d : List TypeDecl} {a b : Nat} (ha : Dn d a) (hb : Dn d b) : Dn d (a &&& b) := by
  refine ⟨fun i h => ?_, fun i j hi hj h hl => ?_⟩
  · rw [Nat.testBit_and, Bool.and_eq_true] at h; exact ha.lt i h.1
  · rw [Nat.testBit_and, Bool.and_eq_true] at h ⊢
    exact ⟨ha.dn i j hi hj h.1 hl, hb.dn i j hi hj h.2 hl⟩
theorem mem_bitsOf {w i : Nat} (hw : w < 18446744073709551616) : i ∈ bitsOf w ↔ w.testBit i = true := by
  unfold bitsOf
  rw [List.mem_filter, List.mem_range]
  refine ⟨fun h => h.2, fun h => ⟨?_, h⟩⟩
  apply Classical.byContradiction
  intro hc
  rw [Nat.testBit_lt_two_pow (Nat.lt_of_lt_of_le hw (Nat.pow_le_pow_right (n := 2) (i := 64) (j := i) (by omega) (by omega)))] at h
  cases h
theorem bn_SS {d : List TypeDecl} {w : Nat} (h : ∀ i, w.testBit i = true → i < (alln d).length) : SS (bn d w) := by
  have hs := List.pairwise_iff_getElem.1 (sortS_sorted (nms d))
  unfold bn SS
  rw [List.pairwise_map]
  have hr : (bitsOf w).Pairwise (· < ·) := (List.pairwise_lt_range (n := 64)).sublist List.filter_sublist
  refine hr.imp_of_mem ?_
  intro a b ha hb hab
  have ha' := h a (List.mem_filter.1 ha).2
  have hb' := h b (List.mem_filter.1 hb).2
  have := hs a b ha' hb' hab
  rw [List.getD_eq_getElem?_getD, List.getD_eq_getElem?_getD, List.getElem?_eq_getElem ha', List.getElem?_eq_getElem hb']
  exact this
theorem bn_nms {d : List TypeDecl} {w : Nat} (h : ∀ i, w.testBit i = true → i < (alln d).length) : ∀ x ∈ bn d w, x ∈ nms d := by
  intro x hx
  obtain ⟨i, hi, rfl⟩ := List.mem_map.1 hx
  exact getD_all (h i (List.mem_filter.1 hi).2)
theorem maxi_bn {d : List TypeDecl} {w : Nat} (h : ∀ i, w.testBit i = true → i < (alln d).length) : maxi d (bn d w) = (bn d w).filter (freeB d (bn d w)) := by
  have hf : (bn d w).filter (fun s => decide (s ∈ nms d)) = bn d w := List.filter_eq_self.2 fun x hx => by simpa using bn_nms h x hx
  have hs : sortS (bn d w) = bn d w := SS.ext (sortS_sorted _) (bn_SS h) fun y => mem_sortS
  simp only [maxi, hf, hs]
theorem freeB_iff {d : List TypeDecl} {l : List Str} {x : Str} : freeB d l x = true ↔ ∀ y ∈ l, Le d y x → y = x := by
  unfold freeB
  rw [List.all_eq_true]
  constructor
  · intro h y hy hl
    have := h y hy
    simp only [Bool.or_eq_true, decide_eq_true_eq, Bool.not_eq_true', decide_eq_false_iff_not] at this
    rcases this with h | h
    · exact h
    · exact absurd hl h
  · intro h y hy
    simp only [Bool.or_eq_true, decide_eq_true_eq, Bool.not_eq_true', decide_eq_false_iff_not]
    by_cases hl : Le d y x
    · exact .inl (h y hy hl)
    · exact .inr hl
/-- above every element lies a maximal one -/
theorem max_above {d : List TypeDecl} (A : Acc d) {l : List Str} : ∀ x ∈ l, ∃ m ∈ l.filter (freeB d l), Le d m x := by
  obtain ⟨r, hr⟩ := A.rk
  have key : ∀ (n : Nat) (x : Str), r x = n → x ∈ l → ∃ m ∈ l.filter (freeB d l), Le d m x := by
    intro n
    induction n using Nat.strongRecOn with
    | _ n ih =>
      intro x e hx
      by_cases hf : freeB d l x = true
      · exact ⟨x, List.mem_filter.2 ⟨hx, hf⟩, .refl⟩
      · rw [freeB_iff] at hf
        obtain ⟨y, hy⟩ := Classical.not_forall.1 hf
        obtain ⟨hy1, hy2⟩ := Classical.not_imp.1 hy
        obtain ⟨hy3, hy4⟩ := Classical.not_imp.1 hy2
        have : r y < r x := by
          rcases le_rank hr hy3 with h | h
          · exact absurd h hy4
          · exact h
        obtain ⟨m, hm, hl⟩ := ih (r y) (by omega) y rfl hy1
        exact ⟨m, hm, Rch.trans hl hy3⟩
  exact fun x hx => key _ x rfl hx
theorem bit_bn {d : List TypeDecl} {w : Nat} (hw : w < 18446744073709551616) (D : Dn d w) {i : Nat} (hi : i < (alln d).length) : w.testBit i = true ↔ (alln d).getD i [] ∈ bn d w := by
  unfold bn
  rw [List.mem_map]
  constructor
  · intro h; exact ⟨i, (mem_bitsOf hw).2 h, rfl⟩
  · rintro ⟨j, hj, e⟩
    have hj' := (mem_bitsOf hw).1 hj
    have hjl := D.lt j hj'
    rw [List.getD_eq_getElem?_getD, List.getD_eq_getElem?_getD, List.getElem?_eq_getElem hi, List.getElem?_eq_getElem hjl] at e
    have := (List.getElem_inj (sortS_sorted (nms d)).nodup).1 e
    rw [← this]; exact hj'
theorem maxi_inj {d : List TypeDecl} (A : Acc d) {w v : Nat} (hw : w < 18446744073709551616) (hv : v < 18446744073709551616) (Dw : Dn d w) (Dv : Dn d v) (h : maxi d (bn d w) = maxi d (bn d v)) : w = v := by
  have key : ∀ {w v : Nat}, w < 18446744073709551616 → v < 18446744073709551616 → Dn d w → Dn d v → maxi d (bn d w) = maxi d (bn d v) → ∀ i, w.testBit i = true → v.testBit i = true := by
    intro w v hw hv Dw Dv h i hi
    have hil := Dw.lt i hi
    obtain ⟨m, hm, hl⟩ := max_above A _ ((bit_bn hw Dw hil).1 hi)
    rw [← maxi_bn Dw.lt, h, maxi_bn Dv.lt] at hm
    have hmv := (List.mem_filter.1 hm).1
    obtain ⟨j, hj, rfl⟩ := List.mem_map.1 hmv
    have hj' := (mem_bitsOf hv).1 hj
    exact Dv.dn j i (Dv.lt j hj') hil hj' hl
  apply Nat.eq_of_testBit_eq
  intro i
  rw [Bool.eq_iff_iff]
  exact ⟨key hw hv Dw Dv h i, key hv hw Dv Dw h.symm i⟩
/-- the only maximal type below x is x -/
theorem maxi_cw {d : List TypeDecl} (A : Acc d) (h64 : d.length ≤ 64) {x : Str} (hx : x ∈ nms d) : maxi d (bn d (cw d (alln d) x)) = [x] := by
  have hal := alln_length (d := d)
  have hw : cw d (alln d) x < 18446744073709551616 := cw_lt (by omega)
  have D := dn_cw (d := d) x
  rw [maxi_bn D.lt]
  have hmem : ∀ y, y ∈ (bn d (cw d (alln d) x)).filter (freeB d (bn d (cw d (alln d) x))) ↔ y ∈ [x] := by
    intro y
    have hx' : x ∈ bn d (cw d (alln d) x) := by
      obtain ⟨i, hi, e⟩ := idx_all hx
      have h := (bit_bn hw D hi).1 (cw_bit.2 ⟨hi, by rw [e]; exact .refl⟩)
      rw [e] at h; exact h
    have hle : ∀ z ∈ bn d (cw d (alln d) x), Le d x z := by
      intro z hz
      obtain ⟨j, hj, rfl⟩ := List.mem_map.1 hz
      exact (cw_bit.1 ((mem_bitsOf hw).1 hj)).2
    rw [List.mem_filter, freeB_iff, List.mem_singleton]
    constructor
    · rintro ⟨h1, h2⟩
      exact (h2 x hx' (hle y h1)).symm
    · rintro rfl
      exact ⟨hx', fun z hz hl => le_antisymm A hl (hle z hz)⟩
  refine SS.ext ?_ (by simp [SS]) hmem
  exact (bn_SS D.lt).sublist List.filter_sublist
theorem isName_free {s : Str} (h : isName s = true) : (38 : UInt8) ∉ s := by
  unfold isName at h
  simp only [Bool.and_eq_true] at h
  intro hm
  have := List.all_eq_true.1 h.2 _ hm
  revert this
  simp [digitB, lowerB]
theorem cut38 : ∀ {x x' t t' : Str}, (38 : UInt8) ∉ x → (38 : UInt8) ∉ x' → (t = [] ∨ ∃ u, t = 38 :: u) → (t' = [] ∨ ∃ u, t' = 38 :: u) → x ++ t = x' ++ t' → x = x' ∧ t = t' := by
  intro x
  induction x with
  | nil =>
    intro x' t t' h1 h2 h3 h4 h
    cases x' with
    | nil => exact ⟨rfl, by simpa using h⟩
    | cons c x' =>
      rcases h3 with rfl | ⟨u, rfl⟩
      · simp at h
      · simp only [List.nil_append, List.cons_append, List.cons.injEq] at h
        exact absurd (h.1 ▸ List.mem_cons_self) h2
  | cons c x ih =>
    intro x' t t' h1 h2 h3 h4 h
    cases x' with
    | nil =>
      rcases h4 with rfl | ⟨u, rfl⟩
      · simp at h
      · simp only [List.nil_append, List.cons_append, List.cons.injEq] at h
        exact absurd (h.1 ▸ List.mem_cons_self) h1
    | cons c' x' =>
      simp only [List.cons_append, List.cons.injEq] at h
      simp only [List.mem_cons, not_or] at h1 h2
      obtain ⟨a, b⟩ := ih h1.2 h2.2 h3 h4 h.2
      exact ⟨by rw [h.1, a], b⟩
theorem tailA_or (l : List Str) : tailA l = [] ∨ ∃ u, tailA l = 38 :: u := by
  cases l with
  | nil => exact .inl rfl
  | cons x l => exact .inr ⟨x ++ tailA l, by simp [tailA]⟩
theorem tailA_inj : ∀ {l l' : List Str}, (∀ x ∈ l, (38 : UInt8) ∉ x) → (∀ x ∈ l', (38 : UInt8) ∉ x) → tailA l = tailA l' → l = l' := by
  intro l
  induction l with
  | nil =>
    intro l' _ _ h
    cases l' with
    | nil => rfl
    | cons x l' => simp [tailA] at h
  | cons x l ih =>
    intro l' h1 h2 h
    cases l' with
    | nil => simp [tailA] at h
    | cons x' l' =>
      have e : ∀ (y : Str) (m : List Str), tailA (y :: m) = 38 :: (y ++ tailA m) := fun y m => by simp [tailA]
      rw [e, e, List.cons.injEq] at h
      obtain ⟨a, b⟩ := cut38 (h1 x (by simp)) (h2 x' (by simp)) (tailA_or l) (tailA_or l') h.2
      rw [a, ih (fun y hy => h1 y (by simp [hy])) (fun y hy => h2 y (by simp [hy])) b]
theorem joinB_inj {l l' : List Str} (hl : l ≠ []) (hl' : l' ≠ []) (h1 : ∀ x ∈ l, (38 : UInt8) ∉ x) (h2 : ∀ x ∈ l', (38 : UInt8) ∉ x) (h : joinB [38] l = joinB [38] l') : l = l' := by
  cases l with
  | nil => exact absurd rfl hl
  | cons x l =>
    cases l' with
    | nil => exact absurd rfl hl'
    | cons x' l' =>
      rw [joinB_cons, joinB_cons] at h
      obtain ⟨a, b⟩ := cut38 (h1 x (by simp)) (h2 x' (by simp)) (tailA_or l) (tailA_or l') h
      rw [a, tailA_inj (fun y hy => h1 y (by simp [hy])) (fun y hy => h2 y (by simp [hy])) b]
theorem getD_cws {d : List TypeDecl} {i : Nat} (hi : i < (alln d).length) : (cws d)[i]? = some (cw d (alln d) ((alln d).getD i [])) := by
  unfold cws
  rw [List.getElem?_map, List.getD_eq_getElem?_getD, List.getElem?_eq_getElem hi]; rfl
theorem ix_get {α : Type} (p : α → Bool) : ∀ (xs : List α) (i k : Nat), ixFrom p xs i = (k : Int) → i ≤ k ∧ ∃ x, xs[k - i]? = some x ∧ p x = true := by
  intro xs
  induction xs with
  | nil => intro i k h; have h' : (-1 : Int) = (k : Int) := h; omega
  | cons x xs ih =>
    intro i k h
    rw [ixFrom] at h
    cases hp : p x with
    | true =>
      rw [hp, if_pos rfl] at h
      obtain rfl : i = k := by omega
      exact ⟨Nat.le_refl _, x, by simp, hp⟩
    | false =>
      rw [hp, if_neg (by simp)] at h
      obtain ⟨h1, y, h2, h3⟩ := ih (i + 1) k h
      refine ⟨by omega, y, ?_, h3⟩
      rw [show k - i = (k - (i + 1)) + 1 by omega, List.getElem?_cons_succ]; exact h2
theorem ix_neg1 {α : Type} (p : α → Bool) : ∀ (xs : List α) (i : Nat), ixFrom p xs i < 0 → ixFrom p xs i = -1 := by
  intro xs
  induction xs with
  | nil => intro i _; rfl
  | cons x xs ih =>
    intro i h
    rw [ixFrom] at h ⊢
    cases hp : p x with
    | true => rw [hp, if_pos rfl] at h; omega
    | false => rw [hp, if_neg (by simp)] at h; rw [if_neg (by simp)]; exact ih _ h
theorem nmW_out {d : List TypeDecl} (h64 : d.length ≤ 64) {w : Nat} (D : Dn d w) (h : ∀ c ∈ cws d, c ≠ w) : nmW d w = joinB [38] (maxi d (bn d w)) := by
  have hal := alln_length (d := d)
  unfold nmW nameW
  rw [nameFrom_out _ _ _ _ (by simp [cws]) h, List.nil_append, bn, bitsOf_below (n := (alln d).length) (by omega) D.lt]
  congr 4
  funext j
  rw [Nat.zero_add]
theorem nmW_eq {d : List TypeDecl} (A : Acc d) (h64 : d.length ≤ 64) {w : Nat} (D : Dn d w) : nmW d w = joinB [38] (maxi d (bn d w)) := by
  by_cases h : ∀ c ∈ cws d, c ≠ w
  · exact nmW_out h64 D h
  · have hnn : ¬ ixFrom (fun c => c == w) (cws d) 0 < 0 := by
      rw [ix_neg]
      intro hc
      exact h fun c hcm => by simpa using hc c hcm
    obtain ⟨k, hk⟩ : ∃ k : Nat, ixFrom (fun c => c == w) (cws d) 0 = (k : Int) := ⟨(ixFrom (fun c => c == w) (cws d) 0).toNat, by omega⟩
    obtain ⟨_, e⟩ := nameFrom_in (d := d) (alln d) (cws d) 0 [] k (by simp [cws]) hk
    obtain ⟨_, c, e2, e3⟩ := ix_get _ _ _ _ hk
    rw [Nat.sub_zero] at e e2
    have hkl := (List.getElem?_eq_some_iff.1 e).1
    rw [getD_cws hkl] at e2
    have e4 : cw d (alln d) ((alln d).getD k []) = w := by
      rw [← (beq_iff_eq.1 e3)]; exact Option.some.inj e2
    have e5 : (alln d).getD k [] = nmW d w := by
      rw [List.getD_eq_getElem?_getD, e]; rfl
    rw [e5] at e4
    have hx : nmW d w ∈ nms d := by rw [← e5]; exact getD_all hkl
    have := maxi_cw A h64 hx
    rw [e4] at this
    rw [this]; rfl
theorem nmW_inj {d : List TypeDecl} (A : Acc d) (h64 : d.length ≤ 64) {w v : Nat} (hw : w < 18446744073709551616) (hv : v < 18446744073709551616) (hw0 : w ≠ 0) (hv0 : v ≠ 0) (Dw : Dn d w) (Dv : Dn d v) (h : nmW d w = nmW d v) : w = v := by
  rw [nmW_eq A h64 Dw, nmW_eq A h64 Dv] at h
  have ne : ∀ {w : Nat}, w < 18446744073709551616 → w ≠ 0 → Dn d w → maxi d (bn d w) ≠ [] := by
    intro w hw h0 D hc
    obtain ⟨i, hi⟩ := Nat.exists_testBit_of_ne_zero h0
    obtain ⟨m, hm, _⟩ := max_above A _ ((bit_bn hw D (D.lt i hi)).1 hi)
    rw [← maxi_bn D.lt, hc] at hm; cases hm
  have fr : ∀ {w : Nat}, Dn d w → ∀ x ∈ maxi d (bn d w), (38 : UInt8) ∉ x := by
    intro w D x hx
    obtain ⟨t, ht, rfl⟩ := List.mem_map.1 (bn_nms D.lt x (maxi_sub hx))
    exact isName_free (A.name t ht)
  exact maxi_inj A hw hv Dw Dv (joinB_inj (ne hw hw0 Dw) (ne hv hv0 Dv) (fr Dw) (fr Dv) h)

/-! the sorting -/
theorem wordOf_e1 {w : Nat} (hw : w < 18446744073709551616) : wordOf ((e1 w).map (eInt .u64)) = some w := by
  unfold e1
  by_cases h0 : w = 0
  · rw [if_pos h0, h0]; rfl
  · rw [if_neg h0]
    have hb : Nat.blt w 18446744073709551616 = true := Nat.ble_eq_true_of_le hw
    have hb' : Nat.blt 0 w = true := Nat.ble_eq_true_of_le (by omega)
    show (bif Nat.blt 0 w && Nat.blt w 18446744073709551616 then some w else none) = _
    rw [hb, hb']; rfl
theorem entsOf_map : ∀ (E : List Ent), (∀ p ∈ E, p.2 < 18446744073709551616) → entsOf ((E.map toC).map Coded.enc) = some E := by
  intro E
  induction E with
  | nil => intro _; rfl
  | cons p E ih =>
    intro h
    have hp := h p (by simp)
    have ih' := ih fun q hq => h q (by simp [hq])
    have e : Coded.enc (toC p) = [.str p.1, .lst 1 ((e1 p.2).map (eInt .u64))] := rfl
    rw [List.map_cons, List.map_cons, e]
    show (match wordOf ((e1 p.2).map (eInt .u64)), entsOf ((E.map toC).map Coded.enc) with
      | some w, some r => some ((p.1, w) :: r)
      | _, _ => none) = _
    rw [wordOf_e1 hp, ih']
theorem cntN_bits : ∀ (n w : Nat), cntN n w = ((List.range n).filter w.testBit).length := by
  intro n
  induction n with
  | zero => intro w; rfl
  | succ n ih =>
    intro w
    rw [cntN, ih, List.range_succ_eq_map, List.filter_cons, List.filter_map]
    have e1 : (w.testBit ∘ Nat.succ) = (w / 2).testBit := by
      funext j; simp only [Function.comp]; rw [Nat.testBit_succ]
    rw [e1]
    by_cases h : w % 2 = 1
    · rw [if_pos (by rw [Nat.testBit_zero]; simpa using h), h]; simp; omega
    · rw [if_neg (by rw [Nat.testBit_zero]; simpa using h), show w % 2 = 0 by omega]; simp
theorem cnt_pc (w : Nat) : cntN 64 w = pc w := cntN_bits 64 w
theorem ltC_eq : ltC = ltE := by
  funext p q
  unfold ltC ltE
  rw [cnt_pc, cnt_pc]
  have e1 : Nat.blt (pc q.2) (pc p.2) = decide (pc p.2 > pc q.2) := by
    rw [Bool.eq_iff_iff, decide_eq_true_iff]; exact ⟨Nat.le_of_ble_eq_true, Nat.ble_eq_true_of_le⟩
  have e2 : Nat.beq (pc p.2) (pc q.2) = decide (pc p.2 = pc q.2) := by
    rw [Bool.eq_iff_iff, decide_eq_true_iff]; exact ⟨Nat.eq_of_beq_eq_true, fun h => by rw [h]; exact Nat.beq_refl _⟩
  rw [e1, e2]
theorem strictL_of : ∀ {E : List Ent}, E.Pairwise (fun p q => ltE p q = true ∨ ltE q p = true) → strictL E = true := by
  intro E
  induction E with
  | nil => intro _; rfl
  | cons p E ih =>
    intro h
    rw [List.pairwise_cons] at h
    unfold strictL
    rw [Bool.and_eq_true]
    refine ⟨?_, ih h.2⟩
    rw [List.all_eq_true]
    intro q hq
    rw [ltC_eq, Bool.or_eq_true]
    exact h.1 q hq
theorem enc_toC : EntW.enc = (Coded.enc ∘ toC) := by
  funext p
  show [AV.str p.1, AV.lst 1 (bif Nat.beq p.2 0 then [] else [[.int .u64 (p.2 : Int)]])] = [AV.str p.1, AV.lst 1 ((e1 p.2).map (eInt .u64))]
  unfold e1
  by_cases h0 : p.2 = 0
  · rw [if_pos h0, h0]; rfl
  · have hb : Nat.beq p.2 0 = false := by
      cases hc : Nat.beq p.2 0 with
      | false => rfl
      | true => exact absurd (Nat.eq_of_beq_eq_true hc) h0
    rw [if_neg h0, hb]; rfl
theorem i47 {E : List Ent} (hlt : ∀ p ∈ E, p.2 < 18446744073709551616) (hlen : E.length ≤ 1048576) (hs : E.Pairwise (fun p q => ltE p q = true ∨ ltE q p = true)) : f47 (E.map toC) = some ((), (isort ltE E).map toC) := by
  refine dec_some (E := E47r) ?_
  refine run_of_prim ?_
  have hb : (strictL E && Nat.ble E.length 1073741824) = true := by
    rw [Bool.and_eq_true]
    exact ⟨strictL_of hs, Nat.ble_eq_true_of_le (by omega)⟩
  have hp : prim 21 [(.row 10000), (.pv (.fn 22 []))] [(10000, (.row 51 2 (List.map Coded.enc (E.map toC))))] = some (.tup [], [(10000, .row 51 2 ((isort ltC E).map EntW.enc))]) := by
    simp only [prim, entsOf_map E hlt, hb, cond_true]
  show prim 21 [(.row 10000), (.pv (.fn 22 []))] [(10000, (.row 51 2 (List.map Coded.enc (E.map toC))))] = some (E47r ((), (isort ltE E).map toC))
  rw [hp, ltC_eq, enc_toC, ← List.map_map]
  rfl

/-! Codes -/
theorem sups_nodup {d : List TypeDecl} (h : chk d = 0) : ∀ t ∈ d, t.Supers.Nodup := by
  unfold chk at h
  split at h
  · cases h
  split at h
  · rename_i h1; exact absurd h h1
  split at h
  · rename_i h1; exact absurd h h1
  rename_i h0 h1 h2
  have h2' : spErr (nms d) d = 0 := Classical.byContradiction h2
  exact fun t ht => ((spErr_zero _ d).1 h2' t ht).2
theorem h14b {d : List TypeDecl} (z : Sz d) (A : Acc d) (h64 : d.length ≤ 64) {F : List Nat} {i : Nat} {w : Nat} (hw : w < 18446744073709551616) (D : Dn d w) (hout : ∀ c ∈ cws d, c ≠ w) {E : List Ent} (hE : E.length ≤ 1000) {r : R14.T} (hi : i ≤ 1000)
    (hr : t14_10 d (alln d) ((cws d).map e1) (F.map e1) (F.map e1).length (i + 1 : Nat) ((E ++ [(nmW d w, w)]).map toC) = some r) : ∀ (xs : List Nat) (k : Nat), (bitsOf w).drop k = xs → k ≤ 64 →
    t14_18 d (alln d) ((cws d).map e1) (F.map e1) (F.map e1).length i (cast (bitsOf w)) (cast (bitsOf w)).length k (E.map toC) (Coded.mk [] (e1 w)) (((bitsOf w).take k).map fun i => (alln d).getD i []) = some r := by
  have hal := alln_length (d := d)
  have hbl := bitsOf_length w
  intro xs
  induction xs with
  | nil =>
    intro k h hk
    refine k14_18 _ _ _ _ _ _ _ _ _ _ _ _ ?_
    have e : (((bitsOf w).take k).map fun i => (alln d).getD i []) = bn d w := by rw [List.take_of_length_le (drop_ge h)]; rfl
    have hbnl : (bn d w).length ≤ 64 := by unfold bn; simpa using hbl
    have hml := maxi_length (d := d) (l := bn d w)
    rw [end_drop (cast_end h), cond_false, e, i46 z A (by omega) (bn_nms D.lt) (bn_SS D.lt), bind_some', bind_some', i45 _ (by omega) (fun x hx => by
      obtain ⟨t, ht, rfl⟩ := List.mem_map.1 (bn_nms D.lt x (maxi_sub hx))
      have := isName_len (A.name t ht); omega), bind_some', ← nmW_out h64 D hout, chk_app _ (by simp; omega) (by simp) (by omega), wrap_succ (by omega)]
    rw [List.map_append] at hr
    exact hr
  | cons j xs ih =>
    intro k h hk
    refine k14_18 _ _ _ _ _ _ _ _ _ _ _ _ ?_
    have hlt := drop_lt h
    have hj : j ∈ bitsOf w := List.mem_of_getElem? (drop_get h)
    have hjl := D.lt j (List.mem_filter.1 hj).2
    have hd : (bitsOf w).take (k + 1) = (bitsOf w).take k ++ [j] := by
      rw [List.take_add_one, drop_get h]; rfl
    have hg : (alln d)[j]? = some ((alln d).getD j []) := by
      rw [List.getD_eq_getElem?_getD, List.getElem?_eq_getElem hjl]; rfl
    have := ih (k + 1) (drop_next h) (by omega)
    rw [hd, List.map_append] at this
    rw [in_drop (cast_drop h), cond_true, at_drop (cast_drop h), getK_nat hg, chk_app _ (by simp; omega) (by simp) (by omega), wrap_drop (cast_drop h) (by simp; omega)]
    exact this
theorem h14 {d : List TypeDecl} (z : Sz d) (A : Acc d) (h64 : d.length ≤ 64) {F : List Nat} (hF : ∀ w ∈ F, w < 18446744073709551616) (hD : ∀ w ∈ F, Dn d w) (h0 : ∀ w ∈ F, w ≠ 0) (hnd : F.Nodup) (hFl : F.length ≤ 256) : ∀ (xs : List Nat) (i : Nat), F.drop i = xs → i ≤ F.length →
    t14_10 d (alln d) ((cws d).map e1) (F.map e1) (F.map e1).length i (((F.take i).map fun w => ((nmW d w, w) : Ent)).map toC) = some ((isort ltE (F.map fun w => ((nmW d w, w) : Ent))).map toC, 0) := by
  have hal := alln_length (d := d)
  have hcl := cws_len (d := d)
  intro xs
  induction xs with
  | nil =>
    intro i h hi
    refine k14_10 _ _ _ _ _ _ _ ?_
    have hm : (F.map e1).drop i = [] := by rw [← List.map_drop, h]; rfl
    rw [end_drop hm, cond_false, List.take_of_length_le (drop_ge h), i47 (fun p hp => by
      obtain ⟨w, hw, rfl⟩ := List.mem_map.1 hp
      exact hF w hw) (by simp; omega) (by
      rw [List.pairwise_map]
      refine List.Pairwise.imp_of_mem ?_ hnd
      intro a b ha hb hab
      rw [ltE_iff, ltE_iff]
      show (pc a > pc b ∨ pc a = pc b ∧ Op.bytesLess (nmW d a) (nmW d b) = true) ∨ (pc b > pc a ∨ pc b = pc a ∧ Op.bytesLess (nmW d b) (nmW d a) = true)
      by_cases h1 : pc a = pc b
      · have hne : nmW d a ≠ nmW d b := fun e => hab (nmW_inj A h64 (hF a ha) (hF b hb) (h0 a ha) (h0 b hb) (hD a ha) (hD b hb) e)
        cases hb' : Op.bytesLess (nmW d a) (nmW d b) with
        | true => exact .inl (.inr ⟨h1, rfl⟩)
        | false => exact .inr (.inr ⟨h1.symm, bl_total _ _ hb' hne⟩)
      · rcases Nat.lt_or_gt_of_ne h1 with h2 | h2
        · exact .inr (.inl h2)
        · exact .inl (.inl h2)), bind2_some]
  | cons w xs ih =>
    intro i h hi
    refine k14_10 _ _ _ _ _ _ _ ?_
    have hlt := drop_lt h
    have hm : (F.map e1).drop i = e1 w :: xs.map e1 := by rw [← List.map_drop, h]; rfl
    have hwF : w ∈ F := List.mem_of_getElem? (drop_get h)
    have hw := hF w hwF
    have hd : F.take (i + 1) = F.take i ++ [w] := by
      rw [List.take_add_one, drop_get h]; rfl
    have hnext := ih (i + 1) (drop_next h) (by omega)
    rw [hd, List.map_append] at hnext
    rw [in_drop hm, cond_true, at_drop hm, i42 (cws_lt h64) (by omega) hw, bind_some']
    by_cases hn : ixFrom (fun c => c == w) (cws d) 0 < 0
    · have hout : ∀ c ∈ cws d, c ≠ w := fun c hc => by simpa using (ix_neg _ _ _).1 hn c hc
      rw [cond_neg (by simp; omega), i44 hw, bind_some']
      exact h14b z A h64 hw (hD w hwF) hout (by simp; omega) (by omega) hnext _ 0 rfl (by omega)
    · obtain ⟨k, hk⟩ : ∃ k : Nat, ixFrom (fun c => c == w) (cws d) 0 = (k : Int) := ⟨(ixFrom (fun c => c == w) (cws d) 0).toNat, by omega⟩
      obtain ⟨_, e⟩ := nameFrom_in (d := d) (alln d) (cws d) 0 [] k (by simp [cws]) hk
      rw [Nat.sub_zero] at e
      rw [hk, cond_pos (by simp), getK_nat e, chk_app _ (by simp; omega) (by simp) (by omega), wrap_drop hm (by simp; omega)]
      rw [List.map_append] at hnext
      exact hnext
end Go.Proofs.YtfoddgpndoeeaaaGreatDoor.cl
