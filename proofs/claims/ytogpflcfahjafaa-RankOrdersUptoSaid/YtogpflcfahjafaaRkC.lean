/-
  RankOrders: features, weights, scores.
-/
import Derived.Test.YtogpflcfahjafaaRkB
set_option linter.unusedVariables false
set_option linter.unusedSimpArgs false
namespace Go.Proofs.Ytogpflcfahjafaa.rk
open Go Go.AM

theorem strs_map (l : List (List UInt8)) : strs (l.map eStr) = some l := by
  induction l with
  | nil => rfl
  | cons x l ih => simp [eStr, strs, ih]
theorem c31 (l : List (List UInt8)) (sep : List UInt8) (h1 : (joinB sep l).length ≤ 140737488355328) (h2 : l.length ≤ 140737488355328) : Rn 31 [.pv (.lst 1 (List.map eStr l)), .pv (.str sep)] [] = some (R31.enc (joinB sep l), []) :=
  run_of_prim (by simp only [prim, strs_map, Nat.ble_eq_true_of_le h1, Nat.ble_eq_true_of_le h2]; rfl)

theorem joinB_snoc (sep x : List UInt8) : ∀ l : List (List UInt8), l ≠ [] → joinB sep (l ++ [x]) = joinB sep l ++ sep ++ x := by
  intro l
  induction l with
  | nil => intro h; exact absurd rfl h
  | cons y l ih =>
    intro _
    cases l with
    | nil => simp [joinB]
    | cons z l =>
      have := ih (by simp)
      simp only [List.cons_append] at this ⊢
      simp only [joinB, this, List.append_assoc]
theorem joinB_len (l : List Deriv) : (joinB [32] (l.map Deriv.Name)).length ≤ Deriv.sizes l := by
  induction l with
  | nil => simp [joinB]
  | cons x l ih =>
    have hx := x.size_eq
    cases l with
    | nil => simp only [List.map_cons, List.map_nil, joinB, Deriv.sizes]; omega
    | cons y l =>
      simp only [List.map_cons, joinB, List.length_append, List.length_cons, List.length_nil, Deriv.sizes] at ih ⊢
      omega

mutual
def feat : Deriv → List (List UInt8)
  | .mk _ n _ _ [] => [n]
  | .mk _ n _ _ (x :: l) => [n, n ++ [62] ++ joinB [32] (x.Name :: l.map Deriv.Name)] ++ (feat x ++ feats l)
def feats : List Deriv → List (List UInt8)
  | [] => []
  | x :: l => feat x ++ feats l
end
theorem feat_nil {d : Deriv} (h : d.Kids = []) : feat d = [d.Name] := by
  cases d; simp only [Deriv.Kids] at h; subst h; simp [feat, Deriv.Name]
theorem feat_cons {d : Deriv} (h : d.Kids ≠ []) : feat d = [d.Name, d.Name ++ [62] ++ joinB [32] (d.Kids.map Deriv.Name)] ++ feats d.Kids := by
  cases d with
  | mk k n f t l =>
    cases l with
    | nil => exact absurd rfl h
    | cons x l => simp [feat, feats, Deriv.Name, Deriv.Kids]
mutual
theorem feat_len : ∀ d : Deriv, (feat d).length ≤ 2 * d.size
  | .mk _ n _ _ [] => by simp [feat, Deriv.size]; omega
  | .mk _ n _ _ (x :: l) => by
    have h1 := feat_len x
    have h2 := feats_len l
    simp only [feat, Deriv.size, Deriv.sizes, List.length_append, List.length_cons, List.length_nil]; omega
theorem feats_len : ∀ l : List Deriv, (feats l).length ≤ 2 * Deriv.sizes l
  | [] => by simp [feats]
  | x :: l => by
    have h1 := feat_len x
    have h2 := feats_len l
    simp only [feats, Deriv.sizes, List.length_append]; omega
end
theorem feats_append (a b : List Deriv) : feats (a ++ b) = feats a ++ feats b := by
  induction a with
  | nil => simp [feats]
  | cons x a ih => simp [feats, ih]
theorem sizes_append (a b : List Deriv) : Deriv.sizes (a ++ b) = Deriv.sizes a + Deriv.sizes b := by
  induction a with
  | nil => simp [Deriv.sizes]
  | cons x a ih => simp [Deriv.sizes, ih]; omega
theorem sizes_drop {l : List Deriv} {i : Nat} (h : i < l.length) : Deriv.sizes (l.drop i) = (l.getD i default).size + Deriv.sizes (l.drop (i + 1)) := by
  rw [drop_getD h]; rfl
theorem feats_drop {l : List Deriv} {i : Nat} (h : i < l.length) : feats (l.drop i) = feat (l.getD i default) ++ feats (l.drop (i + 1)) := by
  rw [drop_getD h]; rfl

/-! the program's features -/
theorem h22b (v : List Deriv) (hv : v.length ≤ 1073741824) (ih : ∀ x ∈ v, Rn 22 [.pv (.agg (Deriv.enc x))] [] = some (R22.enc (feat x), [])) :
    ∀ (n i : Nat) (o : List (List UInt8)), v.length - i = n → o.length + 2 * Deriv.sizes (v.drop i) ≤ 4294967296 →
    headT P cods H prim 22 11 [] [(3, (.row 11)), (39, (.pv (.lst 5 (List.map Deriv.encX v)))), (40, (.pv (.int .i64 (v.length : Int)))), (41, (.pv (.int .i64 i)))] [(11, (.row 9 1 (List.map eStr o)))] = some (R22.enc (o ++ feats (v.drop i)), []) := by
  intro n
  induction n with
  | zero =>
    intro i o hi ho
    refine L22_11 v v.length i o ?_
    rw [cond_neg (by simp; omega), List.drop_eq_nil_of_le (by omega)]
    simp [feats]; rfl
  | succ n ihn =>
    intro i o hi ho
    refine L22_11 v v.length i o ?_
    have hlt : i < v.length := by omega
    rw [sizes_drop hlt] at ho
    have hf := feat_len (v.getD i default)
    rw [cond_pos (by simp; omega)]
    simp only [Deriv.encX_eq, getK_map, asE_enc]
    rw [getK_lt hlt, ih _ (getD_mem hlt)]
    simp only [callE_some', asE_enc, ← List.map_append]
    rw [check_pos (by simp only [List.length_map]; omega), wrap_succ (by omega)]
    have := ihn (i + 1) (o ++ feat (v.getD i default)) (by omega) (by simp only [List.length_append]; omega)
    simp only [Deriv.encX_eq] at this
    rw [this, feats_drop hlt, List.append_assoc]
theorem h22 (d : Deriv) (hd : d.size ≤ 1073741824) (ih : ∀ x ∈ d.Kids, Rn 22 [.pv (.agg (Deriv.enc x))] [] = some (R22.enc (feat x), [])) (hk : d.Kids ≠ []) :
    ∀ (n i : Nat), d.Kids.length - i = n → i ≤ d.Kids.length →
    headT P cods H prim 22 5 [] [(1, (.ptr 1 0)), (3, (.row 11)), (4, (.row 4)), (17, (.pv (.lst 5 (List.map Deriv.encX d.Kids)))), (18, (.pv (.int .i64 (d.Kids.length : Int)))), (19, (.pv (.int .i64 i)))] [(1, (.box 36 (List.map .pv (Deriv.enc d)))), (4, (.row 9 1 (List.map eStr ((d.Kids.take i).map Deriv.Name)))), (11, (.row 9 1 (List.map eStr [d.Name])))] = some (R22.enc (feat d), []) := by
  have hsz := d.size_eq
  have hkl := d.kids_le
  have hjl := joinB_len d.Kids
  intro n
  induction n with
  | zero =>
    intro i hi hle
    refine L22_5 d.Kids d.Kids.length i d _ _ ?_
    rw [cond_neg (by simp; omega), check_pos (by simp; omega), List.take_of_length_le (by omega), c31 _ _ (by omega) (by simp; omega)]
    simp only [callE_some', asE_enc]
    rw [check_pos (by simp only [List.length_append, List.length_cons, List.length_nil]; omega), check_pos (by simp), ← List.map_append, List.length_map]
    rw [show (0 : Int) = ((0 : Nat) : Int) from rfl, h22b d.Kids (by omega) ih _ 0 _ rfl (by simp only [List.length_append, List.length_cons, List.length_nil, List.drop_zero]; omega), feat_cons hk]
    rfl
  | succ n ihn =>
    intro i hi hle
    refine L22_5 d.Kids d.Kids.length i d _ _ ?_
    have hlt : i < d.Kids.length := by omega
    rw [cond_pos (by simp; omega)]
    simp only [Deriv.encX_eq, getK_map, asE_enc]
    rw [getK_lt hlt, check_pos (by simp; omega), wrap_succ (by omega), ← List.map_append]
    have := ihn (i + 1) (by omega) (by omega)
    simp only [Deriv.encX_eq] at this
    rw [show (d.Kids.take i).map Deriv.Name ++ [(d.Kids.getD i default).Name] = (d.Kids.take (i + 1)).map Deriv.Name by
      rw [List.take_add_one, List.map_append, List.getElem?_eq_getElem hlt, List.getD_eq_getElem?_getD, List.getElem?_eq_getElem hlt]; rfl]
    exact this
theorem c22 : ∀ (n : Nat) (d : Deriv), d.size ≤ n → n ≤ 1073741824 → Rn 22 [.pv (.agg (Deriv.enc d))] [] = some (R22.enc (feat d), []) := by
  intro n
  induction n with
  | zero => intro d h; have := d.size_pos; omega
  | succ n ih =>
    intro d h hn
    have hsz := d.size_eq
    have hkl := d.kids_le
    have ih' : ∀ x ∈ d.Kids, Rn 22 [.pv (.agg (Deriv.enc x))] [] = some (R22.enc (feat x), []) := fun x hx => ih x (by have := Deriv.kid_lt hx; omega) (by omega)
    refine b22 d ?_
    simp only [List.length_map]
    by_cases hk : d.Kids = []
    · rw [cond_neg (by simp [hk]), show (0 : Int) = ((0 : Nat) : Int) from rfl, h22b d.Kids (by omega) ih' _ 0 _ rfl (by simp [hk, Deriv.sizes]), feat_nil hk]
      simp [hk, feats]
    · have : 0 < d.Kids.length := List.length_pos_iff.2 hk
      rw [cond_pos (by simp; omega)]
      exact h22 d (by omega) ih' hk _ 0 rfl (by omega)

/-! the reference's features -/
theorem h28c (d : Deriv) (i6 : Nat) (l : List (List UInt8)) (hl : l.length ≤ 4294967296) {r : Out} :
    ∀ (n k : Nat) (o : List (List UInt8)), l.length - k = n → o.length + (l.length - k) ≤ 4294967296 →
    headT P cods H prim 28 12 [] [(1, (.ptr 1 0)), (3, (.row 11)), (6, (.pv (.int .i64 (IntKind.wrap .i64 ((i6 : Int) + 1)))))] [(1, (.box 36 (List.map .pv (Deriv.enc d)))), (11, (.row 9 1 (List.map eStr (o ++ l.drop k))))] = some r →
    headT P cods H prim 28 16 [] [(1, (.ptr 1 0)), (3, (.row 11)), (6, (.pv (.int .i64 i6))), (7, (.pv (.lst 1 (List.map eStr l)))), (8, (.pv (.int .i64 k)))] [(1, (.box 36 (List.map .pv (Deriv.enc d)))), (11, (.row 9 1 (List.map eStr o)))] = some r := by
  intro n
  induction n with
  | zero =>
    intro k o hk ho h
    refine L28_16 i6 l k d o ?_
    rw [cond_neg (by simp; omega)]
    rw [List.drop_eq_nil_of_le (by omega), List.append_nil] at h
    exact h
  | succ n ih =>
    intro k o hk ho h
    refine L28_16 i6 l k d o ?_
    have hlt : k < l.length := by omega
    rw [cond_pos (by simp; omega), getK_map, getK_lt hlt]
    simp only [asE_enc]
    rw [check_pos (by simp; omega), wrap_succ (by omega), ← List.map_append]
    refine ih (k + 1) _ (by omega) (by simp only [List.length_append, List.length_cons, List.length_nil]; omega) ?_
    rw [drop_getD hlt] at h
    simpa using h
theorem h28b (d : Deriv) (hd : d.size ≤ 1073741824) (ih : ∀ x ∈ d.Kids, Rn 28 [.pv (.agg (Deriv.enc x))] [] = some (R28.enc (feat x), [])) :
    ∀ (n i : Nat) (o : List (List UInt8)), d.Kids.length - i = n → o.length + 2 * Deriv.sizes (d.Kids.drop i) ≤ 4294967296 →
    headT P cods H prim 28 12 [] [(1, (.ptr 1 0)), (3, (.row 11)), (6, (.pv (.int .i64 i)))] [(1, (.box 36 (List.map .pv (Deriv.enc d)))), (11, (.row 9 1 (List.map eStr o)))] = some (R28.enc (o ++ feats (d.Kids.drop i)), []) := by
  have hkl := d.kids_le
  intro n
  induction n with
  | zero =>
    intro i o hi ho
    refine L28_12 i d o ?_
    rw [cond_neg (by simp; omega), List.drop_eq_nil_of_le (by omega)]
    simp [feats]; rfl
  | succ n ihn =>
    intro i o hi ho
    refine L28_12 i d o ?_
    have hlt : i < d.Kids.length := by omega
    rw [sizes_drop hlt] at ho
    have hf := feat_len (d.Kids.getD i default)
    rw [cond_pos (by simp; omega)]
    simp only [Deriv.encX_eq, getK_map, asE_enc]
    rw [getK_lt hlt, ih _ (getD_mem hlt)]
    simp only [callE_some', asE_enc]
    refine h28c d i _ (by omega) _ 0 o rfl (by omega) ?_
    rw [wrap_succ (by omega), List.drop_zero, ihn (i + 1) _ (by omega) (by simp only [List.length_append]; omega), feats_drop hlt, List.append_assoc]
theorem h28 (d : Deriv) (hd : d.size ≤ 1073741824) (ih : ∀ x ∈ d.Kids, Rn 28 [.pv (.agg (Deriv.enc x))] [] = some (R28.enc (feat x), [])) (hk : d.Kids ≠ []) :
    ∀ (n i : Nat), d.Kids.length - i = n → i ≤ d.Kids.length →
    headT P cods H prim 28 5 [] [(1, (.ptr 1 0)), (3, (.row 11)), (4, (.pv (.str (d.Name ++ [62] ++ joinB [32] ((d.Kids.take i).map Deriv.Name))))), (5, (.pv (.int .i64 i)))] [(1, (.box 36 (List.map .pv (Deriv.enc d)))), (11, (.row 9 1 (List.map eStr [d.Name])))] = some (R28.enc (feat d), []) := by
  have hsz := d.size_eq
  have hkl := d.kids_le
  have hjl := joinB_len d.Kids
  have ksz : 0 < d.Kids.length := List.length_pos_iff.2 hk
  have take_le : ∀ i, Deriv.sizes (d.Kids.take i) ≤ Deriv.sizes d.Kids := fun i => by
    have := sizes_append (d.Kids.take i) (d.Kids.drop i)
    rw [List.take_append_drop] at this; omega
  intro n
  induction n with
  | zero =>
    intro i hi hle
    refine L28_5 _ i d _ ?_
    rw [cond_neg (by simp; omega), check_pos (by simp), List.take_of_length_le (by omega), ← List.map_append, show (0 : Int) = ((0 : Nat) : Int) from rfl]
    rw [h28b d hd ih _ 0 _ rfl (by simp only [List.length_append, List.length_cons, List.length_nil, List.drop_zero]; omega), feat_cons hk]
    rfl
  | succ n ihn =>
    intro i hi hle
    refine L28_5 _ i d _ ?_
    have hlt : i < d.Kids.length := by omega
    have hj := joinB_len (d.Kids.take i)
    have ht := take_le i
    have hx := Deriv.kid_lt (getD_mem hlt)
    have hxs := (d.Kids.getD i default).size_eq
    have e : (d.Kids.take (i + 1)).map Deriv.Name = (d.Kids.take i).map Deriv.Name ++ [(d.Kids.getD i default).Name] := by
      rw [List.take_add_one, List.map_append, List.getElem?_eq_getElem hlt, List.getD_eq_getElem?_getD, List.getElem?_eq_getElem hlt]; rfl
    have hn := ihn (i + 1) (by omega) (by omega)
    rw [cond_pos (by simp; omega)]
    by_cases h0 : i = 0
    · subst h0
      rw [cond_neg (by simp)]
      simp only [Deriv.encX_eq, getK_map, asE_enc]
      rw [getK_lt hlt, check_pos (by simp only [List.length_append, List.length_cons, List.length_nil]; omega), wrap_succ (by omega)]
      rw [e] at hn
      simpa [joinB] using hn
    · rw [cond_pos (by simp; omega), check_pos (by simp only [List.length_append, List.length_cons, List.length_nil]; omega)]
      simp only [Deriv.encX_eq, getK_map, asE_enc]
      rw [getK_lt hlt, check_pos (by simp only [List.length_append, List.length_cons, List.length_nil]; omega), wrap_succ (by omega)]
      rw [e, joinB_snoc _ _ _ (by intro hne; have := congrArg List.length hne; rw [List.length_map, List.length_take, List.length_nil] at this; omega)] at hn
      simpa using hn
theorem c28 : ∀ (n : Nat) (d : Deriv), d.size ≤ n → n ≤ 1073741824 → Rn 28 [.pv (.agg (Deriv.enc d))] [] = some (R28.enc (feat d), []) := by
  intro n
  induction n with
  | zero => intro d h; have := d.size_pos; omega
  | succ n ih =>
    intro d h hn
    have hsz := d.size_eq
    have hkl := d.kids_le
    have ih' : ∀ x ∈ d.Kids, Rn 28 [.pv (.agg (Deriv.enc x))] [] = some (R28.enc (feat x), []) := fun x hx => ih x (by have := Deriv.kid_lt hx; omega) (by omega)
    refine b28 d ?_
    simp only [List.length_map]
    by_cases hk : d.Kids = []
    · rw [cond_neg (by simp [hk]), show (0 : Int) = ((0 : Nat) : Int) from rfl, h28b d (by omega) ih' _ 0 _ rfl (by simp [hk, Deriv.sizes]), feat_nil hk]
      simp [hk, feats]
    · have : 0 < d.Kids.length := List.length_pos_iff.2 hk
      rw [cond_pos (by simp; omega), check_pos (by simp; omega)]
      have := h28 d (by omega) ih' hk _ 0 rfl (by omega)
      simpa [joinB] using this

/-! weights -/
def wt : List Weight → List UInt8 → Int
  | [], _ => 0
  | w :: l, s => if w.Feature = s then w.Value else wt l s
theorem h29 (m : Model) (s : List UInt8) (hm : m.Weights.length ≤ 1073741824) : ∀ (n i : Nat), m.Weights.length - i = n →
    headT P cods H prim 29 2 [] [(1, (.pv (.str s))), (2, (.ptr 2 0)), (5, (.pv (.int .i64 i)))] [(2, (.box 24 (List.map .pv (Model.enc m))))] = some (R29.enc (wt (m.Weights.drop i) s), []) := by
  intro n
  induction n with
  | zero =>
    intro i hi
    refine L29_2 s i m ?_
    rw [cond_neg (by simp; omega), List.drop_eq_nil_of_le (by omega)]; rfl
  | succ n ih =>
    intro i hi
    refine L29_2 s i m ?_
    have hlt : i < m.Weights.length := by omega
    rw [cond_pos (by simp; omega), getK_map, getK_lt hlt]
    simp only [asE_enc, getK_map]
    rw [getK_lt hlt, wrap_succ (by omega), ih (i + 1) (by omega), drop_getD hlt]
    simp only [wt, Bool.cond_eq_ite, beq_iff_eq]
    split <;> rfl
theorem c29 (m : Model) (s : List UInt8) (hm : m.Weights.length ≤ 1073741824) : Rn 29 [.pv (.agg (Model.enc m)), .pv (.str s)] [] = some (R29.enc (wt m.Weights s), []) := b29 m s (h29 m s hm _ 0 rfl)

theorem c33 (w : Weight) (s : List UInt8) : Rn 33 [.pv (.agg (Weight.enc w)), .pv (.str s)] [] = some (R33.enc (cmpB w.Feature s), []) := by
  refine b33 w s ?_
  simp only [c34, callE_some', asE_enc]
  rfl
theorem mid (i j : Nat) (h : i + j ≤ 4611686018427387904) : IntKind.wrap .i64 (Int.fdiv (IntKind.wrap .u64 (IntKind.wrap .i64 ((i : Int) + j))) (2 ^ min (Int.toNat 1) (IntKind.bits .u64))) = (((i + j) / 2 : Nat) : Int) := by
  rw [wrap64_id (n := (i : Int) + j) (by omega) (by omega), wrapU64_id (by omega) (by omega), show ((2 : Int) ^ min (Int.toNat 1) (IntKind.bits .u64)) = 2 by decide, Int.fdiv_eq_ediv_of_nonneg _ (by omega), wrap64_id (by omega) (by omega)]
  omega
theorem asc_lt {l : List Weight} (h : Asc l) : ∀ (n i : Nat), i + n + 1 < l.length → Op.bytesLess (l.getD i default).Feature (l.getD (i + n + 1) default).Feature = true := by
  intro n
  induction n with
  | zero => intro i hi; exact h i hi
  | succ n ih => intro i hi; exact bl_trans _ _ _ (ih i (by omega)) (h (i + n + 1) hi)
theorem asc_lt' {l : List Weight} (h : Asc l) {i j : Nat} (hij : i < j) (hj : j < l.length) : Op.bytesLess (l.getD i default).Feature (l.getD j default).Feature = true := by
  have := asc_lt h (j - i - 1) i (by omega)
  rwa [show i + (j - i - 1) + 1 = j by omega] at this
/-- found: where the weight is -/
theorem h32 (l : List Weight) (s : List UInt8) (hl : l.length ≤ 1073741824) (hA : Asc l) : ∀ (n i j : Nat), j - i = n → i ≤ j → j ≤ l.length →
    (∀ k, k < i → Op.bytesLess (l.getD k default).Feature s = true) → (∀ k, j ≤ k → k < l.length → Op.bytesLess (l.getD k default).Feature s = false) →
    ∃ q : Nat × Bool, headT P cods H prim 32 3 [] [(0, (.pv (.lst 2 (List.map Weight.enc l)))), (1, (.pv (.str s))), (2, (.pv (.fn 33 []))), (8, (.pv (.int .i64 (l.length : Int)))), (9, (.pv (.int .i64 i))), (10, (.pv (.int .i64 j)))] [] = some (R32.enc ((q.1 : Int), q.2), []) ∧
      q.2 = (decide (q.1 < l.length) && decide ((l.getD q.1 default).Feature = s)) ∧ (∀ k, k < q.1 → Op.bytesLess (l.getD k default).Feature s = true) ∧ (∀ k, q.1 ≤ k → k < l.length → Op.bytesLess (l.getD k default).Feature s = false) := by
  intro n
  induction n using Nat.strongRecOn with
  | ind n ih =>
    intro i j hn hij hj hlo hhi
    by_cases hlt : i < j
    · have hm : (i + j) / 2 < l.length := by omega
      by_cases hc : cmpB (l.getD ((i + j) / 2) default).Feature s < 0
      · obtain ⟨q, hq, h2⟩ := ih (j - ((i + j) / 2 + 1)) (by omega) ((i + j) / 2 + 1) j rfl (by omega) hj
          (fun k hk => by
            by_cases e : k = (i + j) / 2
            · subst e; exact cmpB_lt.1 hc
            · exact bl_trans _ _ _ (asc_lt' hA (show k < (i + j) / 2 by omega) hm) (cmpB_lt.1 hc)) hhi
        refine ⟨q, L32_3 l s l.length i j ?_, h2⟩
        rw [cond_pos (by simp; omega), check_pos (by omega), mid i j (by omega), getK_map, getK_lt hm]
        simp only [asE_enc, c33, callE_some']
        rw [cond_pos (by simpa using hc), wrap_succ (by omega)]
        exact hq
      · obtain ⟨q, hq, h2⟩ := ih ((i + j) / 2 - i) (by omega) i ((i + j) / 2) rfl (by omega) (by omega) hlo
          (fun k hk hkl => by
            by_cases e : k = (i + j) / 2
            · subst e
              cases hb : Op.bytesLess (l.getD ((i + j) / 2) default).Feature s with
              | false => rfl
              | true => exact absurd (cmpB_lt.2 hb) hc
            · cases hb : Op.bytesLess (l.getD k default).Feature s with
              | false => rfl
              | true => exact absurd (cmpB_lt.2 (bl_trans _ _ _ (asc_lt' hA (show (i + j) / 2 < k by omega) hkl) hb)) hc)
        refine ⟨q, L32_3 l s l.length i j ?_, h2⟩
        rw [cond_pos (by simp; omega), check_pos (by omega), mid i j (by omega), getK_map, getK_lt hm]
        simp only [asE_enc, c33, callE_some']
        rw [cond_neg (by simpa using hc)]
        exact hq
    · have e : i = j := by omega
      subst e
      by_cases hl2 : i < l.length
      · refine ⟨(i, decide ((l.getD i default).Feature = s)), L32_3 l s l.length i i ?_, by simp [hl2], hlo, hhi⟩
        rw [cond_neg (by simp), cond_pos (by simp; omega), getK_map, getK_lt hl2]
        simp only [asE_enc, c33, callE_some']
        by_cases he : (l.getD i default).Feature = s
        · simp only [he, cmpB_self, decide_true]; rfl
        · have : (cmpB (l.getD i default).Feature s == 0) = false := by rw [beq_eq_false_iff_ne]; exact fun e => he (cmpB_eq.1 e)
          simp only [this, he, decide_false]; rfl
      · refine ⟨(i, false), L32_3 l s l.length i i ?_, by simp [hl2], hlo, hhi⟩
        rw [cond_neg (by simp), cond_neg (by simp; omega)]
        rfl
theorem wt_at {l : List Weight} {s : List UInt8} : ∀ {i : Nat}, i < l.length → (l.getD i default).Feature = s → (∀ k, k < i → (l.getD k default).Feature ≠ s) → wt l s = (l.getD i default).Value := by
  induction l with
  | nil => intro i h; simp at h
  | cons w l ih =>
    intro i hi he hne
    cases i with
    | zero => simp at he; simp [wt, he]
    | succ i =>
      have h0 := hne 0 (by omega)
      simp at h0
      simp only [wt, if_neg h0]
      have := ih (i := i) (by simpa using hi) (by simpa using he) (fun k hk => by simpa using hne (k + 1) (by omega))
      simpa using this
theorem wt_none {l : List Weight} {s : List UInt8} : (∀ k, k < l.length → (l.getD k default).Feature ≠ s) → wt l s = 0 := by
  induction l with
  | nil => intro _; rfl
  | cons w l ih =>
    intro h
    have h0 := h 0 (by simp)
    simp at h0
    simp only [wt, if_neg h0]
    exact ih fun k hk => by simpa using h (k + 1) (by simpa using hk)
theorem c23 (m : Model) (s : List UInt8) (hm : m.Weights.length ≤ 1073741824) (hA : Asc m.Weights) : Rn 23 [.pv (.agg (Model.enc m)), .pv (.str s)] [] = some (R23.enc (wt m.Weights s), []) := by
  obtain ⟨q, hq, hf, hlo, hhi⟩ := h32 m.Weights s hm hA _ 0 m.Weights.length rfl (by omega) (Nat.le_refl _) (fun k hk => by omega) (fun k h1 h2 => by omega)
  have h32' : Rn 32 [.pv (.lst 2 (List.map Weight.enc m.Weights)), .pv (.str s), .pv (.fn 33 [])] [] = some (R32.enc ((q.1 : Int), q.2), []) := b32 _ s (by rw [List.length_map]; exact hq)
  refine b23 m s ?_
  rw [h32']
  simp only [callE_some', asE_enc]
  have ne_of : ∀ {a : List UInt8}, Op.bytesLess a s = true → a ≠ s := fun h e => by subst e; rw [bl_irrefl] at h; cases h
  cases hb : q.2 with
  | true =>
    rw [hb] at hf
    have hf' := hf.symm
    simp only [Bool.and_eq_true, decide_eq_true_eq] at hf'
    rw [cond_neg (by rfl), getK_map, getK_lt hf'.1]
    simp only [asE_enc]
    rw [wt_at hf'.1 hf'.2 (fun k hk => ne_of (hlo k hk))]; rfl
  | false =>
    rw [hb] at hf
    rw [cond_pos (by rfl), wt_none]
    · rfl
    · intro k hk e
      by_cases h1 : k < q.1
      · exact ne_of (hlo k h1) e
      · by_cases h2 : k = q.1
        · subst h2
          have hf' := hf.symm
          rw [decide_eq_true hk, decide_eq_true e] at hf'
          cases hf'
        · have := asc_lt' hA (show q.1 < k by omega) hk
          rw [e, hhi q.1 (Nat.le_refl _) (by omega)] at this
          cases this

/-! scores -/
def sums (m : Model) : Int → List (List UInt8) → Int
  | n, [] => n
  | n, s :: l => sums m (IntKind.wrap .i64 (n + wt m.Weights s)) l
def sc (m : Model) (d : Deriv) : Int := sums m 0 (feat d)
theorem h14 (m : Model) (hm : m.Weights.length ≤ 1073741824) (hA : Asc m.Weights) (v : List (List UInt8)) (hv : v.length ≤ 4294967296) : ∀ (n i : Nat) (a : Int), v.length - i = n →
    headT P cods H prim 14 3 [] [(2, (.ptr 2 0)), (5, (.pv (.int .i64 a))), (9, (.pv (.lst 1 (List.map eStr v)))), (10, (.pv (.int .i64 (v.length : Int)))), (11, (.pv (.int .i64 i)))] [(2, (.box 24 (List.map .pv (Model.enc m))))] = some (R14.enc (sums m a (v.drop i)), []) := by
  intro n
  induction n with
  | zero =>
    intro i a hi
    refine L14_3 a v v.length i m ?_
    rw [cond_neg (by simp; omega), List.drop_eq_nil_of_le (by omega)]; rfl
  | succ n ih =>
    intro i a hi
    refine L14_3 a v v.length i m ?_
    have hlt : i < v.length := by omega
    rw [cond_pos (by simp; omega), getK_map, getK_lt hlt]
    simp only [asE_enc]
    rw [c23 m _ hm hA]
    simp only [callE_some', asE_enc]
    rw [wrap_succ (by omega), ih (i + 1) _ (by omega), drop_getD hlt]; rfl
theorem c14 (m : Model) (d : Deriv) (hm : m.Weights.length ≤ 1073741824) (hA : Asc m.Weights) (hd : d.size ≤ 1073741824) : Rn 14 [.pv (.agg (Model.enc m)), .pv (.agg (Deriv.enc d))] [] = some (R14.enc (sc m d), []) := by
  refine b14 m d ?_
  have hf := feat_len d
  rw [c22 _ d hd (Nat.le_refl _)]
  simp only [callE_some', asE_enc, List.length_map]
  exact h14 m hm hA _ (by omega) _ 0 0 rfl
theorem h17 (m : Model) (hm : m.Weights.length ≤ 1073741824) (v : List (List UInt8)) (hv : v.length ≤ 4294967296) : ∀ (n i : Nat) (a : Int), v.length - i = n →
    headT P cods H prim 17 4 [] [(2, (.ptr 2 0)), (5, (.pv (.lst 1 (List.map eStr v)))), (6, (.pv (.int .i64 a))), (7, (.pv (.int .i64 i)))] [(2, (.box 24 (List.map .pv (Model.enc m))))] = some (R17.enc (sums m a (v.drop i)), []) := by
  intro n
  induction n with
  | zero =>
    intro i a hi
    refine L17_4 v a i m ?_
    rw [cond_neg (by simp; omega), List.drop_eq_nil_of_le (by omega)]; rfl
  | succ n ih =>
    intro i a hi
    refine L17_4 v a i m ?_
    have hlt : i < v.length := by omega
    rw [cond_pos (by simp; omega), getK_map, getK_lt hlt]
    simp only [asE_enc]
    rw [c29 m _ hm]
    simp only [callE_some', asE_enc]
    rw [wrap_succ (by omega), ih (i + 1) _ (by omega), drop_getD hlt]; rfl
theorem c17 (m : Model) (d : Deriv) (hm : m.Weights.length ≤ 1073741824) (hd : d.size ≤ 1073741824) : Rn 17 [.pv (.agg (Model.enc m)), .pv (.agg (Deriv.enc d))] [] = some (R17.enc (sc m d), []) := by
  refine b17 m d ?_
  have hf := feat_len d
  rw [c28 _ d hd (Nat.le_refl _)]
  simp only [callE_some', asE_enc, List.length_map]
  exact h17 m hm _ (by omega) _ 0 0 rfl
end Go.Proofs.Ytogpflcfahjafaa.rk
