/-
  The Closure laws: the program's codes and their family (bits.Of, List; slices.BinarySearch; closure.declared, key, family).
-/
import Derived.Test.YtfoddgpndoeeaaaGreatDoorClNc
set_option linter.unusedVariables false
set_option linter.unusedSimpArgs false
set_option linter.unusedSectionVars false
namespace Go.Proofs.YtfoddgpndoeeaaaGreatDoor.cl
open Go Go.AM

/-! Of -/
theorem h83b {l : List Nat} (hl : l.length ≤ 1048576) (h64 : ∀ j ∈ l, j < 64) : ∀ (xs : List Nat) (i w : Nat), l.drop i = xs → w < 18446744073709551616 → t83_11 (cast l) (cast l).length i [(w : Int)] = some (e1 (mk w xs), 0) := by
  intro xs
  induction xs with
  | nil =>
    intro i w h hw
    refine k83_11 _ _ _ _ ?_
    have hn : norm [(w : Int)] = e1 w := by
      have := norm_one (f := fun _ => (w : Int)) (n := 1) (w := w) (by omega) (fun _ => rfl) (fun h => by cases h)
      simpa [tab] using this
    rw [end_drop (cast_end h), cond_false, c68 _ (by simp), hn]; rfl
  | cons x xs ih =>
    intro i w h hw
    refine k83_11 _ _ _ _ ?_
    have hx : x < 64 := h64 x (List.mem_of_getElem? (drop_get h))
    have e1' : IntKind.wrap .i64 (Int.tdiv (x : Int) 64) = 0 := by rw [tdiv64 hx]; rfl
    have e3 : min x (IntKind.bits .u64) = x := by
      show min x 64 = x
      omega
    have e4 : IntKind.wrap .u64 (1 * 2 ^ x) = ((2 ^ x : Nat) : Int) := by
      have hp := pow_lt64 hx
      have : (1 * 2 ^ x : Int) = ((2 ^ x : Nat) : Int) := by simp
      rw [this, wrapU64_nat hp]
    have e5 : IntKind.wrap .u64 ((BitVec.ofInt (IntKind.bits .u64) (w : Int) ||| BitVec.ofInt (IntKind.bits .u64) ((2 ^ x : Nat) : Int)).toNat : Int) = ((w ||| 2 ^ x : Nat) : Int) := or64_nat hw (pow_lt64 hx)
    simp only [at_drop (cast_drop h), in_drop (cast_drop h), cond_true, e1', tmod64 hx, e3, e4, Int.toNat_zero, Int.toNat_natCast, wrap_drop (cast_drop h) (by simp; omega)]
    rw [check_pos (by decide), check_pos (by simp), getN_pos (x := (w : Int)) (by simp), check_pos (by decide), check_pos (by omega), check_pos (by simp), getN_pos (x := (w : Int)) (by simp), e5]
    exact ih (i + 1) _ (drop_next h) (or_lt hw (pow_lt64 hx))
theorem h83a {l : List Nat} (hl : l.length ≤ 1048576) (h64 : ∀ j ∈ l, j < 64) : ∀ (xs : List Nat) (i : Nat) (m : Int), l.drop i = xs → (m = -1 ∧ i = 0 ∨ 0 ≤ m ∧ m < 64 ∧ 0 < i ∧ i ≤ l.length) → t83_3 (cast l) m (cast l) (cast l).length i = some (e1 (mk 0 l), 0) := by
  intro xs
  induction xs with
  | nil =>
    intro i m h hm
    refine k83_3 _ _ _ _ _ ?_
    have hge := drop_ge h
    rw [end_drop (cast_end h), cond_false, check_pos (by decide)]
    rcases hm with ⟨rfl, rfl⟩ | ⟨h0, h1, h2, h3⟩
    · have hl0 : l = [] := List.length_eq_zero_iff.1 (by omega)
      subst hl0
      rw [check_pos (by decide)]
      have hq : t83_11 (cast []) ((cast []).length : Int) 0 (List.replicate (Int.toNat (IntKind.wrap .i64 (Int.tdiv (IntKind.wrap .i64 (-1 + 64)) 64))) 0) = some (e1 (mk 0 []), 0) := by
        refine k83_11 _ _ _ _ ?_
        have hr : (List.replicate (Int.toNat (IntKind.wrap .i64 (Int.tdiv (IntKind.wrap .i64 (-1 + 64)) 64))) (0 : Int)) = [] := by decide
        rw [hr, cond_neg (by decide), c68 _ (by simp)]; rfl
      exact hq
    · have e1' : IntKind.wrap .i64 (Int.tdiv (IntKind.wrap .i64 (m + 64)) 64) = 1 := by
        have e2 : IntKind.wrap .i64 (m + 64) = m + 64 := wrap64_id (by omega) (by omega)
        have e3 : Int.tdiv (m + 64) 64 = 1 := by
          rw [Int.tdiv_eq_ediv_of_nonneg (by omega)]; omega
        rw [e2, e3]; rfl
      rw [e1', check_pos (by decide)]
      exact h83b hl h64 l 0 0 rfl (by omega)
  | cons x xs ih =>
    intro i m h hm
    refine k83_3 _ _ _ _ _ ?_
    have hlt := drop_lt h
    have hx : x < 64 := h64 x (List.mem_of_getElem? (drop_get h))
    rw [in_drop (cast_drop h), cond_true, at_drop (cast_drop h), cond_neg (by simp), cond_neg (by simp; omega), wrap_drop (cast_drop h) (by simp; omega)]
    refine ih (i + 1) _ (drop_next h) (.inr ?_)
    split
    · exact ⟨by omega, by omega, by omega, by omega⟩
    · rcases hm with ⟨rfl, rfl⟩ | ⟨h0, h1, h2, h3⟩
      · rename_i hc; omega
      · exact ⟨h0, h1, by omega, by omega⟩
theorem i83 {l : List Nat} (hl : l.length ≤ 1048576) (h64 : ∀ j ∈ l, j < 64) : f83 (cast l) = some (e1 (mk 0 l), 0) := e83 _ (h83a hl h64 l 0 (-1) rfl (.inl ⟨rfl, rfl⟩))

/-! searching an ascending list -/
theorem SS_lt {l : List Str} (h : SS l) {i j : Nat} (hi : i < l.length) (hj : j < l.length) : Op.bytesLess l[i] l[j] = decide (i < j) := by
  have hp := List.pairwise_iff_getElem.1 h
  by_cases h1 : i < j
  · rw [hp i j hi hj h1]; simp [h1]
  · by_cases h2 : i = j
    · subst h2; rw [bl_irrefl]; simp
    · have := hp j i hj hi (by omega)
      rw [bl_asymm this]; simp [h1]
theorem i120 (a b : Str) : f120 a b = some (Op.bytesLess a b) := by
  refine e120 _ _ ?_
  have h97 : f97 a = some false := e97 _ (by simp)
  rw [h97, bind_some']; rfl
theorem half {i j : Nat} (h : i + j ≤ 2097152) : IntKind.wrap .i64 (Int.fdiv (IntKind.wrap .u64 (IntKind.wrap .i64 ((i : Int) + (j : Int)))) (2 ^ min (Int.toNat 1) (IntKind.bits .u64))) = (((i + j) / 2 : Nat) : Int) := by
  have e1 : IntKind.wrap .i64 ((i : Int) + (j : Int)) = ((i + j : Nat) : Int) := by rw [wrap64_id (by omega) (by omega)]; omega
  have e2 : IntKind.wrap .u64 ((i + j : Nat) : Int) = ((i + j : Nat) : Int) := wrapU64_nat (by omega)
  have e3 : (2 ^ min (Int.toNat 1) (IntKind.bits .u64) : Int) = 2 := by rfl
  rw [e1, e2, e3, Int.fdiv_eq_ediv_of_nonneg _ (by omega)]
  rw [wrap64_id (by omega) (by omega)]; omega
theorem h82 {l : List Str} (hS : SS l) (hl : l.length ≤ 1048576) {k : Nat} (hk : k < l.length) : ∀ (n i j : Nat), j - i = n → i ≤ k → k ≤ j → j ≤ l.length → t82_3 l l[k] l.length i j = some ((k : Int), true) := by
  intro n
  induction n using Nat.strongRecOn with
  | _ n ih =>
    intro i j hn hik hkj hj
    refine k82_3 _ _ _ _ _ ?_
    by_cases hij : i < j
    · have hh : (i + j) / 2 < l.length := by omega
      rw [cond_pos (by simp; omega), check_pos (by decide), half (by omega), getK_at hh, i120, bind_some', SS_lt hS hh hk]
      by_cases hlt : (i + j) / 2 < k
      · rw [cond_pos (by simpa using hlt), wrap_succ (by omega)]
        exact ih (j - ((i + j) / 2 + 1)) (by omega) _ j rfl (by omega) hkj hj
      · rw [cond_neg (by simpa using hlt)]
        exact ih ((i + j) / 2 - i) (by omega) i _ rfl hik (by omega) (by omega)
    · obtain rfl : i = k := by omega
      rw [cond_neg (by simp; omega), cond_pos (by simp; omega), getK_at hk, cond_pos (by simp)]
theorem i82 {l : List Str} (hS : SS l) (hl : l.length ≤ 1048576) {k : Nat} (hk : k < l.length) : f82 l l[k] = some ((k : Int), true) := e82 _ _ (h82 hS hl hk _ 0 l.length rfl (by omega) (by omega) (Nat.le_refl _))

/-! the codes of the declared types -/
theorem h40c {d : List TypeDecl} (z : Sz d) (h64 : (alln d).length ≤ 64) {i : Nat} (hi : i < (alln d).length) {x : Str} {low : List Str} (hlow : low.length ≤ d.length) (hL : ∀ y, y ∈ low ↔ Le d x y) (hx : x ∈ nms d) {codes : List W} (hc : codes.length = (alln d).length) {r : List Str × List (List Int)}
    (hr : t40_10 d (alln d).length (i + 1 : Nat) (alln d) (codes.set i (e1 (cw d (alln d) x))) = some r) : ∀ (xs : List Str) (k : Nat) (o : List Nat), low.drop k = xs → k ≤ low.length → o.length ≤ k → (∀ j, j ∈ o ↔ ∃ h : j < (alln d).length, (alln d)[j] ∈ low.take k) →
    t40_14 d i (alln d).length i low low.length k (alln d) (cast o) codes = some r := by
  have hz := z.len
  intro xs
  induction xs with
  | nil =>
    intro k o h hkl ho hm
    refine k40_14 _ _ _ _ _ _ _ _ _ _ ?_
    have hge := drop_ge h
    rw [List.take_of_length_le hge] at hm
    have h64' : ∀ j ∈ o, j < 64 := fun j hj => by obtain ⟨h1, _⟩ := (hm j).1 hj; omega
    have ew : mk 0 o = cw d (alln d) x := by
      apply Nat.eq_of_testBit_eq
      intro j
      rw [mk_bit, Nat.zero_testBit, Bool.false_or, Bool.eq_iff_iff, decide_eq_true_iff, hm, cw_bit]
      constructor
      · rintro ⟨h1, h2⟩
        refine ⟨h1, ?_⟩
        rw [List.getD_eq_getElem?_getD, List.getElem?_eq_getElem h1]
        exact (hL _).1 h2
      · rintro ⟨h1, h2⟩
        refine ⟨h1, ?_⟩
        rw [List.getD_eq_getElem?_getD, List.getElem?_eq_getElem h1] at h2
        exact (hL _).2 h2
    have hol : o.length ≤ 1048576 := by omega
    rw [end_drop h, cond_false, i83 hol h64', bind_some', bind_some', check_pos (by simp; omega), Int.toNat_natCast, getN_at (by omega), wrap_succ (by omega), ew]
    exact hr
  | cons y xs ih =>
    intro k o h hkl ho hm
    refine k40_14 _ _ _ _ _ _ _ _ _ _ ?_
    have hlt := drop_lt h
    have hy : y ∈ low := List.mem_of_getElem? (drop_get h)
    have hyn : y ∈ alln d := mem_sortS.2 (Le.nms hx ((hL y).1 hy))
    obtain ⟨j, hj, e⟩ := List.mem_iff_getElem.1 hyn
    have hd : low.take (k + 1) = low.take k ++ [y] := by
      rw [List.take_add_one, drop_get h]; rfl
    have hal := alln_length (d := d)
    have hb := i82 (l := alln d) (sortS_sorted (nms d)) (by omega) hj
    rw [e] at hb
    rw [in_drop h, cond_true, at_drop h, hb, bind_some', chk_app _ (by simp; omega) (by simp) (by omega), wrap_drop h (by omega)]
    have := ih (k + 1) (o ++ [j]) (drop_next h) (by omega) (by simp; omega) (fun i' => by
      rw [List.mem_append, List.mem_singleton, hm, hd]
      constructor
      · rintro (⟨h1, h2⟩ | rfl)
        · exact ⟨h1, List.mem_append_left _ h2⟩
        · exact ⟨hj, List.mem_append_right _ (by rw [e]; simp)⟩
      · rintro ⟨h1, h2⟩
        rcases List.mem_append.1 h2 with h2 | h2
        · exact .inl ⟨h1, h2⟩
        · right
          simp only [List.mem_singleton] at h2
          have : (alln d)[i'] = (alln d)[j] := by rw [h2, e]
          exact (List.getElem_inj (sortS_sorted (nms d)).nodup).1 this)
    rw [show cast (o ++ [j]) = cast o ++ [(j : Int)] from List.map_append] at this
    exact this
theorem set_codes {α : Type} {f : Str → α} {z : α} {l : List Str} {i : Nat} (hi : i < l.length) : (((l.take i).map f) ++ List.replicate (l.length - i) z).set i (f l[i]) = ((l.take (i + 1)).map f) ++ List.replicate (l.length - (i + 1)) z := by
  rw [List.set_append_right _ _ (by simp; omega)]
  have e : i - ((l.take i).map f).length = 0 := by simp; omega
  rw [e, show l.length - i = (l.length - (i + 1)) + 1 by omega, List.replicate_succ, List.set_cons_zero]
  have e2 : l.take (i + 1) = l.take i ++ [l[i]] := by
    rw [List.take_add_one, List.getElem?_eq_getElem hi]; rfl
  rw [e2, List.map_append, List.append_assoc]; rfl
theorem h40b {d : List TypeDecl} (z : Sz d) (hsn : ∀ t ∈ d, t.Supers.Nodup) (h64 : (alln d).length ≤ 64) : ∀ (n i : Nat), (alln d).length - i = n → i ≤ (alln d).length →
    t40_10 d (alln d).length i (alln d) ((((alln d).take i).map fun x => e1 (cw d (alln d) x)) ++ List.replicate ((alln d).length - i) ([] : W)) = some (alln d, (cws d).map e1) := by
  have hz := z.len
  intro n
  induction n with
  | zero =>
    intro i hn hi
    obtain rfl : i = (alln d).length := by omega
    refine k40_10 _ _ _ _ _ ?_
    rw [cond_neg (by simp), List.take_length, Nat.sub_self]
    simp [cws, Function.comp_def]
  | succ n ih =>
    intro i hn hi
    refine k40_10 _ _ _ _ _ ?_
    have hlt : i < (alln d).length := by omega
    have hx : (alln d)[i] ∈ nms d := mem_sortS.1 (List.getElem_mem hlt)
    obtain ⟨low, r1, r2, r3, r4⟩ := i81 z hsn hx
    have hih := ih (i + 1) (by omega) (by omega)
    rw [← set_codes (f := fun x => e1 (cw d (alln d) x)) (z := ([] : W)) hlt] at hih
    rw [cond_pos (by simp; omega), chk_at hlt, Int.toNat_natCast, getN_at hlt, r1, bind_some']
    exact h40c z h64 hlt r4 r3 hx (by simp; omega) hih low 0 [] rfl (by omega) (by simp) (fun j => by simp)
theorem h40a {d : List TypeDecl} (z : Sz d) (hnn : (nms d).Nodup) (hsn : ∀ t ∈ d, t.Supers.Nodup) (h64 : d.length ≤ 64) : ∀ (xs : List TypeDecl) (i : Nat), d.drop i = xs → i ≤ d.length → t40_3 d d d.length i (nms (d.take i)) = some (alln d, (cws d).map e1) := by
  have hz := z.len
  have hal := alln_length (d := d)
  intro xs
  induction xs with
  | nil =>
    intro i h hi
    refine k40_3 _ _ _ _ _ ?_
    have hge := drop_ge h
    rw [List.take_of_length_le hge, end_drop h, cond_false, i80 _ (by simp; omega), bind2_some, isort_sortS hnn]
    have hal' : (sortS (nms d)).length ≤ d.length := hal
    rw [check_pos (by omega)]
    have := h40b z hsn (by omega) _ 0 rfl (by omega)
    simpa using this
  | cons x xs ih =>
    intro i h hi
    refine k40_3 _ _ _ _ _ ?_
    have hlt := drop_lt h
    have hd : d.take (i + 1) = d.take i ++ [x] := by
      rw [List.take_add_one, drop_get h]; rfl
    have := ih (i + 1) (drop_next h) (by omega)
    rw [hd, show nms (d.take i ++ [x]) = nms (d.take i) ++ [x.Name] from List.map_append] at this
    rw [in_drop h, cond_true, at_drop h, chk_app _ (by simp; omega) (by simp) (by omega), wrap_drop h (by omega)]
    exact this
theorem i40 {d : List TypeDecl} (z : Sz d) (hnn : (nms d).Nodup) (hsn : ∀ t ∈ d, t.Supers.Nodup) (h64 : d.length ≤ 64) : f40 d = some (alln d, (cws d).map e1) := e40 _ (h40a z hnn hsn h64 d 0 rfl (by omega))

/-! keys -/
def byteI (w j : Nat) : Int := ((w / 2 ^ (8 * j) % 256 : Nat) : Int)
def keyB (w : Nat) : Str := if w = 0 then [] else (List.range 8).map fun j => UInt8.ofNat (w / 2 ^ (8 * j) % 256)
theorem bytesOf_map (l : List Int) : bytesOf (l.map (eInt .u8)) = some (l.map fun n => UInt8.ofNat n.toNat) := by
  induction l with
  | nil => rfl
  | cons x l ih => simp only [List.map_cons, eInt, bytesOf] at ih ⊢; rw [ih]; rfl
theorem bytesT_eq {R : Type} (l : List Int) (k : List UInt8 → Option R) : bytesT l k = k (l.map fun n => UInt8.ofNat n.toNat) := by
  unfold bytesT bytesK; rw [bytesOf_map]
theorem h85b {w : Nat} (hw : w < 18446744073709551616) : ∀ (n j : Nat), 8 - j = n → j ≤ 8 → ∀ r, t85_3 [(w : Int)] 1 1 ((List.range 8).map (byteI w)) = some r → t85_6 w ((8 * j : Nat) : Int) [(w : Int)] 1 0 ((List.range j).map (byteI w)) = some r := by
  intro n
  induction n with
  | zero =>
    intro j hn hj r hr
    obtain rfl : j = 8 := by omega
    refine k85_6 _ _ _ _ _ _ ?_
    rw [cond_neg (by decide)]
    exact hr
  | succ n ih =>
    intro j hn hj r hr
    refine k85_6 _ _ _ _ _ _ ?_
    have e1 : min (8 * j) (IntKind.bits .u64) = 8 * j := by
      show min (8 * j) 64 = 8 * j
      omega
    have e2 : Int.fdiv (w : Int) (2 ^ (8 * j)) = ((w / 2 ^ (8 * j) : Nat) : Int) := by
      rw [show (2 ^ (8 * j) : Int) = ((2 ^ (8 * j) : Nat) : Int) by simp, Int.fdiv_eq_ediv_of_nonneg _ (Int.natCast_nonneg _)]; simp
    have e3 : IntKind.wrap .u8 ((w / 2 ^ (8 * j) : Nat) : Int) = byteI w j := by
      rw [wrapU8_eq]; unfold byteI; simp
    have e4 : IntKind.wrap .i64 (((8 * j : Nat) : Int) + 8) = ((8 * (j + 1) : Nat) : Int) := by
      rw [wrap64_id (by omega) (by omega)]; omega
    rw [cond_pos (by simp; omega), check_pos (by omega), Int.toNat_natCast, e1, e2, e3, e4, chk_app _ (by simp; omega) (by simp) (by omega)]
    have := ih (j + 1) (by omega) (by omega) r hr
    rw [List.range_succ, List.map_append] at this
    exact this
theorem i85 {w : Nat} (hw : w < 18446744073709551616) : f85 (e1 w) = some (keyB w) := by
  refine e85 _ ?_
  by_cases h0 : w = 0
  · subst h0
    rw [show e1 0 = [] from rfl, check_pos (by decide)]
    refine k85_3 _ _ _ _ ?_
    rw [cond_neg (by decide), bytesT_eq]; rfl
  · have hl : e1 w = [(w : Int)] := by simp [e1, h0]
    rw [hl, check_pos (by rw [show ([(w : Int)].length : Int) = 1 from rfl]; decide)]
    refine k85_3 _ _ _ _ ?_
    rw [cond_pos (by simp), show (0 : Int) = ((0 : Nat) : Int) from rfl, getK_nat (x := (w : Int)) (by simp)]
    have h := h85b hw _ 0 rfl (by omega) (keyB w) (by
      refine k85_3 _ _ _ _ ?_
      rw [cond_neg (by decide), bytesT_eq]
      unfold keyB byteI
      rw [if_neg h0, List.map_map]
      simp only [Function.comp_def, Int.toNat_natCast])
    exact h
theorem keyB_inj {w v : Nat} (hw : w < 18446744073709551616) (hv : v < 18446744073709551616) (h : keyB w = keyB v) : w = v := by
  unfold keyB at h
  split at h
  · split at h
    · omega
    · simp at h
  · split at h
    · simp at h
    · have hb : ∀ j, j < 8 → w / 2 ^ (8 * j) % 256 = v / 2 ^ (8 * j) % 256 := by
        intro j hj
        have := congrArg (fun l => l[j]?) h
        simp only [List.getElem?_map, List.getElem?_range hj, Option.map_some, Option.some.injEq] at this
        have h2 := congrArg UInt8.toNat this
        simp only [UInt8.toNat_ofNat'] at h2
        omega
      have b0 := hb 0 (by omega); have b1 := hb 1 (by omega); have b2 := hb 2 (by omega); have b3 := hb 3 (by omega)
      have b4 := hb 4 (by omega); have b5 := hb 5 (by omega); have b6 := hb 6 (by omega); have b7 := hb 7 (by omega)
      simp only [Nat.reduceMul, Nat.reducePow, Nat.mul_zero, Nat.pow_zero, Nat.div_one] at b0 b1 b2 b3 b4 b5 b6 b7
      omega

/-! the family -/
noncomputable def knownOf (l : List Nat) : List (Str × Bool) := l.foldl (fun m w => putM m (keyB w) true) []
theorem knownOf_append (l : List Nat) (w : Nat) : knownOf (l ++ [w]) = putM (knownOf l) (keyB w) true := by simp [knownOf]
theorem getM_knownOf (l : List Nat) (x : Str) : getM (knownOf l) x = if x ∈ l.map keyB then some true else none := by
  have key : ∀ (l : List Nat) (m : List (Str × Bool)) (s : List Str), (∀ x, getM m x = if x ∈ s then some true else none) → ∀ x, getM (l.foldl (fun m w => putM m (keyB w) true) m) x = if x ∈ s ++ l.map keyB then some true else none := by
    intro l
    induction l with
    | nil => intro m s h x; simpa using h x
    | cons y l ih =>
      intro m s h x
      rw [List.foldl_cons, ih _ (s ++ [keyB y]) (fun z => by
        rw [getM_put, h]
        by_cases e : z = keyB y <;> simp [e])]
      simp
  have := key l [] [] (fun x => by rw [getM_nil]; simp) x
  simpa [knownOf] using this
theorem i84 {l : List Nat} (hl : l.length ≤ 1048576) (hlt : ∀ c ∈ l, c < 18446744073709551616) {w : Nat} (hw : w < 18446744073709551616) : f84 (e1 w) (knownOf l) (l.map e1) = some ((), knownOf (addF l w), (addF l w).map e1) := by
  refine e84 _ _ _ ?_
  by_cases h0 : w = 0
  · subst h0
    rw [cond_neg (by decide)]
    have : addF l 0 = l := by simp [addF]
    rw [this]
  · have hl1 : (e1 w).length = 1 := by unfold e1; rw [if_neg h0]; rfl
    rw [cond_pos (by rw [hl1]; decide), i85 hw, bind_some']
    by_cases hm : w ∈ l
    · have : addF l w = l := if_pos (.inr hm)
      rw [lookT_some (v := true) (by rw [getM_knownOf, if_pos (List.mem_map_of_mem hm)]), this]; rfl
    · have hk : keyB w ∉ l.map keyB := by
        intro hc
        obtain ⟨v, hv, e⟩ := List.mem_map.1 hc
        exact hm (keyB_inj (hlt v hv) hw e ▸ hv)
      have : addF l w = l ++ [w] := if_neg (by simp only [not_or]; exact ⟨h0, hm⟩)
      rw [lookT_none (by rw [getM_knownOf, if_neg hk]), bind_some', letT_eq, chk_app _ (by simp; omega) (by simp) (by omega), this, knownOf_append, List.map_append]; rfl
theorem famIn_stop {i n k : Nat} {l : List Nat} (h : 256 < l.length) : famIn i n k l = l := by
  cases n with
  | zero => rfl
  | succ n => unfold famIn; rw [if_neg (by omega)]
theorem famOut_stop {n i : Nat} {l : List Nat} (h : 256 < l.length) : famOut n i l = l := by
  cases n with
  | zero => rfl
  | succ n => unfold famOut; rw [if_neg (by omega)]
theorem h41c {i : Nat} : ∀ (n k : Nat) (l : List Nat), i - k = n → k ≤ i → i < l.length → l.length ≤ 256 → (∀ c ∈ l, c < 18446744073709551616) → ∀ r,
    ((famIn i n k l).length ≤ 256 → t41_10 (i + 1 : Nat) (knownOf (famIn i n k l)) ((famIn i n k l).map e1) = some r) → (¬ (famIn i n k l).length ≤ 256 → r = ([], false)) → t41_13 i k (knownOf l) (l.map e1) = some r := by
  intro n
  induction n with
  | zero =>
    intro k l hn hk hi hlen hlt r h1 h2
    refine k41_13 _ _ _ _ ?_
    rw [cond_neg (by simp; omega), wrap_succ (by omega)]
    exact h1 hlen
  | succ n ih =>
    intro k l hn hk hi hlen hlt r h1 h2
    refine k41_13 _ _ _ _ ?_
    have hik := getD_lt hlt hi
    have hkk := getD_lt hlt (show k < l.length by omega)
    have hand : l.getD i 0 &&& l.getD k 0 < 18446744073709551616 := Nat.lt_of_le_of_lt Nat.and_le_left hik
    unfold famIn at h1 h2
    rw [if_pos hlen] at h1 h2
    rw [cond_pos (by simp; omega), check_pos (by simp; omega), Int.toNat_natCast, getN_pos (getD_map hi), check_pos (by simp; omega), Int.toNat_natCast, getN_pos (getD_map (by omega)), o29 hik hkk, bind_some', i84 (by omega) hlt hand, bind3_some]
    obtain ⟨e, he, hle⟩ := addF_pre l (l.getD i 0 &&& l.getD k 0)
    by_cases h256 : (addF l (l.getD i 0 &&& l.getD k 0)).length ≤ 256
    · rw [cond_neg (by rw [List.length_map]; exact decide_eq_false (by omega)), wrap_succ (by omega)]
      exact ih (k + 1) _ (by omega) (by omega) (by rw [he]; simp; omega) h256 (addF_lt hlt hand) r h1 h2
    · rw [cond_pos (by rw [List.length_map]; exact decide_eq_true (by omega)), h2 (by rw [famIn_stop (by omega)]; exact h256)]
theorem h41b : ∀ (n i : Nat) (l : List Nat), 258 ≤ i + n → l.length ≤ 256 → (∀ c ∈ l, c < 18446744073709551616) → t41_10 i (knownOf l) (l.map e1) = some (if (famOut n i l).length ≤ 256 then ((famOut n i l).map e1, true) else ([], false)) := by
  intro n
  induction n with
  | zero =>
    intro i l hn hlen hlt
    refine k41_10 _ _ _ ?_
    rw [cond_neg (by simp; omega)]
    show _ = some (if l.length ≤ 256 then (l.map e1, true) else ([], false))
    rw [if_pos hlen]
    simp; omega
  | succ n ih =>
    intro i l hn hlen hlt
    refine k41_10 _ _ _ ?_
    have hf : famOut (n + 1) i l = if i < l.length ∧ l.length ≤ 256 then famOut n (i + 1) (famIn i i 0 l) else l := rfl
    by_cases hi : i < l.length
    · rw [if_pos (⟨hi, hlen⟩ : i < l.length ∧ l.length ≤ 256)] at hf
      rw [hf, cond_pos (by simp; omega)]
      refine h41c i 0 l rfl (by omega) hi hlen hlt _ (fun h => ?_) (fun h => ?_)
      · exact ih (i + 1) _ (by omega) h (famIn_lt i i 0 l hlt)
      · rw [famOut_stop (by omega), if_neg h]
    · rw [if_neg (fun h : i < l.length ∧ l.length ≤ 256 => hi h.1)] at hf
      rw [hf, cond_neg (by simp; omega), if_pos hlen]
      simp; omega
theorem h41a {cs : List Nat} (hlt : ∀ c ∈ cs, c < 18446744073709551616) (hnd : cs.Nodup) (hnz : ∀ c ∈ cs, c ≠ 0) (hlen : cs.length ≤ 256) : ∀ (xs : List Nat) (i : Nat), cs.drop i = xs → i ≤ cs.length → ∀ r, t41_10 0 (knownOf cs) (cs.map e1) = some r → t41_5 (cs.map e1) (cs.map e1).length i (knownOf (cs.take i)) ((cs.take i).map e1) = some r := by
  intro xs
  induction xs with
  | nil =>
    intro i h hi r hr
    refine k41_5 _ _ _ _ _ ?_
    have hm : (cs.map e1).drop i = [] := by rw [← List.map_drop, h]; rfl
    rw [end_drop hm, cond_false, List.take_of_length_le (drop_ge h)]
    exact hr
  | cons w xs ih =>
    intro i h hi r hr
    refine k41_5 _ _ _ _ _ ?_
    have hlt' := drop_lt h
    have hm : (cs.map e1).drop i = e1 w :: xs.map e1 := by rw [← List.map_drop, h]; rfl
    have hw : w ∈ cs := List.mem_of_getElem? (drop_get h)
    have hd : cs.take (i + 1) = cs.take i ++ [w] := by
      rw [List.take_add_one, drop_get h]; rfl
    have hnot : w ∉ cs.take i := by
      have h1 := List.take_append_drop i cs
      rw [h] at h1
      rw [← h1, List.nodup_append] at hnd
      exact fun hmm => hnd.2.2 w hmm w (by simp) rfl
    have ha : addF (cs.take i) w = cs.take (i + 1) := by
      rw [hd]; exact if_neg (by simp only [not_or]; exact ⟨hnz w hw, hnot⟩)
    rw [in_drop hm, cond_true, at_drop hm, i84 (by simp; omega) (fun c hc => hlt c (List.mem_of_mem_take hc)) (hlt w hw), bind3_some, ha, wrap_drop hm (by simp; omega)]
    exact ih (i + 1) (drop_next h) (by omega) r hr
theorem i41 {cs : List Nat} (hlt : ∀ c ∈ cs, c < 18446744073709551616) (hnd : cs.Nodup) (hnz : ∀ c ∈ cs, c ≠ 0) (hlen : cs.length ≤ 256) : f41 (cs.map e1) = some (if (fam cs).length ≤ 256 then ((fam cs).map e1, true) else ([], false)) := by
  refine e41 _ ?_
  have := h41b 258 0 cs (by omega) hlen hlt
  exact h41a hlt hnd hnz hlen cs 0 rfl (by omega) _ this
end Go.Proofs.YtfoddgpndoeeaaaGreatDoor.cl
