/-
  The Closure laws: what the program finds above and below a type (poset.reach, Above, Below, Maximal).
-/
import Derived.Test.YtfoddgpndoeeaaaGreatDoorClNb
import Derived.Test.YtfoddgpndoeeaaaGreatDoorClL
set_option linter.unusedVariables false
set_option linter.unusedSimpArgs false
set_option linter.unusedSectionVars false
namespace Go.Proofs.YtfoddgpndoeeaaaGreatDoor.cl
open Go Go.AM

/-! sorting strings -/
theorem strs_map (l : List Str) : strs (l.map eStr) = some l := by
  induction l with
  | nil => rfl
  | cons x l ih => simp only [List.map_cons, eStr, strs] at ih ⊢; rw [ih]; rfl
theorem i80 (l : List Str) (hl : l.length ≤ 1073741824) : f80 l = some ((), isort Op.bytesLess l) := by
  refine dec_some (E := E80r) ?_
  refine run_of_prim ?_
  have hb : Nat.ble l.length 1073741824 = true := Nat.ble_eq_true_of_le hl
  simp only [prim, prim0, strs_map, hb, cond_true]
  rfl
theorem hasT_eq {K V R : Type} {l : List (K × V)} {key : K} {b : Bool} (h : (posM l key).isSome = b) (k : Bool → Option R) : hasT l key k = k b := by subst h; rfl
theorem bl_asymm' (a b : Str) (h : Op.bytesLess a b = true) : Op.bytesLess b a = false := bl_asymm h
theorem bl_up (x y z : Str) (h : Op.bytesLess x y = true) (h' : Op.bytesLess z y = false) : Op.bytesLess x z = true := by
  by_cases e : z = y
  · rw [e]; exact h
  · exact bl_trans _ _ _ h (bl_total _ _ h' e)
theorem foldl_insL {α : Type} (lt : α → α → Bool) (asymm : ∀ a b, lt a b = true → lt b a = false) (up : ∀ x y z, lt x y = true → lt z y = false → lt x z = true) : ∀ (l E : List α), Sorted lt E → Sorted lt (l.foldl (fun out x => insL lt x out) E) ∧ (l.foldl (fun out x => insL lt x out) E).Perm (E ++ l) := by
  intro l
  induction l with
  | nil => intro E hE; exact ⟨hE, by simp⟩
  | cons p l ih =>
    intro E hE
    obtain ⟨h1, h2⟩ := ih _ (insL_sorted lt asymm up hE (x := p))
    refine ⟨h1, h2.trans ?_⟩
    refine ((insL_perm lt p E).append_right l).trans ?_
    exact (List.perm_middle (a := p) (l₁ := E) (l₂ := l)).symm
theorem isort_spec {α : Type} (lt : α → α → Bool) (asymm : ∀ a b, lt a b = true → lt b a = false) (up : ∀ x y z, lt x y = true → lt z y = false → lt x z = true) (l : List α) : Sorted lt (isort lt l) ∧ (isort lt l).Perm l := by
  have := foldl_insL lt asymm up l [] (by simp [Sorted])
  simpa [isort] using this
theorem isort_SS {l : List Str} (h : l.Nodup) : SS (isort Op.bytesLess l) := by
  obtain ⟨h1, h2⟩ := isort_spec Op.bytesLess bl_asymm' bl_up l
  have hn : (isort Op.bytesLess l).Nodup := h2.nodup_iff.2 h
  unfold SS
  have := List.Pairwise.and h1 hn
  exact this.imp fun {a b} ⟨hx, hne⟩ => by
    cases e : Op.bytesLess a b with
    | true => rfl
    | false => rw [bl_total a b e hne] at hx; cases hx
theorem mem_isort {l : List Str} {x : Str} : x ∈ isort Op.bytesLess l ↔ x ∈ l := (isort_spec Op.bytesLess bl_asymm' bl_up l).2.mem_iff
theorem isort_length (l : List Str) : (isort Op.bytesLess l).length = l.length := (isort_spec Op.bytesLess bl_asymm' bl_up l).2.length_eq
theorem isort_sortS {l : List Str} (h : l.Nodup) : isort Op.bytesLess l = sortS l := SS.ext (isort_SS h) (sortS_sorted l) fun y => by rw [mem_isort, mem_sortS]
theorem isort_id {l : List Str} (h : SS l) : isort Op.bytesLess l = l := SS.ext (isort_SS h.nodup) h fun y => mem_isort

/-! what is reached -/
noncomputable def metOf (o : List Str) : List (Str × Bool) := o.foldl (fun m x => putM m x true) []
theorem metOf_append (o : List Str) (x : Str) : metOf (o ++ [x]) = putM (metOf o) x true := by simp [metOf]
theorem getM_metOf (o : List Str) (x : Str) : getM (metOf o) x = if x ∈ o then some true else none := by
  have key : ∀ (l : List Str) (m : List (Str × Bool)) (s : List Str), (∀ x, getM m x = if x ∈ s then some true else none) → ∀ x, getM (l.foldl (fun m x => putM m x true) m) x = if x ∈ s ++ l then some true else none := by
    intro l
    induction l with
    | nil => intro m s h x; simpa using h x
    | cons y l ih =>
      intro m s h x
      rw [List.foldl_cons, ih _ (s ++ [y]) (fun z => by
        rw [getM_put, h]
        by_cases e : z = y <;> simp [e])]
      simp
  have := key o [] [] (fun x => by rw [getM_nil]; simp) x
  simpa [metOf] using this
theorem h74b {to : List (Str × List Str)} {i : Nat} {l : List Str} (hll : l.length ≤ 1048576) : ∀ (xs : List Str) (k : Nat) (o : List Str), l.drop k = xs → i < o.length → o.length + xs.length ≤ 4194304 → ∀ r,
    t74_7 to (i + 1 : Nat) (metOf (addAll o xs)) (addAll o xs) = some r → t74_10 to i l l.length k (metOf o) o = some r := by
  intro xs
  induction xs with
  | nil =>
    intro k o h hi hlen r hr
    refine k74_10 _ _ _ _ _ _ _ ?_
    rw [end_drop h, cond_false, wrap_succ (by omega)]
    exact hr
  | cons s xs ih =>
    intro k o h hi hlen r hr
    refine k74_10 _ _ _ _ _ _ _ ?_
    simp only [List.length_cons] at hlen
    rw [in_drop h, cond_true, at_drop h, wrap_drop h (by omega)]
    by_cases h2 : s ∈ o
    · rw [lookT_some (v := true) (by rw [getM_metOf, if_pos h2]), Bool.not_true, cond_false]
      refine ih (k + 1) o (drop_next h) hi (by omega) r ?_
      have e : addAll o (s :: xs) = addAll o xs := by simp [addAll, h2]
      rw [e] at hr; exact hr
    · rw [lookT_none (by rw [getM_metOf, if_neg h2]), letT_eq, chk_app _ (by omega) (by simp) (by omega), ← metOf_append]
      refine ih (k + 1) (o ++ [s]) (drop_next h) (by simp; omega) (by simp; omega) r ?_
      have e : addAll o (s :: xs) = addAll (o ++ [s]) xs := by simp [addAll, h2]
      rw [e] at hr; exact hr
theorem i74 {to : List (Str × List Str)} {U : List Str} {nx : Str → List Str} (hU : U.length ≤ 1048576) (hto : ∀ x ∈ U, getM to x = some (nx x)) (hnl : ∀ x ∈ U, (nx x).length ≤ 1048576) (hcl : ∀ x ∈ U, ∀ y ∈ nx x, y ∈ U) {x : Str} (hx : x ∈ U) :
    ∃ l, f74 to x = some l ∧ SS l ∧ (∀ y, y ∈ l ↔ Rch nx x y) ∧ l.length ≤ U.length := by
  obtain ⟨o, h1, h2, h3, h4⟩ := search (next := nx) (U := U) (x0 := x) hx hcl (R := List Str) (outer := fun i o => t74_7 to i (metOf o) o) (fin := fun o => bind2 (f80 o) fun y205 l207 => some l207)
    (fun i o ho hi r hr => by
      refine k74_7 _ _ _ _ ?_
      rw [cond_neg (by simp; omega)]; exact hr)
    (fun i o y ho hlen hy hyU r hr => by
      have hi := (List.getElem?_eq_some_iff.1 hy).1
      refine k74_7 _ _ _ _ ?_
      rw [cond_pos (by simp; omega), chk_at hi, Int.toNat_natCast, getN_pos hy, lookT_some (hto y hyU)]
      have := hnl y hyU
      exact h74b (by omega) (nx y) 0 o rfl hi (by omega) r hr)
  refine ⟨isort Op.bytesLess o, ?_, isort_SS h1, fun y => by rw [mem_isort, h2], by rw [isort_length]; exact h3⟩
  refine e74 _ _ ?_
  rw [lookT_some (hto x hx), letT_eq]
  have := h4 (isort Op.bytesLess o) (by
    show bind2 (f80 o) _ = _
    rw [i80 o (by omega), bind2_some])
  exact this
/-! Below -/
theorem h81b {d : List TypeDecl} (z : Sz d) {nm : Str} {i : Nat} (hi : i < d.length) {t : TypeDecl} (hst : t.Supers.length ≤ 1048576) (hnd : t.Supers.Nodup) {pre : Str → List Str} (hpre : ∀ y, (pre y).length ≤ 1048576) {K : Str → Prop} :
    ∀ (xs : List Str) (k : Nat) (m : List (Str × Option (List Str))), t.Supers.drop k = xs → Full m → (∀ y, K y → (getM m y).isSome = true) → (∀ y, rowOf m y = pre y ++ (if y ∈ t.Supers.take k then [t.Name] else [])) →
    ∃ m', Full m' ∧ (∀ y, K y → (getM m' y).isSome = true) ∧ (∀ y, rowOf m' y = pre y ++ (if y ∈ t.Supers then [t.Name] else [])) ∧ ∀ r, t81_3 nm d d.length (i + 1 : Nat) m' = some r →
    t81_9 nm d d.length i t.Supers t.Supers.length k t m = some r := by
  have hl := z.len
  intro xs
  induction xs with
  | nil =>
    intro k m h hF hK hm
    have := drop_ge h
    refine ⟨m, hF, hK, fun y => by rw [hm, List.take_of_length_le this], fun r hk => k81_9 _ _ _ _ _ _ _ _ _ ?_⟩
    rw [end_drop h, cond_false, wrap_succ (by omega)]
    exact hk
  | cons x xs ih =>
    intro k m h hF hK hm
    have hlt := drop_lt h
    have hx : x ∉ t.Supers.take k := by
      have h1 := List.take_append_drop k t.Supers
      rw [h] at h1
      rw [← h1, List.nodup_append] at hnd
      exact fun hm => hnd.2.2 x hm x (by simp) rfl
    have hd : t.Supers.take (k + 1) = t.Supers.take k ++ [x] := by
      rw [List.take_add_one, drop_get h]; rfl
    obtain ⟨m', e1, e2⟩ := takeT_put hF x (fun l205 m206 => check ((List.length l205 + List.length [t.Name]) * 16 ≤ 140737488355328 ∧ List.length l205 + List.length [t.Name] ≤ 4611686018427387904) (letT (putM m206 x (some (l205 ++ [t.Name]))) fun m208 => t81_9 nm d d.length i t.Supers t.Supers.length (IntKind.wrap .i64 (k + 1)) t m208))
    have hrow : rowOf m x = pre x := by rw [hm, if_neg hx, List.append_nil]
    obtain ⟨m2, a1, aK, a2, a3⟩ := ih (k + 1) (putM m x (some (pre x ++ [t.Name]))) (drop_next h) (hF.put _ _) (fun y hy => by
      rw [getM_put]; split
      · rfl
      · exact hK y hy) (fun y => by
      rw [rowOf_put, hm, hd]
      by_cases e : y = x
      · subst e; simp
      · have : (y ∈ t.Supers.take k ++ [x]) ↔ y ∈ t.Supers.take k := by simp [e]
        simp only [e, if_false, this])
    refine ⟨m2, a1, aK, a2, fun r hk => k81_9 _ _ _ _ _ _ _ _ _ ?_⟩
    rw [in_drop h, cond_true, at_drop h, e1, hrow, chk_app _ (by have := hpre x; omega) (by simp) (by omega), letT_eq, e2, wrap_drop h (by omega)]
    exact a3 r hk
theorem h81a {d : List TypeDecl} (z : Sz d) (hsn : ∀ t ∈ d, t.Supers.Nodup) {nm : Str} :
    ∀ (xs : List TypeDecl) (i : Nat) (m : List (Str × Option (List Str))), d.drop i = xs → Full m → (∀ y, y ∈ nms (d.take i) → (getM m y).isSome = true) → (∀ y, rowOf m y = dn (d.take i) y) →
    ∃ m', (∀ y ∈ nms d, getM m' y = some (dn d y)) ∧ ∀ r, f74 m' nm = some r → t81_3 nm d d.length i m = some r := by
  have hl := z.len
  intro xs
  induction xs with
  | nil =>
    intro i m h hF hK hm
    have hge := drop_ge h
    rw [List.take_of_length_le hge] at hm hK
    obtain ⟨m', e1, e2, e3⟩ := allT_full hF (fun m207 => Option.bind (f74 m207 nm) fun y208 => some y208)
    refine ⟨m', fun y hy => ?_, fun r hk => k81_3 _ _ _ _ _ ?_⟩
    · have h1 := e2 y
      have h2 := e3 y
      rw [hK y hy] at h2
      rw [hm] at h1
      cases e : getM m' y with
      | none => rw [e] at h2; cases h2
      | some v => rw [e] at h1; simp only [Option.getD_some] at h1; rw [h1]
    · rw [end_drop h, cond_false, e1, hk]; rfl
  | cons x xs ih =>
    intro i m h hF hK hm
    have hlt := drop_lt h
    have hx : x ∈ d := List.mem_of_getElem? (drop_get h)
    have hd : d.take (i + 1) = d.take i ++ [x] := by
      rw [List.take_add_one, drop_get h]; rfl
    have go : ∀ m0, Full m0 → (∀ y, y ∈ nms (d.take (i + 1)) → (getM m0 y).isSome = true) → (∀ y, rowOf m0 y = dn (d.take i) y) → ∃ m', (∀ y ∈ nms d, getM m' y = some (dn d y)) ∧ ∀ r, f74 m' nm = some r → t81_9 nm d d.length i x.Supers x.Supers.length 0 x m0 = some r := by
      intro m0 hF0 hK0 hm0
      obtain ⟨m2, a1, a2, a3, a4⟩ := h81b z hlt (nm := nm) (by have := z.sup x hx; omega) (hsn x hx) (pre := dn (d.take i)) (fun y => by
        have := dn_length (d.take i) y
        rw [List.length_take] at this; omega) (K := fun y => y ∈ nms (d.take (i + 1))) x.Supers 0 m0 rfl hF0 hK0 (fun y => by rw [hm0]; simp)
      obtain ⟨m', r1, r2⟩ := ih (i + 1) m2 (drop_next h) a1 a2 (fun y => by
        rw [a3, hd, dn_append]
        refine congrArg _ ?_
        unfold dn
        by_cases e : y ∈ x.Supers <;> simp [e])
      exact ⟨m', r1, fun r hr => a4 r (r2 r hr)⟩
    by_cases hs : (posM m x.Name).isSome = true
    · obtain ⟨m', r1, r2⟩ := go m hF (fun y hy => by
        rw [hd] at hy
        simp only [List.map_append, List.map_cons, List.map_nil, List.mem_append, List.mem_singleton] at hy
        rcases hy with hy | rfl
        · exact hK y hy
        · rw [← posM_isSome]; exact hs) hm
      refine ⟨m', r1, fun r hk => k81_3 _ _ _ _ _ ?_⟩
      rw [in_drop h, cond_true, at_drop h, hasT_eq hs, Bool.not_true, cond_false]
      exact r2 r hk
    · have hs' : (posM m x.Name).isSome = false := by simpa using hs
      have hnone : getM m x.Name = none := by
        rw [posM_isSome] at hs'
        cases e : getM m x.Name with
        | none => rfl
        | some v => rw [e] at hs'; cases hs'
      obtain ⟨m', r1, r2⟩ := go (putM m x.Name (some [])) (hF.put _ _) (fun y hy => by
        rw [hd] at hy
        simp only [List.map_append, List.map_cons, List.map_nil, List.mem_append, List.mem_singleton] at hy
        rw [getM_put]
        split
        · rfl
        · rename_i hne
          rcases hy with hy | rfl
          · exact hK y hy
          · exact absurd rfl hne) (fun y => by
        rw [rowOf_put]
        split
        · rename_i e; subst e
          rw [← hm, rowOf, hnone]
        · exact hm y)
      refine ⟨m', r1, fun r hk => k81_3 _ _ _ _ _ ?_⟩
      rw [in_drop h, cond_true, at_drop h, hasT_eq hs', Bool.not_false, cond_true, letT_eq]
      exact r2 r hk
theorem i81 {d : List TypeDecl} (z : Sz d) (hsn : ∀ t ∈ d, t.Supers.Nodup) {x : Str} (hx : x ∈ nms d) : ∃ l, f81 d x = some l ∧ SS l ∧ (∀ y, y ∈ l ↔ Le d x y) ∧ l.length ≤ d.length := by
  have hl := z.len
  obtain ⟨m, h1, h2⟩ := h81a z hsn (nm := x) d 0 [] rfl Full.nil (fun y hy => by cases hy) (fun y => by rw [rowOf_nil]; rfl)
  obtain ⟨l, r1, r2, r3, r4⟩ := i74 (to := m) (U := nms d) (nx := dn d) (by simpa using hl) h1 (fun x _ => by have := dn_length d x; omega) (fun x _ y hy => dn_nms hy) hx
  exact ⟨l, e81 _ _ (h2 l r1), r2, r3, by simpa using r4⟩

/-! the most general -/
theorem h124 (l : List Str) (hl : l.length ≤ 1073741824) (hS : SS l) : ∀ (n i : Nat), l.length - i = n → 1 ≤ i → i ≤ l.length → t124_4 i l = some (l.length, l) := by
  intro n
  induction n with
  | zero =>
    intro i hi h1 hle
    refine k124_4 _ _ ?_
    rw [cond_neg (by simp; omega)]
  | succ n ih =>
    intro i hi h1 hle
    refine k124_4 _ _ ?_
    have hlt : i < l.length := by omega
    obtain ⟨j, rfl⟩ : ∃ j, i = j + 1 := ⟨i - 1, by omega⟩
    have hne : l[j + 1] ≠ l[j] := by
      intro e
      have := (List.getElem_inj hS.nodup).1 e
      omega
    rw [cond_pos (by simp; omega), chk_at hlt, Int.toNat_natCast, getN_at hlt, wrap_pred (by omega), chk_at (by omega), Int.toNat_natCast, getN_at (by omega), cond_neg (by simpa using hne), wrap_succ (by omega)]
    exact ih (j + 1 + 1) (by omega) (by omega) (by omega)
theorem i124 (l : List Str) (hl : l.length ≤ 1073741824) (hS : SS l) : f124 l = some (l.length, l) := by
  refine e124 _ ?_
  by_cases h : l.length < 2
  · rw [cond_pos (by simp; omega)]
  · rw [cond_neg (by simp; omega)]
    exact h124 l hl hS _ 1 rfl (by omega) (by omega)
theorem h90 {d : List TypeDecl} {l : List Str} (hl : l.length ≤ 1048576) (hm : ∀ x ∈ l, x ∈ nms d) (hS : SS l) : ∀ (xs : List Str) (i : Nat), l.drop i = xs → i ≤ l.length → t90_4 (supM d) l l.length i (l.take i) = some l := by
  intro xs
  induction xs with
  | nil =>
    intro i h hi
    refine k90_4 _ _ _ _ _ ?_
    have hge := drop_ge h
    rw [List.take_of_length_le hge, end_drop h, cond_false, i80 l (by omega), bind2_some, isort_id hS, i124 l (by omega) hS, bind2_some, check_pos (Nat.le_refl _), List.take_length]
  | cons x xs ih =>
    intro i h hi
    refine k90_4 _ _ _ _ _ ?_
    have hlt := drop_lt h
    have hx : x ∈ l := List.mem_of_getElem? (drop_get h)
    obtain ⟨t, _, _, e⟩ := supM_some (hm x hx)
    have hd : l.take (i + 1) = l.take i ++ [x] := by
      rw [List.take_add_one, drop_get h]; rfl
    rw [in_drop h, cond_true, at_drop h, lookT_some e, chk_app _ (by simp; omega) (by simp) (by omega), wrap_drop h (by omega), ← hd]
    exact ih (i + 1) (drop_next h) (by omega)
theorem i90 {d : List TypeDecl} (z : Sz d) {l : List Str} (hl : l.length ≤ 1048576) (hm : ∀ x ∈ l, x ∈ nms d) (hS : SS l) : f90 d l = some l := by
  have hz := z.len
  refine e90 _ _ ?_
  rw [i75 d (by omega), bind_some']
  exact h90 hl hm hS l 0 rfl (by omega)
theorem h126 (l : List Str) (s : Str) (up : List Str) (hl : l.length ≤ 1073741824) (hu : up.length ≤ 1073741824) : ∀ (xs : List Str) (i : Nat), l.drop i = xs → t126_2 l s up l.length i = some (ixFrom (fun x => !(x == s) && decide (x ∈ up)) xs i) := by
  intro xs
  induction xs with
  | nil => intro i h; refine k126_2 _ _ _ _ _ ?_; rw [end_drop h]; rfl
  | cons x xs ih =>
    intro i h
    refine k126_2 _ _ _ _ _ ?_
    have h91 : f91 x s up = some (!(x == s) && decide (x ∈ up)) := by
      refine e91 _ _ _ ?_
      cases hx : x == s with
      | true => rfl
      | false => rw [Bool.not_false, cond_true, i92 _ _ hu]; rfl
    rw [in_drop h, cond_true, at_drop h, h91, bind_some', wrap_drop h hl, ih (i + 1) (drop_next h), ixFrom]
    cases (!(x == s) && decide (x ∈ up)) <;> rfl
theorem h46 {d : List TypeDecl} (z : Sz d) (A : Acc d) {l : List Str} (hl : l.length ≤ 1048576) (hm : ∀ x ∈ l, x ∈ nms d) : ∀ (xs : List Str) (i : Nat) (o : List Str), l.drop i = xs → o.length ≤ i →
    t46_5 l (supM d) l l.length i o = some (o ++ xs.filter (freeB d l)) := by
  have hz := z.len
  intro xs
  induction xs with
  | nil => intro i o h ho; refine k46_5 _ _ _ _ _ _ ?_; rw [end_drop h]; simp
  | cons x xs ih =>
    intro i o h ho
    refine k46_5 _ _ _ _ _ _ ?_
    have hlt := drop_lt h
    have hx := hm x (List.mem_of_getElem? (drop_get h))
    obtain ⟨u, hu, _, hU, hul⟩ := i74 (to := supM d) (U := nms d) (nx := up d) (by simpa using hz) (fun x hx => supM_up A.nd hx) (fun x _ => up_length z x) (fun x hx y hy => (reach_up A hx (.step .refl hy)).1) hx
    simp only [List.length_map] at hul
    have h93 : f93 l x u = some (!freeB d l x) := by
      refine e93 _ _ _ ?_
      have : f126 l x u = _ := e126 _ _ _ (h126 l x u (by omega) (by omega) l 0 rfl)
      rw [this, bind_some', ix_any']
      refine congrArg some ?_
      unfold freeB
      rw [List.not_all_eq_any_not]
      refine List.any_congr rfl ?_ |> fun h => h
      intro y
      have e1 : decide (y ∈ u) = (open Classical in decide (Le d y x)) := by rw [decide_eq_decide, hU, reach_up_iff A hx]
      rw [e1]
      have e2 : (y == x) = decide (y = x) := by rw [Bool.eq_iff_iff]; simp
      rw [e2]
      cases decide (y = x) <;> simp
    rw [in_drop h, cond_true, at_drop h, hu, bind_some', h93, bind_some', wrap_drop h (by omega), List.filter_cons]
    cases hf : freeB d l x with
    | true =>
      rw [Bool.not_true, Bool.not_false, cond_true, chk_app _ (by omega) (by simp) (by omega), ih (i + 1) (o ++ [x]) (drop_next h) (by simp; omega)]; simp
    | false => rw [Bool.not_false, Bool.not_true, cond_false, ih (i + 1) o (drop_next h) (by omega)]; simp
theorem i46 {d : List TypeDecl} (z : Sz d) (A : Acc d) {l : List Str} (hl : l.length ≤ 1048576) (hm : ∀ x ∈ l, x ∈ nms d) (hS : SS l) : f46 d l = some (maxi d l) := by
  have hz := z.len
  refine e46 _ _ ?_
  rw [i90 z hl hm hS, bind_some', i75 d (by omega), bind_some']
  have h0 := h46 z A hl hm l 0 [] rfl (by simp)
  rw [show ((0 : Nat) : Int) = 0 from rfl] at h0
  rw [h0]
  have hf : l.filter (fun s => decide (s ∈ nms d)) = l := List.filter_eq_self.2 fun x hx => by simpa using hm x hx
  have hs : sortS l = l := SS.ext (sortS_sorted l) hS fun y => mem_sortS
  simp only [maxi, hf, hs, List.nil_append]
end Go.Proofs.YtfoddgpndoeeaaaGreatDoor.cl
