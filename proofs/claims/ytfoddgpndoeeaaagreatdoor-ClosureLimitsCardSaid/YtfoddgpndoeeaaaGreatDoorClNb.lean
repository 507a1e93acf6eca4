/-
  The Closure laws: the program's order of types and its check (poset.ordered, Check).
-/
import Derived.Test.YtfoddgpndoeeaaaGreatDoorClNa
set_option linter.unusedVariables false
set_option linter.unusedSimpArgs false
set_option linter.unusedSectionVars false
namespace Go.AM
/-! maps of rows, plain -/
section
variable {K V : Type}
noncomputable def rowOf (l : List (K × Option (List V))) (key : K) : List V := match getM l key with
  | some (some xs) => xs
  | _ => []
def Full (l : List (K × Option (List V))) : Prop := ∀ p ∈ l, ∃ v, p.2 = some v
theorem Full.nil : Full ([] : List (K × Option (List V))) := fun p h => by cases h
theorem mem_putM {k : K} {v : V} {p : K × V} : ∀ {l : List (K × V)}, p ∈ putM l k v → p = (k, v) ∨ p ∈ l := by
  intro l
  induction l with
  | nil => intro h; rw [putM_nil] at h; simp at h; exact .inl h
  | cons x l ih =>
    intro h
    rw [putM_cons] at h
    split at h
    · rcases List.mem_cons.1 h with h | h
      · exact .inl h
      · exact .inr (by simp [h])
    · rcases List.mem_cons.1 h with h | h
      · exact .inr (by simp [h])
      · rcases ih h with h | h
        · exact .inl h
        · exact .inr (by simp [h])
theorem Full.put {l : List (K × Option (List V))} (h : Full l) (k : K) (xs : List V) : Full (putM l k (some xs)) := by
  intro p hp
  rcases mem_putM hp with rfl | hp
  · exact ⟨xs, rfl⟩
  · exact h p hp
theorem getM_mem {k : K} {v : V} : ∀ {l : List (K × V)}, getM l k = some v → (k, v) ∈ l := by
  intro l
  induction l with
  | nil => intro h; rw [getM_nil] at h; cases h
  | cons x l ih =>
    intro h
    rw [getM_cons] at h
    split at h
    · rename_i e
      injection h with h
      obtain ⟨x1, x2⟩ := x
      simp only at e h
      subst e h
      simp
    · exact List.mem_cons_of_mem _ (ih h)
theorem Full.row {l : List (K × Option (List V))} (h : Full l) {k : K} : getM l k ≠ some none := by
  intro e
  obtain ⟨v, hv⟩ := h _ (getM_mem e)
  cases hv
theorem takeT_put {R : Type} {l : List (K × Option (List V))} (h : Full l) (key : K) (k : List V → List (K × Option (List V)) → Option R) : ∃ m, takeT l key k = k (rowOf l key) m ∧ ∀ v, putM m key v = putM l key v := by
  unfold takeT rowOf getM
  cases e : posM l key with
  | none => exact ⟨l, rfl, fun v => rfl⟩
  | some i =>
    obtain ⟨hi, hk⟩ := posM_lt e
    cases e2 : l[i] with
    | mk q o =>
      obtain ⟨xs, hxs⟩ := h l[i] (List.getElem_mem hi)
      rw [e2] at hxs hk
      simp only at hxs hk
      subst hxs hk
      refine ⟨l.set i (q, none), ?_, ?_⟩
      · simp [List.getElem?_eq_getElem hi, e2]
      · intro v
        have hp : posM (l.set i (q, none)) q = some i := by
          have hkeys : (l.set i (q, none)).map (·.1) = l.map (·.1) := by
            rw [List.map_set]
            apply List.ext_getElem
            · simp
            · intro j h1 h2
              rw [List.getElem_set]
              split
              · rename_i hj; subst hj; simp [e2]
              · rfl
          have : ∀ (a b : List (K × Option (List V))), a.map (·.1) = b.map (·.1) → ∀ k, posM a k = posM b k := by
            intro a
            induction a with
            | nil => intro b hb k; cases b with
              | nil => rfl
              | cons y b => simp at hb
            | cons x a ih => intro b hb k; cases b with
              | nil => simp at hb
              | cons y b =>
                simp only [List.map_cons, List.cons.injEq] at hb
                rw [posM_cons, posM_cons, hb.1, ih b hb.2]
          rw [this _ _ hkeys, e]
        unfold putM
        rw [hp, e]
        simp
theorem rowOf_put (l : List (K × Option (List V))) (k k' : K) (xs : List V) : rowOf (putM l k (some xs)) k' = open Classical in if k' = k then xs else rowOf l k' := by
  unfold rowOf
  rw [getM_put]
  by_cases h : k' = k <;> simp [h]
theorem rowOf_nil (k : K) : rowOf ([] : List (K × Option (List V))) k = [] := by unfold rowOf; rw [getM_nil]
theorem allM_full : ∀ {l : List (K × Option (List V))}, Full l → ∃ m, allM l = some m ∧ (∀ k, (getM m k).getD [] = rowOf l k) ∧ ∀ k, (getM m k).isSome = (getM l k).isSome := by
  intro l
  induction l with
  | nil => intro _; exact ⟨[], rfl, fun k => by rw [getM_nil, rowOf_nil]; rfl, fun k => by rw [getM_nil, getM_nil]; rfl⟩
  | cons x l ih =>
    intro h
    obtain ⟨q, o⟩ := x
    obtain ⟨xs, hxs⟩ := h (q, o) (by simp)
    simp only at hxs
    subst hxs
    obtain ⟨m, hm, h1, h2⟩ := ih fun p hp => h p (by simp [hp])
    refine ⟨(q, xs) :: m, by simp [allM, hm], fun k => ?_, fun k => ?_⟩
    · have := h1 k
      unfold rowOf at this ⊢
      rw [getM_cons, getM_cons]
      by_cases e : k = q
      · simp [e]
      · simp only [e, if_false]; exact this
    · rw [getM_cons, getM_cons]
      by_cases e : k = q
      · simp [e]
      · simp only [e, if_false]; exact h2 k
theorem allT_full {R : Type} {l : List (K × Option (List V))} (h : Full l) (k : List (K × List V) → Option R) : ∃ m, allT l k = k m ∧ (∀ x, (getM m x).getD [] = rowOf l x) ∧ ∀ x, (getM m x).isSome = (getM l x).isSome := by
  obtain ⟨m, hm, h1, h2⟩ := allM_full h
  exact ⟨m, by unfold allT; rw [hm], h1, h2⟩
theorem lookT_row {R : Type} {m : List (K × List V)} {x : K} (f : List V → Option R) {z : Option R} (hz : z = f []) : lookT m x f z = f ((getM m x).getD []) := by
  unfold lookT
  cases getM m x with
  | none => exact hz
  | some v => rfl
end
end Go.AM
namespace Go.Proofs.YtfoddgpndoeeaaaGreatDoor.cl
open Go Go.AM

/-! the least, and what is left -/
theorem h116 (l : List Str) (hl : l.length ≤ 1073741824) : ∀ (xs : List Str) (i : Nat) (m : Str), l.drop i = xs → m ∈ l → ∃ r ∈ l, t116_5 l m i = some r := by
  intro xs
  induction xs with
  | nil => intro i m h hm; exact ⟨m, hm, k116_5 _ _ _ (by rw [end_drop h]; rfl)⟩
  | cons x xs ih =>
    intro i m h hm
    have hx : x ∈ l := List.mem_of_getElem? (drop_get h)
    obtain ⟨r, hr, e⟩ := ih (i + 1) (bif Op.bytesLess m x || m == x then m else x) (drop_next h) (by cases (Op.bytesLess m x || m == x) <;> simp [hm, hx])
    refine ⟨r, hr, k116_5 _ _ _ ?_⟩
    rw [in_drop h, cond_true, at_drop h, wrap_drop h hl]; exact e
theorem i116 (l : List Str) (hl : l.length ≤ 1073741824) (hne : l ≠ []) : ∃ r ∈ l, f116 l = some r := by
  have hpos : 0 < l.length := List.length_pos_iff.2 hne
  obtain ⟨r, hr, e⟩ := h116 l hl _ 1 l[0] rfl (List.getElem_mem hpos)
  refine ⟨r, hr, e116 _ ?_⟩
  rw [cond_neg (by simp; omega), show (0 : Int) = ((0 : Nat) : Int) from rfl, getK_at hpos]
  exact e
theorem h126a (l : List Str) (a : Str) (hl : l.length ≤ 1073741824) : ∀ (xs : List Str) (i : Nat), l.drop i = xs → t126_2a l a l.length i = some (ixFrom (fun x => x == a) xs i) := by
  intro xs
  induction xs with
  | nil => intro i h; refine k126_2a _ _ _ _ ?_; rw [end_drop h]; rfl
  | cons x xs ih =>
    intro i h
    refine k126_2a _ _ _ _ ?_
    have h118 : f118 x a = some (x == a) := e118 _ _ rfl
    rw [in_drop h, cond_true, at_drop h, h118, bind_some', wrap_drop h hl, ih (i + 1) (drop_next h), ixFrom]
    cases x == a <;> rfl
theorem h117 (l : List Str) (a : Str) (hl : l.length ≤ 1073741824) : ∀ (n i j : Nat) (o : List Str), l.length - j = n → o.length = l.length → i < j → j ≤ l.length → o.take i = (l.take j).filter (fun x => !(x == a)) → o.drop j = l.drop j →
    ∃ k w, t117_5 a i j o = some (k, w) ∧ k ≤ w.length ∧ w.take k = l.filter (fun x => !(x == a)) := by
  intro n
  induction n with
  | zero =>
    intro i j o hn ho hij hj ht hd
    obtain rfl : j = l.length := by omega
    rw [List.take_length] at ht
    refine ⟨i, ((o.take i) ++ (List.replicate (o.length - i) [])) ++ (o.drop o.length), k117_5 _ _ _ _ ?_, ?_, ?_⟩
    · rw [cond_neg (by simp; omega), chk_cut (by omega), check_pos (by omega), Int.toNat_natCast, check_pos (by simp; omega)]
    · simp; omega
    · rw [List.append_assoc, List.take_append_of_le_length (by simp; omega), List.take_take, Nat.min_self]; exact ht
  | succ n ih =>
    intro i j o hn ho hij hj ht hd
    have hjl : j < l.length := by omega
    have hjo : j < o.length := by omega
    have hx : o[j] = l[j] := by
      have := congrArg (fun m => m[0]?) hd
      simp only [List.getElem?_drop, Nat.add_zero, List.getElem?_eq_getElem hjo, List.getElem?_eq_getElem hjl, Option.some.injEq] at this
      exact this
    have htj : (l.take (j + 1)).filter (fun x => !(x == a)) = (l.take j).filter (fun x => !(x == a)) ++ (if l[j] = a then [] else [l[j]]) := by
      rw [List.take_add_one, List.getElem?_eq_getElem hjl, List.filter_append]
      congr 1
      by_cases e : l[j] = a <;> simp [e]
    have hlen : i ≤ j := by omega
    by_cases e : l[j] = a
    · rw [if_pos e, List.append_nil] at htj
      obtain ⟨k, w, r1, r2, r3⟩ := ih i (j + 1) o (by omega) ho (by omega) (by omega) (by rw [htj]; exact ht) (by
        have := congrArg (List.drop 1) hd
        simpa [List.drop_drop, Nat.add_comm] using this)
      refine ⟨k, w, k117_5 _ _ _ _ ?_, r2, r3⟩
      have h118 : f118 o[j] a = some (o[j] == a) := e118 _ _ rfl
      rw [cond_pos (by simp; omega), chk_at hjo, Int.toNat_natCast, getN_at hjo, h118, bind_some', hx, e, cond_neg (by simp), wrap_succ (by omega)]
      exact r1
    · rw [if_neg e] at htj
      have hio : i < o.length := by omega
      obtain ⟨k, w, r1, r2, r3⟩ := ih (i + 1) (j + 1) (o.set i l[j]) (by omega) (by simp [ho]) (by omega) (by omega) (by
        rw [htj, ← ht, List.take_add_one, List.getElem?_set_self hio, List.take_set_of_le (by omega)]; rfl) (by
        have := congrArg (List.drop 1) hd
        rw [List.drop_set_of_lt (by omega)]
        simpa [List.drop_drop, Nat.add_comm] using this)
      refine ⟨k, w, k117_5 _ _ _ _ ?_, r2, r3⟩
      have h118 : f118 o[j] a = some (o[j] == a) := e118 _ _ rfl
      rw [cond_pos (by simp; omega), chk_at hjo, Int.toNat_natCast, getN_at hjo, h118, bind_some', hx, cond_pos (by simpa using e), chk_at hio, Int.toNat_natCast, getN_at hio, wrap_succ (by omega), wrap_succ (by omega)]
      exact r1
theorem i117 (l : List Str) (a : Str) (hl : l.length ≤ 1073741824) : ∃ k w, f117 a l = some (k, w) ∧ k ≤ w.length ∧ w.take k = l.filter (fun x => !(x == a)) := by
  have hix : f126a l a = some (ixFrom (fun x => x == a) l 0) := e126a _ _ (h126a l a hl l 0 rfl)
  by_cases hm : a ∈ l
  · obtain ⟨j, hj, e, h1, h2⟩ := ix_some (fun x : Str => x == a) l 0 ⟨a, hm, by simp⟩
    rw [Nat.zero_add] at e
    obtain ⟨k, w, r1, r2, r3⟩ := h117 l a hl _ j (j + 1) l rfl rfl (by omega) (by omega) (by
      have hf : ∀ x ∈ l.take j, (!(x == a)) = true := by
        intro x hx
        rw [List.mem_take_iff_getElem] at hx
        obtain ⟨k, hk, rfl⟩ := hx
        rw [h2 k (by omega)]; rfl
      rw [List.take_add_one, List.getElem?_eq_getElem hj, List.filter_append, List.filter_eq_self.2 hf]
      have : (l[j] == a) = true := h1
      simp [this]) rfl
    refine ⟨k, w, e117 _ _ ?_, r2, r3⟩
    rw [hix, bind_some', e, cond_neg (by simp), wrap_succ (by omega)]
    exact r1
  · have hneg : ixFrom (fun x => x == a) l 0 = -1 := by
      have hn := (ix_neg (fun x : Str => x == a) l 0).2 (fun x hx => by simp; exact fun e => hm (e ▸ hx))
      have key : ∀ (xs : List Str) (i : Nat), ixFrom (fun x => x == a) xs i < 0 → ixFrom (fun x => x == a) xs i = -1 := by
        intro xs
        induction xs with
        | nil => intro i _; rfl
        | cons x xs ih =>
          intro i h
          rw [ixFrom] at h ⊢
          split
          · rename_i hx; rw [if_pos hx] at h; omega
          · rename_i hx; rw [if_neg hx] at h; exact ih (i + 1) h
      exact key l 0 hn
    refine ⟨l.length, l, e117 _ _ ?_, Nat.le_refl _, ?_⟩
    · rw [hix, bind_some', hneg, cond_pos (by simp)]
    · rw [List.take_length, List.filter_eq_self.2]
      intro x hx
      simp; exact fun e => hm (e ▸ hx)

/-! the tables of the order -/
theorem h79b {d : List TypeDecl} (z : Sz d) {i : Nat} (hi : i < d.length) {t : TypeDecl} (hst : t.Supers.length ≤ 1048576) (hnd : t.Supers.Nodup) {rdy : List Str} {op : List (Str × Int)} {pre : Str → List Str} (hpre : ∀ y, (pre y).length ≤ 1048576) :
    ∀ (xs : List Str) (k : Nat) (m : List (Str × Option (List Str))), t.Supers.drop k = xs → Full m → (∀ y, rowOf m y = pre y ++ (if y ∈ t.Supers.take k then [t.Name] else [])) →
    ∃ m', Full m' ∧ (∀ y, rowOf m' y = pre y ++ (if y ∈ t.Supers then [t.Name] else [])) ∧ ∀ r, t79_5 d d.length (i + 1 : Nat) rdy op m' = some r →
    t79_11 d d.length i t.Supers t.Supers.length k rdy t op m = some r := by
  have hl := z.len
  intro xs
  induction xs with
  | nil =>
    intro k m h hF hm
    have := drop_ge h
    refine ⟨m, hF, fun y => by rw [hm, List.take_of_length_le this], fun r hk => k79_11 _ _ _ _ _ _ _ _ _ _ ?_⟩
    rw [end_drop h, cond_false, wrap_succ (by omega)]
    exact hk
  | cons x xs ih =>
    intro k m h hF hm
    have hlt := drop_lt h
    have hx : x ∉ t.Supers.take k := by
      have h1 := List.take_append_drop k t.Supers
      rw [h] at h1
      rw [← h1, List.nodup_append] at hnd
      exact fun hm => hnd.2.2 x hm x (by simp) rfl
    have hd : t.Supers.take (k + 1) = t.Supers.take k ++ [x] := by
      rw [List.take_add_one, drop_get h]; rfl
    obtain ⟨m', e1, e2⟩ := takeT_put hF x (fun l205 m206 => check ((List.length l205 + List.length [t.Name]) * 16 ≤ 140737488355328 ∧ List.length l205 + List.length [t.Name] ≤ 4611686018427387904) (letT (putM m206 x (some (l205 ++ [t.Name]))) fun m208 => t79_11 d d.length i t.Supers t.Supers.length (IntKind.wrap .i64 (k + 1)) rdy t op m208))
    have hrow : rowOf m x = pre x := by rw [hm, if_neg hx, List.append_nil]
    obtain ⟨m2, a1, a2, a3⟩ := ih (k + 1) (putM m x (some (pre x ++ [t.Name]))) (drop_next h) (hF.put _ _) (fun y => by
      rw [rowOf_put, hm, hd]
      by_cases e : y = x
      · subst e; simp
      · have : (y ∈ t.Supers.take k ++ [x]) ↔ y ∈ t.Supers.take k := by simp [e]
        simp only [e, if_false, this])
    refine ⟨m2, a1, a2, fun r hk => k79_11 _ _ _ _ _ _ _ _ _ _ ?_⟩
    rw [in_drop h, cond_true, at_drop h, e1, hrow, chk_app _ (by have := hpre x; omega) (by simp) (by omega), letT_eq, e2, wrap_drop h (by omega)]
    exact a3 r hk
theorem dn_append (a b : List TypeDecl) (y : Str) : dn (a ++ b) y = dn a y ++ dn b y := by simp [dn]
theorem dn_length (d : List TypeDecl) (y : Str) : (dn d y).length ≤ d.length := by
  unfold dn; rw [List.length_map]; exact List.length_filter_le _ _
theorem h79a {d : List TypeDecl} (z : Sz d) (hnn : (nms d).Nodup) (hsn : ∀ t ∈ d, t.Supers.Nodup) :
    ∀ (xs : List TypeDecl) (i : Nat) (op : List (Str × Int)) (m : List (Str × Option (List Str))), d.drop i = xs → Full m → (∀ y, rowOf m y = dn (d.take i) y) → (∀ t ∈ d.take i, getM op t.Name = some (t.Supers.length : Int)) →
    ∃ op' m', (∀ y, (getM m' y).getD [] = dn d y) ∧ (∀ t ∈ d, getM op' t.Name = some (t.Supers.length : Int)) ∧ ∀ r, t79_17 m' ((d.filter fun t => t.Supers.length == 0).map (·.Name)) [] op' = some r →
    t79_5 d d.length i (((d.take i).filter fun t => t.Supers.length == 0).map (·.Name)) op m = some r := by
  have hl := z.len
  intro xs
  induction xs with
  | nil =>
    intro i op m h hF hm hop
    have hge := drop_ge h
    rw [List.take_of_length_le hge] at hm hop ⊢
    obtain ⟨m', e1, e2, _⟩ := allT_full hF (fun m206 => t79_17 m206 ((d.filter fun t => t.Supers.length == 0).map (·.Name)) ([] : List (List UInt8)) op)
    refine ⟨op, m', fun y => by rw [e2, hm], hop, fun r hk => k79_5 _ _ _ _ _ _ ?_⟩
    rw [end_drop h, cond_false, e1]
    exact hk
  | cons x xs ih =>
    intro i op m h hF hm hop
    have hlt := drop_lt h
    have hx : x ∈ d := List.mem_of_getElem? (drop_get h)
    have hd : d.take (i + 1) = d.take i ++ [x] := by
      rw [List.take_add_one, drop_get h]; rfl
    have hfl : (((d.take i).filter fun t => t.Supers.length == 0).map (·.Name)).length ≤ d.length := by
      rw [List.length_map]
      refine Nat.le_trans (List.length_filter_le _ _) ?_
      simp; omega
    have hxn : ∀ t ∈ d.take i, t.Name ≠ x.Name := by
      intro t ht e
      have h1 : nms d = nms (d.take i) ++ nms (d.drop i) := by rw [← List.map_append, List.take_append_drop]
      rw [h1, List.nodup_append] at hnn
      exact hnn.2.2 t.Name (List.mem_map_of_mem ht) x.Name (by rw [h]; simp) e
    obtain ⟨m', hF', hm', hgo⟩ := h79b z hlt (by have := z.sup x hx; omega) (hsn x hx) (rdy := ((d.take (i + 1)).filter fun t => t.Supers.length == 0).map (·.Name)) (op := putM op x.Name (x.Supers.length : Int)) (pre := dn (d.take i)) (fun y => by
      have := dn_length (d.take i) y
      rw [List.length_take] at this; omega) _ 0 m rfl hF (fun y => by rw [hm]; simp)
    obtain ⟨op', m2, r1, r2, r3⟩ := ih (i + 1) (putM op x.Name (x.Supers.length : Int)) m' (drop_next h) hF' (fun y => by
      rw [hm', hd, dn_append]
      refine congrArg _ ?_
      unfold dn
      by_cases e : y ∈ x.Supers <;> simp [e]) (fun t ht => by
      rw [hd] at ht
      rcases List.mem_append.1 ht with ht | ht
      · rw [getM_put_ne (hxn t ht)]; exact hop t ht
      · simp only [List.mem_singleton] at ht; subst ht; exact getM_put_same _ _ _)
    refine ⟨op', m2, r1, r2, fun r hk => k79_5 _ _ _ _ _ _ ?_⟩
    have hfin := hgo r (r3 r hk)
    rw [in_drop h, cond_true, at_drop h, letT_eq]
    rw [hd, List.filter_append, List.map_append] at hfin
    by_cases h0 : x.Supers.length = 0
    · rw [cond_pos (by simpa using h0), chk_app _ (by omega) (by simp) (by omega)]
      have ef : (List.filter (fun t => t.Supers.length == 0) [x]).map (·.Name) = [x.Name] := by simp [h0]
      rw [ef] at hfin
      exact hfin
    · rw [cond_neg (by simpa using h0)]
      have hb : (x.Supers.length == 0) = false := by simpa using h0
      have ef : (List.filter (fun t => t.Supers.length == 0) [x]).map (·.Name) = [] := by simp [List.filter_cons, hb]
      rw [ef, List.append_nil] at hfin
      exact hfin

/-! the order -/
noncomputable def cnt (d : List TypeDecl) (out : List Str) (x : Str) : Nat := ((up d x).filter fun s => decide (s ∉ out)).length
theorem cnt_zero {d : List TypeDecl} {out : List Str} {x : Str} : cnt d out x = 0 ↔ ∀ s ∈ up d x, s ∈ out := by
  unfold cnt
  rw [List.length_eq_zero_iff, List.filter_eq_nil_iff]
  simp
theorem filter_step {l : List Str} (hn : l.Nodup) {out : List Str} {a : Str} (ha : a ∉ out) : (l.filter fun s => decide (s ∉ out ++ [a])).length + (if a ∈ l then 1 else 0) = (l.filter fun s => decide (s ∉ out)).length := by
  induction l with
  | nil => simp
  | cons x l ih =>
    have hn' := List.nodup_cons.1 hn
    have := ih hn'.2
    by_cases e : x = a
    · subst e
      have hx : x ∉ l := hn'.1
      rw [if_neg hx] at this
      simp only [List.filter_cons]
      have h1 : decide (x ∉ out ++ [x]) = false := by simp
      have h2 : decide (x ∉ out) = true := by simpa using ha
      rw [h1, h2]
      simp only [Bool.false_eq_true, if_false, if_true, List.length_cons, List.mem_cons, true_or]
      omega
    · have hm : (a ∈ x :: l) ↔ a ∈ l := by
        simp only [List.mem_cons]
        exact ⟨fun h => h.resolve_left fun h => e h.symm, .inr⟩
      simp only [List.filter_cons, hm]
      have h1 : decide (x ∉ out ++ [a]) = decide (x ∉ out) := by
        rw [decide_eq_decide]; simp [e]
      rw [h1]
      cases decide (x ∉ out) with
      | true => simp only [if_true, List.length_cons]; omega
      | false => simp only [Bool.false_eq_true, if_false]; exact this
theorem up_nodup {d : List TypeDecl} (hsn : ∀ t ∈ d, t.Supers.Nodup) (x : Str) : (up d x).Nodup := by
  unfold up
  split
  · rename_i t e; exact hsn t (List.mem_of_find?_eq_some e)
  · simp
theorem up_length {d : List TypeDecl} (z : Sz d) (x : Str) : (up d x).length ≤ 1048576 := by
  unfold up
  split
  · rename_i t e; exact z.sup t (List.mem_of_find?_eq_some e)
  · simp
structure Ord (d : List TypeDecl) (out rdy : List Str) (op : List (Str × Int)) : Prop where
  topo : Topo d out
  nd : rdy.Nodup
  ok : ∀ x ∈ rdy, x ∈ nms d ∧ x ∉ out ∧ ∀ s ∈ up d x, s ∈ out
  all : ∀ x ∈ nms d, x ∉ out → (∀ s ∈ up d x, s ∈ out) → x ∈ rdy
  op : ∀ x ∈ nms d, getM op x = some (cnt d out x : Int)
theorem h79d {d : List TypeDecl} (z : Sz d) (hnn : (nms d).Nodup) {mb : List (Str × List Str)} {out : List Str} {L : List Str} (hLn : L.Nodup) (hLl : L.length ≤ d.length) (hLm : ∀ x ∈ L, x ∈ nms d) (rd0 : List Str) (hr0 : rd0.length ≤ d.length) {old : Str → Nat} (hold : ∀ x ∈ L, old x = cnt d out x + 1) :
    ∀ (xs : List Str) (k : Nat) (op : List (Str × Int)), L.drop k = xs → (∀ x ∈ nms d, getM op x = some ((if x ∈ xs then old x else cnt d out x : Nat) : Int)) →
    ∃ op', (∀ x ∈ nms d, getM op' x = some (cnt d out x : Int)) ∧ ∀ r, t79_17 mb (rd0 ++ L.filter fun x => cnt d out x == 0) out op' = some r →
    t79_22 mb L L.length k (rd0 ++ (L.take k).filter fun x => cnt d out x == 0) out op = some r := by
  have hl := z.len
  intro xs
  induction xs with
  | nil =>
    intro k op h hop
    have hge := drop_ge h
    refine ⟨op, fun x hx => by rw [hop x hx]; simp, fun r hk => k79_22 _ _ _ _ _ _ _ ?_⟩
    rw [end_drop h, cond_false, List.take_of_length_le hge]
    exact hk
  | cons x xs ih =>
    intro k op h hop
    have hlt := drop_lt h
    have hxL : x ∈ L := List.mem_of_getElem? (drop_get h)
    have hx := hLm x hxL
    have hxs : x ∉ xs := by
      have h1 := List.take_append_drop k L
      rw [h] at h1
      rw [← h1, List.nodup_append] at hLn
      exact (List.nodup_cons.1 hLn.2.1).1
    have hd : L.take (k + 1) = L.take k ++ [x] := by
      rw [List.take_add_one, drop_get h]; rfl
    have e0 : getM op x = some ((cnt d out x + 1 : Nat) : Int) := by rw [hop x hx, if_pos (by simp), hold x hxL]
    have hcl : cnt d out x ≤ 1048576 := by
      unfold cnt
      exact Nat.le_trans (List.length_filter_le _ _) (up_length z x)
    have hop' : ∀ y ∈ nms d, getM (putM op x (cnt d out x : Int)) y = some ((if y ∈ xs then old y else cnt d out y : Nat) : Int) := by
      intro y hy
      rw [getM_put]
      by_cases e : y = x
      · subst e; simp [hxs]
      · rw [if_neg e, hop y hy]
        have : (y ∈ x :: xs) ↔ y ∈ xs := by simp [e]
        simp only [this]
    have hlen : (rd0 ++ (L.take k).filter fun x => cnt d out x == 0).length ≤ 4194304 := by
      rw [List.length_append]
      have := List.length_filter_le (fun x => cnt d out x == 0) (L.take k)
      simp at this; omega
    have ew : IntKind.wrap .i64 (((cnt d out x + 1 : Nat) : Int) - 1) = (cnt d out x : Int) := by
      rw [wrap64_id (by omega) (by omega)]; omega
    obtain ⟨op2, q1, q2⟩ := ih (k + 1) _ (drop_next h) hop'
    refine ⟨op2, q1, fun r hk => k79_22 _ _ _ _ _ _ _ ?_⟩
    have ih' := q2 r hk
    rw [in_drop h, cond_true, at_drop h, lookT_some e0, ew, letT_eq, lookT_some (getM_put_same _ _ _), wrap_drop h (by omega)]
    rw [hd, List.filter_append] at ih'
    by_cases h0 : cnt d out x = 0
    · rw [cond_pos (by rw [h0]; rfl), chk_app _ (by omega) (by simp) (by omega)]
      have ef : List.filter (fun x => cnt d out x == 0) [x] = [x] := by simp [h0]
      rw [ef, ← List.append_assoc] at ih'
      exact ih'
    · rw [cond_neg (by
        have : ((cnt d out x : Int) == 0) = false := by simp; omega
        exact this)]
      have ef : List.filter (fun x => cnt d out x == 0) [x] = [] := by simp [h0]
      rw [ef, List.append_nil] at ih'
      exact ih'
theorem h79c {d : List TypeDecl} (z : Sz d) (hnn : (nms d).Nodup) (hsn : ∀ t ∈ d, t.Supers.Nodup) {mb : List (Str × List Str)} (hmb : ∀ y, (getM mb y).getD [] = dn d y) :
    ∀ (n : Nat) (out rdy : List Str) (op : List (Str × Int)), d.length - out.length = n → Ord d out rdy op → ∃ o, Topo d o ∧ (∀ t ∈ d, t.Name ∉ o → ∃ s ∈ t.Supers, s ∉ o) ∧ t79_17 mb rdy out op = some o := by
  have hl := z.len
  intro n
  induction n with
  | zero =>
    intro out rdy op hn I
    have hlen := I.topo.len
    cases rdy with
    | nil =>
      refine ⟨out, I.topo, fun t ht hno => ?_, k79_17 _ _ _ _ (by rfl)⟩
      apply Classical.byContradiction; intro hc
      have := I.all t.Name (List.mem_map_of_mem ht) hno (fun s hs => by
        rw [up_eq hnn ht] at hs
        exact Classical.byContradiction fun h => hc ⟨s, hs, h⟩)
      cases this
    | cons x rdy =>
      exfalso
      obtain ⟨h1, h2, _⟩ := I.ok x (by simp)
      have : (x :: out).length ≤ (nms d).length := nodup_length_le (List.nodup_cons.2 ⟨h2, I.topo.nd⟩) (fun y hy => by
        rcases List.mem_cons.1 hy with rfl | hy
        · exact h1
        · exact I.topo.sub y hy)
      simp at this; omega
  | succ n ih =>
    intro out rdy op hn I
    have hlen := I.topo.len
    cases hr : rdy with
    | nil =>
      refine ⟨out, I.topo, fun t ht hno => ?_, k79_17 _ _ _ _ (by rfl)⟩
      apply Classical.byContradiction; intro hc
      have := I.all t.Name (List.mem_map_of_mem ht) hno (fun s hs => by
        rw [up_eq hnn ht] at hs
        exact Classical.byContradiction fun h => hc ⟨s, hs, h⟩)
      rw [hr] at this; cases this
    | cons y0 rdy0 =>
      have hne : rdy ≠ [] := by rw [hr]; simp
      rw [← hr]
      have hrl : rdy.length ≤ d.length := by
        have := nodup_length_le I.nd fun x hx => (I.ok x hx).1
        simpa using this
      obtain ⟨nx, hnx, e116'⟩ := i116 rdy (by omega) hne
      obtain ⟨k, w, e117', hkw, hw⟩ := i117 rdy nx (by omega)
      obtain ⟨hn1, hn2, hn3⟩ := I.ok nx hnx
      have hT : Topo d (out ++ [nx]) := by
        refine ⟨?_, ?_, ?_⟩
        · rw [List.nodup_append]
          exact ⟨I.topo.nd, by simp, fun a ha b hb => by simp only [List.mem_singleton] at hb; subst hb; exact fun e => hn2 (e ▸ ha)⟩
        · intro x hx
          rcases List.mem_append.1 hx with hx | hx
          · exact I.topo.sub x hx
          · simp only [List.mem_singleton] at hx; subst hx; exact hn1
        · intro i x hx
          by_cases hi : i < out.length
          · rw [List.getElem?_append_left hi] at hx
            obtain ⟨u, hu, e1, h1⟩ := I.topo.pre i x hx
            exact ⟨u, hu, e1, fun s hs => by rw [List.take_append_of_le_length (by omega)]; exact h1 s hs⟩
          · have hi2 : i = out.length := by
              apply Classical.byContradiction; intro hc
              rw [List.getElem?_eq_none (by simp; omega)] at hx; cases hx
            subst hi2
            rw [List.getElem?_append_right (by omega), Nat.sub_self] at hx
            simp only [List.getElem?_cons_zero, Option.some.injEq] at hx
            subst hx
            obtain ⟨t, ht, rfl⟩ := List.mem_map.1 hn1
            exact ⟨t, ht, rfl, fun s hs' => by rw [List.take_left']; exact hn3 s (by rw [up_eq hnn ht]; exact hs'); rfl⟩
      have hTsup : ∀ x ∈ out, ∀ s ∈ up d x, s ∈ out := by
        intro x hx s hs
        obtain ⟨i, hi, e⟩ := List.mem_iff_getElem.1 hx
        obtain ⟨u, hu, e1, h1⟩ := I.topo.pre i x (by rw [List.getElem?_eq_getElem hi, e])
        rw [← e1, up_eq hnn hu] at hs
        exact List.mem_of_mem_take (h1 s hs)
      have hdn : ∀ x, x ∈ dn d nx ↔ x ∈ nms d ∧ nx ∈ up d x := by
        intro x
        constructor
        · intro h; exact ⟨dn_nms h, (mem_up hnn (dn_nms h)).2 h⟩
        · intro h; exact (mem_up hnn h.1).1 h.2
      have hcnt : ∀ x, cnt d (out ++ [nx]) x + (if nx ∈ up d x then 1 else 0) = cnt d out x := fun x => filter_step (up_nodup hsn x) hn2
      have hdnn : (dn d nx).Nodup := by
        unfold dn
        exact List.Nodup.sublist ((List.filter_sublist (l := d)).map _) hnn
      have hO : ∀ op', (∀ x ∈ nms d, getM op' x = some (cnt d (out ++ [nx]) x : Int)) → Ord d (out ++ [nx]) ((rdy.filter fun x => !(x == nx)) ++ (dn d nx).filter fun x => cnt d (out ++ [nx]) x == 0) op' := by
        intro op' hop'
        refine ⟨hT, ?_, ?_, ?_, hop'⟩
        · rw [List.nodup_append]
          refine ⟨I.nd.filter _, hdnn.filter _, ?_⟩
          intro a ha b hb e
          subst e
          have h1 := (I.ok a (List.mem_filter.1 ha).1).2.2
          have h2 := ((hdn a).1 (List.mem_filter.1 hb).1).2
          exact hn2 (h1 nx h2)
        · intro x hx
          rcases List.mem_append.1 hx with hx | hx
          · obtain ⟨h1, h2⟩ := List.mem_filter.1 hx
            obtain ⟨a1, a2, a3⟩ := I.ok x h1
            refine ⟨a1, ?_, fun s hs => List.mem_append_left _ (a3 s hs)⟩
            simp only [List.mem_append, List.mem_singleton, not_or]
            exact ⟨a2, by simpa using h2⟩
          · obtain ⟨h1, h2⟩ := List.mem_filter.1 hx
            obtain ⟨a1, a2⟩ := (hdn x).1 h1
            refine ⟨a1, ?_, cnt_zero.1 (by simpa using h2)⟩
            simp only [List.mem_append, List.mem_singleton, not_or]
            exact ⟨fun h => hn2 (hTsup x h nx a2), fun e => hn2 (hn3 nx (e ▸ a2))⟩
        · intro x hx hno hall
          simp only [List.mem_append, List.mem_singleton, not_or] at hno
          by_cases hup : nx ∈ up d x
          · refine List.mem_append_right _ (List.mem_filter.2 ⟨(hdn x).2 ⟨hx, hup⟩, ?_⟩)
            simpa using cnt_zero.2 hall
          · refine List.mem_append_left _ (List.mem_filter.2 ⟨I.all x hx hno.1 (fun s hs => ?_), by simpa using hno.2⟩)
            rcases List.mem_append.1 (hall s hs) with h | h
            · exact h
            · simp only [List.mem_singleton] at h; subst h; exact absurd hs hup
      obtain ⟨op', hop', hres⟩ : ∃ op', (∀ x ∈ nms d, getM op' x = some (cnt d (out ++ [nx]) x : Int)) ∧ ∀ r, t79_17 mb ((rdy.filter fun x => !(x == nx)) ++ (dn d nx).filter fun x => cnt d (out ++ [nx]) x == 0) (out ++ [nx]) op' = some r → t79_17 mb rdy out op = some r := by
        have hdl := dn_length d nx
        have hfl : (rdy.filter fun x => !(x == nx)).length ≤ d.length := Nat.le_trans (List.length_filter_le _ _) hrl
        obtain ⟨op', q1, q2⟩ := h79d z hnn (mb := mb) (out := out ++ [nx]) (L := dn d nx) hdnn hdl (fun x hx => dn_nms hx) (rdy.filter fun x => !(x == nx)) hfl (old := cnt d out) (fun x hx => by
          have := hcnt x
          rw [if_pos ((hdn x).1 hx).2] at this; omega) (dn d nx) 0 op rfl (fun x hx => by
          rw [I.op x hx]
          by_cases hm : x ∈ dn d nx
          · rw [if_pos hm]
          · rw [if_neg hm]
            have := hcnt x
            rw [if_neg (fun h => hm ((hdn x).2 ⟨hx, h⟩))] at this
            rw [← this]; rfl)
        refine ⟨op', q1, fun r hr' => k79_17 _ _ _ _ ?_⟩
        have hq := q2 r hr'
        rw [cond_pos (by simp; exact List.length_pos_iff.2 hne), e116', bind_some', e117', bind2_some, check_pos (by omega), chk_app _ (by omega) (by simp) (by omega), hw]
        rw [lookT_row (fun y208 => t79_22 mb y208 (List.length y208 : Int) 0 (rdy.filter fun x => !(x == nx)) (out ++ [nx]) op) rfl, hmb]
        simpa using hq
      obtain ⟨o, r1, r2, r3⟩ := ih (out ++ [nx]) _ op' (by simp; omega) (hO op' hop')
      exact ⟨o, r1, r2, hres o r3⟩
theorem i79 {d : List TypeDecl} (z : Sz d) (hnn : (nms d).Nodup) (hsn : ∀ t ∈ d, t.Supers.Nodup) : ∃ o, Topo d o ∧ (∀ t ∈ d, t.Name ∉ o → ∃ s ∈ t.Supers, s ∉ o) ∧ f79 d = some o := by
  obtain ⟨op, m, h1, h2, h3⟩ := h79a z hnn hsn d 0 [] [] rfl Full.nil (fun y => by rw [rowOf_nil]; rfl) (fun t ht => by cases ht)
  have I : Ord d [] ((d.filter fun t => t.Supers.length == 0).map (·.Name)) op := by
    refine ⟨⟨by simp, fun x hx => (by cases hx), fun i x hx => (by simp at hx)⟩, ?_, ?_, ?_, ?_⟩
    · exact List.Nodup.sublist ((List.filter_sublist (l := d)).map _) hnn
    · intro x hx
      obtain ⟨t, ht, rfl⟩ := List.mem_map.1 hx
      obtain ⟨h4, h5⟩ := List.mem_filter.1 ht
      refine ⟨List.mem_map_of_mem h4, by simp, ?_⟩
      rw [up_eq hnn h4]
      have : t.Supers = [] := by simpa using h5
      rw [this]; simp
    · intro x hx _ hs
      obtain ⟨t, ht, rfl⟩ := List.mem_map.1 hx
      rw [up_eq hnn ht] at hs
      refine List.mem_map_of_mem (List.mem_filter.2 ⟨ht, ?_⟩)
      cases e : t.Supers with
      | nil => rfl
      | cons s l => exact absurd (hs s (by rw [e]; simp)) (by simp)
    · intro x hx
      obtain ⟨t, ht, rfl⟩ := List.mem_map.1 hx
      rw [h2 t ht, cnt, up_eq hnn ht]
      have : (t.Supers.filter fun s => decide (s ∉ ([] : List Str))) = t.Supers := by
        rw [List.filter_eq_self]; simp
      rw [this]
  obtain ⟨o, r1, r2, r3⟩ := h79c z hnn hsn h1 _ [] _ op rfl I
  exact ⟨o, r1, r2, e79 _ (h3 o r3)⟩

/-! the check -/
theorem h39 {d : List TypeDecl} (z : Sz d) (h1 : nmErr [] d = 0) (h2 : spErr (nms d) d = 0) : ∀ (xs : List TypeDecl) (i n : Nat), d.drop i = xs → n ≤ i →
    t39_11 d n d d.length i = some (open Classical in if n + tops xs ≠ 1 then 1 else if Ranked d then 0 else 6) := by
  have hl := z.len
  intro xs
  induction xs with
  | nil =>
    intro i n h hn
    refine k39_11 _ _ _ _ _ ?_
    have hnd := ((nmErr_zero d []).1 h1).2.1
    have hdec : ∀ t ∈ d, ∀ s ∈ t.Supers, s ∈ nms d := fun t ht => ((spErr_zero _ d).1 h2 t ht).1
    obtain ⟨out, b1, b2, b3⟩ := i79 z hnd (fun t ht => ((spErr_zero _ d).1 h2 t ht).2)
    rw [end_drop h, cond_false]
    have e0 : n + tops [] = n := rfl
    rw [e0]
    by_cases hn1 : n = 1
    · rw [cond_neg (by simp; omega), b3, bind_some', if_neg (by omega)]
      by_cases hr : Ranked d
      · have hfull := full_of_ranked hdec b2 hr
        have : (nms d).length ≤ out.length := nodup_length_le hnd fun x hx => by
          obtain ⟨t, ht, rfl⟩ := List.mem_map.1 hx; exact hfull t ht
        simp only [List.length_map] at this
        rw [cond_neg (by simp; omega), if_pos hr]
      · have : out.length < d.length := by
          apply Classical.byContradiction
          intro hc
          apply hr
          refine ranked_of_full hnd b1 fun t ht => ?_
          exact nodup_full b1.nd b1.sub (by simp; omega) _ (List.mem_map_of_mem ht)
        rw [cond_pos (by simp; omega), if_neg hr]
    · rw [cond_pos (by simp; omega), if_pos hn1]
  | cons x xs ih =>
    intro i n h hn
    refine k39_11 _ _ _ _ _ ?_
    have hlt := drop_lt h
    rw [in_drop h, cond_true, at_drop h, wrap_drop h (by omega), wrap_succ (by omega)]
    by_cases hx : x.Supers.length = 0
    · rw [cond_pos (by simpa using hx), ih (i + 1) (n + 1) (drop_next h) (by omega)]
      have : tops (x :: xs) = tops xs + 1 := by simp [tops, List.filter_cons, hx]
      rw [this, show n + 1 + tops xs = n + (tops xs + 1) by omega]
    · rw [cond_neg (by simpa using hx), ih (i + 1) n (drop_next h) (by omega)]
      have : tops (x :: xs) = tops xs := by
        have : (x.Supers.length == 0) = false := by simpa using hx
        simp [tops, List.filter_cons, this]
      rw [this]
theorem i39 {d : List TypeDecl} (z : Sz d) : f39 d = some (chk d) := by
  have hl := z.len
  refine e39 _ ?_
  rw [i76, bind_some', i77 d (by omega), bind_some', i78 d (by omega) (fun t ht => by have := z.sup t ht; omega), bind_some']
  unfold chk
  by_cases h0 : bigB d = true
  · rw [if_pos h0, h0]; rfl
  · have h0' : bigB d = false := by simpa using h0
    rw [if_neg h0, h0', cond_false]
    by_cases h1 : nmErr [] d = 0
    · by_cases h2 : spErr (nms d) d = 0
      · have := h39 z h1 h2 d 0 0 rfl (by omega)
        rw [h1, h2, if_neg (by simp), if_neg (by simp)]
        simpa using this
      · rw [if_pos h2, h1, if_neg (by simp)]
        rw [cond_neg (by simp), cond_pos (by simpa using h2)]
    · rw [if_pos h1, cond_pos (by simpa using h1)]
end Go.Proofs.YtfoddgpndoeeaaaGreatDoor.cl
