/-
  The Closure laws: what is above and below a type (ref03), and the most general of some types.
-/
import Derived.Test.YtneahmpmicoplaaGreatDoorClI
set_option linter.unusedVariables false
set_option linter.unusedSimpArgs false
set_option linter.unusedSectionVars false
namespace Go.Proofs.YtneahmpmicoplaaGreatDoor.cl
open Go Go.AM
/-- the direct subtypes, the direct supertypes -/
def dn (d : List TypeDecl) (x : Str) : List Str := (d.filter fun t => decide (x ∈ t.Supers)).map (·.Name)
def up (d : List TypeDecl) (x : Str) : List Str := match d.find? (fun t => t.Name == x) with
  | some t => t.Supers
  | none => []
theorem mem_dn {d : List TypeDecl} {x y : Str} : y ∈ dn d x ↔ ∃ t ∈ d, t.Name = y ∧ x ∈ t.Supers := by
  simp only [dn, List.mem_map, List.mem_filter, decide_eq_true_eq]
  exact ⟨fun ⟨t, ⟨h1, h2⟩, h3⟩ => ⟨t, h1, h3, h2⟩, fun ⟨t, h1, h3, h2⟩ => ⟨t, ⟨h1, h2⟩, h3⟩⟩
theorem dn_nms {d : List TypeDecl} {x y : Str} (h : y ∈ dn d x) : y ∈ nms d := by
  obtain ⟨t, ht, e, _⟩ := mem_dn.1 h
  exact e ▸ List.mem_map_of_mem ht
theorem nd_eq {d : List TypeDecl} (hn : (nms d).Nodup) {t u : TypeDecl} (ht : t ∈ d) (hu : u ∈ d) (e : t.Name = u.Name) : t = u := by
  obtain ⟨i, hi1, rfl⟩ := List.mem_iff_getElem.1 ht
  obtain ⟨j, hj1, rfl⟩ := List.mem_iff_getElem.1 hu
  have : (nms d)[i]'(by simpa using hi1) = (nms d)[j]'(by simpa using hj1) := by simpa using e
  have := (List.getElem_inj hn).1 this
  subst this; rfl
theorem up_eq {d : List TypeDecl} (hn : (nms d).Nodup) {t : TypeDecl} (ht : t ∈ d) : up d t.Name = t.Supers := by
  unfold up
  cases e : d.find? (fun u => u.Name == t.Name) with
  | none =>
    rw [List.find?_eq_none] at e
    exact absurd (e t ht) (by simp)
  | some u =>
    have h1 := List.find?_some e
    have h2 := List.mem_of_find?_eq_some e
    rw [nd_eq hn h2 ht (by simpa using h1)]
theorem mem_up {d : List TypeDecl} (hn : (nms d).Nodup) {x y : Str} (hx : x ∈ nms d) : y ∈ up d x ↔ x ∈ dn d y := by
  obtain ⟨t, ht, rfl⟩ := List.mem_map.1 hx
  rw [up_eq hn ht, mem_dn]
  constructor
  · intro h; exact ⟨t, ht, rfl, h⟩
  · rintro ⟨u, hu, e, h⟩
    rw [nd_eq hn hu ht e] at h; exact h
/-- y is x or a subtype of it -/
abbrev Le (d : List TypeDecl) (x y : Str) : Prop := Rch (dn d) x y
theorem Le.nms {d : List TypeDecl} {x y : Str} (hx : x ∈ nms d) (h : Le d x y) : y ∈ nms d := by
  induction h with
  | refl => exact hx
  | step _ hz _ => exact dn_nms hz
theorem reach_up {d : List TypeDecl} (A : Acc d) {x y : Str} (hx : x ∈ nms d) (h : Rch (up d) x y) : y ∈ nms d ∧ Le d y x := by
  induction h with
  | refl => exact ⟨hx, .refl⟩
  | @step y z h1 hz ih =>
    obtain ⟨hy, hl⟩ := ih
    refine ⟨?_, ?_⟩
    · obtain ⟨t, ht, e⟩ := List.mem_map.1 hy
      subst e
      rw [up_eq A.nd ht] at hz
      exact A.dec t ht _ hz
    · exact Rch.trans (.step .refl ((mem_up A.nd hy).1 hz)) hl
theorem Rch.head {next : Str → List Str} {x y z : Str} (h1 : y ∈ next x) (h2 : Rch next y z) : Rch next x z := Rch.trans (.step .refl h1) h2
theorem up_of_le {d : List TypeDecl} (A : Acc d) {x y : Str} (h : Le d y x) : Rch (up d) x y := by
  induction h with
  | refl => exact .refl
  | @step u v h1 hz ih => exact Rch.head ((mem_up A.nd (dn_nms hz)).2 hz) ih
theorem reach_up_iff {d : List TypeDecl} (A : Acc d) {x y : Str} (hx : x ∈ nms d) : Rch (up d) x y ↔ Le d y x := ⟨fun h => (reach_up A hx h).2, up_of_le A⟩
theorem le_rank {d : List TypeDecl} {r : Str → Nat} (hr : ∀ t ∈ d, ∀ s ∈ t.Supers, r s < r t.Name) {x y : Str} (h : Le d x y) : x = y ∨ r x < r y := by
  induction h with
  | refl => exact .inl rfl
  | step _ hz ih =>
    obtain ⟨t, ht, rfl, hs⟩ := mem_dn.1 hz
    have := hr t ht _ hs
    rcases ih with rfl | h
    · exact .inr this
    · exact .inr (by omega)
theorem le_antisymm {d : List TypeDecl} (A : Acc d) {x y : Str} (h1 : Le d x y) (h2 : Le d y x) : x = y := by
  obtain ⟨r, hr⟩ := A.rk
  rcases le_rank hr h1 with h | h
  · exact h
  · rcases le_rank hr h2 with h' | h'
    · exact h'.symm
    · omega
/-! Below -/
theorem h99b {d : List TypeDecl} (z : Sz d) {i : Nat} {x : Str} : ∀ (xs : List TypeDecl) (k : Nat) (o : List Str), d.drop k = xs → o[i]? = some x → o.length + xs.length ≤ 2097152 → ∀ r,
    t99_5 d (i + 1 : Nat) (addAll o ((xs.filter fun t => decide (x ∈ t.Supers)).map (·.Name))) = some r → t99_8 d i k o = some r := by
  have hl := z.len
  intro xs
  induction xs with
  | nil =>
    intro k o h hx hlen r hr
    refine k99_8 _ _ _ _ ?_
    have hi := (List.getElem?_eq_some_iff.1 hx).1
    rw [end_drop h, cond_false, wrap_succ (by omega)]
    exact hr
  | cons t xs ih =>
    intro k o h hx hlen r hr
    refine k99_8 _ _ _ _ ?_
    have hi := (List.getElem?_eq_some_iff.1 hx).1
    have ht : t ∈ d := List.mem_of_getElem? (drop_get h)
    have hsup := z.sup t ht
    simp only [List.length_cons] at hlen
    rw [in_drop h, cond_true, at_drop h, chk_at hi, Int.toNat_natCast, getN_pos hx, c37 _ _ (by omega), bind_some', wrap_drop h (by omega), at_drop h, c37 _ _ (by omega), bind_some', at_drop h]
    rw [List.filter_cons] at hr
    by_cases h1 : x ∈ t.Supers
    · rw [cond_pos (by simpa using h1)]
      rw [if_pos (by simpa using h1), List.map_cons] at hr
      by_cases h2 : t.Name ∈ o
      · rw [cond_neg (by simpa using h2)]
        refine ih (k + 1) o (drop_next h) hx (by omega) r ?_
        have e : addAll o (t.Name :: (List.filter (fun t => decide (x ∈ t.Supers)) xs).map (·.Name)) = addAll o ((List.filter (fun t => decide (x ∈ t.Supers)) xs).map (·.Name)) := by simp [addAll, h2]
        rw [e] at hr; exact hr
      · rw [cond_pos (by simpa using h2), chk_app _ (by omega) (by simp) (by omega)]
        refine ih (k + 1) (o ++ [t.Name]) (drop_next h) (by rw [List.getElem?_append_left hi]; exact hx) (by simp; omega) r ?_
        have e : addAll o (t.Name :: (List.filter (fun t => decide (x ∈ t.Supers)) xs).map (·.Name)) = addAll (o ++ [t.Name]) ((List.filter (fun t => decide (x ∈ t.Supers)) xs).map (·.Name)) := by simp [addAll, h2]
        rw [e] at hr; exact hr
    · rw [cond_neg (by simpa using h1)]
      rw [if_neg (by simpa using h1)] at hr
      exact ih (k + 1) o (drop_next h) hx (by omega) r hr
theorem h99c (o : List Str) (ho : o.length ≤ 1073741824) : ∀ (xs : List Str) (i : Nat) (out : List Str), o.drop i = xs → out.length ≤ i → t99_14 out i o = some (xs.foldl (fun o s => putS s o) out) := by
  intro xs
  induction xs with
  | nil => intro i out h hi; refine k99_14 _ _ _ ?_; rw [end_drop h]; rfl
  | cons x xs ih =>
    intro i out h hi
    refine k99_14 _ _ _ ?_
    have hlt := drop_lt h
    have := putS_length x out
    rw [in_drop h, cond_true, chk_drop h, atN_drop h, c98 _ _ (by omega), bind_some', wrap_drop h ho, ih (i + 1) _ (drop_next h) (by omega)]; rfl
theorem c99 {d : List TypeDecl} (z : Sz d) {x : Str} (hx : x ∈ nms d) : ∃ l, f99 d x = some l ∧ SS l ∧ (∀ y, y ∈ l ↔ Le d x y) ∧ l.length ≤ d.length := by
  have hl := z.len
  obtain ⟨o, h1, h2, h3, h4⟩ := search (next := dn d) (U := nms d) (x0 := x) hx (fun x _ y hy => dn_nms hy) (R := R99.T) (outer := fun i o => t99_5 d i o) (fin := fun o => t99_14 [] 0 o)
    (fun i o ho hi r hr => by
      refine k99_5 _ _ _ ?_
      rw [cond_neg (by simp; omega)]; exact hr)
    (fun i o y ho hlen hy _ r hr => by
      have hi := (List.getElem?_eq_some_iff.1 hy).1
      refine k99_5 _ _ _ ?_
      rw [cond_pos (by simp; omega)]
      simp only [List.length_map] at ho
      exact h99b z d 0 o rfl hy (by omega) r hr)
  simp only [List.length_map] at h3
  have hs : t99_14 [] 0 o = some (sortS o) := h99c o (by omega) o 0 [] rfl (by simp)
  refine ⟨sortS o, ?_, sortS_sorted o, fun y => by rw [mem_sortS, h2], by have := sortS_length o; omega⟩
  refine e99 _ _ ?_
  obtain ⟨j, hj, e, _⟩ := fd_some hx
  rw [c111 d _ (by omega), bind_some', e, cond_neg (by simp)]
  exact h4 _ hs
/-! Above -/
theorem h138b {d : List TypeDecl} (z : Sz d) {i : Nat} {l : List Str} (hll : l.length ≤ 1048576) : ∀ (xs : List Str) (k : Nat) (o : List Str), l.drop k = xs → i < o.length → o.length + xs.length ≤ 2097152 → ∀ r,
    t138_5 d (i + 1 : Nat) (addAll o xs) = some r → t138_9 d i l k o = some r := by
  have hl := z.len
  intro xs
  induction xs with
  | nil =>
    intro k o h hi hlen r hr
    refine k138_9 _ _ _ _ _ ?_
    rw [end_drop h, cond_false, wrap_succ (by omega)]
    exact hr
  | cons s xs ih =>
    intro k o h hi hlen r hr
    refine k138_9 _ _ _ _ _ ?_
    simp only [List.length_cons] at hlen
    rw [in_drop h, cond_true, at_drop h, c37 _ _ (by omega), bind_some', wrap_drop h (by omega), at_drop h]
    by_cases h2 : s ∈ o
    · rw [cond_neg (by simpa using h2)]
      refine ih (k + 1) o (drop_next h) hi (by omega) r ?_
      have e : addAll o (s :: xs) = addAll o xs := by simp [addAll, h2]
      rw [e] at hr; exact hr
    · rw [cond_pos (by simpa using h2), chk_app _ (by omega) (by simp) (by omega)]
      refine ih (k + 1) (o ++ [s]) (drop_next h) (by simp; omega) (by simp; omega) r ?_
      have e : addAll o (s :: xs) = addAll (o ++ [s]) xs := by simp [addAll, h2]
      rw [e] at hr; exact hr
theorem h138c (o : List Str) (ho : o.length ≤ 1073741824) : ∀ (xs : List Str) (i : Nat) (out : List Str), o.drop i = xs → out.length ≤ i → t138_15 out i o = some (xs.foldl (fun o s => putS s o) out) := by
  intro xs
  induction xs with
  | nil => intro i out h hi; refine k138_15 _ _ _ ?_; rw [end_drop h]; rfl
  | cons x xs ih =>
    intro i out h hi
    refine k138_15 _ _ _ ?_
    have hlt := drop_lt h
    have := putS_length x out
    rw [in_drop h, cond_true, chk_drop h, atN_drop h, c98 _ _ (by omega), bind_some', wrap_drop h ho, ih (i + 1) _ (drop_next h) (by omega)]; rfl
theorem c138 {d : List TypeDecl} (z : Sz d) (A : Acc d) {x : Str} (hx : x ∈ nms d) : ∃ l, f138 d x = some l ∧ SS l ∧ (∀ y, y ∈ l ↔ Le d y x) ∧ l.length ≤ d.length := by
  have hl := z.len
  obtain ⟨o, h1, h2, h3, h4⟩ := search (next := up d) (U := nms d) (x0 := x) hx (fun x hx y hy => (reach_up A hx (.step .refl hy)).1) (R := R138.T) (outer := fun i o => t138_5 d i o) (fin := fun o => t138_15 [] 0 o)
    (fun i o ho hi r hr => by
      refine k138_5 _ _ _ ?_
      rw [cond_neg (by simp; omega)]; exact hr)
    (fun i o y ho hlen hy hyU r hr => by
      have hi := (List.getElem?_eq_some_iff.1 hy).1
      refine k138_5 _ _ _ ?_
      obtain ⟨j, hj, e, hn, _⟩ := fd_some hyU
      simp only [List.length_map] at ho
      rw [cond_pos (by simp; omega), chk_at hi, Int.toNat_natCast, getN_pos hy, c111 d _ (by omega), bind_some', e, getK_at hj]
      have hsup := z.sup _ (List.getElem_mem hj)
      refine h138b z (by omega) d[j].Supers 0 o rfl hi (by omega) r ?_
      have e2 : up d y = d[j].Supers := by rw [← hn]; exact up_eq A.nd (List.getElem_mem hj)
      rw [← e2]; exact hr)
  simp only [List.length_map] at h3
  have hs : t138_15 [] 0 o = some (sortS o) := h138c o (by omega) o 0 [] rfl (by simp)
  refine ⟨sortS o, ?_, sortS_sorted o, fun y => by rw [mem_sortS, h2, reach_up_iff A hx], by have := sortS_length o; omega⟩
  refine e138 _ _ ?_
  obtain ⟨j, hj, e, _⟩ := fd_some hx
  rw [c111 d _ (by omega), bind_some', e, cond_neg (by simp)]
  exact h4 _ hs
/-! the most general of some types -/
theorem h137 {d : List TypeDecl} (z : Sz d) (l : List Str) (hll : l.length ≤ 1048576) : ∀ (xs : List Str) (i : Nat) (out : List Str), l.drop i = xs → out.length ≤ i → t137_3 d l out i = some ((xs.filter fun s => decide (s ∈ nms d)).foldl (fun o s => putS s o) out) := by
  have hl := z.len
  intro xs
  induction xs with
  | nil => intro i out h hi; refine k137_3 _ _ _ _ ?_; rw [end_drop h]; rfl
  | cons x xs ih =>
    intro i out h hi
    refine k137_3 _ _ _ _ ?_
    have hlt := drop_lt h
    have := putS_length x out
    rw [in_drop h, cond_true, at_drop h, c111 d _ (by omega), bind_some', wrap_drop h (by omega), at_drop h, List.filter_cons]
    by_cases hm : x ∈ nms d
    · have hge : fd d x ≥ 0 := by
        apply Classical.byContradiction; intro hc
        exact fd_neg.1 (by omega) hm
      rw [cond_pos (by simpa using hge), c98 _ _ (by omega), bind_some', ih (i + 1) _ (drop_next h) (by omega), if_pos (by simpa using hm)]; rfl
    · have hneg := fd_neg.2 hm
      rw [cond_neg (by simpa using hneg), ih (i + 1) _ (drop_next h) (by omega), if_neg (by simpa using hm)]
theorem c137 {d : List TypeDecl} (z : Sz d) (l : List Str) (hll : l.length ≤ 1048576) : f137 d l = some (sortS (l.filter fun s => decide (s ∈ nms d))) := e137 _ _ (h137 z l hll l 0 [] rfl (by simp))
open Classical in
/-- no other one of these is above -/
noncomputable def freeB (d : List TypeDecl) (all : List Str) (x : Str) : Bool := all.all fun y => decide (y = x) || !decide (Le d y x)
theorem h104b {d : List TypeDecl} (z : Sz d) {all up : List Str} {i : Nat} {x : Str} (hi : all[i]? = some x) (hnd : all.Nodup) (hall : all.length ≤ 1048576) (hup : up.length ≤ 1048576) (hU : ∀ y, y ∈ up ↔ Le d y x) {o : List Str} (ho : o.length ≤ 1048576) {r : List Str} :
    ∀ (xs : List Str) (k : Nat) (free : Bool), all.drop k = xs →
    t104_4 d all (i + 1 : Nat) (if (free && freeB d xs x) = true then o ++ [x] else o) = some r → t104_9 d all i up free k o = some r := by
  intro xs
  have hil := (List.getElem?_eq_some_iff.1 hi).1
  induction xs with
  | nil =>
    intro k free h hr
    refine k104_9 _ _ _ _ _ _ _ ?_
    rw [end_drop h, cond_false, wrap_succ (by omega)]
    have e : (free && freeB d [] x) = free := by simp [freeB]
    rw [e] at hr
    cases free with
    | true => rw [cond_true, getK_nat hi, chk_app _ (by omega) (by simp) (by omega)]; rw [if_pos rfl] at hr; exact hr
    | false => rw [cond_false]; rw [if_neg (by simp)] at hr; exact hr
  | cons y xs ih =>
    intro k free h hr
    refine k104_9 _ _ _ _ _ _ _ ?_
    rw [in_drop h, cond_true, wrap_drop h (by omega), at_drop h, c37 _ _ (by omega), bind_some']
    have e : freeB d (y :: xs) x = ((decide (y = x) || !(open Classical in decide (Le d y x))) && freeB d xs x) := by simp [freeB]
    rw [e] at hr
    cases free with
    | false =>
      rw [cond_false]
      refine ih (k + 1) false (drop_next h) ?_
      rw [Bool.false_and] at hr ⊢; exact hr
    | true =>
      rw [cond_true]
      by_cases hk : k = i
      · subst hk
        rw [drop_get h] at hi
        obtain rfl : y = x := Option.some.inj hi
        rw [cond_pos (by simp)]
        refine ih (k + 1) true (drop_next h) ?_
        have e1 : (decide (y = y) || !(open Classical in decide (Le d y y))) = true := by simp
        rw [e1, Bool.true_and] at hr; exact hr
      · have hne : y ≠ x := by
          intro e; subst e
          have h1 := drop_get h
          have hkl := drop_lt h
          rw [List.getElem?_eq_getElem hkl] at h1
          rw [List.getElem?_eq_getElem hil] at hi
          have := (List.getElem_inj hnd).1 ((Option.some.inj h1).trans (Option.some.inj hi).symm)
          exact hk this
        rw [cond_neg (by simp; omega)]
        refine ih (k + 1) _ (drop_next h) ?_
        have e2 : decide (y = x) = false := by simpa using hne
        have e3 : decide (y ∈ up) = (open Classical in decide (Le d y x)) := by rw [decide_eq_decide]; exact hU y
        rw [e2, Bool.false_or, Bool.true_and] at hr
        rw [e3]; exact hr
theorem h104 {d : List TypeDecl} (z : Sz d) (A : Acc d) {all : List Str} (hnd : all.Nodup) (hall : all.length ≤ 1048576) (hm : ∀ x ∈ all, x ∈ nms d) : ∀ (xs : List Str) (i : Nat) (o : List Str), all.drop i = xs → o.length ≤ i →
    t104_4 d all i o = some (o ++ xs.filter (freeB d all)) := by
  have hl := z.len
  intro xs
  induction xs with
  | nil => intro i o h ho; refine k104_4 _ _ _ _ ?_; rw [end_drop h]; simp
  | cons x xs ih =>
    intro i o h ho
    refine k104_4 _ _ _ _ ?_
    have hlt := drop_lt h
    obtain ⟨u, hu, _, hU, hul⟩ := c138 z A (hm x (List.mem_of_getElem? (drop_get h)))
    rw [in_drop h, cond_true, at_drop h, hu, bind_some']
    refine h104b z (drop_get h) hnd hall (by omega) hU (by omega) all 0 true rfl ?_
    rw [Bool.true_and, List.filter_cons]
    cases hf : freeB d all x with
    | true => rw [if_pos rfl, if_pos rfl, ih (i + 1) (o ++ [x]) (drop_next h) (by simp; omega)]; simp
    | false => rw [if_neg (by simp), if_neg (by simp), ih (i + 1) o (drop_next h) (by omega)]
noncomputable def maxi (d : List TypeDecl) (l : List Str) : List Str := (sortS (l.filter fun s => decide (s ∈ nms d))).filter (freeB d (sortS (l.filter fun s => decide (s ∈ nms d))))
theorem c104 {d : List TypeDecl} (z : Sz d) (A : Acc d) (l : List Str) (hll : l.length ≤ 1048576) : f104 d l = some (maxi d l) := by
  refine e104 _ _ ?_
  rw [c137 z l hll, bind_some']
  have h1 := sortS_length (l.filter fun s => decide (s ∈ nms d))
  have h2 := List.length_filter_le (fun s => decide (s ∈ nms d)) l
  have := h104 z A (all := sortS (l.filter fun s => decide (s ∈ nms d))) (sortS_sorted _).nodup (by omega) (fun x hx => by
    have := mem_sortS.1 hx
    simpa using (List.mem_filter.1 this).2) _ 0 [] rfl (by simp)
  exact this
end Go.Proofs.YtneahmpmicoplaaGreatDoor.cl
