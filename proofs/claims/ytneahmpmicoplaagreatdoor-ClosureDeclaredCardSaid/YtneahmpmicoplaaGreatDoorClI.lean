/-
  The Closure laws: the order of declarations (ref03: placed, Check, Above, Below, Maximal).
-/
import Derived.Test.YtneahmpmicoplaaGreatDoorClC
set_option linter.unusedVariables false
set_option linter.unusedSimpArgs false
set_option linter.unusedSectionVars false
namespace Go.Proofs.YtneahmpmicoplaaGreatDoor.cl
open Go Go.AM
theorem h112 (t : TypeDecl) (o : List Str) (ho : o.length ≤ 1073741824) (ht : t.Supers.length ≤ 1073741824) : ∀ (xs : List Str) (i : Nat), t.Supers.drop i = xs → t112_2 o i t = some (xs.all fun s => decide (s ∈ o)) := by
  intro xs
  induction xs with
  | nil => intro i h; refine k112_2 _ _ _ ?_; rw [end_drop h]; rfl
  | cons x xs ih =>
    intro i h
    refine k112_2 _ _ _ ?_
    rw [in_drop h, cond_true, at_drop h, c37 _ _ ho, bind_some', wrap_drop h ht, ih (i + 1) (drop_next h), List.all_cons]
    by_cases hx : x ∈ o <;> simp [hx]
theorem c112 (t : TypeDecl) (o : List Str) (ho : o.length ≤ 1073741824) (ht : t.Supers.length ≤ 1073741824) : f112 t o = some (t.Supers.all fun s => decide (s ∈ o)) := e112 _ _ (h112 t o ho ht _ 0 rfl)
/-- sizes that every loop can count -/
structure Sz (d : List TypeDecl) : Prop where
  len : d.length ≤ 1048576
  sup : ∀ t ∈ d, t.Supers.length ≤ 1048576
structure Topo (d : List TypeDecl) (o : List Str) : Prop where
  nd : o.Nodup
  sub : ∀ x ∈ o, x ∈ nms d
  pre : ∀ i x, o[i]? = some x → ∃ t ∈ d, t.Name = x ∧ ∀ s ∈ t.Supers, s ∈ o.take i
def Rdy (d : List TypeDecl) (o : List Str) (x : Str) : Prop := ∃ t ∈ d, t.Name = x ∧ x ∉ o ∧ ∀ s ∈ t.Supers, s ∈ o
theorem Topo.len {d : List TypeDecl} {o : List Str} (h : Topo d o) : o.length ≤ d.length := by
  have := nodup_length_le h.nd h.sub
  simpa using this
theorem h73b {d : List TypeDecl} (z : Sz d) {o : List Str} (ho : o.length ≤ d.length) : ∀ (xs : List TypeDecl) (i : Nat) (more : Bool) (next : Str), d.drop i = xs → (more = true → Rdy d o next) →
    ∃ (more' : Bool) (next' : Str), (more' = true → Rdy d o next') ∧ (more' = false → ∀ t ∈ xs, t.Name ∉ o → ∃ s ∈ t.Supers, s ∉ o) ∧ (more = true → more' = true) ∧
      ∀ r, t73_3 d more' (if more' = true then o ++ [next'] else o) = some r → t73_7 d more next i o = some r := by
  have hl := z.len
  intro xs
  induction xs with
  | nil =>
    intro i more next h hr
    refine ⟨more, next, hr, fun _ t ht => (by cases ht), fun h => h, fun r hh => ?_⟩
    refine k73_7 _ _ _ _ _ ?_
    rw [end_drop h, cond_false]
    cases more with
    | true => rw [cond_true, chk_app _ (by omega) (by simp) (by omega)]; rw [if_pos rfl] at hh; exact hh
    | false => rw [cond_false]; rw [if_neg (by simp)] at hh; exact hh
  | cons x xs ih =>
    intro i more next h hr
    have hx : x ∈ d := List.mem_of_getElem? (drop_get h)
    by_cases h1 : x.Name ∈ o
    · obtain ⟨m', n', a1, a2, a4, a3⟩ := ih (i + 1) more next (drop_next h) hr
      refine ⟨m', n', a1, fun e t ht hn => ?_, a4, fun r hh => ?_⟩
      · rcases List.mem_cons.1 ht with rfl | ht
        · exact absurd h1 hn
        · exact a2 e t ht hn
      · refine k73_7 _ _ _ _ _ ?_
        rw [in_drop h, cond_true, at_drop h, c37 _ _ (by omega), bind_some', cond_pos (by simpa using h1), wrap_drop h (by omega)]
        exact a3 r hh
    · by_cases h2 : ∀ s ∈ x.Supers, s ∈ o
      · have hrx : Rdy d o x.Name := ⟨x, hx, rfl, h1, h2⟩
        have h2' : (x.Supers.all fun s => decide (s ∈ o)) = true := by
          rw [List.all_eq_true]; intro s hs; simpa using h2 s hs
        have go : ∀ nx, Rdy d o nx → (more = false → nx = x.Name) → (more = true → nx = if Op.bytesLess x.Name next = true then x.Name else next) → ∃ (more' : Bool) (next' : Str), (more' = true → Rdy d o next') ∧ (more' = false → ∀ t ∈ x :: xs, t.Name ∉ o → ∃ s ∈ t.Supers, s ∉ o) ∧ (more = true → more' = true) ∧
            ∀ r, t73_3 d more' (if more' = true then o ++ [next'] else o) = some r → t73_7 d more next i o = some r := by
          intro nx hn e1 e2
          obtain ⟨m', n', a1, a2, a4, a3⟩ := ih (i + 1) true nx (drop_next h) (fun _ => hn)
          refine ⟨m', n', a1, fun e => (by rw [a4 rfl] at e; cases e), fun _ => a4 rfl, fun r hh => ?_⟩
          have hh := a3 r hh
          refine k73_7 _ _ _ _ _ ?_
          rw [in_drop h, cond_true, at_drop h, c37 _ _ (by omega), bind_some', cond_neg (by simpa using h1), at_drop h, c112 _ _ (by omega) (by have := z.sup x hx; omega), bind_some', h2', Bool.not_true, cond_false]
          cases more with
          | false =>
            rw [Bool.not_false, cond_true, at_drop h, wrap_drop h (by omega)]
            rw [e1 rfl] at hh; exact hh
          | true =>
            rw [Bool.not_true, cond_false, at_drop h, at_drop h, wrap_drop h (by omega)]
            have := e2 rfl
            cases hb : Op.bytesLess x.Name next with
            | true => rw [hb, if_pos rfl] at this; rw [this] at hh; rw [cond_true]; exact hh
            | false => rw [hb] at this; simp only [Bool.false_eq_true, if_false] at this; rw [this] at hh; rw [cond_false]; exact hh
        cases hm : more with
        | false => rw [hm] at go; exact go x.Name hrx (fun _ => rfl) (fun e => by cases e)
        | true =>
          rw [hm] at go
          refine go _ ?_ (fun e => by cases e) (fun _ => rfl)
          split
          · exact hrx
          · exact hr hm
      · obtain ⟨m', n', a1, a2, a4, a3⟩ := ih (i + 1) more next (drop_next h) hr
        have h2' : (x.Supers.all fun s => decide (s ∈ o)) = false := by
          apply Classical.byContradiction; intro hc
          rw [Bool.not_eq_false, List.all_eq_true] at hc
          exact h2 fun s hs => by simpa using hc s hs
        refine ⟨m', n', a1, fun e t ht hn => ?_, a4, fun r hh => ?_⟩
        · rcases List.mem_cons.1 ht with rfl | ht
          · apply Classical.byContradiction; intro hc
            exact h2 fun s hs => Classical.byContradiction fun hns => hc ⟨s, hs, hns⟩
          · exact a2 e t ht hn
        · refine k73_7 _ _ _ _ _ ?_
          rw [in_drop h, cond_true, at_drop h, c37 _ _ (by omega), bind_some', cond_neg (by simpa using h1), at_drop h, c112 _ _ (by omega) (by have := z.sup x hx; omega), bind_some', h2', Bool.not_false, cond_true, wrap_drop h (by omega)]
          exact a3 r hh
theorem h73 {d : List TypeDecl} (z : Sz d) : ∀ (n : Nat) (o : List Str), d.length - o.length = n → Topo d o →
    ∃ out, Topo d out ∧ (∀ t ∈ d, t.Name ∉ out → ∃ s ∈ t.Supers, s ∉ out) ∧ t73_3 d true o = some out := by
  intro n
  induction n with
  | zero =>
    intro o hn ho
    have hlen := ho.len
    obtain ⟨m', n', a1, a2, a4, a3⟩ := h73b z hlen d 0 false [] rfl (fun e => by cases e)
    cases m' with
    | false =>
      refine ⟨o, ho, a2 rfl, ?_⟩
      refine k73_3 _ _ _ ?_
      rw [cond_true]
      refine a3 _ ?_
      refine k73_3 _ _ _ ?_
      simp
    | true =>
      obtain ⟨t, ht, e, hno, hs⟩ := a1 rfl
      have : (o ++ [n']).length ≤ (nms d).length := nodup_length_le (by
        rw [List.nodup_append]
        exact ⟨ho.nd, by simp, fun a ha b hb => by simp only [List.mem_singleton] at hb; subst hb; exact fun e => hno (e ▸ ha)⟩) (fun x hx => by
          rcases List.mem_append.1 hx with hx | hx
          · exact ho.sub x hx
          · simp only [List.mem_singleton] at hx; subst hx; rw [← e]; exact List.mem_map_of_mem ht)
      simp at this; omega
  | succ n ih =>
    intro o hn ho
    have hlen := ho.len
    obtain ⟨m', n', a1, a2, a4, a3⟩ := h73b z hlen d 0 false [] rfl (fun e => by cases e)
    cases m' with
    | false =>
      refine ⟨o, ho, a2 rfl, ?_⟩
      refine k73_3 _ _ _ ?_
      rw [cond_true]
      refine a3 _ ?_
      refine k73_3 _ _ _ ?_
      simp
    | true =>
      obtain ⟨t, ht, e, hno, hs⟩ := a1 rfl
      have hT : Topo d (o ++ [n']) := by
        refine ⟨?_, ?_, ?_⟩
        · rw [List.nodup_append]
          exact ⟨ho.nd, by simp, fun a ha b hb => by simp only [List.mem_singleton] at hb; subst hb; exact fun e => hno (e ▸ ha)⟩
        · intro x hx
          rcases List.mem_append.1 hx with hx | hx
          · exact ho.sub x hx
          · simp only [List.mem_singleton] at hx; subst hx; rw [← e]; exact List.mem_map_of_mem ht
        · intro i x hx
          by_cases hi : i < o.length
          · rw [List.getElem?_append_left hi] at hx
            obtain ⟨u, hu, e1, h1⟩ := ho.pre i x hx
            exact ⟨u, hu, e1, fun s hs => by rw [List.take_append_of_le_length (by omega)]; exact h1 s hs⟩
          · have hi2 : i = o.length := by
              apply Classical.byContradiction; intro hc
              rw [List.getElem?_eq_none (by simp; omega)] at hx; cases hx
            subst hi2
            rw [List.getElem?_append_right (by omega), Nat.sub_self] at hx
            simp only [List.getElem?_cons_zero, Option.some.injEq] at hx
            subst hx
            exact ⟨t, ht, e, fun s hs' => by rw [List.take_left']; exact hs s hs'; rfl⟩
      obtain ⟨out, b1, b2, b3⟩ := ih (o ++ [n']) (by simp; omega) hT
      refine ⟨out, b1, b2, ?_⟩
      refine k73_3 _ _ _ ?_
      rw [cond_true]
      exact a3 _ b3
theorem c73 {d : List TypeDecl} (z : Sz d) : ∃ out, Topo d out ∧ (∀ t ∈ d, t.Name ∉ out → ∃ s ∈ t.Supers, s ∉ out) ∧ f73 d = some out := by
  obtain ⟨out, h1, h2, h3⟩ := h73 z _ [] rfl ⟨by simp, fun x hx => (by cases hx), fun i x hx => (by simp at hx)⟩
  exact ⟨out, h1, h2, e73 _ h3⟩
/-- supertypes come first -/
def Ranked (d : List TypeDecl) : Prop := ∃ r : Str → Nat, ∀ t ∈ d, ∀ s ∈ t.Supers, r s < r t.Name
theorem ranked_of_full {d : List TypeDecl} {o : List Str} (hn : (nms d).Nodup) (ho : Topo d o) (hf : ∀ t ∈ d, t.Name ∈ o) : Ranked d := by
  refine ⟨fun x => o.idxOf x, fun t ht s hs => ?_⟩
  have hm := hf t ht
  have hi : o.idxOf t.Name < o.length := List.idxOf_lt_length_iff.2 hm
  have hget : o[o.idxOf t.Name]? = some t.Name := by
    rw [List.getElem?_eq_getElem hi, List.getElem_idxOf hi]
  obtain ⟨u, hu, e, hpre⟩ := ho.pre _ _ hget
  have hut : u = t := by
    obtain ⟨i, hi1, rfl⟩ := List.mem_iff_getElem.1 hu
    obtain ⟨j, hj1, rfl⟩ := List.mem_iff_getElem.1 ht
    have : (nms d)[i]'(by simpa using hi1) = (nms d)[j]'(by simpa using hj1) := by simpa using e
    have := (List.getElem_inj hn).1 this
    subst this; rfl
  subst hut
  have := hpre s hs
  rw [List.mem_take_iff_getElem] at this
  obtain ⟨k, hk, rfl⟩ := this
  show o.idxOf o[k] < _
  have h1 : o.idxOf o[k] = k := ho.nd.idxOf_getElem k (by omega)
  have h2 : k < o.idxOf u.Name := by omega
  rw [h1]; exact h2
theorem full_of_ranked {d : List TypeDecl} {o : List Str} (hdec : ∀ t ∈ d, ∀ s ∈ t.Supers, s ∈ nms d) (hmax : ∀ t ∈ d, t.Name ∉ o → ∃ s ∈ t.Supers, s ∉ o) (hr : Ranked d) : ∀ t ∈ d, t.Name ∈ o := by
  obtain ⟨r, hr⟩ := hr
  have key : ∀ (n : Nat) (t : TypeDecl), t ∈ d → r t.Name = n → t.Name ∈ o := by
    intro n
    induction n using Nat.strongRecOn with
    | _ n ih =>
      intro t ht e
      apply Classical.byContradiction
      intro hc
      obtain ⟨s, hs, hso⟩ := hmax t ht hc
      obtain ⟨u, hu, rfl⟩ := List.mem_map.1 (hdec t ht s hs)
      have := hr t ht _ hs
      exact hso (ih (r u.Name) (by omega) u hu rfl)
  exact fun t ht => key _ t ht rfl
def tops (d : List TypeDecl) : Nat := (d.filter fun t => t.Supers.length == 0).length
open Classical in
noncomputable def chk (d : List TypeDecl) : Int :=
  if bigB d = true then 7 else if nmErr [] d ≠ 0 then nmErr [] d else if spErr (nms d) d ≠ 0 then spErr (nms d) d else if tops d ≠ 1 then 1 else if Ranked d then 0 else 6
theorem h32 {d : List TypeDecl} (z : Sz d) (h1 : nmErr [] d = 0) (h2 : spErr (nms d) d = 0) : ∀ (xs : List TypeDecl) (i n : Nat), d.drop i = xs → n ≤ i →
    t32_12 d n i = some (open Classical in if n + tops xs ≠ 1 then 1 else if Ranked d then 0 else 6) := by
  have hl := z.len
  intro xs
  induction xs with
  | nil =>
    intro i n h hn
    refine k32_12 _ _ _ ?_
    obtain ⟨out, b1, b2, b3⟩ := c73 z
    have hnd := ((nmErr_zero d []).1 h1).2.1
    have hdec : ∀ t ∈ d, ∀ s ∈ t.Supers, s ∈ nms d := fun t ht => ((spErr_zero _ d).1 h2 t ht).1
    rw [end_drop h, cond_false]
    have e0 : n + tops [] = n := rfl
    rw [e0]
    by_cases hn1 : n = 1
    · rw [cond_neg (by simp; omega), b3, bind_some', if_neg (by omega)]
      by_cases hr : Ranked d
      · have hfull := full_of_ranked hdec b2 hr
        have : (nms d).length ≤ out.length := nodup_length_le hnd fun x hx => by
          obtain ⟨t, ht, rfl⟩ := List.mem_map.1 hx; exact hfull t ht
        simp only [List.length_map] at this
        rw [cond_neg (by simp; omega), if_pos hr]
      · have : out.length < d.length := by
          apply Classical.byContradiction
          intro hc
          apply hr
          refine ranked_of_full hnd b1 fun t ht => ?_
          exact nodup_full b1.nd b1.sub (by simp; omega) _ (List.mem_map_of_mem ht)
        rw [cond_pos (by simp; omega), if_neg hr]
    · rw [cond_pos (by simp; omega), if_pos hn1]
  | cons x xs ih =>
    intro i n h hn
    refine k32_12 _ _ _ ?_
    have hlt := drop_lt h
    rw [in_drop h, cond_true, at_drop h, wrap_drop h (by omega), wrap_succ (by omega)]
    by_cases hx : x.Supers.length = 0
    · rw [cond_pos (by simpa using hx), ih (i + 1) (n + 1) (drop_next h) (by omega)]
      have : tops (x :: xs) = tops xs + 1 := by simp [tops, List.filter_cons, hx]
      rw [this, show n + 1 + tops xs = n + (tops xs + 1) by omega]
    · rw [cond_neg (by simpa using hx), ih (i + 1) n (drop_next h) (by omega)]
      have : tops (x :: xs) = tops xs := by
        have : (x.Supers.length == 0) = false := by simpa using hx
        simp [tops, List.filter_cons, this]
      rw [this]
theorem c32 {d : List TypeDecl} (z : Sz d) : f32 d = some (chk d) := by
  have hl := z.len
  refine e32 _ ?_
  rw [c70, bind_some', c71 d (by omega), bind_some', c72 d (by omega) (fun t ht => by have := z.sup t ht; omega), bind_some']
  unfold chk
  by_cases h0 : bigB d = true
  · rw [if_pos h0, if_pos h0]; rfl
  · rw [if_neg h0, if_neg h0]
    by_cases h1 : nmErr [] d = 0
    · by_cases h2 : spErr (nms d) d = 0
      · have := h32 z h1 h2 d 0 0 rfl (by omega)
        rw [h1, h2, if_neg (by simp), if_neg (by simp)]
        simpa using this
      · rw [if_pos h2, h1, if_neg (by simp)]
        rw [cond_neg (by simp), cond_neg (by simp), cond_pos (by simpa using h2)]
    · rw [if_pos h1, cond_neg (by simp), cond_pos (by simpa using h1)]
/-- accepted declarations -/
structure Acc (d : List TypeDecl) : Prop where
  nd : (nms d).Nodup
  name : ∀ t ∈ d, isName t.Name = true
  dec : ∀ t ∈ d, ∀ s ∈ t.Supers, s ∈ nms d
  top : tops d = 1
  rk : Ranked d
theorem acc_of_chk {d : List TypeDecl} (h : chk d = 0) : Acc d := by
  unfold chk at h
  split at h
  · cases h
  split at h
  · rename_i h1; exact absurd h h1
  split at h
  · rename_i h1; exact absurd h h1
  split at h
  · cases h
  split at h
  · rename_i h0 h1 h2 h3 h4
    have h1' : nmErr [] d = 0 := Classical.byContradiction h1
    have h2' : spErr (nms d) d = 0 := Classical.byContradiction h2
    obtain ⟨a1, a2, _⟩ := (nmErr_zero d []).1 h1'
    exact ⟨a2, a1, fun t ht => ((spErr_zero _ d).1 h2' t ht).1, Classical.byContradiction h3, h4⟩
  · cases h
end Go.Proofs.YtneahmpmicoplaaGreatDoor.cl
