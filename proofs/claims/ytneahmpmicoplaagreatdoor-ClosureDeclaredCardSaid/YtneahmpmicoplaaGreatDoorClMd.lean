/-
  The Closure laws: Orders, Declared.
-/
import Derived.Test.YtneahmpmicoplaaGreatDoorClMc
set_option linter.unusedVariables false
set_option linter.unusedSimpArgs false
set_option linter.unusedSectionVars false
namespace Go.Proofs.YtneahmpmicoplaaGreatDoor.cl
open Go Go.AM
theorem fam_dn {d : List TypeDecl} (A : Acc d) (h64 : d.length ≤ 64) : Fm (cws d) (fam (cws d)) ∧ ∀ w ∈ fam (cws d), Dn d w := by
  have hlen : (cws d).length ≤ 256 := by have := cws_len (d := d); omega
  obtain ⟨F, _, _⟩ := fam_spec (cws_nodup A) cws_nz hlen
  exact ⟨F, F.gen (Dn d) (fun c hc => by
    obtain ⟨x, _, rfl⟩ := List.mem_map.1 hc
    exact dn_cw x) (fun a b => dn_and)⟩
theorem names_nodup {d : List TypeDecl} (A : Acc d) (h64 : d.length ≤ 64) : ((ents d).map (·.1)).Nodup := by
  obtain ⟨F, D⟩ := fam_dn A h64
  have hp := (ents_spec (d := d)).2.map (·.1)
  rw [List.map_map] at hp
  refine hp.nodup_iff.2 (nodup_map F.nd fun x hx y hy h => ?_)
  exact nmW_inj A h64 (Fm_lt F (cws_lt h64) x hx) (Fm_lt F (cws_lt h64) y hy) (F.nz x hx) (F.nz y hy) (D x hx) (D y hy) h
theorem nodup_at {α : Type} {l : List α} (h : l.Nodup) {i k : Nat} (hi : i < l.length) (hk : k < l.length) (e : l[i] = l[k]) : i = k := by
  have h' := List.pairwise_iff_getElem.1 h
  rcases Nat.lt_trichotomy i k with h1 | h1 | h1
  · exact absurd e (h' i k hi hk h1)
  · exact h1
  · exact absurd e.symm (h' k i hk hi h1)
theorem name_at {l : List Coded} (h : (l.map (·.Name)).Nodup) {i k : Nat} (hi : i < l.length) (hk : k < l.length) (e : l[i].Name = l[k].Name) : i = k := by
  have hi' : i < (l.map (·.Name)).length := by simpa using hi
  have hk' : k < (l.map (·.Name)).length := by simpa using hk
  exact nodup_at h hi' hk' (by simpa using e)
/-! ClosureOrders -/
theorem h7b {l : List Coded} {cs : List Nat} (H : Cd l cs) (K : Hier cs) (hnm : (l.map (·.Name)).Nodup) {i : Nat} (hi : i < cs.length) (hnext : t7_7 l l.length ((i + 1 : Nat) : Int) = some true) :
    ∀ (n k : Nat), cs.length - k = n → k ≤ cs.length → t7_12 l i l.length i l.length k = some true := by
  have hl := H.length
  have hlen := H.len
  intro n
  induction n with
  | zero =>
    intro k hk hle
    refine k7_12 _ _ _ _ _ _ ?_
    rw [cond_neg (by rw [decide_eq_false_iff_not]; omega), wrap_succ (by omega)]
    exact hnext
  | succ n ih =>
    intro k hk hle
    refine k7_12 _ _ _ _ _ _ ?_
    have hlt : k < cs.length := by omega
    have hih := ih (k + 1) (by omega) (by omega)
    rw [cond_pos (by rw [decide_eq_true_iff]; omega), wrap_succ (by omega), hih]
    by_cases hne : k = i
    · subst hne; rw [cond_neg (by simp)]
    · have hci := H.get hi
      have hck := H.get hlt
      rw [cond_pos (by simp only [bne_iff_ne]; omega), getK_at (by omega), getK_at (by omega), H.code, H.code, o31 hci hck, bind_some', cond_neg (by
        rw [decide_eq_false_iff_not]; intro e; exact hne (getD_inj K.nd hlt hi e.symm)), getK_at (by omega), getK_at (by omega), cond_neg (by
        rw [beq_eq_false_iff_ne]; intro e; exact hne (name_at hnm (by omega) (by omega) e).symm), o24 H hi hlt, bind_some']
      cases hs : sub (cs.getD k 0) (cs.getD i 0) with
      | false => rfl
      | true =>
        have := K.srt i k hi hlt hs
        rw [cond_true, cond_neg (by rw [decide_eq_false_iff_not]; omega)]
theorem h7 {l : List Coded} {cs : List Nat} (H : Cd l cs) (K : Hier cs) (hnm : (l.map (·.Name)).Nodup) : ∀ (n i : Nat), cs.length - i = n → i ≤ cs.length → t7_7 l l.length i = some true := by
  have hl := H.length
  have hlen := H.len
  intro n
  induction n with
  | zero =>
    intro i hi hle
    refine k7_7 _ _ _ ?_
    rw [cond_neg (by rw [decide_eq_false_iff_not]; omega), c13]; rfl
  | succ n ih =>
    intro i hi hle
    refine k7_7 _ _ _ ?_
    have hlt : i < cs.length := by omega
    have hc := H.get hlt
    have h0 : cntN 64 (cs.getD i 0) ≠ 0 := fun e => K.nz _ (getD_mem0 hlt) ((pc_zero hc).1 e)
    have := h7b H K hnm hlt (ih (i + 1) (by omega) (by omega)) _ 0 rfl (by omega)
    have h24 : f24 l 0 i = some (sub (cs.getD i 0) (cs.getD 0 0)) := o24 (i := 0) H K.pos hlt
    rw [cond_pos (by rw [decide_eq_true_iff]; omega), getK_at (by omega), H.code, o30 hc, bind_some', cond_neg (by rw [beq_eq_false_iff_ne]; omega), h24, bind_some', K.top _ (getD_mem0 hlt), Bool.not_true, cond_false]
    exact this
/-! ClosureDeclared -/
theorem h36 {l : List Coded} (hl : l.length ≤ 1048576) (x : Str) : ∀ (xs : List Coded) (i : Nat), l.drop i = xs → t36_2 l x l.length i = some (ixFrom (fun c => c.Name == x) xs i) := by
  intro xs
  induction xs with
  | nil => intro i h; refine k36_2 _ _ _ _ ?_; rw [end_drop h]; rfl
  | cons y xs ih =>
    intro i h
    refine k36_2 _ _ _ _ ?_
    rw [in_drop h, cond_true, at_drop h, wrap_drop h (by omega), ih (i + 1) (drop_next h), ixFrom]
    cases y.Name == x <;> rfl
theorem o36 {d : List TypeDecl} (A : Acc d) (h64 : d.length ≤ 64) (hle : (fam (cws d)).length ≤ 256) {x : Str} (hx : x ∈ nms d) : ∃ q : Nat, f36 ((ents d).map toC) x = some (q : Int) ∧ q < (tys d).length ∧ (tys d).getD q 0 = cw d (alln d) x := by
  have H := cd_ents A h64 hle
  have hlen := H.len
  have hl := H.length
  obtain ⟨F, D⟩ := fam_dn A h64
  have hmem : ((x, cw d (alln d) x) : Ent) ∈ ents d := by
    refine (ents_spec (d := d)).2.mem_iff.2 (List.mem_map.2 ⟨cw d (alln d) x, ?_, ?_⟩)
    · obtain ⟨e, he⟩ := F.pre
      rw [he]
      refine List.mem_append_left _ (List.mem_map.2 ⟨x, ?_, rfl⟩)
      obtain ⟨i, hi, rfl⟩ := idx_all hx
      rw [List.getD_eq_getElem?_getD, List.getElem?_eq_getElem hi]
      exact List.getElem_mem hi
    · have : nmW d (cw d (alln d) x) = x := by
        rw [nmW_eq A h64 (dn_cw x), maxi_cw A h64 hx]; rfl
      show (nmW d (cw d (alln d) x), cw d (alln d) x) = _
      rw [this]
  obtain ⟨j, hj, e⟩ := ix_some (fun c : Coded => c.Name == x) ((ents d).map toC) 0 ⟨toC (x, cw d (alln d) x), List.mem_map.2 ⟨_, hmem, rfl⟩, by simp [toC]⟩
  have e' : ixFrom (fun c : Coded => c.Name == x) ((ents d).map toC) 0 = (j : Int) := by
    have := e.1
    simpa using this
  obtain ⟨_, c, hc, hcx⟩ := ix_get _ _ _ _ e'
  refine ⟨j, e36 _ _ ?_, by rw [← tys_length]; exact hj, ?_⟩
  · have := h36 (l := (ents d).map toC) (by omega) x ((ents d).map toC) 0 rfl
    rw [e'] at this
    exact this
  · obtain ⟨p, hp, hpe⟩ := List.mem_iff_getElem.1 hmem
    have hje : j < (ents d).length := by simpa using hj
    rw [Nat.sub_zero, List.getElem?_map, List.getElem?_eq_getElem hje] at hc
    have hcn : (ents d)[j].1 = x := by
      have h1 : c = toC (ents d)[j] := (Option.some.inj hc).symm
      rw [h1] at hcx
      exact beq_iff_eq.1 hcx
    have hnd := names_nodup A h64
    have hjp : j = p := by
      have hj' : j < ((ents d).map (·.1)).length := by simpa using hje
      have hp' : p < ((ents d).map (·.1)).length := by simpa using hp
      refine nodup_at hnd hj' hp' ?_
      rw [List.getElem_map, List.getElem_map, hcn, hpe]
    subst hjp
    show ((ents d).map (·.2)).getD j 0 = _
    rw [List.getD_eq_getElem?_getD, List.getElem?_map, List.getElem?_eq_getElem hje, hpe]; rfl
theorem name_mem {d : List TypeDecl} {t : TypeDecl} (h : t ∈ d) : t.Name ∈ nms d := List.mem_map.2 ⟨t, h, rfl⟩
theorem h11b {d : List TypeDecl} (z : Sz d) (A : Acc d) (h64 : d.length ≤ 64) (hle : (fam (cws d)).length ≤ 256) {i a : Nat} {x : Str} {up : List Str} (hx : x ∈ nms d) (ha : a < (tys d).length) (hac : (tys d).getD a 0 = cw d (alln d) x) (hup : ∀ y, y ∈ up ↔ Le d y x) (hul : up.length ≤ d.length)
    (hi : i < d.length) (hnext : t11_7 d ((ents d).map toC) d.length ((i + 1 : Nat) : Int) = some true) : ∀ (xs : List TypeDecl) (k : Nat), d.drop k = xs → t11_12 d ((ents d).map toC) up a d.length i d.length k = some true := by
  have H : Cd ((ents d).map toC) (tys d) := cd_ents A h64 hle
  intro xs
  induction xs with
  | nil =>
    intro k h
    refine k11_12 _ _ _ _ _ _ _ _ ?_
    rw [end_drop h, cond_false, wrap_succ (by omega)]
    exact hnext
  | cons t xs ih =>
    intro k h
    refine k11_12 _ _ _ _ _ _ _ _ ?_
    have hyn := name_mem (List.mem_of_getElem? (drop_get h))
    obtain ⟨b, hb1, hb2, hb3⟩ := o36 A h64 hle hyn
    have ht : (decide (t.Name ∈ up)) = sub ((tys d).getD a 0) ((tys d).getD b 0) := by
      rw [hac, hb3, Bool.eq_iff_iff, cw_sub hx, decide_eq_true_iff, hup]
    rw [in_drop h, cond_true, at_drop h, hb1, bind_some', cond_neg (by simp), cond_neg (by simp), o24 H hb2 ha, bind_some', at_drop h, c37 _ _ (by omega), bind_some', ht, cond_neg (by rw [beq_self_eq_true]; rfl), wrap_drop h (by omega)]
    exact ih (k + 1) (drop_next h)
theorem h11 {d : List TypeDecl} (z : Sz d) (A : Acc d) (h64 : d.length ≤ 64) (hle : (fam (cws d)).length ≤ 256) : ∀ (xs : List TypeDecl) (i : Nat), d.drop i = xs → t11_7 d ((ents d).map toC) d.length i = some true := by
  intro xs
  induction xs with
  | nil => intro i h; refine k11_7 _ _ _ _ ?_; rw [end_drop h, cond_false, c13]; rfl
  | cons t xs ih =>
    intro i h
    refine k11_7 _ _ _ _ ?_
    have hyn := name_mem (List.mem_of_getElem? (drop_get h))
    obtain ⟨b, hb1, hb2, hb3⟩ := o36 A h64 hle hyn
    obtain ⟨up, hu1, _, hu3, hu4⟩ := i35 z A hyn
    rw [in_drop h, cond_true, at_drop h, hu1, bind_some', at_drop h, hb1, bind_some']
    exact h11b z A h64 hle hyn hb2 hb3 hu3 hu4 (List.getElem?_eq_some_iff.1 (drop_get h)).1 (ih (i + 1) (drop_next h)) _ 0 rfl
theorem law11 {d : List TypeDecl} : f11 d = some true := by
  refine e11 _ ?_
  rw [c12, bind_some']
  cases hL : (lightB d && decide (d.length ≤ 12)) with
  | false => rw [Bool.not_false, cond_true, c13]; rfl
  | true =>
    obtain ⟨z, hlen⟩ := light_sz hL
    rw [Bool.not_true, cond_false, c32 z, bind_some']
    by_cases h0 : chk d = 0
    · rw [h0, cond_neg (by simp)]
      by_cases h1 : (fam (cws d)).length ≤ 256
      · have A := acc_of_chk h0
        rw [o14 z hlen h0 h1, bind_some', cond_neg (by simp)]
        exact h11 z A (by omega) h1 _ 0 rfl
      · rw [i14 z (by omega), c15 z (by omega), if_neg (by simpa using h0), if_pos (by omega), bind_some', cond_pos (by simp), cond_pos (by simp), c13]; rfl
    · rw [cond_pos (by simpa using h0), c13]; rfl
end Go.Proofs.YtneahmpmicoplaaGreatDoor.cl
