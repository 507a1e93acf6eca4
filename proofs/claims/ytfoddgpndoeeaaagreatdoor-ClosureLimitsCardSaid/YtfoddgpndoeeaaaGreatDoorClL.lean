/-
  The Closure laws: names and order of the types (ref04.name, before, Codes); accepted declarations give a completed hierarchy.
-/
import Derived.Test.YtfoddgpndoeeaaaGreatDoorClK
set_option linter.unusedVariables false
set_option linter.unusedSimpArgs false
set_option linter.unusedSectionVars false
namespace Go.Proofs.YtfoddgpndoeeaaaGreatDoor.cl
open Go Go.AM

/-! names -/
def tailA (l : List Str) : Str := (l.map fun x => 38 :: x).flatten
theorem joinB_cons (x : Str) (l : List Str) : joinB [38] (x :: l) = x ++ tailA l := by
  induction l generalizing x with
  | nil => simp [joinB, tailA]
  | cons y l ih =>
    rw [show joinB [38] (x :: y :: l) = x ++ [38] ++ joinB [38] (y :: l) from rfl, ih y]
    simp [tailA]
noncomputable def nameFrom (d : List TypeDecl) (w : Nat) : List Str → List Nat → Nat → List Str → Str
  | s :: ss, c :: cs, i, acc => if c = w then s else nameFrom d w ss cs (i + 1) (if w.testBit i = true then acc ++ [s] else acc)
  | _, _, _, acc => joinB [38] (maxi d acc)
theorem maxi_sub {d : List TypeDecl} {l : List Str} {x : Str} (h : x ∈ maxi d l) : x ∈ l := by
  have := (List.mem_filter.1 h).1
  exact (List.mem_filter.1 (mem_sortS.1 this)).1
theorem maxi_length {d : List TypeDecl} {l : List Str} : (maxi d l).length ≤ l.length := by
  refine Nat.le_trans (List.length_filter_le _ _) (Nat.le_trans (sortS_length _) (List.length_filter_le _ _))
noncomputable def nameW (d : List TypeDecl) (all : List Str) (cws : List Nat) (w : Nat) : Str := nameFrom d w all cws 0 []
/-! the order -/
abbrev Ent := Str × Nat
def toC (p : Ent) : Coded := ⟨p.1, e1 p.2⟩
def ltE (p q : Ent) : Bool := decide (pc p.2 > pc q.2) || (decide (pc p.2 = pc q.2) && Op.bytesLess p.1 q.1)
theorem ltE_iff {p q : Ent} : ltE p q = true ↔ pc p.2 > pc q.2 ∨ (pc p.2 = pc q.2 ∧ Op.bytesLess p.1 q.1 = true) := by
  simp [ltE]
theorem ltE_asymm (p q : Ent) (h : ltE p q = true) : ltE q p = false := by
  apply Classical.byContradiction
  intro hc
  rw [Bool.not_eq_false, ltE_iff] at hc
  rw [ltE_iff] at h
  rcases h with h | ⟨h1, h2⟩
  · rcases hc with h' | ⟨h1', _⟩ <;> omega
  · rcases hc with h' | ⟨h1', h2'⟩
    · omega
    · rw [bl_asymm h2] at h2'; cases h2'
theorem ltE_up (x y z : Ent) (h : ltE x y = true) (h' : ltE z y = false) : ltE x z = true := by
  rw [ltE_iff] at h ⊢
  have hn : ¬ (pc z.2 > pc y.2 ∨ (pc z.2 = pc y.2 ∧ Op.bytesLess z.1 y.1 = true)) := fun hc => by
    rw [← ltE_iff, h'] at hc; cases hc
  simp only [not_or, not_and] at hn
  rcases h with h | ⟨h1, h2⟩
  · left; omega
  · by_cases e : pc z.2 = pc y.2
    · right
      refine ⟨by omega, ?_⟩
      have hz := hn.2 e
      have hz' : Op.bytesLess z.1 y.1 = false := by simpa using hz
      by_cases e2 : z.1 = y.1
      · rw [e2]; exact h2
      · exact bl_trans _ _ _ h2 (bl_total _ _ hz' e2)
    · left; omega
theorem insL_perm {α : Type} (lt : α → α → Bool) (x : α) : ∀ l : List α, (insL lt x l).Perm (x :: l) := by
  intro l
  induction l with
  | nil => exact .refl _
  | cons y l ih =>
    unfold insL
    split
    · exact .refl _
    · exact (ih.cons y).trans (.swap x y l)
theorem foldl_ins {E : List Ent} {l : List Ent} (hE : Sorted ltE E) : Sorted ltE (l.foldl (fun E p => insL ltE p E) E) ∧ (l.foldl (fun E p => insL ltE p E) E).Perm (E ++ l) := by
  induction l generalizing E with
  | nil => exact ⟨hE, by simp⟩
  | cons p l ih =>
    obtain ⟨h1, h2⟩ := ih (insL_sorted ltE ltE_asymm ltE_up hE (x := p))
    refine ⟨h1, h2.trans ?_⟩
    refine ((insL_perm ltE p E).append_right l).trans ?_
    exact (List.perm_middle (a := p) (l₁ := E) (l₂ := l)).symm
/-! all -/
abbrev alln (d : List TypeDecl) : List Str := sortS (nms d)
noncomputable def cws (d : List TypeDecl) : List Nat := (alln d).map (cw d (alln d))
noncomputable def ents (d : List TypeDecl) : List Ent := ((fam (cws d)).map fun w => ((nameW d (alln d) (cws d) w, w) : Ent)).foldl (fun E p => insL ltE p E) []
theorem alln_length {d : List TypeDecl} : (alln d).length ≤ d.length := by
  have := sortS_length (nms d)
  simpa using this
theorem cws_lt {d : List TypeDecl} (h : d.length ≤ 64) : ∀ c ∈ cws d, c < 18446744073709551616 := by
  intro c hc
  obtain ⟨x, _, rfl⟩ := List.mem_map.1 hc
  exact cw_lt (by have := alln_length (d := d); omega)
theorem isName_len {s : Str} (h : isName s = true) : s.length ≤ 32 := by
  unfold isName at h
  simp only [Bool.and_eq_true, decide_eq_true_eq] at h
  exact h.1.1.1.2
theorem Fm_lt {cs l : List Nat} (hF : Fm cs l) (h : ∀ c ∈ cs, c < 18446744073709551616) : ∀ c ∈ l, c < 18446744073709551616 :=
  hF.gen (fun c => c < 18446744073709551616) h fun a b ha _ => Nat.lt_of_le_of_lt Nat.and_le_left ha

/-! accepted declarations: a completed hierarchy -/
theorem getD_all {d : List TypeDecl} {i : Nat} (h : i < (alln d).length) : (alln d).getD i [] ∈ nms d := by
  rw [List.getD_eq_getElem?_getD, List.getElem?_eq_getElem h]
  exact mem_sortS.1 (List.getElem_mem h)
theorem idx_all {d : List TypeDecl} {x : Str} (h : x ∈ nms d) : ∃ i, i < (alln d).length ∧ (alln d).getD i [] = x := by
  obtain ⟨i, hi, e⟩ := List.mem_iff_getElem.1 (mem_sortS.2 h)
  exact ⟨i, hi, by rw [List.getD_eq_getElem?_getD, List.getElem?_eq_getElem hi]; exact e⟩
theorem cw_sub {d : List TypeDecl} {x y : Str} (hy : y ∈ nms d) : sub (cw d (alln d) y) (cw d (alln d) x) = true ↔ Le d x y := by
  rw [sub_bit]
  constructor
  · intro h
    obtain ⟨i, hi, e⟩ := idx_all hy
    have := h i (cw_bit.2 ⟨hi, by rw [e]; exact .refl⟩)
    rw [cw_bit, e] at this; exact this.2
  · intro h i hi
    rw [cw_bit] at hi ⊢
    exact ⟨hi.1, Rch.trans h hi.2⟩
theorem cw_inj {d : List TypeDecl} (A : Acc d) {x y : Str} (hx : x ∈ nms d) (hy : y ∈ nms d) (h : cw d (alln d) x = cw d (alln d) y) : x = y :=
  le_antisymm A ((cw_sub hy).1 (by rw [h]; exact sub_refl _)) ((cw_sub hx).1 (by rw [h]; exact sub_refl _))
theorem nodup_map {α β : Type} {f : α → β} : ∀ {l : List α}, l.Nodup → (∀ x ∈ l, ∀ y ∈ l, f x = f y → x = y) → (l.map f).Nodup := by
  intro l
  induction l with
  | nil => intro _ _; simp
  | cons x l ih =>
    intro hn hi
    have hn' := List.nodup_cons.1 hn
    rw [List.map_cons, List.nodup_cons]
    refine ⟨fun hm => ?_, ih hn'.2 fun a ha b hb => hi a (by simp [ha]) b (by simp [hb])⟩
    obtain ⟨y, hy, e⟩ := List.mem_map.1 hm
    exact hn'.1 (hi y (by simp [hy]) x (by simp) e ▸ hy)
theorem cws_nodup {d : List TypeDecl} (A : Acc d) : (cws d).Nodup := nodup_map (sortS_sorted _).nodup fun x hx y hy h => cw_inj A (mem_sortS.1 hx) (mem_sortS.1 hy) h
theorem cws_nz {d : List TypeDecl} : ∀ c ∈ cws d, c ≠ 0 := by
  intro c hc
  obtain ⟨x, hx, rfl⟩ := List.mem_map.1 hc
  intro e
  obtain ⟨i, hi, e'⟩ := idx_all (mem_sortS.1 hx)
  have : (cw d (alln d) x).testBit i = true := cw_bit.2 ⟨hi, by rw [e']; exact .refl⟩
  rw [e] at this; simp at this
theorem cws_len {d : List TypeDecl} : (cws d).length ≤ d.length := by
  have := alln_length (d := d)
  simpa [cws] using this
theorem ents_spec {d : List TypeDecl} : Sorted ltE (ents d) ∧ (ents d).Perm ((fam (cws d)).map fun w => ((nameW d (alln d) (cws d) w, w) : Ent)) := by
  have := foldl_ins (E := []) (l := (fam (cws d)).map fun w => ((nameW d (alln d) (cws d) w, w) : Ent)) (by simp [Sorted])
  simpa [ents] using this
theorem ents_perm {d : List TypeDecl} : ((ents d).map (·.2)).Perm (fam (cws d)) := by
  have := (ents_spec (d := d)).2.map (·.2)
  simpa [Function.comp_def] using this
theorem hier {d : List TypeDecl} (A : Acc d) (h64 : d.length ≤ 64) (hle : (fam (cws d)).length ≤ 256) : Hier ((ents d).map (·.2)) := by
  have hlen : (cws d).length ≤ 256 := by have := cws_len (d := d); omega
  obtain ⟨F, _, F3⟩ := fam_spec (cws_nodup A) cws_nz hlen
  have hP := ents_perm (d := d)
  have hmem : ∀ c, c ∈ (ents d).map (·.2) ↔ c ∈ fam (cws d) := fun c => hP.mem_iff
  have hlt := Fm_lt F (cws_lt h64)
  have hnd : ((ents d).map (·.2)).Nodup := hP.nodup_iff.2 F.nd
  have hgetD : ∀ (i : Nat) (hi : i < ((ents d).map (·.2)).length), ((ents d).map (·.2)).getD i 0 = ((ents d)[i]'(by simpa using hi)).2 := by
    intro i hi
    rw [List.getD_eq_getElem?_getD, List.getElem?_eq_getElem hi]; simp
  have hsrt : ∀ i j, i < ((ents d).map (·.2)).length → j < ((ents d).map (·.2)).length → sub (((ents d).map (·.2)).getD j 0) (((ents d).map (·.2)).getD i 0) = true → i ≤ j := by
    intro i j hi hj hs
    apply Classical.byContradiction
    intro hc
    have hji : j < i := by omega
    have hpw := List.pairwise_iff_getElem.1 (ents_spec (d := d)).1 j i (by simpa using hj) (by simpa using hi) hji
    have hne : ((ents d).map (·.2)).getD j 0 ≠ ((ents d).map (·.2)).getD i 0 := fun e => by
      have := getD_inj hnd hj hi e; omega
    have hp := pc_lt (hlt _ ((hmem _).1 (getD_mem0 hi))) hs hne
    rw [hgetD i hi, hgetD j hj] at hp
    have : ltE ((ents d)[i]'(by simpa using hi)) ((ents d)[j]'(by simpa using hj)) = true := ltE_iff.2 (.inl hp)
    rw [this] at hpw; cases hpw
  obtain ⟨t, ht, hroot⟩ := root A
  have hr : cw d (alln d) t ∈ fam (cws d) := by
    obtain ⟨e, he⟩ := F.pre
    rw [he]; exact List.mem_append_left _ (List.mem_map_of_mem (mem_sortS.2 ht))
  have hsub : ∀ c ∈ fam (cws d), sub c (cw d (alln d) t) = true := F.gen (fun c => sub c (cw d (alln d) t) = true) (fun c hc => by
    obtain ⟨x, hx, rfl⟩ := List.mem_map.1 hc
    exact (cw_sub (mem_sortS.1 hx)).2 (hroot x (mem_sortS.1 hx))) (fun a b ha _ => sub_trans (sub_and_left a b) ha)
  have hpos : 0 < ((ents d).map (·.2)).length := List.length_pos_of_mem ((hmem _).2 hr)
  obtain ⟨k, hk, hke⟩ : ∃ k, k < ((ents d).map (·.2)).length ∧ ((ents d).map (·.2)).getD k 0 = cw d (alln d) t := by
    obtain ⟨k, hk, h1, _⟩ := fnd_mem ((hmem _).2 hr); exact ⟨k, hk, h1⟩
  have hk0 : k = 0 := by
    have := hsrt k 0 hk hpos (by rw [hke]; exact hsub _ ((hmem _).1 (getD_mem0 hpos)))
    omega
  subst hk0
  refine ⟨hnd, fun c hc => F.nz c ((hmem c).1 hc), fun a ha b hb hne => (hmem _).2 (F3 hle a ((hmem a).1 ha) b ((hmem b).1 hb) hne), fun c hc => by rw [hke]; exact hsub c ((hmem c).1 hc), hpos, hsrt⟩
theorem cd_ents {d : List TypeDecl} (A : Acc d) (h64 : d.length ≤ 64) (hle : (fam (cws d)).length ≤ 256) : Cd ((ents d).map toC) ((ents d).map (·.2)) := by
  have hlen : (cws d).length ≤ 256 := by have := cws_len (d := d); omega
  obtain ⟨F, _, F3⟩ := fam_spec (cws_nodup A) cws_nz hlen
  have hP := ents_perm (d := d)
  refine ⟨by simp [Function.comp_def, toC], fun c hc => Fm_lt F (cws_lt h64) c (hP.mem_iff.1 hc), ?_⟩
  rw [hP.length_eq]; omega
end Go.Proofs.YtfoddgpndoeeaaaGreatDoor.cl
