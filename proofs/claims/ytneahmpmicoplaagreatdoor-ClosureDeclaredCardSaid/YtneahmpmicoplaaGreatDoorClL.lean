/-
  The Closure laws: names and order of the types (ref04.name, before, Codes); accepted declarations give a completed hierarchy.
-/
import Derived.Test.YtneahmpmicoplaaGreatDoorClK
set_option linter.unusedVariables false
set_option linter.unusedSimpArgs false
set_option linter.unusedSectionVars false
namespace Go.Proofs.YtneahmpmicoplaaGreatDoor.cl
open Go Go.AM
/-! names -/
def tailA (l : List Str) : Str := (l.map fun x => 38 :: x).flatten
theorem joinB_cons (x : Str) (l : List Str) : joinB [38] (x :: l) = x ++ tailA l := by
  induction l generalizing x with
  | nil => simp [joinB, tailA]
  | cons y l ih =>
    rw [show joinB [38] (x :: y :: l) = x ++ [38] ++ joinB [38] (y :: l) from rfl, ih y]
    simp [tailA]
theorem h55c (l : List Str) (hl : l.length ≤ 1048576) (hx : ∀ x ∈ l, x.length ≤ 1000) : ∀ (xs : List Str) (i : Nat) (s : Str), l.drop i = xs → 0 < i → s.length ≤ 1001 * i → t55_12 l s i = some (s ++ tailA xs) := by
  intro xs
  induction xs with
  | nil => intro i s h hi hs; refine k55_12 _ _ _ ?_; rw [end_drop h]; simp [tailA]
  | cons x xs ih =>
    intro i s h hi hs
    refine k55_12 _ _ _ ?_
    have hlt := drop_lt h
    have hxl := hx x (List.mem_of_getElem? (drop_get h))
    rw [in_drop h, cond_true, cond_pos (by simp; omega), check_pos (by simp; omega), at_drop h, check_pos (by simp; omega), wrap_drop h (by omega), ih (i + 1) _ (drop_next h) (by omega) (by simp; omega)]
    simp [tailA]
theorem c55c (l : List Str) (hl : l.length ≤ 1048576) (hx : ∀ x ∈ l, x.length ≤ 1000) : t55_12 l [] 0 = some (joinB [38] l) := by
  refine k55_12 _ _ _ ?_
  cases hl' : l with
  | nil => rfl
  | cons x xs =>
    have h : l.drop 0 = x :: xs := hl'
    rw [← hl']
    have h0 : ((0 : Nat) : Int) = 0 := rfl
    have h1 := in_drop h
    have h2 := @at_drop _ R55.T _ _ _ _ h
    rw [h0] at h1 h2
    rw [h1, cond_true, cond_neg (by simp), h2, check_pos (by have := hx x (by rw [hl']; simp); simp; omega)]
    have := h55c l hl hx xs 1 ([] ++ x) (drop_next h) (by omega) (by have := hx x (by rw [hl']; simp); simp; omega)
    rw [hl', joinB_cons, ← hl']
    exact this
noncomputable def nameFrom (d : List TypeDecl) (w : Nat) : List Str → List Nat → Nat → List Str → Str
  | s :: ss, c :: cs, i, acc => if c = w then s else nameFrom d w ss cs (i + 1) (if w.testBit i = true then acc ++ [s] else acc)
  | _, _, _, acc => joinB [38] (maxi d acc)
theorem maxi_sub {d : List TypeDecl} {l : List Str} {x : Str} (h : x ∈ maxi d l) : x ∈ l := by
  have := (List.mem_filter.1 h).1
  exact (List.mem_filter.1 (mem_sortS.1 this)).1
theorem maxi_length {d : List TypeDecl} {l : List Str} : (maxi d l).length ≤ l.length := by
  refine Nat.le_trans (List.length_filter_le _ _) (Nat.le_trans (sortS_length _) (List.length_filter_le _ _))
theorem subs_eq {c w : Nat} (hc : c < 18446744073709551616) (hw : w < 18446744073709551616) : f102 (e1 c) (e1 w) = some (decide (c = w)) := by
  have h1 := e1_length c
  have h2 := e1_length w
  rw [c102 _ _ (by omega) (by omega), subs_both (wds_e1 hc) (wds_e1 hw), norm_e1, norm_e1]
  congr 1
  rw [decide_eq_decide]
  exact ⟨e1_inj, fun h => by rw [h]⟩
theorem h55 {d : List TypeDecl} (z : Sz d) (A : Acc d) {all : List Str} {cws : List Nat} (hlen : cws.length = all.length) (h64 : all.length ≤ 64) (hnm : ∀ x ∈ all, x.length ≤ 1000) (hlt : ∀ c ∈ cws, c < 18446744073709551616) {w : Nat} (hw : w < 18446744073709551616) :
    ∀ (xs : List Str) (ys : List Nat) (i : Nat) (acc : List Str), all.drop i = xs → cws.drop i = ys → i ≤ all.length → acc.length ≤ i → (∀ x ∈ acc, x.length ≤ 1000) → t55_3 d all (cws.map e1) (e1 w) i acc = some (nameFrom d w xs ys i acc) := by
  intro xs
  induction xs with
  | nil =>
    intro ys i acc h h' hile hacc hx
    refine k55_3 _ _ _ _ _ _ ?_
    have hge := drop_ge h
    have hys : ys = [] := by rw [← h']; exact List.drop_eq_nil_of_le (by omega)
    subst hys
    rw [end_drop h, cond_false, c104 z A acc (by omega)]
    simp only [bind_some']
    rw [c55c _ (by have := maxi_length (d := d) (l := acc); omega) (fun x hm => hx x (maxi_sub hm))]
    rfl
  | cons x xs ih =>
    intro ys i acc h h' hile hacc hx
    refine k55_3 _ _ _ _ _ _ ?_
    have hlt' := drop_lt h
    cases ys with
    | nil => have := drop_ge h'; omega
    | cons c ys =>
      have hm : (cws.map e1).drop i = e1 c :: ys.map e1 := by rw [← List.map_drop, h']; rfl
      rw [in_drop h, cond_true, at_drop hm, subs_eq (hlt c (List.mem_of_getElem? (drop_get h'))) hw, bind_some', at_drop h, c103 hw (by omega), bind_some', at_drop h, wrap_drop h (by omega)]
      show _ = some (if c = w then x else nameFrom d w xs ys (i + 1) (if w.testBit i = true then acc ++ [x] else acc))
      by_cases e : c = w
      · rw [cond_pos (by simpa using e), if_pos e]
      · rw [cond_neg (by simpa using e), if_neg e]
        cases hb : w.testBit i with
        | true =>
          rw [cond_true, chk_app _ (by omega) (by simp) (by omega), ih ys (i + 1) (acc ++ [x]) (drop_next h) (drop_next h') (by omega) (by simp; omega) (fun y hy => by
            rcases List.mem_append.1 hy with hy | hy
            · exact hx y hy
            · simp only [List.mem_singleton] at hy; subst hy; exact hnm y (List.mem_of_getElem? (drop_get h)))]
          simp
        | false =>
          rw [cond_false, ih ys (i + 1) acc (drop_next h) (drop_next h') (by omega) (by omega) hx]
          simp
noncomputable def nameW (d : List TypeDecl) (all : List Str) (cws : List Nat) (w : Nat) : Str := nameFrom d w all cws 0 []
theorem c55 {d : List TypeDecl} (z : Sz d) (A : Acc d) {all : List Str} {cws : List Nat} (hlen : cws.length = all.length) (h64 : all.length ≤ 64) (hnm : ∀ x ∈ all, x.length ≤ 1000) (hlt : ∀ c ∈ cws, c < 18446744073709551616) {w : Nat} (hw : w < 18446744073709551616) :
    f55 d all (cws.map e1) (e1 w) = some (nameW d all cws w) := e55 _ _ _ _ (h55 z A hlen h64 hnm hlt hw all cws 0 [] rfl rfl (by omega) (by simp) (fun x hx => by cases hx))
/-! the order -/
abbrev Ent := Str × Nat
def toC (p : Ent) : Coded := ⟨p.1, e1 p.2⟩
def ltE (p q : Ent) : Bool := decide (pc p.2 > pc q.2) || (decide (pc p.2 = pc q.2) && Op.bytesLess p.1 q.1)
theorem c56 {p q : Ent} (hp : p.2 < 18446744073709551616) (hq : q.2 < 18446744073709551616) : f56 (toC p) (toC q) = some (ltE p q) := by
  refine e56 _ _ ?_
  show Option.bind (f105 (e1 p.2)) _ = _
  rw [c105 hp, bind_some']
  show Option.bind (f105 (e1 q.2)) _ = _
  rw [c105 hq, bind_some']
  unfold ltE
  by_cases h1 : pc p.2 > pc q.2
  · rw [cond_pos (by simp; omega)]; simp [h1]
  · rw [cond_neg (by simp; omega)]
    by_cases h2 : pc p.2 = pc q.2
    · rw [cond_pos (by rw [beq_iff_eq, h2])]
      simp [h2, toC]
    · rw [cond_neg (by rw [beq_eq_false_iff_ne]; exact fun h => h2 (Int.ofNat.inj h))]; simp [h1, h2]
theorem ltE_iff {p q : Ent} : ltE p q = true ↔ pc p.2 > pc q.2 ∨ (pc p.2 = pc q.2 ∧ Op.bytesLess p.1 q.1 = true) := by
  simp [ltE]
theorem ltE_asymm (p q : Ent) (h : ltE p q = true) : ltE q p = false := by
  apply Classical.byContradiction
  intro hc
  rw [Bool.not_eq_false, ltE_iff] at hc
  rw [ltE_iff] at h
  rcases h with h | ⟨h1, h2⟩
  · rcases hc with h' | ⟨h1', _⟩ <;> omega
  · rcases hc with h' | ⟨h1', h2'⟩
    · omega
    · rw [bl_asymm h2] at h2'; cases h2'
theorem ltE_up (x y z : Ent) (h : ltE x y = true) (h' : ltE z y = false) : ltE x z = true := by
  rw [ltE_iff] at h ⊢
  have hn : ¬ (pc z.2 > pc y.2 ∨ (pc z.2 = pc y.2 ∧ Op.bytesLess z.1 y.1 = true)) := fun hc => by
    rw [← ltE_iff, h'] at hc; cases hc
  simp only [not_or, not_and] at hn
  rcases h with h | ⟨h1, h2⟩
  · left; omega
  · by_cases e : pc z.2 = pc y.2
    · right
      refine ⟨by omega, ?_⟩
      have hz := hn.2 e
      have hz' : Op.bytesLess z.1 y.1 = false := by simpa using hz
      by_cases e2 : z.1 = y.1
      · rw [e2]; exact h2
      · exact bl_trans _ _ _ h2 (bl_total _ _ hz' e2)
    · left; omega
theorem insL_perm {α : Type} (lt : α → α → Bool) (x : α) : ∀ l : List α, (insL lt x l).Perm (x :: l) := by
  intro l
  induction l with
  | nil => exact .refl _
  | cons y l ih =>
    unfold insL
    split
    · exact .refl _
    · exact (ih.cons y).trans (.swap x y l)
theorem h15c {d : List TypeDecl} {all : List Str} {codes f : List (List Int)} {E : List Ent} {p : Ent} {i : Nat} (hE : Sorted ltE E) (hlt : ∀ q ∈ E, q.2 < 18446744073709551616) (hp : p.2 < 18446744073709551616) (hEl : E.length ≤ 1048576) (hi : i ≤ 1048576) :
    ∀ (v : Nat), v ≤ E.length → (∀ q ∈ E.drop v, ltE p q = true) → ∀ r, t15_15 d all codes f ((insL ltE p E).map toC) (i + 1 : Nat) = some r → t15_19 d all codes f (E.map toC) i v (toC p) = some r := by
  have fin : ∀ (v : Nat), v ≤ E.length → (∀ q ∈ E.take v, ltE p q = false) → (∀ q ∈ E.drop v, ltE p q = true) →
      (((([] : List Coded) ++ (((E.map toC).take (Int.toNat (v : Int))).drop 0)) ++ [toC p]) ++ (((E.map toC).take (List.length (E.map toC))).drop (Int.toNat (v : Int)))) = (insL ltE p E).map toC := by
    intro v hv h1 h2
    have := insL_split ltE h1 h2
    rw [List.take_append_drop] at this
    rw [this, List.take_length]
    simp
  intro v
  induction v with
  | zero =>
    intro hv h r hr
    refine k15_19 _ _ _ _ _ _ _ _ ?_
    rw [← fin 0 (by omega) (by simp) h] at hr
    rw [cond_neg (by simp), check_pos (by simp), check_pos (by simp), check_pos (by simp), check_pos (by simp), check_pos (by simp; omega), wrap_succ (by omega)]
    exact hr
  | succ v ih =>
    intro hv h r hr
    refine k15_19 _ _ _ _ _ _ _ _ ?_
    have hvl : v < E.length := by omega
    have hget : (E.map toC)[v]? = some (toC E[v]) := by rw [List.getElem?_map, List.getElem?_eq_getElem hvl]; rfl
    rw [cond_pos (by simp), wrap_pred (by omega), getK_nat hget, c56 hp (hlt _ (List.getElem_mem hvl)), bind_some']
    cases hb : ltE p E[v] with
    | true =>
      rw [cond_true]
      refine ih (by omega) ?_ r hr
      intro q hq
      rw [List.drop_eq_getElem_cons hvl] at hq
      rcases List.mem_cons.1 hq with rfl | hq
      · exact hb
      · exact h q hq
    | false =>
      have hpre : ∀ q ∈ E.take (v + 1), ltE p q = false := by
        intro q hq
        rw [List.mem_take_iff_getElem] at hq
        obtain ⟨k, hk, rfl⟩ := hq
        by_cases hkv : k = v
        · subst hkv; exact hb
        · have hs : ltE E[v] E[k] = false := by
            have := List.pairwise_iff_getElem.1 hE k v (by omega) hvl (by omega)
            exact this
          cases hc : ltE p E[k] with
          | false => rfl
          | true =>
            have := ltE_up _ _ _ hc hs
            rw [hb] at this; cases this
      rw [← fin (v + 1) (by omega) hpre h] at hr
      rw [cond_false, check_pos (by simp; omega), check_pos (by simp; omega), check_pos (by simp; omega), check_pos (by simp; omega), check_pos (by simp; omega), wrap_succ (by omega)]
      exact hr
theorem foldl_ins {E : List Ent} {l : List Ent} (hE : Sorted ltE E) : Sorted ltE (l.foldl (fun E p => insL ltE p E) E) ∧ (l.foldl (fun E p => insL ltE p E) E).Perm (E ++ l) := by
  induction l generalizing E with
  | nil => exact ⟨hE, by simp⟩
  | cons p l ih =>
    obtain ⟨h1, h2⟩ := ih (insL_sorted ltE ltE_asymm ltE_up hE (x := p))
    refine ⟨h1, h2.trans ?_⟩
    refine ((insL_perm ltE p E).append_right l).trans ?_
    exact (List.perm_middle (a := p) (l₁ := E) (l₂ := l)).symm
theorem h15b {d : List TypeDecl} (z : Sz d) (A : Acc d) {all : List Str} {cws F : List Nat} (hlen : cws.length = all.length) (h64 : all.length ≤ 64) (hnm : ∀ x ∈ all, x.length ≤ 1000) (hlt : ∀ c ∈ cws, c < 18446744073709551616)
    (hF : ∀ w ∈ F, w < 18446744073709551616) (hFl : F.length ≤ 1000) : ∀ (xs : List Nat) (i : Nat) (E : List Ent), F.drop i = xs → E.length ≤ i → i ≤ F.length → Sorted ltE E → (∀ q ∈ E, q.2 < 18446744073709551616) →
    t15_15 d all (cws.map e1) (F.map e1) (E.map toC) i = some (((xs.map fun w => ((nameW d all cws w, w) : Ent)).foldl (fun E p => insL ltE p E) E).map toC, 0) := by
  intro xs
  induction xs with
  | nil =>
    intro i E h hEl hi hE hq
    refine k15_15 _ _ _ _ _ _ ?_
    have hm : (F.map e1).drop i = [] := by rw [← List.map_drop, h]; rfl
    rw [end_drop hm]; rfl
  | cons w xs ih =>
    intro i E h hEl hi hE hq
    refine k15_15 _ _ _ _ _ _ ?_
    have hlt' := drop_lt h
    have hm : (F.map e1).drop i = e1 w :: xs.map e1 := by rw [← List.map_drop, h]; rfl
    have hw := hF w (List.mem_of_getElem? (drop_get h))
    rw [in_drop hm, cond_true, at_drop hm, c55 z A hlen h64 hnm hlt hw, bind_some', at_drop hm]
    have hlen' : ((E.map toC).length : Int) = ((E.length : Nat) : Int) := by simp
    rw [hlen']
    refine h15c (p := (nameW d all cws w, w)) hE hq hw (by omega) (by omega) E.length (Nat.le_refl _) (by simp) _ ?_
    refine ih (i + 1) (insL ltE (nameW d all cws w, w) E) (drop_next h) (by rw [insL_length]; omega) (by omega) (insL_sorted ltE ltE_asymm ltE_up hE) ?_
    intro q hq'
    rcases (insL_mem ltE).1 hq' with rfl | hq'
    · exact hw
    · exact hq q hq'
/-! all -/
abbrev alln (d : List TypeDecl) : List Str := sortS (nms d)
noncomputable def cws (d : List TypeDecl) : List Nat := (alln d).map (cw d (alln d))
noncomputable def ents (d : List TypeDecl) : List Ent := ((fam (cws d)).map fun w => ((nameW d (alln d) (cws d) w, w) : Ent)).foldl (fun E p => insL ltE p E) []
theorem alln_length {d : List TypeDecl} : (alln d).length ≤ d.length := by
  have := sortS_length (nms d)
  simpa using this
theorem cws_lt {d : List TypeDecl} (h : d.length ≤ 64) : ∀ c ∈ cws d, c < 18446744073709551616 := by
  intro c hc
  obtain ⟨x, _, rfl⟩ := List.mem_map.1 hc
  exact cw_lt (by have := alln_length (d := d); omega)
theorem h15a {d : List TypeDecl} (z : Sz d) (h : d.length ≤ 64) {r : R15.T}
    (hr : (bif (decide ((((fam (cws d)).map e1).length : Int) > 256)) then (some (([] : List Coded), (7 : Int))) else (t15_15 d (alln d) ((cws d).map e1) ((fam (cws d)).map e1) ([] : List Coded) 0)) = some r) :
    ∀ (xs : List Str) (i : Nat), (alln d).drop i = xs → i ≤ (alln d).length → t15_7 d (alln d) i ((((alln d).take i).map (cw d (alln d))).map e1) = some r := by
  have hal := alln_length (d := d)
  have hz := z.len
  intro xs
  induction xs with
  | nil =>
    intro i h' hi
    refine k15_7 _ _ _ _ ?_
    have hge := drop_ge h'
    have e : (((alln d).take i).map (cw d (alln d))) = cws d := by rw [List.take_of_length_le hge]; rfl
    rw [e, end_drop h', cond_false, c54 (cws_lt h) (by simp [cws]; omega)]
    exact hr
  | cons x xs ih =>
    intro i h' hi
    refine k15_7 _ _ _ _ ?_
    have hlt := drop_lt h'
    have hx : x ∈ nms d := mem_sortS.1 (List.mem_of_getElem? (drop_get h'))
    have hd : (alln d).take (i + 1) = (alln d).take i ++ [x] := by
      rw [List.take_add_one, drop_get h']; rfl
    have := ih (i + 1) (drop_next h') (by omega)
    rw [hd, List.map_append, List.map_append] at this
    rw [in_drop h', cond_true, at_drop h', c53 z (by omega) hx, bind_some', chk_app _ (by simp; omega) (by simp) (by omega), wrap_drop h' (by omega)]
    exact this
theorem isName_len {s : Str} (h : isName s = true) : s.length ≤ 32 := by
  unfold isName at h
  simp only [Bool.and_eq_true, decide_eq_true_eq] at h
  exact h.1.1.1.2
theorem Fm_lt {cs l : List Nat} (hF : Fm cs l) (h : ∀ c ∈ cs, c < 18446744073709551616) : ∀ c ∈ l, c < 18446744073709551616 :=
  hF.gen (fun c => c < 18446744073709551616) h fun a b ha _ => Nat.lt_of_le_of_lt Nat.and_le_left ha
/-! accepted declarations: a completed hierarchy -/
theorem getD_all {d : List TypeDecl} {i : Nat} (h : i < (alln d).length) : (alln d).getD i [] ∈ nms d := by
  rw [List.getD_eq_getElem?_getD, List.getElem?_eq_getElem h]
  exact mem_sortS.1 (List.getElem_mem h)
theorem idx_all {d : List TypeDecl} {x : Str} (h : x ∈ nms d) : ∃ i, i < (alln d).length ∧ (alln d).getD i [] = x := by
  obtain ⟨i, hi, e⟩ := List.mem_iff_getElem.1 (mem_sortS.2 h)
  exact ⟨i, hi, by rw [List.getD_eq_getElem?_getD, List.getElem?_eq_getElem hi]; exact e⟩
theorem cw_sub {d : List TypeDecl} {x y : Str} (hy : y ∈ nms d) : sub (cw d (alln d) y) (cw d (alln d) x) = true ↔ Le d x y := by
  rw [sub_bit]
  constructor
  · intro h
    obtain ⟨i, hi, e⟩ := idx_all hy
    have := h i (cw_bit.2 ⟨hi, by rw [e]; exact .refl⟩)
    rw [cw_bit, e] at this; exact this.2
  · intro h i hi
    rw [cw_bit] at hi ⊢
    exact ⟨hi.1, Rch.trans h hi.2⟩
theorem cw_inj {d : List TypeDecl} (A : Acc d) {x y : Str} (hx : x ∈ nms d) (hy : y ∈ nms d) (h : cw d (alln d) x = cw d (alln d) y) : x = y :=
  le_antisymm A ((cw_sub hy).1 (by rw [h]; exact sub_refl _)) ((cw_sub hx).1 (by rw [h]; exact sub_refl _))
theorem nodup_map {α β : Type} {f : α → β} : ∀ {l : List α}, l.Nodup → (∀ x ∈ l, ∀ y ∈ l, f x = f y → x = y) → (l.map f).Nodup := by
  intro l
  induction l with
  | nil => intro _ _; simp
  | cons x l ih =>
    intro hn hi
    have hn' := List.nodup_cons.1 hn
    rw [List.map_cons, List.nodup_cons]
    refine ⟨fun hm => ?_, ih hn'.2 fun a ha b hb => hi a (by simp [ha]) b (by simp [hb])⟩
    obtain ⟨y, hy, e⟩ := List.mem_map.1 hm
    exact hn'.1 (hi y (by simp [hy]) x (by simp) e ▸ hy)
theorem cws_nodup {d : List TypeDecl} (A : Acc d) : (cws d).Nodup := nodup_map (sortS_sorted _).nodup fun x hx y hy h => cw_inj A (mem_sortS.1 hx) (mem_sortS.1 hy) h
theorem cws_nz {d : List TypeDecl} : ∀ c ∈ cws d, c ≠ 0 := by
  intro c hc
  obtain ⟨x, hx, rfl⟩ := List.mem_map.1 hc
  intro e
  obtain ⟨i, hi, e'⟩ := idx_all (mem_sortS.1 hx)
  have : (cw d (alln d) x).testBit i = true := cw_bit.2 ⟨hi, by rw [e']; exact .refl⟩
  rw [e] at this; simp at this
theorem cws_len {d : List TypeDecl} : (cws d).length ≤ d.length := by
  have := alln_length (d := d)
  simpa [cws] using this
theorem ents_spec {d : List TypeDecl} : Sorted ltE (ents d) ∧ (ents d).Perm ((fam (cws d)).map fun w => ((nameW d (alln d) (cws d) w, w) : Ent)) := by
  have := foldl_ins (E := []) (l := (fam (cws d)).map fun w => ((nameW d (alln d) (cws d) w, w) : Ent)) (by simp [Sorted])
  simpa [ents] using this
theorem ents_perm {d : List TypeDecl} : ((ents d).map (·.2)).Perm (fam (cws d)) := by
  have := (ents_spec (d := d)).2.map (·.2)
  simpa [Function.comp_def] using this
theorem cd_ents {d : List TypeDecl} (A : Acc d) (h64 : d.length ≤ 64) (hle : (fam (cws d)).length ≤ 256) : Cd ((ents d).map toC) ((ents d).map (·.2)) := by
  have hlen : (cws d).length ≤ 256 := by have := cws_len (d := d); omega
  obtain ⟨F, _, F3⟩ := fam_spec (cws_nodup A) cws_nz hlen
  have hP := ents_perm (d := d)
  refine ⟨by simp [Function.comp_def, toC], fun c hc => Fm_lt F (cws_lt h64) c (hP.mem_iff.1 hc), ?_⟩
  rw [hP.length_eq]; omega
/-- Codes -/
theorem c15 {d : List TypeDecl} (z : Sz d) (h64 : d.length ≤ 64) : f15 d = some (if chk d ≠ 0 then ([], chk d) else if (fam (cws d)).length > 256 then ([], 7) else ((ents d).map toC, 0)) := by
  have hl := z.len
  have hal := alln_length (d := d)
  refine e15 _ ?_
  rw [c32 z, bind_some']
  by_cases h0 : chk d = 0
  · have A := acc_of_chk h0
    rw [if_neg (by simpa using h0), h0, cond_neg (by simp), c52 d (by omega), bind_some']
    refine h15a z h64 ?_ _ 0 rfl (by omega)
    by_cases h1 : (fam (cws d)).length > 256
    · rw [cond_pos (by simp; omega), if_pos h1]
    · rw [cond_neg (by simp; omega), if_neg h1]
      have hlen : (cws d).length ≤ 256 := by have := cws_len (d := d); omega
      obtain ⟨F, _, _⟩ := fam_spec (cws_nodup A) cws_nz hlen
      exact h15b z A (by simp [cws]) (by omega) (fun x hx => by
        obtain ⟨t, ht, rfl⟩ := List.mem_map.1 (mem_sortS.1 hx)
        have := isName_len (A.name t ht); omega) (cws_lt h64) (Fm_lt F (cws_lt h64)) (by omega) _ 0 [] rfl (by simp) (by omega) (by simp [Sorted]) (fun q hq => by cases hq)
  · rw [if_pos h0, cond_pos (by simpa using h0)]
end Go.Proofs.YtneahmpmicoplaaGreatDoor.cl
