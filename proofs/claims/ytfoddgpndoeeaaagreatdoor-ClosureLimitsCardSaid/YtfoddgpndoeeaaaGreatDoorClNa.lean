/-
  The Closure laws: the program's checks of names and supertypes (text.Name, poset.long, names, supers, links).
-/
import Derived.Test.YtfoddgpndoeeaaaGreatDoorClJ
import Derived.Lib.DecodeN
set_option linter.unusedVariables false
set_option linter.unusedSimpArgs false
set_option linter.unusedSectionVars false
namespace Go.AM
/-! maps, plain -/
section
variable {K V : Type}
theorem posM_nil (k : K) : posM ([] : List (K × V)) k = none := by simp [posM]
theorem posM_cons (x : K × V) (l : List (K × V)) (k : K) : posM (x :: l) k = open Classical in if k = x.1 then some 0 else (posM l k).map (· + 1) := by
  unfold posM
  rw [List.findIdx?_cons]
  by_cases h : k = x.1 <;> simp [h]
theorem getM_nil (k : K) : getM ([] : List (K × V)) k = none := by simp [getM, posM_nil]
theorem getM_cons (x : K × V) (l : List (K × V)) (k : K) : getM (x :: l) k = open Classical in if k = x.1 then some x.2 else getM l k := by
  unfold getM
  rw [posM_cons]
  by_cases h : k = x.1
  · simp [h]
  · simp only [h, if_false]
    cases posM l k <;> simp
theorem putM_nil (k : K) (v : V) : putM [] k v = [(k, v)] := by simp [putM, posM_nil]
theorem putM_cons (x : K × V) (l : List (K × V)) (k : K) (v : V) : putM (x :: l) k v = open Classical in if k = x.1 then (k, v) :: l else x :: putM l k v := by
  unfold putM
  rw [posM_cons]
  by_cases h : k = x.1
  · simp [h]
  · simp only [h, if_false]
    cases posM l k <;> simp
theorem getM_put (k k' : K) (v : V) : ∀ l : List (K × V), getM (putM l k v) k' = open Classical in if k' = k then some v else getM l k' := by
  intro l
  induction l with
  | nil => rw [putM_nil, getM_cons, getM_nil]
  | cons x l ih =>
    rw [putM_cons]
    by_cases h : k = x.1
    · rw [if_pos h, getM_cons, getM_cons]
      by_cases h2 : k' = k
      · simp [h2]
      · have : ¬ k' = x.1 := fun e => h2 (by rw [e, h])
        simp [h2, this]
    · rw [if_neg h, getM_cons, ih, getM_cons]
      by_cases h2 : k' = x.1
      · have : ¬ k' = k := fun e => h (by rw [← e, h2])
        simp [h2, this]
        intro e; exact absurd e (fun e => h e.symm)
      · simp [h2]
theorem getM_put_same (k : K) (v : V) (l : List (K × V)) : getM (putM l k v) k = some v := by rw [getM_put]; simp
theorem getM_put_ne {k k' : K} (h : k' ≠ k) (v : V) (l : List (K × V)) : getM (putM l k v) k' = getM l k' := by rw [getM_put, if_neg h]
theorem posM_isSome (k : K) : ∀ l : List (K × V), (posM l k).isSome = (getM l k).isSome := by
  intro l
  induction l with
  | nil => rw [posM_nil, getM_nil]; rfl
  | cons x l ih =>
    rw [posM_cons, getM_cons]
    by_cases h : k = x.1
    · simp [h]
    · simp [h, ih]
variable {R : Type}
theorem lookT_some {l : List (K × V)} {k : K} {v : V} (h : getM l k = some v) (f : V → Option R) (z : Option R) : lookT l k f z = f v := by unfold lookT; rw [h]
theorem lookT_none {l : List (K × V)} {k : K} (h : getM l k = none) (f : V → Option R) (z : Option R) : lookT l k f z = z := by unfold lookT; rw [h]
theorem letT_eq {α : Type} (x : α) (k : α → Option R) : letT x k = k x := rfl
end
end Go.AM
namespace Go.Proofs.YtfoddgpndoeeaaaGreatDoor.cl
open Go Go.AM

theorem ix_any' {α : Type} (p : α → Bool) : ∀ (xs : List α) (i : Nat), decide (ixFrom p xs i ≥ 0) = xs.any p := by
  intro xs
  induction xs with
  | nil => intro i; rfl
  | cons x xs ih =>
    intro i
    rw [ixFrom, List.any_cons]
    cases h : p x with
    | true => simp
    | false => rw [← ih (i + 1)]; simp

/-! names -/
theorem decode_ascii {s : Str} {p : Nat} {c : UInt8} (h : s[p]? = some c) (hc : c.toNat < 128) : Utf8.decode ⟨s.toArray⟩ p = (c.toNat, 1) := by
  rw [Lib.decode_at]
  have hp := (List.getElem?_eq_some_iff.1 h).1
  have e : (ByteArray.get! ⟨s.toArray⟩ p) = c := by
    show (s.toArray)[p]! = c
    rw [getElem!_pos s.toArray p (by simpa using hp)]
    simpa using (List.getElem?_eq_some_iff.1 h).2
  rw [e, Lib.decodeN, if_pos hc]
theorem decode_wide {s : Str} {p : Nat} {c : UInt8} (h : s[p]? = some c) (hc : 128 ≤ c.toNat) : 128 ≤ (Utf8.decode ⟨s.toArray⟩ p).1 := by
  rw [Lib.decode_at]
  have hp := (List.getElem?_eq_some_iff.1 h).1
  have e : (ByteArray.get! ⟨s.toArray⟩ p) = c := by
    show (s.toArray)[p]! = c
    rw [getElem!_pos s.toArray p (by simpa using hp)]
    simpa using (List.getElem?_eq_some_iff.1 h).2
  rw [e, Lib.decodeN, if_neg (by omega)]
  repeat' split
  all_goals first | (simp only; omega) | omega
theorem i143 (c : Int) : f143 c = some (decide (97 ≤ c) && decide (c ≤ 122)) := by
  refine e143 _ ?_
  by_cases h : 97 ≤ c
  · rw [cond_pos (by simpa using h)]; simp [h]
  · rw [cond_neg (by simpa using h)]; simp [h]
theorem i161 (c : Int) : f161 c = some (decide (48 ≤ c) && decide (c ≤ 57)) := by
  refine e161 _ ?_
  by_cases h : 48 ≤ c
  · rw [cond_pos (by simpa using h)]; simp [h]
  · rw [cond_neg (by simpa using h)]; simp [h]
def okC (c : UInt8) : Bool := digitB c || c.toNat == 45 || lowerB c
/-- the first is a letter -/
def okAt0 (p : Nat) (c : UInt8) : Bool := if p = 0 then lowerB c else okC c
def folFrom : Nat → Str → Bool
  | _, [] => true
  | p, c :: l => okAt0 p c && folFrom (p + 1) l
theorem h142 (s : Str) : ∀ (xs : Str) (p : Nat), s.drop p = xs → t142_4 s p = some (folFrom p xs) := by
  intro xs
  induction xs with
  | nil =>
    intro p h
    refine k142_4 _ _ ?_
    have := drop_ge h
    rw [cond_neg (by cases hb : Nat.blt p s.length with | false => rfl | true => simp [Nat.blt_eq] at hb; omega)]; rfl
  | cons c xs ih =>
    intro p h
    refine k142_4 _ _ ?_
    have hp := drop_lt h
    have hget := drop_get h
    rw [cond_pos (by simp [Nat.blt_eq]; omega), i143, bind_some', i161, bind_some']
    by_cases hc : c.toNat < 128
    · rw [decode_ascii hget hc]
      simp only [ih (p + 1) (drop_next h)]
      rw [folFrom]
      have e1 : (decide (97 ≤ (c.toNat : Int)) && decide ((c.toNat : Int) ≤ 122)) = lowerB c := by
        unfold lowerB; rw [Bool.eq_iff_iff]; simp; omega
      have e2 : (decide (48 ≤ (c.toNat : Int)) && decide ((c.toNat : Int) ≤ 57)) = digitB c := by
        unfold digitB; rw [Bool.eq_iff_iff]; simp; omega
      rw [e1, e2]
      unfold okAt0 okC
      cases hl : lowerB c with
      | true => simp
      | false =>
        rw [Bool.not_false, cond_true]
        by_cases h0 : p = 0
        · subst h0; simp
        · rw [cond_neg (by simp; omega), if_neg h0]
          cases hd : digitB c with
          | true => simp
          | false =>
            rw [Bool.not_false, cond_true]
            by_cases h45 : c.toNat = 45
            · rw [cond_neg (by simp; omega)]; simp [h45]
            · rw [cond_pos (by simp; omega)]; simp [h45]
    · have hw := decode_wide hget (by omega)
      have e1 : (decide (97 ≤ ((Utf8.decode ⟨s.toArray⟩ p).1 : Int)) && decide (((Utf8.decode ⟨s.toArray⟩ p).1 : Int) ≤ 122)) = false := by simp; omega
      have e2 : (decide (48 ≤ ((Utf8.decode ⟨s.toArray⟩ p).1 : Int)) && decide (((Utf8.decode ⟨s.toArray⟩ p).1 : Int) ≤ 57)) = false := by simp; omega
      have e3 : okAt0 p c = false := by
        unfold okAt0 okC lowerB digitB
        split <;> simp <;> omega
      rw [folFrom, e3, Bool.false_and, e1, e2, Bool.not_false, cond_true]
      by_cases h0 : p = 0
      · subst h0; rw [cond_pos (by simp)]
      · rw [cond_neg (by simp; omega), cond_true, cond_pos (by simp; omega)]
theorem fol_all : ∀ (xs : Str) (p : Nat), 0 < p → folFrom p xs = xs.all okC := by
  intro xs
  induction xs with
  | nil => intro p _; rfl
  | cons c xs ih =>
    intro p hp
    rw [folFrom, ih (p + 1) (by omega), List.all_cons, okAt0, if_neg (by omega)]
theorem i115 (s : Str) : f115 s = some (isName s) := by
  refine e115 _ ?_
  have : f142 s = some (isName s) := by
    refine e142 _ ?_
    cases s with
    | nil => rfl
    | cons c l =>
      rw [cond_neg (by simp; omega)]
      by_cases h2 : (c :: l).length ≤ 32
      · rw [cond_neg (by simp at h2 ⊢; omega)]
        have := h142 (c :: l) (c :: l) 0 rfl
        rw [this, folFrom, fol_all _ _ (by omega)]
        refine congrArg some ?_
        unfold isName okAt0
        simp only [if_true, List.getD_cons_zero, List.all_cons]
        have h1 : decide (1 ≤ (c :: l).length) = true := by simp
        have h2' : decide ((c :: l).length ≤ 32) = true := by simpa using h2
        rw [h1, h2']
        show _ = (_ && ((digitB c || c.toNat == 45 || lowerB c) && l.all okC))
        cases hl : lowerB c with
        | true =>
          have hd : digitB c = false := by
            unfold lowerB at hl; unfold digitB
            simp at hl ⊢; omega
          have h45 : (c.toNat == 45) = false := by
            unfold lowerB at hl; simp at hl ⊢; omega
          simp [hd, h45]
        | false => cases digitB c <;> cases (c.toNat == 45) <;> simp
      · rw [cond_pos (by simp at h2 ⊢; omega)]
        have : decide ((c :: l).length ≤ 32) = false := by simpa using h2
        unfold isName
        rw [this]; simp
  rw [this]; rfl

/-! sizes -/
theorem h141 (d : List TypeDecl) (hl : d.length ≤ 1073741824) : ∀ (xs : List TypeDecl) (i : Nat), d.drop i = xs → t141_2 d d.length i = some (ixFrom (fun t => decide (t.Supers.length > 256) || decide (t.Feats.length > 256)) xs i) := by
  intro xs
  induction xs with
  | nil => intro i h; refine k141_2 _ _ _ ?_; rw [end_drop h]; rfl
  | cons x xs ih =>
    intro i h
    refine k141_2 _ _ _ ?_
    have h114 : f114 x = some (decide (x.Supers.length > 256) || decide (x.Feats.length > 256)) := by
      refine e114 _ ?_
      by_cases h1 : x.Supers.length > 256
      · rw [cond_pos (by simp; omega)]; simp [h1]
      · rw [cond_neg (by simp; omega)]
        have : decide (x.Supers.length > 256) = false := by simpa using h1
        rw [this, Bool.false_or]
        congr 1; rw [decide_eq_decide]; omega
    rw [in_drop h, cond_true, at_drop h, h114, bind_some', wrap_drop h hl, ih (i + 1) (drop_next h), ixFrom]
    cases (decide (x.Supers.length > 256) || decide (x.Feats.length > 256)) <;> rfl
theorem i76 (d : List TypeDecl) : f76 d = some (bigB d) := by
  refine e76 _ ?_
  by_cases h : d.length > 256
  · rw [cond_pos (by simp; omega)]; simp [bigB, h]
  · rw [cond_neg (by simp; omega)]
    have h113 : f113 d = some (d.any fun t => decide (t.Supers.length > 256) || decide (t.Feats.length > 256)) := by
      refine e113 _ ?_
      have : f141 d = _ := e141 _ (h141 d (by omega) d 0 rfl)
      rw [this, bind_some', ix_any']
    rw [h113]
    have e : decide (d.length > 256) = false := by simpa using h
    rw [bigB, e, Bool.false_or]; rfl

/-! names differ -/
theorem h77 (d : List TypeDecl) (hl : d.length ≤ 1073741824) : ∀ (xs : List TypeDecl) (i : Nat) (m : List (Str × Bool)) (seen : List Str), d.drop i = xs → (∀ x, getM m x = if x ∈ seen then some true else none) → t77_3 d d.length i m = some (nmErr seen xs) := by
  intro xs
  induction xs with
  | nil => intro i m seen h hm; refine k77_3 _ _ _ _ ?_; rw [end_drop h]; rfl
  | cons x xs ih =>
    intro i m seen h hm
    refine k77_3 _ _ _ _ ?_
    rw [in_drop h, cond_true, at_drop h, i115, bind_some', nmErr, wrap_drop h hl]
    cases hn : isName x.Name with
    | false => rfl
    | true =>
      rw [Bool.not_true, cond_false]
      by_cases hs : x.Name ∈ seen
      · rw [lookT_some (v := true) (by rw [hm, if_pos hs])]
        simp [hs]
      · rw [lookT_none (by rw [hm, if_neg hs]), letT_eq, ih (i + 1) _ (seen ++ [x.Name]) (drop_next h) ?_]
        · simp [hs]
        · intro y
          rw [getM_put, hm]
          by_cases e : y = x.Name
          · simp [e]
          · simp [e]
theorem i77 (d : List TypeDecl) (hl : d.length ≤ 1073741824) : f77 d = some (nmErr [] d) := e77 _ (h77 d hl d 0 [] [] rfl (fun x => by rw [getM_nil]; simp))

/-! supertypes by name -/
theorem h75 (d : List TypeDecl) (hl : d.length ≤ 1073741824) : ∀ (xs : List TypeDecl) (i : Nat) (m : List (Str × List Str)), d.drop i = xs → t75_3 d d.length i m = some (xs.foldl (fun m t => putM m t.Name t.Supers) m) := by
  intro xs
  induction xs with
  | nil => intro i m h; refine k75_3 _ _ _ _ ?_; rw [end_drop h]; rfl
  | cons x xs ih =>
    intro i m h
    refine k75_3 _ _ _ _ ?_
    rw [in_drop h, cond_true, at_drop h, letT_eq, wrap_drop h hl, ih (i + 1) _ (drop_next h)]; rfl
noncomputable def supM (d : List TypeDecl) : List (Str × List Str) := d.foldl (fun m t => putM m t.Name t.Supers) []
theorem i75 (d : List TypeDecl) (hl : d.length ≤ 1073741824) : f75 d = some (supM d) := e75 _ (h75 d hl d 0 [] rfl)
theorem foldl_sup : ∀ (d : List TypeDecl) (m : List (Str × List Str)) (x : Str), (x ∉ nms d → getM (d.foldl (fun m t => putM m t.Name t.Supers) m) x = getM m x) ∧ (x ∈ nms d → ∃ t ∈ d, t.Name = x ∧ getM (d.foldl (fun m t => putM m t.Name t.Supers) m) x = some t.Supers) := by
  intro d
  induction d with
  | nil => intro m x; exact ⟨fun _ => rfl, fun h => by cases h⟩
  | cons t d ih =>
    intro m x
    obtain ⟨h1, h2⟩ := ih (putM m t.Name t.Supers) x
    constructor
    · intro hx
      simp only [List.map_cons, List.mem_cons, not_or] at hx
      rw [List.foldl_cons, h1 hx.2, getM_put_ne hx.1]
    · intro hx
      by_cases hd : x ∈ nms d
      · obtain ⟨u, hu, e1, e2⟩ := h2 hd
        exact ⟨u, by simp [hu], e1, e2⟩
      · have : x = t.Name := by simpa [hd] using hx
        subst this
        exact ⟨t, by simp, rfl, by rw [List.foldl_cons, h1 hd, getM_put_same]⟩
theorem supM_none {d : List TypeDecl} {x : Str} (h : x ∉ nms d) : getM (supM d) x = none := by
  rw [supM, (foldl_sup d [] x).1 h, getM_nil]
theorem supM_some {d : List TypeDecl} {x : Str} (h : x ∈ nms d) : ∃ t ∈ d, t.Name = x ∧ getM (supM d) x = some t.Supers := (foldl_sup d [] x).2 h
theorem supM_up {d : List TypeDecl} (hn : (nms d).Nodup) {x : Str} (h : x ∈ nms d) : getM (supM d) x = some (up d x) := by
  obtain ⟨t, ht, e, e2⟩ := supM_some h
  rw [e2, ← e, up_eq hn ht]

/-! supertypes are declared, and differ -/
theorem h125 (l : List Str) (s : Str) (hl : l.length ≤ 1073741824) : ∀ (xs : List Str) (i : Nat), l.drop i = xs → t125_2 l s l.length i = some (ixFrom (fun x => s == x) xs i) := by
  intro xs
  induction xs with
  | nil => intro i h; refine k125_2 _ _ _ _ ?_; rw [end_drop h]; rfl
  | cons x xs ih =>
    intro i h
    refine k125_2 _ _ _ _ ?_
    rw [in_drop h, cond_true, at_drop h, wrap_drop h hl, ih (i + 1) (drop_next h), ixFrom]
    cases s == x <;> rfl
theorem i92 (l : List Str) (s : Str) (hl : l.length ≤ 1073741824) : f92 l s = some (decide (s ∈ l)) := by
  refine e92 _ _ ?_
  have : f125 l s = _ := e125 _ _ (h125 l s hl l 0 rfl)
  rw [this, bind_some', ix_any']
  congr 1
  rw [Bool.eq_iff_iff]; simp
theorem h78b (d : List TypeDecl) (i : Nat) (hi : i < d.length) (hl : d.length ≤ 1073741824) (t : TypeDecl) (hll : t.Supers.length ≤ 1073741824) {r : Int} (hr : t78_3 (supM d) d d.length (i + 1 : Nat) = some r) : ∀ (xs : List Str) (k : Nat), t.Supers.drop k = xs →
    t78_6 (supM d) d d.length i t.Supers t.Supers.length k t = some (if spK (nms d) (t.Supers.take k) xs = 0 then r else spK (nms d) (t.Supers.take k) xs) := by
  intro xs
  induction xs with
  | nil =>
    intro k h
    refine k78_6 _ _ _ _ _ _ _ _ ?_
    rw [end_drop h, cond_false, wrap_succ (by omega), hr]; rfl
  | cons x xs ih =>
    intro k h
    refine k78_6 _ _ _ _ _ _ _ _ ?_
    have hlt := drop_lt h
    have hd : t.Supers.take (k + 1) = t.Supers.take k ++ [x] := by
      rw [List.take_add_one, drop_get h]; rfl
    rw [in_drop h, cond_true, at_drop h, spK]
    by_cases hm : x ∈ nms d
    · obtain ⟨u, _, _, e⟩ := supM_some hm
      rw [lookT_some e, chk_cut (by omega), i92 _ _ (by simp; omega), bind_some', wrap_drop h hll, ih (k + 1) (drop_next h), hd]
      have e : List.drop 0 (List.take (Int.toNat (k : Int)) t.Supers) = t.Supers.take k := by simp
      rw [e]
      by_cases h2 : x ∈ t.Supers.take k
      · rw [cond_pos (by simpa using h2)]; simp only [hm, not_true_eq_false, if_false, h2, if_true]; rfl
      · rw [cond_neg (by simpa using h2)]; simp only [hm, not_true_eq_false, if_false, h2]
    · rw [lookT_none (supM_none hm)]; simp only [hm, not_false_eq_true, if_true]; rfl
theorem h78 (d : List TypeDecl) (hl : d.length ≤ 1073741824) (hs : ∀ t ∈ d, t.Supers.length ≤ 1073741824) : ∀ (xs : List TypeDecl) (i : Nat), d.drop i = xs → t78_3 (supM d) d d.length i = some (spErr (nms d) xs) := by
  intro xs
  induction xs with
  | nil => intro i h; refine k78_3 _ _ _ _ ?_; rw [end_drop h]; rfl
  | cons x xs ih =>
    intro i h
    refine k78_3 _ _ _ _ ?_
    rw [in_drop h, cond_true, at_drop h]
    exact h78b d i (drop_lt h) hl x (hs x (List.mem_of_getElem? (drop_get h))) (ih (i + 1) (drop_next h)) _ 0 rfl
theorem i78 (d : List TypeDecl) (hl : d.length ≤ 1073741824) (hs : ∀ t ∈ d, t.Supers.length ≤ 1073741824) : f78 d = some (spErr (nms d) d) := by
  refine e78 _ ?_
  rw [i75 d hl, bind_some']
  exact h78 d hl hs d 0 rfl
end Go.Proofs.YtfoddgpndoeeaaaGreatDoor.cl
