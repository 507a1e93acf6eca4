/-
  The Closure laws: the declarations of types (ref01.Name, ref03).
-/
import Derived.Test.YtneahmpmicoplaaGreatDoorClB
import Derived.Test.YtneahmpmicoplaaGreatDoorClG
set_option linter.unusedVariables false
set_option linter.unusedSimpArgs false
set_option linter.unusedSectionVars false
namespace Go.Proofs.YtneahmpmicoplaaGreatDoor.cl
open Go Go.AM
theorem h37 (l : List Str) (s : Str) (hl : l.length ≤ 1073741824) : ∀ (xs : List Str) (i : Nat), l.drop i = xs → t37_2 l s i = some (decide (s ∈ xs)) := by
  intro xs
  induction xs with
  | nil => intro i h; refine k37_2 _ _ _ ?_; rw [end_drop h]; simp
  | cons x xs ih =>
    intro i h
    refine k37_2 _ _ _ ?_
    rw [in_drop h, cond_true, at_drop h, wrap_drop h hl, ih (i + 1) (drop_next h)]
    by_cases e : x = s
    · subst e; rw [cond_pos (by simp)]; simp
    · rw [cond_neg (by simpa using e)]
      have : ¬ s = x := fun h => e h.symm
      simp [this]
theorem c37 (l : List Str) (s : Str) (hl : l.length ≤ 1073741824) : f37 l s = some (decide (s ∈ l)) := e37 _ _ (h37 l s hl l 0 rfl)
theorem h98 (l : List Str) (s : Str) (hl : l.length ≤ 1073741824) : ∀ (xs : List Str) (i : Nat), l.drop i = xs → i ≤ l.length → t98_3 l s i [] = some (l.take i ++ putS s xs) := by
  intro xs
  induction xs with
  | nil =>
    intro i h hle
    refine k98_3 _ _ _ _ ?_
    have hge := drop_ge h
    obtain rfl : i = l.length := by omega
    rw [end_drop h, cond_false, cond_false, chk_cut (Nat.le_refl _), check_pos (by simp; omega), check_pos (by simp; omega), chk_cut (Nat.le_refl _), check_pos (by simp; omega)]
    simp [putS]
  | cons x xs ih =>
    intro i h hle
    refine k98_3 _ _ _ _ ?_
    have hlt := drop_lt h
    have hd : l.take (i + 1) = l.take i ++ [x] := by
      rw [List.take_add_one, drop_get h]; rfl
    have hd2 : (l.take l.length).drop i = x :: xs := by rw [List.take_length, h]
    rw [in_drop h, cond_true, at_drop h, cond_true, at_drop h, wrap_drop h hl, ih (i + 1) (drop_next h) (by omega), putS]
    cases hb : Op.bytesLess x s with
    | true => simp [hd]
    | false =>
      rw [cond_false]
      by_cases e : x = s
      · subst e
        rw [cond_pos (by simp)]
        simp only [if_pos, Bool.false_eq_true, if_false, ← h, List.take_append_drop]
      · rw [cond_neg (by simpa using e), chk_cut (by omega), chk_app _ (by simp) (by simp; omega) (by omega), chk_app _ (by simp; omega) (by simp) (by omega), chk_cut (by omega), chk_app _ (by simp; omega) (by simp; omega) (by omega), Int.toNat_natCast, hd2]
        simp [e]
theorem c98 (l : List Str) (s : Str) (hl : l.length ≤ 1073741824) : f98 l s = some (putS s l) := e98 _ _ (by
  have := h98 l s hl l 0 rfl (by omega)
  simpa using this)
/-! finding a declaration -/
theorem h111 (d : List TypeDecl) (s : Str) (hl : d.length ≤ 1073741824) : ∀ (xs : List TypeDecl) (i : Nat), d.drop i = xs → t111_2 d s i = some (ixFrom (fun t => t.Name == s) xs i) := by
  intro xs
  induction xs with
  | nil => intro i h; refine k111_2 _ _ _ ?_; rw [end_drop h]; rfl
  | cons x xs ih =>
    intro i h
    refine k111_2 _ _ _ ?_
    rw [in_drop h, cond_true, at_drop h, wrap_drop h hl, ih (i + 1) (drop_next h), ixFrom]
    cases x.Name == s <;> rfl
def fd (d : List TypeDecl) (s : Str) : Int := ixFrom (fun t => t.Name == s) d 0
theorem c111 (d : List TypeDecl) (s : Str) (hl : d.length ≤ 1073741824) : f111 d s = some (fd d s) := e111 _ _ (h111 d s hl d 0 rfl)
abbrev nms (d : List TypeDecl) : List Str := d.map (·.Name)
theorem ix_neg {α : Type} (p : α → Bool) : ∀ (xs : List α) (i : Nat), ixFrom p xs i < 0 ↔ ∀ x ∈ xs, p x = false := by
  intro xs
  induction xs with
  | nil => intro i; simp [ixFrom]
  | cons x xs ih =>
    intro i
    rw [ixFrom]
    cases h : p x with
    | true => simp [h]
    | false => simp [h, ih (i + 1)]
theorem ix_some {α : Type} (p : α → Bool) : ∀ (xs : List α) (i : Nat), (∃ x ∈ xs, p x = true) → ∃ j, ∃ h : j < xs.length, ixFrom p xs i = ((i + j : Nat) : Int) ∧ p xs[j] = true ∧ ∀ k (hk : k < j), p (xs[k]'(by omega)) = false := by
  intro xs
  induction xs with
  | nil => intro i h; obtain ⟨x, hx, _⟩ := h; cases hx
  | cons x xs ih =>
    intro i h
    rw [ixFrom]
    cases hp : p x with
    | true => exact ⟨0, by simp, by simp, by simpa using hp, fun k hk => by omega⟩
    | false =>
      obtain ⟨j, hj, e, h1, h2⟩ := ih (i + 1) (by
        obtain ⟨y, hy, hpy⟩ := h
        rcases List.mem_cons.1 hy with rfl | hy
        · rw [hp] at hpy; cases hpy
        · exact ⟨y, hy, hpy⟩)
      refine ⟨j + 1, by simp; omega, ?_, by simpa using h1, ?_⟩
      · simp only [Bool.false_eq_true, if_false, e]; congr 1; omega
      · intro k hk
        cases k with
        | zero => simpa using hp
        | succ k => simpa using h2 k (by omega)
theorem fd_neg {d : List TypeDecl} {s : Str} : fd d s < 0 ↔ s ∉ nms d := by
  rw [fd, ix_neg]
  constructor
  · intro h hs
    obtain ⟨t, ht, e⟩ := List.mem_map.1 hs
    have := h t ht
    simp [e] at this
  · intro h t ht
    simp only [beq_eq_false_iff_ne, ne_eq]
    exact fun e => h (e ▸ List.mem_map_of_mem ht)
theorem fd_some {d : List TypeDecl} {s : Str} (h : s ∈ nms d) : ∃ j, ∃ hj : j < d.length, fd d s = (j : Int) ∧ d[j].Name = s ∧ ∀ k (hk : k < j), (d[k]'(by omega)).Name ≠ s := by
  obtain ⟨t, ht, e⟩ := List.mem_map.1 h
  obtain ⟨j, hj, h1, h2, h3⟩ := ix_some (fun t : TypeDecl => t.Name == s) d 0 ⟨t, ht, by simpa using e⟩
  exact ⟨j, hj, by rw [fd, h1]; simp, by simpa using h2, fun k hk => by simpa using h3 k hk⟩
/-! names, ascending -/
theorem h52 (d : List TypeDecl) (hl : d.length ≤ 1073741824) : ∀ (xs : List TypeDecl) (i : Nat) (o : List Str), d.drop i = xs → o.length ≤ i → t52_3 d o i = some ((xs.map (·.Name)).foldl (fun o s => putS s o) o) := by
  intro xs
  induction xs with
  | nil => intro i o h ho; refine k52_3 _ _ _ ?_; rw [end_drop h]; rfl
  | cons x xs ih =>
    intro i o h ho
    refine k52_3 _ _ _ ?_
    have := drop_lt h
    have := putS_length x.Name o
    rw [in_drop h, cond_true, at_drop h, wrap_drop h hl, c98 _ _ (by omega), bind_some', ih (i + 1) _ (drop_next h) (by omega)]; rfl
theorem c52 (d : List TypeDecl) (hl : d.length ≤ 1073741824) : f52 d = some (sortS (nms d)) := e52 _ (h52 d hl d 0 [] rfl (by simp))
/-! sizes -/
def lightB (d : List TypeDecl) : Bool := decide (d.length ≤ 16) && d.all fun t => decide (t.Supers.length ≤ 20) && decide (t.Feats.length ≤ 20)
theorem h38 (d : List TypeDecl) (hl : d.length ≤ 1073741824) : ∀ (xs : List TypeDecl) (i : Nat), d.drop i = xs → t38_4 d i = some (xs.all fun t => decide (t.Supers.length ≤ 20) && decide (t.Feats.length ≤ 20)) := by
  intro xs
  induction xs with
  | nil => intro i h; refine k38_4 _ _ ?_; rw [end_drop h]; rfl
  | cons x xs ih =>
    intro i h
    refine k38_4 _ _ ?_
    rw [in_drop h, cond_true, at_drop h, at_drop h, wrap_drop h hl, ih (i + 1) (drop_next h), List.all_cons]
    by_cases h1 : x.Supers.length ≤ 20
    · rw [cond_neg (by simp; omega)]
      by_cases h2 : x.Feats.length ≤ 20
      · rw [cond_neg (by simp; omega)]; simp [h1, h2]
      · rw [cond_pos (by simp; omega)]; simp [h1, h2]
    · rw [cond_pos (by simp; omega)]; simp [h1]
theorem c38 (d : List TypeDecl) : f38 d = some (lightB d) := by
  refine e38 _ ?_
  by_cases h : d.length ≤ 16
  · rw [cond_neg (by simp; omega)]
    have := h38 d (by omega) d 0 rfl
    simpa [lightB, h] using this
  · rw [cond_pos (by simp; omega)]; simp [lightB, h]
theorem c12 (d : List TypeDecl) : f12 d = some (lightB d && decide (d.length ≤ 12)) := by
  refine e12 _ ?_
  rw [c38, bind_some']
  cases lightB d with
  | true => rw [cond_true, Bool.true_and]; congr 1; rw [decide_eq_decide]; omega
  | false => rfl
def bigB (d : List TypeDecl) : Bool := decide (d.length > 256) || d.any fun t => decide (t.Supers.length > 256) || decide (t.Feats.length > 256)
theorem h70 (d : List TypeDecl) (hl : d.length ≤ 1073741824) : ∀ (xs : List TypeDecl) (i : Nat), d.drop i = xs → t70_4 d i = some (if (xs.any fun t => decide (t.Supers.length > 256) || decide (t.Feats.length > 256)) = true then 7 else 0) := by
  intro xs
  induction xs with
  | nil => intro i h; refine k70_4 _ _ ?_; rw [end_drop h]; rfl
  | cons x xs ih =>
    intro i h
    refine k70_4 _ _ ?_
    rw [in_drop h, cond_true, at_drop h, at_drop h, wrap_drop h hl, ih (i + 1) (drop_next h), List.any_cons]
    by_cases h1 : x.Supers.length > 256
    · rw [cond_pos (by simp; omega)]; simp [h1]
    · rw [cond_neg (by simp; omega)]
      by_cases h2 : x.Feats.length > 256
      · rw [cond_pos (by simp; omega)]; simp [h2]
      · rw [cond_neg (by simp; omega)]
        have e1 : decide (x.Supers.length > 256) = false := by simpa using h1
        have e2 : decide (x.Feats.length > 256) = false := by simpa using h2
        rw [e1, e2, Bool.false_or, Bool.false_or]
theorem c70 (d : List TypeDecl) : f70 d = some (if bigB d = true then 7 else 0) := by
  refine e70 _ ?_
  by_cases h : d.length > 256
  · rw [cond_pos (by simp; omega)]; simp [bigB, h]
  · rw [cond_neg (by simp; omega)]
    have e : decide (d.length > 256) = false := by simpa using h
    rw [bigB, e, Bool.false_or]
    exact h70 d (by omega) d 0 rfl
/-! names are names, and differ -/
def digitB (c : UInt8) : Bool := decide (48 ≤ c.toNat) && decide (c.toNat ≤ 57)
def lowerB (c : UInt8) : Bool := decide (97 ≤ c.toNat) && decide (c.toNat ≤ 122)
def isName (s : Str) : Bool := decide (1 ≤ s.length) && decide (s.length ≤ 32) && !digitB (s.getD 0 0) && !(s.getD 0 0).toNat == 45 && s.all fun c => digitB c || c.toNat == 45 || lowerB c
theorem c159 (c : UInt8) : f159 (c.toNat : Int) = some (digitB c) := by
  refine e159 _ ?_
  by_cases h : 48 ≤ c.toNat
  · rw [cond_pos (by simp; omega)]
    simp only [digitB, h, decide_true, Bool.true_and]
    congr 1; rw [decide_eq_decide]; omega
  · rw [cond_neg (by simp; omega)]; simp [digitB, h]
theorem c167 (c : UInt8) : f167 (c.toNat : Int) = some (lowerB c) := by
  refine e167 _ ?_
  by_cases h : 97 ≤ c.toNat
  · rw [cond_pos (by simp; omega)]
    simp only [lowerB, h, decide_true, Bool.true_and]
    congr 1; rw [decide_eq_decide]; omega
  · rw [cond_neg (by simp; omega)]; simp [lowerB, h]
theorem c160 (c : UInt8) : f160 (c.toNat : Int) false = some (digitB c || c.toNat == 45 || lowerB c) := by
  refine e160 _ _ ?_
  rw [c159, bind_some', c167, bind_some']
  cases digitB c with
  | true => rfl
  | false =>
    by_cases h : c.toNat = 45
    · rw [cond_false, cond_pos (by simp; omega)]; simp [h]
    · rw [cond_false, cond_neg (by simp; omega)]; simp [h]
theorem h140 (s : Str) (hl : s.length ≤ 1073741824) : ∀ (xs : Str) (i : Nat), s.drop i = xs → t140_4 s false i = some (xs.all fun c => digitB c || c.toNat == 45 || lowerB c) := by
  intro xs
  induction xs with
  | nil => intro i h; refine k140_4 _ _ _ ?_; rw [end_drop h]; rfl
  | cons x xs ih =>
    intro i h
    refine k140_4 _ _ _ ?_
    rw [in_drop h, cond_true, at_drop h, c160, bind_some', wrap_drop h hl, ih (i + 1) (drop_next h), List.all_cons]
    cases (digitB x || x.toNat == 45 || lowerB x) <;> rfl
theorem c110 (s : Str) : f110 s = some (isName s) := by
  refine e110 _ ?_
  have : f140 s false = some (isName s) := by
    refine e140 _ _ ?_
    by_cases h1 : 1 ≤ s.length
    · rw [cond_neg (by simp; omega)]
      by_cases h2 : s.length ≤ 32
      · rw [cond_neg (by simp; omega), show (0 : Int) = ((0 : Nat) : Int) from rfl, getK_at (by omega), c159, bind_some', getK_at (by omega), h140 s (by omega) s 0 rfl]
        have e0 : s.getD 0 0 = s[0] := by rw [List.getD_eq_getElem?_getD, List.getElem?_eq_getElem (by omega)]; rfl
        unfold isName
        rw [e0]
        cases digitB s[0] with
        | true => simp [h1, h2]
        | false =>
          by_cases h3 : s[0].toNat = 45
          · rw [cond_false, cond_pos (by simp; omega)]; simp [h3]
          · rw [cond_false, cond_neg (by simp; omega)]; simp [h1, h2, h3]
      · rw [cond_pos (by simp; omega)]; simp [isName, h2]
    · rw [cond_pos (by simp; omega)]; simp [isName, h1]
  rw [this]; rfl
def nmErr : List Str → List TypeDecl → Int
  | _, [] => 0
  | seen, t :: ts => if isName t.Name = false then 1 else if t.Name ∈ seen then 4 else nmErr (seen ++ [t.Name]) ts
theorem fd_lt {d : List TypeDecl} {i : Nat} {t : TypeDecl} {ts : List TypeDecl} (h : d.drop i = t :: ts) : fd d t.Name < (i : Int) ↔ t.Name ∈ (d.take i).map (·.Name) := by
  have hi := drop_lt h
  have hti : d[i]? = some t := drop_get h
  obtain ⟨j, hj, e, h1, h2⟩ := fd_some (d := d) (s := t.Name) (List.mem_map_of_mem (List.mem_of_getElem? hti))
  rw [e]
  constructor
  · intro hlt
    have hlt' : j < i := by omega
    refine List.mem_map.2 ⟨d[j], ?_, h1⟩
    rw [List.mem_take_iff_getElem]
    exact ⟨j, by omega, rfl⟩
  · intro hm
    obtain ⟨u, hu, eu⟩ := List.mem_map.1 hm
    rw [List.mem_take_iff_getElem] at hu
    obtain ⟨k, hk, rfl⟩ := hu
    apply Classical.byContradiction
    intro hc
    exact h2 k (by omega) eu
theorem h71 (d : List TypeDecl) (hl : d.length ≤ 1073741824) : ∀ (xs : List TypeDecl) (i : Nat), d.drop i = xs → t71_2 d i = some (nmErr ((d.take i).map (·.Name)) xs) := by
  intro xs
  induction xs with
  | nil => intro i h; refine k71_2 _ _ ?_; rw [end_drop h]; rfl
  | cons x xs ih =>
    intro i h
    refine k71_2 _ _ ?_
    have hd : d.take (i + 1) = d.take i ++ [x] := by
      rw [List.take_add_one, drop_get h]; rfl
    rw [in_drop h, cond_true, at_drop h, c110, bind_some', at_drop h, c111 d _ hl, bind_some', wrap_drop h hl, ih (i + 1) (drop_next h), nmErr, hd]
    cases hn : isName x.Name with
    | false => rfl
    | true =>
      rw [Bool.not_true, cond_false]
      by_cases hm : x.Name ∈ (d.take i).map (·.Name)
      · rw [cond_pos (by simpa using (fd_lt h).2 hm)]; simp only [Bool.true_eq_false, if_false, hm, if_true]
      · rw [cond_neg (by simpa using fun hc => hm ((fd_lt h).1 hc))]; simp only [Bool.true_eq_false, if_false, hm, List.map_append, List.map_cons, List.map_nil]
theorem c71 (d : List TypeDecl) (hl : d.length ≤ 1073741824) : f71 d = some (nmErr [] d) := e71 _ (h71 d hl d 0 rfl)
/-! supertypes are declared, and differ -/
def spK (ns : List Str) : List Str → List Str → Int
  | _, [] => 0
  | seen, s :: ss => if s ∉ ns then 5 else if s ∈ seen then 4 else spK ns (seen ++ [s]) ss
def spErr (ns : List Str) : List TypeDecl → Int
  | [] => 0
  | t :: ts => if spK ns [] t.Supers = 0 then spErr ns ts else spK ns [] t.Supers
theorem h72b (d : List TypeDecl) (hl : d.length ≤ 1073741824) (i : Nat) (hi : i < d.length) (l : List Str) (hll : l.length ≤ 1073741824) {r : Int} (hr : t72_2 d (i + 1 : Nat) = some r) : ∀ (xs : List Str) (k : Nat), l.drop k = xs →
    t72_6 d i l k = some (if spK (nms d) (l.take k) xs = 0 then r else spK (nms d) (l.take k) xs) := by
  intro xs
  induction xs with
  | nil =>
    intro k h
    refine k72_6 _ _ _ _ ?_
    rw [end_drop h, cond_false, wrap_succ (by omega), hr]; rfl
  | cons x xs ih =>
    intro k h
    refine k72_6 _ _ _ _ ?_
    have hlt := drop_lt h
    have hd : l.take (k + 1) = l.take k ++ [x] := by
      rw [List.take_add_one, drop_get h]; rfl
    rw [in_drop h, cond_true, at_drop h, c111 d _ hl, bind_some', spK]
    by_cases hm : x ∈ nms d
    · rw [cond_neg (by simpa using fun hc => (fd_neg.1 hc) hm), chk_cut (by omega), at_drop h, c37 _ _ (by simp; omega), bind_some', wrap_drop h hll, ih (k + 1) (drop_next h), hd]
      have e : List.drop 0 (List.take (Int.toNat (k : Int)) l) = l.take k := by simp
      rw [e]
      by_cases h2 : x ∈ l.take k
      · rw [cond_pos (by simpa using h2)]; simp only [hm, not_true_eq_false, if_false, h2, if_true]; rfl
      · rw [cond_neg (by simpa using h2)]; simp only [hm, not_true_eq_false, if_false, h2]
    · rw [cond_pos (by simpa using fd_neg.2 hm)]; simp only [hm, not_false_eq_true, if_true]; rfl
theorem h72 (d : List TypeDecl) (hl : d.length ≤ 1073741824) (hs : ∀ t ∈ d, t.Supers.length ≤ 1073741824) : ∀ (xs : List TypeDecl) (i : Nat), d.drop i = xs → t72_2 d i = some (spErr (nms d) xs) := by
  intro xs
  induction xs with
  | nil => intro i h; refine k72_2 _ _ ?_; rw [end_drop h]; rfl
  | cons x xs ih =>
    intro i h
    refine k72_2 _ _ ?_
    rw [in_drop h, cond_true, at_drop h]
    exact h72b d hl i (drop_lt h) _ (hs x (List.mem_of_getElem? (drop_get h))) (ih (i + 1) (drop_next h)) _ 0 rfl
theorem c72 (d : List TypeDecl) (hl : d.length ≤ 1073741824) (hs : ∀ t ∈ d, t.Supers.length ≤ 1073741824) : f72 d = some (spErr (nms d) d) := e72 _ (h72 d hl hs d 0 rfl)
theorem nmErr_zero : ∀ (d : List TypeDecl) (seen : List Str), nmErr seen d = 0 ↔ (∀ t ∈ d, isName t.Name = true) ∧ (nms d).Nodup ∧ ∀ t ∈ d, t.Name ∉ seen := by
  intro d
  induction d with
  | nil => intro seen; simp [nmErr]
  | cons t d ih =>
    intro seen
    unfold nmErr
    cases hn : isName t.Name with
    | false => simp [hn]
    | true =>
      by_cases hm : t.Name ∈ seen
      · simp [hm]
      · simp only [Bool.true_eq_false, if_false, hm, ih, List.mem_append, List.mem_singleton, List.map_cons, List.nodup_cons, List.mem_cons, not_or]
        constructor
        · rintro ⟨h1, h2, h3⟩
          refine ⟨?_, ⟨?_, h2⟩, ?_⟩
          · rintro u (rfl | hu)
            · exact hn
            · exact h1 u hu
          · intro hc
            obtain ⟨u, hu, e⟩ := List.mem_map.1 hc
            exact (h3 u hu).2.1 e
          · rintro u (rfl | hu)
            · exact hm
            · exact (h3 u hu).1
        · rintro ⟨h1, ⟨h2, h3⟩, h4⟩
          refine ⟨fun u hu => h1 u (.inr hu), h3, fun u hu => ⟨h4 u (.inr hu), fun e => h2 (by rw [← e]; exact List.mem_map_of_mem hu), by simp⟩⟩
theorem spK_zero (ns : List Str) : ∀ (l seen : List Str), spK ns seen l = 0 ↔ (∀ s ∈ l, s ∈ ns) ∧ l.Nodup ∧ ∀ s ∈ l, s ∉ seen := by
  intro l
  induction l with
  | nil => intro seen; simp [spK]
  | cons s l ih =>
    intro seen
    unfold spK
    by_cases hm : s ∈ ns
    · by_cases h2 : s ∈ seen
      · simp [hm, h2]
      · simp only [hm, not_true_eq_false, if_false, h2, ih, List.mem_append, List.mem_singleton, List.nodup_cons, List.mem_cons, not_or]
        constructor
        · rintro ⟨h1, h3, h4⟩
          refine ⟨?_, ⟨fun hc => (h4 s hc).2.1 rfl, h3⟩, ?_⟩
          · rintro u (rfl | hu)
            · exact hm
            · exact h1 u hu
          · rintro u (rfl | hu)
            · exact h2
            · exact (h4 u hu).1
        · rintro ⟨h1, ⟨h3, h4⟩, h5⟩
          exact ⟨fun u hu => h1 u (.inr hu), h4, fun u hu => ⟨h5 u (.inr hu), fun e => h3 (by rw [← e]; exact hu), by simp⟩⟩
    · simp [hm]
theorem spErr_zero (ns : List Str) : ∀ (d : List TypeDecl), spErr ns d = 0 ↔ ∀ t ∈ d, (∀ s ∈ t.Supers, s ∈ ns) ∧ t.Supers.Nodup := by
  intro d
  induction d with
  | nil => simp [spErr]
  | cons t d ih =>
    unfold spErr
    have := spK_zero ns t.Supers []
    split
    · rename_i h
      rw [ih]
      have h' := this.1 h
      simp only [List.mem_cons, forall_eq_or_imp]
      exact ⟨fun hh => ⟨⟨h'.1, h'.2.1⟩, hh⟩, fun hh => hh.2⟩
    · rename_i h
      constructor
      · intro hc; exact absurd hc h
      · intro hh
        exact absurd (this.2 ⟨(hh t (by simp)).1, (hh t (by simp)).2, by simp⟩) h
end Go.Proofs.YtneahmpmicoplaaGreatDoor.cl
