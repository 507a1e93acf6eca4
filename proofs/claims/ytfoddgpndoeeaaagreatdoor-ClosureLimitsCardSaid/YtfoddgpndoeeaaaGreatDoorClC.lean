/-
  The Closure laws: the declarations of types (ref01.Name, ref03).
-/
import Derived.Test.YtfoddgpndoeeaaaGreatDoorClB
import Derived.Test.YtfoddgpndoeeaaaGreatDoorClG
set_option linter.unusedVariables false
set_option linter.unusedSimpArgs false
set_option linter.unusedSectionVars false
namespace Go.Proofs.YtfoddgpndoeeaaaGreatDoor.cl
open Go Go.AM

/-! finding a declaration -/
def fd (d : List TypeDecl) (s : Str) : Int := ixFrom (fun t => t.Name == s) d 0
abbrev nms (d : List TypeDecl) : List Str := d.map (·.Name)
theorem ix_neg {α : Type} (p : α → Bool) : ∀ (xs : List α) (i : Nat), ixFrom p xs i < 0 ↔ ∀ x ∈ xs, p x = false := by
  intro xs
  induction xs with
  | nil => intro i; simp [ixFrom]
  | cons x xs ih =>
    intro i
    rw [ixFrom]
    cases h : p x with
    | true => simp [h]
    | false => simp [h, ih (i + 1)]
theorem ix_some {α : Type} (p : α → Bool) : ∀ (xs : List α) (i : Nat), (∃ x ∈ xs, p x = true) → ∃ j, ∃ h : j < xs.length, ixFrom p xs i = ((i + j : Nat) : Int) ∧ p xs[j] = true ∧ ∀ k (hk : k < j), p (xs[k]'(by omega)) = false := by
  intro xs
  induction xs with
  | nil => intro i h; obtain ⟨x, hx, _⟩ := h; cases hx
  | cons x xs ih =>
    intro i h
    rw [ixFrom]
    cases hp : p x with
    | true => exact ⟨0, by simp, by simp, by simpa using hp, fun k hk => by omega⟩
    | false =>
      obtain ⟨j, hj, e, h1, h2⟩ := ih (i + 1) (by
        obtain ⟨y, hy, hpy⟩ := h
        rcases List.mem_cons.1 hy with rfl | hy
        · rw [hp] at hpy; cases hpy
        · exact ⟨y, hy, hpy⟩)
      refine ⟨j + 1, by simp; omega, ?_, by simpa using h1, ?_⟩
      · simp only [Bool.false_eq_true, if_false, e]; congr 1; omega
      · intro k hk
        cases k with
        | zero => simpa using hp
        | succ k => simpa using h2 k (by omega)
theorem fd_neg {d : List TypeDecl} {s : Str} : fd d s < 0 ↔ s ∉ nms d := by
  rw [fd, ix_neg]
  constructor
  · intro h hs
    obtain ⟨t, ht, e⟩ := List.mem_map.1 hs
    have := h t ht
    simp [e] at this
  · intro h t ht
    simp only [beq_eq_false_iff_ne, ne_eq]
    exact fun e => h (e ▸ List.mem_map_of_mem ht)
theorem fd_some {d : List TypeDecl} {s : Str} (h : s ∈ nms d) : ∃ j, ∃ hj : j < d.length, fd d s = (j : Int) ∧ d[j].Name = s ∧ ∀ k (hk : k < j), (d[k]'(by omega)).Name ≠ s := by
  obtain ⟨t, ht, e⟩ := List.mem_map.1 h
  obtain ⟨j, hj, h1, h2, h3⟩ := ix_some (fun t : TypeDecl => t.Name == s) d 0 ⟨t, ht, by simpa using e⟩
  exact ⟨j, hj, by rw [fd, h1]; simp, by simpa using h2, fun k hk => by simpa using h3 k hk⟩

/-! names, ascending -/
/-! sizes -/
def lightB (d : List TypeDecl) : Bool := decide (d.length ≤ 16) && d.all fun t => decide (t.Supers.length ≤ 20) && decide (t.Feats.length ≤ 20)
def bigB (d : List TypeDecl) : Bool := decide (d.length > 256) || d.any fun t => decide (t.Supers.length > 256) || decide (t.Feats.length > 256)
/-! names are names, and differ -/
def digitB (c : UInt8) : Bool := decide (48 ≤ c.toNat) && decide (c.toNat ≤ 57)
def lowerB (c : UInt8) : Bool := decide (97 ≤ c.toNat) && decide (c.toNat ≤ 122)
def isName (s : Str) : Bool := decide (1 ≤ s.length) && decide (s.length ≤ 32) && !digitB (s.getD 0 0) && !(s.getD 0 0).toNat == 45 && s.all fun c => digitB c || c.toNat == 45 || lowerB c
def nmErr : List Str → List TypeDecl → Int
  | _, [] => 0
  | seen, t :: ts => if isName t.Name = false then 1 else if t.Name ∈ seen then 4 else nmErr (seen ++ [t.Name]) ts
theorem fd_lt {d : List TypeDecl} {i : Nat} {t : TypeDecl} {ts : List TypeDecl} (h : d.drop i = t :: ts) : fd d t.Name < (i : Int) ↔ t.Name ∈ (d.take i).map (·.Name) := by
  have hi := drop_lt h
  have hti : d[i]? = some t := drop_get h
  obtain ⟨j, hj, e, h1, h2⟩ := fd_some (d := d) (s := t.Name) (List.mem_map_of_mem (List.mem_of_getElem? hti))
  rw [e]
  constructor
  · intro hlt
    have hlt' : j < i := by omega
    refine List.mem_map.2 ⟨d[j], ?_, h1⟩
    rw [List.mem_take_iff_getElem]
    exact ⟨j, by omega, rfl⟩
  · intro hm
    obtain ⟨u, hu, eu⟩ := List.mem_map.1 hm
    rw [List.mem_take_iff_getElem] at hu
    obtain ⟨k, hk, rfl⟩ := hu
    apply Classical.byContradiction
    intro hc
    exact h2 k (by omega) eu
/-! supertypes are declared, and differ -/
def spK (ns : List Str) : List Str → List Str → Int
  | _, [] => 0
  | seen, s :: ss => if s ∉ ns then 5 else if s ∈ seen then 4 else spK ns (seen ++ [s]) ss
def spErr (ns : List Str) : List TypeDecl → Int
  | [] => 0
  | t :: ts => if spK ns [] t.Supers = 0 then spErr ns ts else spK ns [] t.Supers
theorem nmErr_zero : ∀ (d : List TypeDecl) (seen : List Str), nmErr seen d = 0 ↔ (∀ t ∈ d, isName t.Name = true) ∧ (nms d).Nodup ∧ ∀ t ∈ d, t.Name ∉ seen := by
  intro d
  induction d with
  | nil => intro seen; simp [nmErr]
  | cons t d ih =>
    intro seen
    unfold nmErr
    cases hn : isName t.Name with
    | false => simp [hn]
    | true =>
      by_cases hm : t.Name ∈ seen
      · simp [hm]
      · simp only [Bool.true_eq_false, if_false, hm, ih, List.mem_append, List.mem_singleton, List.map_cons, List.nodup_cons, List.mem_cons, not_or]
        constructor
        · rintro ⟨h1, h2, h3⟩
          refine ⟨?_, ⟨?_, h2⟩, ?_⟩
          · rintro u (rfl | hu)
            · exact hn
            · exact h1 u hu
          · intro hc
            obtain ⟨u, hu, e⟩ := List.mem_map.1 hc
            exact (h3 u hu).2.1 e
          · rintro u (rfl | hu)
            · exact hm
            · exact (h3 u hu).1
        · rintro ⟨h1, ⟨h2, h3⟩, h4⟩
          refine ⟨fun u hu => h1 u (.inr hu), h3, fun u hu => ⟨h4 u (.inr hu), fun e => h2 (by rw [← e]; exact List.mem_map_of_mem hu), by simp⟩⟩
theorem spK_zero (ns : List Str) : ∀ (l seen : List Str), spK ns seen l = 0 ↔ (∀ s ∈ l, s ∈ ns) ∧ l.Nodup ∧ ∀ s ∈ l, s ∉ seen := by
  intro l
  induction l with
  | nil => intro seen; simp [spK]
  | cons s l ih =>
    intro seen
    unfold spK
    by_cases hm : s ∈ ns
    · by_cases h2 : s ∈ seen
      · simp [hm, h2]
      · simp only [hm, not_true_eq_false, if_false, h2, ih, List.mem_append, List.mem_singleton, List.nodup_cons, List.mem_cons, not_or]
        constructor
        · rintro ⟨h1, h3, h4⟩
          refine ⟨?_, ⟨fun hc => (h4 s hc).2.1 rfl, h3⟩, ?_⟩
          · rintro u (rfl | hu)
            · exact hm
            · exact h1 u hu
          · rintro u (rfl | hu)
            · exact h2
            · exact (h4 u hu).1
        · rintro ⟨h1, ⟨h3, h4⟩, h5⟩
          exact ⟨fun u hu => h1 u (.inr hu), h4, fun u hu => ⟨h5 u (.inr hu), fun e => h3 (by rw [← e]; exact hu), by simp⟩⟩
    · simp [hm]
theorem spErr_zero (ns : List Str) : ∀ (d : List TypeDecl), spErr ns d = 0 ↔ ∀ t ∈ d, (∀ s ∈ t.Supers, s ∈ ns) ∧ t.Supers.Nodup := by
  intro d
  induction d with
  | nil => simp [spErr]
  | cons t d ih =>
    unfold spErr
    have := spK_zero ns t.Supers []
    split
    · rename_i h
      rw [ih]
      have h' := this.1 h
      simp only [List.mem_cons, forall_eq_or_imp]
      exact ⟨fun hh => ⟨⟨h'.1, h'.2.1⟩, hh⟩, fun hh => hh.2⟩
    · rename_i h
      constructor
      · intro hc; exact absurd hc h
      · intro hh
        exact absurd (this.2 ⟨(hh t (by simp)).1, (hh t (by simp)).2, by simp⟩) h
end Go.Proofs.YtfoddgpndoeeaaaGreatDoor.cl
