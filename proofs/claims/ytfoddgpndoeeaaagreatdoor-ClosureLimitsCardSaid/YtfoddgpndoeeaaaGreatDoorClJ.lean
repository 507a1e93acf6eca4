/-
  The Closure laws: what is above and below a type (ref03), and the most general of some types.
-/
import Derived.Test.YtfoddgpndoeeaaaGreatDoorClI
set_option linter.unusedVariables false
set_option linter.unusedSimpArgs false
set_option linter.unusedSectionVars false
namespace Go.Proofs.YtfoddgpndoeeaaaGreatDoor.cl
open Go Go.AM

/-- the direct subtypes, the direct supertypes -/
def dn (d : List TypeDecl) (x : Str) : List Str := (d.filter fun t => decide (x ∈ t.Supers)).map (·.Name)
def up (d : List TypeDecl) (x : Str) : List Str := match d.find? (fun t => t.Name == x) with
  | some t => t.Supers
  | none => []
theorem mem_dn {d : List TypeDecl} {x y : Str} : y ∈ dn d x ↔ ∃ t ∈ d, t.Name = y ∧ x ∈ t.Supers := by
  simp only [dn, List.mem_map, List.mem_filter, decide_eq_true_eq]
  exact ⟨fun ⟨t, ⟨h1, h2⟩, h3⟩ => ⟨t, h1, h3, h2⟩, fun ⟨t, h1, h3, h2⟩ => ⟨t, ⟨h1, h2⟩, h3⟩⟩
theorem dn_nms {d : List TypeDecl} {x y : Str} (h : y ∈ dn d x) : y ∈ nms d := by
  obtain ⟨t, ht, e, _⟩ := mem_dn.1 h
  exact e ▸ List.mem_map_of_mem ht
theorem nd_eq {d : List TypeDecl} (hn : (nms d).Nodup) {t u : TypeDecl} (ht : t ∈ d) (hu : u ∈ d) (e : t.Name = u.Name) : t = u := by
  obtain ⟨i, hi1, rfl⟩ := List.mem_iff_getElem.1 ht
  obtain ⟨j, hj1, rfl⟩ := List.mem_iff_getElem.1 hu
  have : (nms d)[i]'(by simpa using hi1) = (nms d)[j]'(by simpa using hj1) := by simpa using e
  have := (List.getElem_inj hn).1 this
  subst this; rfl
theorem up_eq {d : List TypeDecl} (hn : (nms d).Nodup) {t : TypeDecl} (ht : t ∈ d) : up d t.Name = t.Supers := by
  unfold up
  cases e : d.find? (fun u => u.Name == t.Name) with
  | none =>
    rw [List.find?_eq_none] at e
    exact absurd (e t ht) (by simp)
  | some u =>
    have h1 := List.find?_some e
    have h2 := List.mem_of_find?_eq_some e
    rw [nd_eq hn h2 ht (by simpa using h1)]
theorem mem_up {d : List TypeDecl} (hn : (nms d).Nodup) {x y : Str} (hx : x ∈ nms d) : y ∈ up d x ↔ x ∈ dn d y := by
  obtain ⟨t, ht, rfl⟩ := List.mem_map.1 hx
  rw [up_eq hn ht, mem_dn]
  constructor
  · intro h; exact ⟨t, ht, rfl, h⟩
  · rintro ⟨u, hu, e, h⟩
    rw [nd_eq hn hu ht e] at h; exact h
/-- y is x or a subtype of it -/
abbrev Le (d : List TypeDecl) (x y : Str) : Prop := Rch (dn d) x y
theorem Le.nms {d : List TypeDecl} {x y : Str} (hx : x ∈ nms d) (h : Le d x y) : y ∈ nms d := by
  induction h with
  | refl => exact hx
  | step _ hz _ => exact dn_nms hz
theorem reach_up {d : List TypeDecl} (A : Acc d) {x y : Str} (hx : x ∈ nms d) (h : Rch (up d) x y) : y ∈ nms d ∧ Le d y x := by
  induction h with
  | refl => exact ⟨hx, .refl⟩
  | @step y z h1 hz ih =>
    obtain ⟨hy, hl⟩ := ih
    refine ⟨?_, ?_⟩
    · obtain ⟨t, ht, e⟩ := List.mem_map.1 hy
      subst e
      rw [up_eq A.nd ht] at hz
      exact A.dec t ht _ hz
    · exact Rch.trans (.step .refl ((mem_up A.nd hy).1 hz)) hl
theorem Rch.head {next : Str → List Str} {x y z : Str} (h1 : y ∈ next x) (h2 : Rch next y z) : Rch next x z := Rch.trans (.step .refl h1) h2
theorem up_of_le {d : List TypeDecl} (A : Acc d) {x y : Str} (h : Le d y x) : Rch (up d) x y := by
  induction h with
  | refl => exact .refl
  | @step u v h1 hz ih => exact Rch.head ((mem_up A.nd (dn_nms hz)).2 hz) ih
theorem reach_up_iff {d : List TypeDecl} (A : Acc d) {x y : Str} (hx : x ∈ nms d) : Rch (up d) x y ↔ Le d y x := ⟨fun h => (reach_up A hx h).2, up_of_le A⟩
theorem le_rank {d : List TypeDecl} {r : Str → Nat} (hr : ∀ t ∈ d, ∀ s ∈ t.Supers, r s < r t.Name) {x y : Str} (h : Le d x y) : x = y ∨ r x < r y := by
  induction h with
  | refl => exact .inl rfl
  | step _ hz ih =>
    obtain ⟨t, ht, rfl, hs⟩ := mem_dn.1 hz
    have := hr t ht _ hs
    rcases ih with rfl | h
    · exact .inr this
    · exact .inr (by omega)
theorem le_antisymm {d : List TypeDecl} (A : Acc d) {x y : Str} (h1 : Le d x y) (h2 : Le d y x) : x = y := by
  obtain ⟨r, hr⟩ := A.rk
  rcases le_rank hr h1 with h | h
  · exact h
  · rcases le_rank hr h2 with h' | h'
    · exact h'.symm
    · omega
/-- the most general type -/
theorem root {d : List TypeDecl} (A : Acc d) : ∃ t ∈ nms d, ∀ y ∈ nms d, Le d t y := by
  have htop := A.top
  unfold tops at htop
  obtain ⟨t, ht⟩ := List.length_eq_one_iff.1 htop
  have htm : t ∈ d.filter (fun t => t.Supers.length == 0) := by rw [ht]; simp
  refine ⟨t.Name, List.mem_map_of_mem (List.mem_filter.1 htm).1, ?_⟩
  obtain ⟨r, hr⟩ := A.rk
  have key : ∀ (n : Nat) (u : TypeDecl), u ∈ d → r u.Name = n → Le d t.Name u.Name := by
    intro n
    induction n using Nat.strongRecOn with
    | _ n ih =>
      intro u hu e
      cases hs : u.Supers with
      | nil =>
        have : u ∈ d.filter (fun t => t.Supers.length == 0) := List.mem_filter.2 ⟨hu, by simp [hs]⟩
        rw [ht, List.mem_singleton] at this
        subst this; exact .refl
      | cons s l =>
        have hsu : s ∈ u.Supers := by rw [hs]; simp
        obtain ⟨v, hv, rfl⟩ := List.mem_map.1 (A.dec u hu s hsu)
        have := hr u hu _ hsu
        exact .step (ih (r v.Name) (by omega) v hv rfl) (mem_dn.2 ⟨u, hu, rfl, hsu⟩)
  intro y hy
  obtain ⟨u, hu, rfl⟩ := List.mem_map.1 hy
  exact key _ u hu rfl

/-! Below -/
/-! Above -/
/-! the most general of some types -/
open Classical in
/-- no other one of these is above -/
noncomputable def freeB (d : List TypeDecl) (all : List Str) (x : Str) : Bool := all.all fun y => decide (y = x) || !decide (Le d y x)
noncomputable def maxi (d : List TypeDecl) (l : List Str) : List Str := (sortS (l.filter fun s => decide (s ∈ nms d))).filter (freeB d (sortS (l.filter fun s => decide (s ∈ nms d))))
end Go.Proofs.YtfoddgpndoeeaaaGreatDoor.cl
