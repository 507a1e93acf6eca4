/-
  The Closure laws: the order of declarations (ref03: placed, Check, Above, Below, Maximal).
-/
import Derived.Test.YtfoddgpndoeeaaaGreatDoorClC
set_option linter.unusedVariables false
set_option linter.unusedSimpArgs false
set_option linter.unusedSectionVars false
namespace Go.Proofs.YtfoddgpndoeeaaaGreatDoor.cl
open Go Go.AM

/-- sizes that every loop can count -/
structure Sz (d : List TypeDecl) : Prop where
  len : d.length ≤ 1048576
  sup : ∀ t ∈ d, t.Supers.length ≤ 1048576
structure Topo (d : List TypeDecl) (o : List Str) : Prop where
  nd : o.Nodup
  sub : ∀ x ∈ o, x ∈ nms d
  pre : ∀ i x, o[i]? = some x → ∃ t ∈ d, t.Name = x ∧ ∀ s ∈ t.Supers, s ∈ o.take i
def Rdy (d : List TypeDecl) (o : List Str) (x : Str) : Prop := ∃ t ∈ d, t.Name = x ∧ x ∉ o ∧ ∀ s ∈ t.Supers, s ∈ o
theorem Topo.len {d : List TypeDecl} {o : List Str} (h : Topo d o) : o.length ≤ d.length := by
  have := nodup_length_le h.nd h.sub
  simpa using this
/-- supertypes come first -/
def Ranked (d : List TypeDecl) : Prop := ∃ r : Str → Nat, ∀ t ∈ d, ∀ s ∈ t.Supers, r s < r t.Name
theorem ranked_of_full {d : List TypeDecl} {o : List Str} (hn : (nms d).Nodup) (ho : Topo d o) (hf : ∀ t ∈ d, t.Name ∈ o) : Ranked d := by
  refine ⟨fun x => o.idxOf x, fun t ht s hs => ?_⟩
  have hm := hf t ht
  have hi : o.idxOf t.Name < o.length := List.idxOf_lt_length_iff.2 hm
  have hget : o[o.idxOf t.Name]? = some t.Name := by
    rw [List.getElem?_eq_getElem hi, List.getElem_idxOf hi]
  obtain ⟨u, hu, e, hpre⟩ := ho.pre _ _ hget
  have hut : u = t := by
    obtain ⟨i, hi1, rfl⟩ := List.mem_iff_getElem.1 hu
    obtain ⟨j, hj1, rfl⟩ := List.mem_iff_getElem.1 ht
    have : (nms d)[i]'(by simpa using hi1) = (nms d)[j]'(by simpa using hj1) := by simpa using e
    have := (List.getElem_inj hn).1 this
    subst this; rfl
  subst hut
  have := hpre s hs
  rw [List.mem_take_iff_getElem] at this
  obtain ⟨k, hk, rfl⟩ := this
  show o.idxOf o[k] < _
  have h1 : o.idxOf o[k] = k := ho.nd.idxOf_getElem k (by omega)
  have h2 : k < o.idxOf u.Name := by omega
  rw [h1]; exact h2
theorem full_of_ranked {d : List TypeDecl} {o : List Str} (hdec : ∀ t ∈ d, ∀ s ∈ t.Supers, s ∈ nms d) (hmax : ∀ t ∈ d, t.Name ∉ o → ∃ s ∈ t.Supers, s ∉ o) (hr : Ranked d) : ∀ t ∈ d, t.Name ∈ o := by
  obtain ⟨r, hr⟩ := hr
  have key : ∀ (n : Nat) (t : TypeDecl), t ∈ d → r t.Name = n → t.Name ∈ o := by
    intro n
    induction n using Nat.strongRecOn with
    | _ n ih =>
      intro t ht e
      apply Classical.byContradiction
      intro hc
      obtain ⟨s, hs, hso⟩ := hmax t ht hc
      obtain ⟨u, hu, rfl⟩ := List.mem_map.1 (hdec t ht s hs)
      have := hr t ht _ hs
      exact hso (ih (r u.Name) (by omega) u hu rfl)
  exact fun t ht => key _ t ht rfl

def tops (d : List TypeDecl) : Nat := (d.filter fun t => t.Supers.length == 0).length
open Classical in
noncomputable def chk (d : List TypeDecl) : Int :=
  if bigB d = true then 7 else if nmErr [] d ≠ 0 then nmErr [] d else if spErr (nms d) d ≠ 0 then spErr (nms d) d else if tops d ≠ 1 then 1 else if Ranked d then 0 else 6
/-- accepted declarations -/
structure Acc (d : List TypeDecl) : Prop where
  nd : (nms d).Nodup
  name : ∀ t ∈ d, isName t.Name = true
  dec : ∀ t ∈ d, ∀ s ∈ t.Supers, s ∈ nms d
  top : tops d = 1
  rk : Ranked d
theorem acc_of_chk {d : List TypeDecl} (h : chk d = 0) : Acc d := by
  unfold chk at h
  split at h
  · cases h
  split at h
  · rename_i h1; exact absurd h h1
  split at h
  · rename_i h1; exact absurd h h1
  split at h
  · cases h
  split at h
  · rename_i h0 h1 h2 h3 h4
    have h1' : nmErr [] d = 0 := Classical.byContradiction h1
    have h2' : spErr (nms d) d = 0 := Classical.byContradiction h2
    obtain ⟨a1, a2, _⟩ := (nmErr_zero d []).1 h1'
    exact ⟨a2, a1, fun t ht => ((spErr_zero _ d).1 h2' t ht).1, Classical.byContradiction h3, h4⟩
  · cases h
end Go.Proofs.YtfoddgpndoeeaaaGreatDoor.cl
