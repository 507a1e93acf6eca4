/-
  The Closure laws: slices.Sort of strings, taken as a primitive, is sound.
-/
import Derived.Test.YtfoddgpndoeeaaaGreatDoorClQa
import Derived.Test.YtfoddgpndoeeaaaGreatDoorClQs
set_option linter.unusedVariables false
set_option linter.unusedSimpArgs false
namespace Go.Proofs.YtfoddgpndoeeaaaGreatDoor.cl
open Go Go.AM Go.RowKit

theorem merge_isort (l : List (List UInt8)) : (l.mergeSort fun x y => decide (x ≤ y)) = isort Op.bytesLess l := by
  have e : (fun x y : List UInt8 => decide (x ≤ y)) = fun x y => !Op.bytesLess y x := by
    funext x y
    rw [bytesLess_eq]
    by_cases h : y < x
    · have : ¬ x ≤ y := fun h' => h' h
      simp [h, this]
    · have : x ≤ y := h
      simp [h, this]
  rw [e]
  obtain ⟨s1, s2⟩ := isortQ_spec Op.bytesLess (fun a b h => bl_asymm h) bl_up' l
  refine sorted_uniq ((List.mergeSort_perm l _).trans s2.symm) ?_ s1 ?_
  · have := List.pairwise_mergeSort (le := fun x y : List UInt8 => !Op.bytesLess y x) (fun a b c h1 h2 => by
      simp only [Bool.not_eq_true'] at h1 h2 ⊢
      cases hc : Op.bytesLess c a with
      | false => rfl
      | true =>
        have := bl_up' _ _ _ hc h1
        rw [h2] at this; cases this) (fun a b => by
      cases hc : Op.bytesLess b a with
      | false => simp
      | true => simp [bl_asymm hc]) l
    refine this.imp ?_
    intro a b h
    simpa using h
  · intro x _ y _ h1 h2
    apply Classical.byContradiction
    intro hne
    have := bl_total _ _ h1 hne
    rw [h2] at this; cases this


/-! the row in its place -/
open Go.Sort in
theorem heap_put {α : Type} [Inhabited α] {enc : α → Value} {w : World} {n g : Nat} {d : Array α} {os : Array Obj} {cur : Array Value} {e : TypeId} (hg : w.heap[g]? = some (.cells cur e (0, 0))) :
    (grow (putRow enc (Sort.ahead w n) g 0 d) os).heap[g]? = some (.cells (putCells enc 0 d cur) e (0, 0)) ∧ (∀ b, b < w.heap.size → b ≠ g → (grow (putRow enc (Sort.ahead w n) g 0 d) os).heap[b]? = w.heap[b]?) ∧ w.heap.size ≤ (grow (putRow enc (Sort.ahead w n) g 0 d) os).heap.size := by
  have hlt : g < w.heap.size := (Array.getElem?_eq_some_iff.1 hg).1
  have hh : (grow (putRow enc (Sort.ahead w n) g 0 d) os).heap = w.heap.modify g (onCells (putCells enc 0 d)) ++ os := rfl
  rw [hh]
  refine ⟨?_, fun b hb hne => ?_, ?_⟩
  · rw [Array.getElem?_append_left (by simpa using hlt), Array.getElem?_modify, if_pos rfl, hg]; rfl
  · rw [Array.getElem?_append_left (by simpa using hb), Array.getElem?_modify, if_neg (fun h => hne h.symm)]
  · simp
open Go.Sort in
theorem take_put {α : Type} [Inhabited α] {enc : α → Value} {l : List α} {cur : Array Value} (h : l.length ≤ cur.size) : (putCells enc 0 l.toArray cur).size = cur.size ∧ (putCells enc 0 l.toArray cur).toList.take l.length = l.map enc := by
  refine ⟨by simp [putCells], ?_⟩
  apply List.ext_getElem?
  intro i
  by_cases hi : i < l.length
  · rw [List.getElem?_take, if_pos hi, List.getElem?_map, List.getElem?_eq_getElem hi]
    have hc : i < cur.size := by omega
    simp [putCells, hi, hc, List.getElem?_eq_getElem hi]
  · rw [List.getElem?_eq_none (by simp; omega), List.getElem?_eq_none (by simp; omega)]
theorem rowCells_strs {μ : Mu} : ∀ {l : List (List UInt8)} {vs : List Value}, rowCells μ 1 (l.map eStr) vs ↔ vs = l.map encStr := by
  intro l
  induction l with
  | nil => intro vs; exact Iff.rfl
  | cons s l ih =>
    intro vs
    constructor
    · rintro ⟨us, ws, rfl, hu, _, hw⟩
      have hu1 := hu.1
      simp only [eStr, repAll] at hu1
      obtain ⟨u, us', rfl, hr, rfl⟩ := hu1
      rw [rep] at hr
      subst hr
      rw [ih.1 hw]; rfl
    · rintro rfl
      exact ⟨[encStr s], l.map encStr, rfl, ⟨⟨_, _, rfl, by rw [rep], rfl⟩, fun u hu => by
        simp only [List.mem_singleton] at hu; subst hu; rfl⟩, rfl, ih.2 rfl⟩
theorem same_post {μ : Mu} {loc : Nat → Value} {w : World} {o : Ob} (hpub : Pub μ w) (hob : obOK w.heap.size (lentL False loc [10000]) μ loc w 10000 o) : CallPost False μ loc [10000] (.tup []) [(10000, o)] w (.tuple #[]) μ loc w where
  ext := ⟨Mu.le.refl _, fun _ _ _ h => .inl h⟩
  pub := hpub
  res := .inl (by rw [rep.eq_def]; exact ⟨[], rfl, rfl⟩)
  obs := fun id o' h => by
    have hid := find_one h
    subst hid
    have ho : o = o' := by simpa [find] using h
    subst ho
    exact hob
  apart := fun i j oi oj hi hj hij => absurd ((find_one hi).trans (find_one hj).symm) hij
  keep := fun _ _ _ => rfl
  fix := fun _ _ _ => rfl
  os := rfl
  tape := rfl
  output := rfl
  grown := Nat.le_refl _
  drawn := fun h => h.elim
theorem sort80 {μ : Mu} {loc : Nat → Value} {w : World} {l : List (List UInt8)} (hlen : l.length ≤ 1073741824) (hpub : Pub μ w) (hob : obOK w.heap.size (lentL False loc [10000]) μ loc w 10000 (.row 9 1 (l.map eStr))) :
    Calls P 43 #[loc 10000] w fun e w' => ∃ v μ' loc', e = .returned v ∧ CallPost False μ loc [10000] (.tup []) [(10000, .row 9 1 ((isort Op.bytesLess l).map eStr))] w v μ' loc' w' := by
  have hob' := hob
  obtain ⟨vs, hown, hrc, hbl⟩ := hob'
  have hvs := rowCells_strs.1 hrc
  rcases hown.2 with ⟨e1, h0⟩ | ⟨g, cap, cur, e1, _, hg, hcap, hmax, hsz, htake⟩
  · have hl : l = [] := by
      cases l with
      | nil => rfl
      | cons a b => simp at h0
    subst hl
    have hc : Calls P 43 #[.slice none 0 0] w fun e w' => e = .returned (.tuple #[]) ∧ w' = w := Any.slices_Sort_string_none Tryz.lays190 none 0 w
    rw [e1]
    refine hc.mono ?_
    rintro e w' ⟨rfl, rfl⟩
    exact ⟨_, μ, loc, rfl, same_post hpub hob⟩
  · have hll : (l.map eStr).length = l.length := by simp
    rw [hll] at e1 hcap htake
    rw [Nat.mul_one] at hsz htake
    rw [hvs] at htake
    have hin : inB (loc 10000) g := by rw [e1]; exact inB_slice.2 rfl
    obtain ⟨hownB, hmu⟩ := hbl g hin
    have hlt : g < w.heap.size := (Array.getElem?_eq_some_iff.1 hg).1
    have hcell : ∀ (j : Nat) (hj : j < l.length), cur[j]? = some (encStr l[j]) := by
      intro j hj
      have h1 : (cur.toList.take l.length)[j]? = some (encStr l[j]) := by
        rw [htake, List.getElem?_map, List.getElem?_eq_getElem hj]; rfl
      rw [List.getElem?_take, if_pos hj] at h1
      simpa using h1
    have hH : Go.Sort.Holds encStr w g 0 l.toArray := by
      intro j hj
      have hj' : j < l.length := by simpa using hj
      have hcj := hcell j hj'
      rw [Nat.zero_add]
      refine ⟨?_, ?_⟩
      · unfold World.cell?
        simp only [hg]
        simp [hcj, hj']
      · unfold World.frozen?
        simp [hg]
    have hc : Calls P 43 #[.slice (some ⟨g, 0, none⟩) l.length cap] w fun e w' => e = .returned (.tuple #[]) ∧ ∃ n os, w' = Go.Sort.grow (Go.Sort.putRow encStr (Go.Sort.ahead w n) g 0 (l.mergeSort fun x y => decide (x ≤ y)).toArray) os := Any.slices_Sort_string Tryz.lays190 g 0 cap l w hH hlt (by omega)
    rw [e1]
    refine hc.mono ?_
    rintro e w' ⟨rfl, n, os, rfl⟩
    rw [merge_isort]
    have hpl : (isort Op.bytesLess l).length = l.length := (isortQ_spec Op.bytesLess (fun a b h => bl_asymm h) bl_up' l).2.length_eq
    obtain ⟨k1, k2, k3⟩ := heap_put (enc := encStr) (n := n) (d := (isort Op.bytesLess l).toArray) (os := os) hg
    obtain ⟨t1, t2⟩ := take_put (enc := encStr) (l := isort Op.bytesLess l) (cur := cur) (by omega)
    refine ⟨_, μ, loc, rfl, sort_post (cur := cur) (us := (isort Op.bytesLess l).map encStr) hpub e1 hcap hmax (by rw [Nat.mul_one]; exact hsz) hownB hmu k1 t1 (by rw [Nat.mul_one, ← hpl]; exact t2) (by simp [hpl]) k2 rfl rfl rfl k3 (by simp [hpl]) (rowCells_strs.2 rfl)⟩
end Go.Proofs.YtfoddgpndoeeaaaGreatDoor.cl
