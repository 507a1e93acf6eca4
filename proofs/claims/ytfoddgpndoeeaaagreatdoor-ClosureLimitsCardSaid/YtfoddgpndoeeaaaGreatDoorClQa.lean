/-
  The Closure laws: a row that is sorted in its place: what a caller of the machine's is told.
-/
import Derived.Test.YtfoddgpndoeeaaaGreatDoorClT
import Derived.Test.YtfoddgpndoeeaaaGreatDoorClY
import Derived.Test.YtfoddgpndoeeaaaGreatDoorAmR
set_option linter.unusedVariables false
set_option linter.unusedSimpArgs false
namespace Go.Proofs.YtfoddgpndoeeaaaGreatDoor.cl
open Go Go.AM Go.RowKit

theorem sort_post {μ : Mu} {loc : Nat → Value} {w w' : World} {e sz g n cap : Nat} {ys : List (List AV)} {us : List Value} {cur cur' : Array Value}
    (hpub : Pub μ w) (hloc : loc 10000 = .slice (some ⟨g, 0, none⟩) n cap) (hcap : n ≤ cap) (hmax : cap ≤ maxLen) (hsize : cur.size = cap * sz) (hown : ownB w.heap.size (lentL False loc [10000]) 10000 g) (hmu : ∀ j, μ g j = none)
    (hg : w'.heap[g]? = some (.cells cur' e (0, 0))) (hs : cur'.size = cur.size) (hus : cur'.toList.take (n * sz) = us) (hul : us.length = n * sz) (hoth : ∀ b, b < w.heap.size → b ≠ g → w'.heap[b]? = w.heap[b]?)
    (hos : w'.os = w.os) (ht : w'.tape = w.tape) (hout : w'.output = w.output) (hgr : w.heap.size ≤ w'.heap.size) (hyl : ys.length = n) (hrc : rowCells μ sz ys us) :
    CallPost False μ loc [10000] (.tup []) [(10000, .row e sz ys)] w (.tuple #[]) μ loc w' where
  ext := ⟨Mu.le.refl _, fun _ _ _ h => .inl h⟩
  pub := fun b j x hx => by
    have h := hpub b j x hx
    have hne : b ≠ g := fun e => by subst e; rw [hmu j] at hx; cases hx
    rw [see_of_block (hoth b (see_lt h) hne) j]; exact h
  res := .inl (by rw [rep.eq_def]; exact ⟨[], rfl, rfl⟩)
  obs := fun id o h => by
    have hid := find_one h
    subst hid
    have ho : Ob.row e sz ys = o := by simpa [find] using h
    subst ho
    refine ⟨us, ⟨by rw [hul, hyl], .inr ⟨g, cap, cur', by rw [hloc, hyl], Nat.zero_le _, hg, by rw [hyl]; exact hcap, hmax, by rw [hs, hsize], by rw [hyl]; exact hus⟩⟩, hrc, fun q hq => ?_⟩
    have : q = g := by
      rw [hloc] at hq
      have h2 : some g = some q := inB_slice.1 hq
      exact (Option.some.inj h2).symm
    subst this
    exact ⟨hown, hmu⟩
  apart := fun i j oi oj hi hj hij => absurd ((find_one hi).trans (find_one hj).symm) hij
  keep := fun b hlt hl => hoth b hlt (fun e => by
    subst e
    exact hl ⟨10000, loc 10000, by simp [lentL], by rw [hloc]; exact inB_slice.2 rfl⟩)
  fix := fun _ _ _ => rfl
  os := hos
  tape := ht
  output := hout
  grown := hgr
  drawn := fun h => h.elim
end Go.Proofs.YtfoddgpndoeeaaaGreatDoor.cl
