/-
  The Closure laws: slices.SortFunc of the coded types, taken as a primitive, is sound.
-/
import Derived.Test.YtfoddgpndoeeaaaGreatDoorClQb
import Derived.Test.YtfoddgpndoeeaaaGreatDoorClCr
set_option linter.unusedVariables false
set_option linter.unusedSimpArgs false
namespace Go.Proofs.YtfoddgpndoeeaaaGreatDoor.cl
open Go Go.AM Go.RowKit

theorem ok : progOk P = true := by kernel_rfl
theorem hq_blk (f : Nat) : (cq.Hq f).blk = [] := by
  have key : ∀ (l : List (Nat × Hint)), (l.all fun p => Nat.beq p.1 74 || p.2.blk.isEmpty) = true → ∀ f, f ≠ 74 → ((find l f).getD {}).blk = [] := by
    intro l
    induction l with
    | nil => intro _ f _; rfl
    | cons p l ih =>
      intro h f hf
      rw [List.all_cons, Bool.and_eq_true, Bool.or_eq_true] at h
      simp only [find]
      cases hb : Nat.beq p.1 f with
      | true =>
        rw [cond_true]
        rcases h.1 with h1 | h1
        · exact absurd ((Nat.eq_of_beq_eq_true hb).symm.trans (Nat.eq_of_beq_eq_true h1)) hf
        · exact List.isEmpty_iff.1 h1
      | false => rw [cond_false]; exact ih h.2 f hf
  unfold cq.Hq
  cases hb : Nat.beq f 74 with
  | true => rfl
  | false =>
    rw [cond_false]
    exact key hints (by kernel_rfl) f fun e => by rw [e] at hb; cases hb
theorem blk_none : ∀ f fn c, P.funcs[f]? = some fn → fn.body = some c → BlkOK True (fun _ _ => none) P (cq.Hq f) fn.ntmps c := fun f fn c _ _ => BlkOK.none (hq_blk f) c
theorem none_ok : CallOK True (fun _ _ => none) P cq.prim := fun g args lent r lent' hv => by cases hv

/-- an element as it lies in memory -/
def Good (μ : Mu) (x : EntW × List Value) : Prop := repC μ (EntW.enc x.1) x.2 ∧ x.1.2 < 18446744073709551616
abbrev Al (μ : Mu) : Type := { x : EntW × List Value // Good μ x }
instance (μ : Mu) : Inhabited (Al μ) := ⟨⟨(([], 0), [.string ⟨#[]⟩, .slice none 0 0]), ⟨⟨⟨_, _, rfl, by rw [rep], ⟨_, _, rfl, by rw [rep]; exact ⟨none, 0, rfl, Nat.le_refl _, Nat.zero_le _, .inl rfl⟩, rfl⟩⟩, fun u hu => by
  simp only [List.mem_cons, List.not_mem_nil, or_false] at hu
  rcases hu with rfl | rfl <;> rfl⟩, by decide⟩⟩⟩
def Al.cells {μ : Mu} (x : Al μ) : List Value := x.1.2
theorem Al.len {μ : Mu} (x : Al μ) : x.cells.length = 2 := by
  obtain ⟨⟨p, vs⟩, ⟨h, _⟩, _⟩ := x
  obtain ⟨u, us, e, _, ⟨u', us', e', _, e''⟩⟩ := h
  have e0 : vs = u :: us := e
  have e2 : us' = [] := e''
  show vs.length = 2
  rw [e0, e', e2]; rfl
theorem Al.one {μ : Mu} (x : Al μ) : ∀ v ∈ x.cells, v.oneCell' = true := x.2.1.2
def Al.cf {μ : Mu} (x y : Al μ) : Int := cq.cmpE x.1.1 y.1.1
theorem ltOf_cf {μ : Mu} (x y : Al μ) : ltOf Al.cf x y = ltC x.1.1 y.1.1 := cq.cmpE_lt _ _
theorem ltC_iff {p q : EntW} : ltC p q = true ↔ cntN 64 q.2 < cntN 64 p.2 ∨ (cntN 64 p.2 = cntN 64 q.2 ∧ Op.bytesLess p.1 q.1 = true) := by
  unfold ltC
  rw [Bool.or_eq_true, Bool.and_eq_true]
  constructor
  · rintro (h | ⟨h1, h2⟩)
    · exact .inl (Nat.le_of_ble_eq_true h)
    · exact .inr ⟨Nat.eq_of_beq_eq_true h1, h2⟩
  · rintro (h | ⟨h1, h2⟩)
    · exact .inl (Nat.ble_eq_true_of_le h)
    · exact .inr ⟨by rw [h1]; exact Nat.beq_refl _, h2⟩
theorem ltC_asymm (p q : EntW) (h : ltC p q = true) : ltC q p = false := by
  apply Classical.byContradiction
  intro hc
  rw [Bool.not_eq_false, ltC_iff] at hc
  rw [ltC_iff] at h
  rcases h with h | ⟨h1, h2⟩
  · rcases hc with h' | ⟨h1', _⟩ <;> omega
  · rcases hc with h' | ⟨h1', h2'⟩
    · omega
    · rw [bl_asymm h2] at h2'; cases h2'
theorem ltC_up (x y z : EntW) (h : ltC x y = true) (h' : ltC z y = false) : ltC x z = true := by
  rw [ltC_iff] at h ⊢
  have hn : ¬ (cntN 64 y.2 < cntN 64 z.2 ∨ (cntN 64 z.2 = cntN 64 y.2 ∧ Op.bytesLess z.1 y.1 = true)) := fun hc => by
    rw [← ltC_iff, h'] at hc; cases hc
  simp only [not_or, not_and] at hn
  rcases h with h | ⟨h1, h2⟩
  · left; omega
  · by_cases e : cntN 64 z.2 = cntN 64 y.2
    · right
      refine ⟨by omega, ?_⟩
      have hz := hn.2 e
      have hz' : Op.bytesLess z.1 y.1 = false := by simpa using hz
      exact bl_up' _ _ _ h2 hz'
    · left; omega
theorem ltC_irrefl (p : EntW) : ltC p p = false := by
  cases h : ltC p p with
  | false => rfl
  | true => rw [ltC_asymm p p h] at h; cases h
theorem swo {μ : Mu} : Go.Sort.SWO (ltOf (Al.cf (μ := μ))) where
  irrefl x := by rw [ltOf_cf, ltC_irrefl]
  trans x y z h1 h2 := by
    rw [ltOf_cf] at *
    exact ltC_up _ _ _ h1 (ltC_asymm _ _ h2)
  ntrans x y z h1 h2 := by
    rw [ltOf_cf] at *
    cases hc : ltC x.1.1 z.1.1 with
    | false => rfl
    | true =>
      have := ltC_up _ _ _ hc h2
      rw [h1] at this; cases this
theorem enc_tc (p : EntW) : Coded.enc (cq.tc p) = EntW.enc p := by
  show [AV.str p.1, AV.lst 1 ((cq.wl p.2).map (eInt .u64))] = [AV.str p.1, AV.lst 1 (bif Nat.beq p.2 0 then [] else [[.int .u64 (p.2 : Int)]])]
  unfold cq.wl
  cases Nat.beq p.2 0 <;> rfl
theorem cmp48 {μ : Mu} {W : World} (hpub : Pub μ W) (x y : Al μ) : Calls P 22 #[.agg x.cells.toArray, .agg y.cells.toArray] W fun e w' => e = .returned (.int .i64 (Al.cf x y)) ∧ ∃ q os', w' = Go.Sort.grow (W.drewN q) os' := by
  have hr : cq.Rn 22 [(.pv (.agg (EntW.enc x.1.1))), (.pv (.agg (EntW.enc y.1.1)))] [] = some (.int .i64 (cq.cmpE x.1.1 y.1.1), []) := by
    have := dec_imp (EN cq.Q0) (cq.Rn 22 [(.pv (.agg (Coded.enc (cq.tc x.1.1)))), (.pv (.agg (Coded.enc (cq.tc y.1.1))))] []) _ (cq.i48 x.2.2 y.2.2)
    rw [enc_tc, enc_tc] at this
    exact this
  have hs := run_sound (q := True) (B := fun _ _ => none) ok blk_none none_ok 22 _ [] _ _ hr W μ (fun _ => undef) [.agg x.cells.toArray, .agg y.cells.toArray] (fun _ _ _ h => by cases h) hpub (fun id o h => by cases h) (fun i j oi oj h => by cases h)
    ⟨_, _, rfl, (by show rep μ (.agg (EntW.enc x.1.1)) _; rw [rep]; exact ⟨_, rfl, x.2.1.1, x.2.1.2⟩), _, _, rfl, (by show rep μ (.agg (EntW.enc y.1.1)) _; rw [rep]; exact ⟨_, rfl, y.2.1.1, y.2.1.2⟩), rfl⟩
  refine hs.2.mono ?_
  rintro e w' ⟨v, μ', loc', rfl, hP⟩
  have hv := hP.pure rfl
  rw [rep] at hv
  subst hv
  refine ⟨rfl, w'.drawn - W.drawn, w'.heap.extract W.heap.size w'.heap.size, ?_⟩
  have hd := hP.drawn trivial
  have hheap : w'.heap = W.heap ++ w'.heap.extract W.heap.size w'.heap.size := by
    apply Array.ext_getElem?
    intro b
    by_cases hb : b < W.heap.size
    · rw [Array.getElem?_append_left hb]
      exact hP.keep b hb (by rintro ⟨id, v, h, _⟩; simp [lentL] at h)
    · rw [Array.getElem?_append_right (by omega), Array.getElem?_extract]
      have hg := hP.grown
      by_cases hb2 : b < w'.heap.size
      · rw [if_pos (by omega), show W.heap.size + (b - W.heap.size) = b by omega]
      · rw [if_neg (by omega), Array.getElem?_eq_none (by omega)]
  have ext : ∀ {a b : World}, a.heap = b.heap → a.tape = b.tape → a.drawn = b.drawn → a.os = b.os → a.output = b.output → a = b := by
    intro a b h1 h2 h3 h4 h5
    cases a; cases b
    simp only at h1 h2 h3 h4 h5
    subst h1 h2 h3 h4 h5; rfl
  exact ext hheap hP.tape (show w'.drawn = W.drawn + (w'.drawn - W.drawn) by omega) hP.os hP.output
end Go.Proofs.YtfoddgpndoeeaaaGreatDoor.cl
