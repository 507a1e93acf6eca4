/-
  The Closure laws: strings.Join, math/bits.TrailingZeros64, slices.Sort and slices.SortFunc, taken as primitives, are sound.
-/
import Derived.Test.YtfoddgpndoeeaaaGreatDoorClT
import Derived.Test.YtfoddgpndoeeaaaGreatDoorClQd
import Derived.Test.YtfoddgpndoeeaaaGreatDoorAmR
set_option linter.unusedVariables false
set_option linter.unusedSimpArgs false
namespace Go.Proofs.YtfoddgpndoeeaaaGreatDoor.cl
open Go Go.AM Go.RowKit

theorem strs_some : ∀ {xs : List (List AV)} {l : List (List UInt8)}, strs xs = some l → xs = l.map eStr := by
  intro xs
  induction xs with
  | nil => intro l h; simp [strs] at h; subst h; rfl
  | cons c xs ih =>
    intro l h
    unfold strs at h
    split at h
    · rename_i e; cases e
    · rename_i s l' e
      injection e with e1 e2
      subst e1 e2
      simp only [Option.map_eq_some_iff] at h
      obtain ⟨m, hm, rfl⟩ := h
      rw [ih hm]; rfl
    · cases h

theorem joinB_eq (sep : List UInt8) : ∀ l : List (List UInt8), joinB sep l = Lib.join l sep := by
  intro l
  cases l with
  | nil => rfl
  | cons x l =>
    rw [Lib.join_cons]
    induction l generalizing x with
    | nil => simp [joinB, Lib.joinTail]
    | cons y l ih =>
      simp only [joinB, ih y, Lib.joinTail, List.map_cons, List.flatten_cons, List.append_assoc]

theorem post_of {μ : Mu} {loc : Nat → Value} {w w' : World} {r : AV} {v : Value} (hp : Pub μ w) (hb : Below w.heap.size w w') (hr : rep μ r v) : CallPost False μ loc [] r [] w v μ loc w' where
  ext := ⟨Mu.le.refl _, fun _ _ _ h => .inl h⟩
  pub := fun b j x hx => by
    have h := hp b j x hx
    rw [see_of_block (hb.block b (see_lt h)) j]; exact h
  res := .inl hr
  obs := fun id o h => by cases h
  apart := fun i j oi oj h => by cases h
  keep := fun b hlt _ => hb.block b hlt
  fix := fun id h => by cases h
  os := hb.os
  tape := hb.tape
  output := hb.output
  grown := hb.size
  drawn := fun h => h.elim

theorem enter19 (us : Array Value) (w2 : World) : (callFunc 19 us).run P w2 = .ok (.enter 19 us) w2 := by
  have hname : ¬ (Tryz.f19.name = "runtime.NumGoroutine") := by decide
  have hbody : Tryz.f19.body.isSome = true := by rfl
  obtain ⟨c, hc⟩ := Option.isSome_iff_exists.1 hbody
  simp [callFunc, Tryz.func19, hname, hc]

/-- what is laid: the table of math/bits -/
def tabB : Mu := fun b j => if b = 0 ∧ j < 64 then some (.int .u8 (Lib.deBruijn64tab.getD j 0)) else none
theorem enter51 (us : Array Value) (w2 : World) : (callFunc 51 us).run P w2 = .ok (.enter 51 us) w2 := by
  have hname : ¬ (Tryz.f51.name = "runtime.NumGoroutine") := by decide
  have hbody : Tryz.f51.body.isSome = true := by rfl
  obtain ⟨c, hc⟩ := Option.isSome_iff_exists.1 hbody
  simp [callFunc, Tryz.func51, hname, hc]
theorem tz_from : ∀ (k n : Nat), tz k n = Lib.ctzFrom k n
  | 0, _ => rfl
  | k + 1, n => by
    rw [tz, Lib.ctzFrom, tz_from k]
    by_cases h : n % 2 = 1
    · simp [h]
    · have hb : Nat.beq (n % 2) 1 = false := by
        cases hb : Nat.beq (n % 2) 1 with
        | false => rfl
        | true => exact absurd (Nat.eq_of_beq_eq_true hb) h
      rw [if_neg h, hb]; rfl
theorem tz_ctz (n : Nat) : tz 64 n = Lib.ctz 64 n := by
  rw [tz_from, Lib.ctz]
  split
  · rename_i h; subst h; decide
  · rfl
theorem base_row {n0 : Nat} {L : Lent} {μ : Mu} {loc : Nat → Value} {w : World} {id e sz : Nat} {xs : List (List AV)} (h : obOK n0 L μ loc w id (.row e sz xs)) : baseV (loc id) = loc id := by
  obtain ⟨vs, hown, _⟩ := h
  rcases hown.2 with ⟨e1, _⟩ | ⟨g, cap, cur, e1, _⟩
  · rw [e1]; rfl
  · rw [e1]; rfl
theorem enter43 (us : Array Value) (w2 : World) : (callFunc 43 us).run P w2 = .ok (.enter 43 us) w2 := by
  have hname : ¬ (Tryz.f43.name = "runtime.NumGoroutine") := by decide
  have hbody : Tryz.f43.body.isSome = true := by rfl
  obtain ⟨c, hc⟩ := Option.isSome_iff_exists.1 hbody
  simp [callFunc, Tryz.func43, hname, hc]
theorem enter21 (us : Array Value) (w2 : World) : (callFunc 21 us).run P w2 = .ok (.enter 21 us) w2 := by
  have hname : ¬ (Tryz.f21.name = "runtime.NumGoroutine") := by decide
  have hbody : Tryz.f21.body.isSome = true := by rfl
  obtain ⟨c, hc⟩ := Option.isSome_iff_exists.1 hbody
  simp [callFunc, Tryz.func21, hname, hc]
theorem prim0_ok : CallOK False tabB P prim0 := by
  intro g args lent r lent' hv w μ loc us hB hpub hobs hap hus
  unfold prim0 at hv
  split at hv
  · rename_i xs sep
    split at hv
    · rename_i l hl
      obtain ⟨hb, hv⟩ := bif_some hv
      simp only [Bool.and_eq_true] at hb
      have h1 := Nat.le_of_ble_eq_true hb.1
      have h2 := Nat.le_of_ble_eq_true hb.2
      simp only [Option.some.injEq, Prod.mk.injEq] at hv
      obtain ⟨rfl, rfl⟩ := hv
      have hxs := strs_some hl
      subst hxs
      obtain ⟨u0, us1, rfl, hu0, hus1⟩ := hus
      obtain ⟨u1, us2, rfl, hu1, hus2⟩ := hus1
      have : us2 = [] := hus2
      subst this
      have hu0' : rep μ (.lst 1 (l.map eStr)) u0 := hu0
      have hu1' : rep μ (.str sep) u1 := hu1
      rw [rep.eq_def] at hu0'
      rw [rep.eq_def] at hu1'
      dsimp only at hu0' hu1'
      subst hu1'
      obtain ⟨A, c, rfl, hc1, hc2, hA⟩ := hu0'
      refine ⟨fun w2 => ?_, ?_⟩
      · exact enter19 _ w2
      · rcases hA with h0 | ⟨b, off, rfl, hrow⟩
        · have hl0 : l = [] := by simpa using h0
          subst hl0
          refine (Tryz.strings_Join_none A c ⟨sep.toArray⟩ w).mono ?_
          rintro e w' ⟨rfl, rfl⟩
          exact ⟨_, μ, loc, rfl, post_of hpub (Below.refl _ _) (by rw [rep]; rfl)⟩
        · cases hl2 : l with
          | nil =>
            subst hl2
            refine (Tryz.strings_Join_none (some ⟨b, off, none⟩) c ⟨sep.toArray⟩ w).mono ?_
            rintro e w' ⟨rfl, rfl⟩
            exact ⟨_, μ, loc, rfl, post_of hpub (Below.refl _ _) (by rw [rep]; rfl)⟩
          | cons x0 l0 =>
            rw [← hl2]
            have hcell : ∀ (j : Nat) s, l[j]? = some s → μ b (off + j) = some (.string ⟨s.toArray⟩) := by
              intro j s hs
              obtain ⟨vs, k1, k2, k3⟩ := repRow_get hrow (i := j) (x := eStr s) (by simp [hs])
              have k1' := k1.1
              simp only [eStr, repAll] at k1'
              obtain ⟨u, us, rfl, hu, rfl⟩ := k1'
              rw [rep] at hu
              subst hu
              have := k3 0 _ rfl
              simpa using this
            have hlt : b < w.heap.size := see_lt (hpub _ _ _ (hcell 0 x0 (by simp [hl2])))
            have e1 : (l.map fun s => (⟨s.toArray⟩ : ByteArray)).map (·.data.toList) = l := by
              rw [List.map_map]; simp [Function.comp_def]
            have := Tryz.strings_Join b off c (l.map fun s => ⟨s.toArray⟩) ⟨sep.toArray⟩ w (fun j x hx => by
              simp only [List.getElem?_map, Option.map_eq_some_iff] at hx
              obtain ⟨s, hs, rfl⟩ := hx
              exact see_cell (hpub _ _ _ (hcell j s hs)) rfl) hlt (by simpa using h2) (by simpa using hc1) (by rw [e1, ← joinB_eq]; exact h1)
            rw [e1, ← joinB_eq, List.length_map] at this
            rw [List.length_map]
            refine this.mono ?_
            rintro e w' ⟨rfl, hbw⟩
            exact ⟨_, μ, loc, rfl, post_of hpub hbw (by rw [rep])⟩
    · cases hv
  · rename_i n
    split at hv
    · rename_i m
      obtain ⟨hb, hv⟩ := bif_some hv
      have hm : m < 18446744073709551616 := by simpa [Nat.blt_eq] using hb
      simp only [Option.some.injEq, Prod.mk.injEq] at hv
      obtain ⟨rfl, rfl⟩ := hv
      obtain ⟨u0, us1, rfl, hu0, hus1⟩ := hus
      have : us1 = [] := hus1
      subst this
      have hu0' : rep μ (.int .u64 (Int.ofNat m)) u0 := hu0
      rw [rep] at hu0'
      subst hu0'
      refine ⟨fun w2 => enter51 _ w2, ?_⟩
      have htab : TabAt 0 Lib.deBruijn64tab w := by
        intro j hj
        have hj64 : j < 64 := hj
        exact see_cell (hpub 0 j _ (hB 0 j _ (by simp only [tabB]; rw [if_pos ⟨trivial, hj64⟩]))) rfl
      refine (Any7.bits_TrailingZeros64 Tryz.lays29 m hm w (fun _ => htab)).mono ?_
      rintro e w' ⟨rfl, rfl⟩
      exact ⟨_, μ, loc, rfl, post_of hpub (Below.refl _ _) (by rw [rep, tz_ctz])⟩
    · cases hv
  · rename_i xs
    split at hv
    · rename_i l hl
      obtain ⟨hb, hv⟩ := bif_some hv
      simp only [Option.some.injEq, Prod.mk.injEq] at hv
      obtain ⟨rfl, rfl⟩ := hv
      have hxs := strs_some hl
      subst hxs
      obtain ⟨u0, us1, rfl, hu0, hus1⟩ := hus
      have : us1 = [] := hus1
      subst this
      have hu0' : u0 = loc 10000 := (show u0 = baseV (loc 10000) from hu0).trans (base_row (hobs 10000 _ rfl))
      subst hu0'
      exact ⟨fun w2 => enter43 _ w2, sort80 (Nat.le_of_ble_eq_true hb) hpub (hobs 10000 _ rfl)⟩
    · cases hv
  · cases hv
theorem prim_ok : CallOK False tabB P prim := by
  intro g args lent r lent' hv w μ loc us hB hpub hobs hap hus
  unfold prim at hv
  split at hv
  · rename_i xs
    split at hv
    · rename_i l hl
      obtain ⟨hb, hv⟩ := bif_some hv
      simp only [Bool.and_eq_true] at hb
      simp only [Option.some.injEq, Prod.mk.injEq] at hv
      obtain ⟨rfl, rfl⟩ := hv
      obtain ⟨hxs, hlt⟩ := ents_some hl
      subst hxs
      obtain ⟨u0, us1, rfl, hu0, hus1⟩ := hus
      obtain ⟨u1, us2, rfl, hu1, hus2⟩ := hus1
      have : us2 = [] := hus2
      subst this
      have hu0' : u0 = loc 10000 := (show u0 = baseV (loc 10000) from hu0).trans (base_row (hobs 10000 _ rfl))
      subst hu0'
      have hu1' : rep μ (.fn 22 []) u1 := hu1
      rw [rep.eq_def] at hu1'
      dsimp only at hu1'
      obtain ⟨vs, rfl, hvs⟩ := hu1'
      have : vs = [] := hvs
      subst this
      exact ⟨fun w2 => enter21 _ w2, sort47 (Nat.le_of_ble_eq_true hb.2) hb.1 hlt hpub (hobs 10000 _ rfl)⟩
    · cases hv
  · exact prim0_ok g args lent r lent' hv w μ loc us hB hpub hobs hap hus
end Go.Proofs.YtfoddgpndoeeaaaGreatDoor.cl
