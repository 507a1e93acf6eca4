/-
  RankOrders: strings.Join, taken as primitive, is sound.
-/
import Derived.Test.YtogpflcfahjafaaRkD
import Derived.Test.YtogpflcfahjafaaRkJ
import Derived.Test.YtogpflcfahjafaaAmR
set_option linter.unusedVariables false
set_option linter.unusedSimpArgs false
namespace Go.Proofs.Ytogpflcfahjafaa.rk
open Go Go.AM Go.RowKit

theorem strs_some : ∀ {xs : List (List AV)} {l : List (List UInt8)}, strs xs = some l → xs = l.map eStr := by
  intro xs
  induction xs with
  | nil => intro l h; simp [strs] at h; subst h; rfl
  | cons c xs ih =>
    intro l h
    unfold strs at h
    split at h
    · rename_i e; cases e
    · rename_i s l' e
      injection e with e1 e2
      subst e1 e2
      simp only [Option.map_eq_some_iff] at h
      obtain ⟨m, hm, rfl⟩ := h
      rw [ih hm]; rfl
    · cases h

theorem joinB_eq (sep : List UInt8) : ∀ l : List (List UInt8), joinB sep l = Lib.join l sep := by
  intro l
  cases l with
  | nil => rfl
  | cons x l =>
    rw [Lib.join_cons]
    induction l generalizing x with
    | nil => simp [joinB, Lib.joinTail]
    | cons y l ih =>
      simp only [joinB, ih y, Lib.joinTail, List.map_cons, List.flatten_cons, List.append_assoc]

theorem post_of {μ : Mu} {loc : Nat → Value} {w w' : World} {r : AV} {v : Value} (hp : Pub μ w) (hb : Below w.heap.size w w') (hr : rep μ r v) : CallPost μ loc [] r [] w v μ loc w' where
  ext := ⟨Mu.le.refl _, fun _ _ _ h => .inl h⟩
  pub := fun b j x hx => by
    have h := hp b j x hx
    have hlt : b < w.heap.size := by
      unfold World.cell? at h
      split at h
      · rename_i c t q hc; exact (Array.getElem?_eq_some_iff.1 hc).1
      · cases h
    rw [hb.cell (p := ⟨b, j, none⟩) hlt]; exact h
  res := hr
  obs := fun id o h => by cases h
  apart := fun i j oi oj h => by cases h
  keep := fun b hlt _ => hb.block b hlt
  fix := fun id h => by cases h
  os := hb.os
  tape := hb.tape
  output := hb.output
  grown := hb.size

theorem enter31 (us : Array Value) (w2 : World) : (callFunc 31 us).run P w2 = .ok (.enter 31 us) w2 := by
  have hname : ¬ (Try.f31.name = "runtime.NumGoroutine") := by decide
  have hbody : Try.f31.body.isSome = true := by rfl
  obtain ⟨c, hc⟩ := Option.isSome_iff_exists.1 hbody
  simp [callFunc, Try.func31, hname, hc]

theorem prim_ok : CallOK P prim := by
  intro g args lent r lent' hv w μ loc us hpub hobs hap hus
  unfold prim at hv
  split at hv
  · rename_i xs sep
    split at hv
    · rename_i l hl
      obtain ⟨hb, hv⟩ := bif_some hv
      simp only [Bool.and_eq_true] at hb
      have h1 := Nat.le_of_ble_eq_true hb.1
      have h2 := Nat.le_of_ble_eq_true hb.2
      simp only [Option.some.injEq, Prod.mk.injEq] at hv
      obtain ⟨rfl, rfl⟩ := hv
      have hxs := strs_some hl
      subst hxs
      obtain ⟨u0, us1, rfl, hu0, hus1⟩ := hus
      obtain ⟨u1, us2, rfl, hu1, hus2⟩ := hus1
      have : us2 = [] := hus2
      subst this
      have hu0' : rep μ (.lst 1 (l.map eStr)) u0 := hu0
      have hu1' : rep μ (.str sep) u1 := hu1
      rw [rep.eq_def] at hu0'
      rw [rep.eq_def] at hu1'
      dsimp only at hu0' hu1'
      subst hu1'
      obtain ⟨A, c, rfl, hc1, hc2, hA⟩ := hu0'
      refine ⟨fun w2 => ?_, ?_⟩
      · exact enter31 _ w2
      · rcases hA with h0 | ⟨b, off, rfl, hrow⟩
        · have hl0 : l = [] := by simpa using h0
          subst hl0
          refine (Try.strings_Join_none A c ⟨sep.toArray⟩ w).mono ?_
          rintro e w' ⟨rfl, rfl⟩
          exact ⟨_, μ, loc, rfl, post_of hpub (Below.refl _ _) (by rw [rep]; rfl)⟩
        · cases hl2 : l with
          | nil =>
            subst hl2
            refine (Try.strings_Join_none (some ⟨b, off, none⟩) c ⟨sep.toArray⟩ w).mono ?_
            rintro e w' ⟨rfl, rfl⟩
            exact ⟨_, μ, loc, rfl, post_of hpub (Below.refl _ _) (by rw [rep]; rfl)⟩
          | cons x0 l0 =>
            rw [← hl2]
            have hcell : ∀ (j : Nat) s, l[j]? = some s → μ b (off + j) = some (.string ⟨s.toArray⟩) := by
              intro j s hs
              obtain ⟨vs, k1, k2, k3⟩ := repRow_get hrow (i := j) (x := eStr s) (by simp [hs])
              have k1' := k1.1
              simp only [eStr, repAll] at k1'
              obtain ⟨u, us, rfl, hu, rfl⟩ := k1'
              rw [rep] at hu
              subst hu
              have := k3 0 _ rfl
              simpa using this
            have hlt : b < w.heap.size := by
              have h := hpub _ _ _ (hcell 0 x0 (by simp [hl2]))
              unfold World.cell? at h
              split at h
              · rename_i c t q hc; exact (Array.getElem?_eq_some_iff.1 hc).1
              · cases h
            have e1 : (l.map fun s => (⟨s.toArray⟩ : ByteArray)).map (·.data.toList) = l := by
              rw [List.map_map]; simp [Function.comp_def]
            have := Try.strings_Join b off c (l.map fun s => ⟨s.toArray⟩) ⟨sep.toArray⟩ w (fun j x hx => by
              simp only [List.getElem?_map, Option.map_eq_some_iff] at hx
              obtain ⟨s, hs, rfl⟩ := hx
              exact hpub _ _ _ (hcell j s hs)) hlt (by simpa using h2) (by simpa using hc1) (by rw [e1, ← joinB_eq]; exact h1)
            rw [e1, ← joinB_eq, List.length_map] at this
            rw [List.length_map]
            refine this.mono ?_
            rintro e w' ⟨rfl, hbw⟩
            exact ⟨_, μ, loc, rfl, post_of hpub hbw (by rw [rep])⟩
    · cases hv
  · cases hv
end Go.Proofs.Ytogpflcfahjafaa.rk
