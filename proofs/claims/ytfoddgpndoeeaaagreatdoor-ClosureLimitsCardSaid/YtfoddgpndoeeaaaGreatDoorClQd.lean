/-
  The Closure laws: slices.SortFunc of the coded types, taken as a primitive, is sound: the row.
-/
import Derived.Test.YtfoddgpndoeeaaaGreatDoorClQc
set_option linter.unusedVariables false
set_option linter.unusedSimpArgs false
namespace Go.Proofs.YtfoddgpndoeeaaaGreatDoor.cl
open Go Go.AM Go.RowKit
open Go.Sort (flatK size_flatK get_flatK ext_get!)

theorem word_some {ws : List (List AV)} {m : Nat} (h : wordOf ws = some m) : ws = (bif Nat.beq m 0 then [] else [[.int .u64 (m : Int)]]) ∧ m < 18446744073709551616 := by
  unfold wordOf at h
  split at h
  · simp only [Option.some.injEq] at h; subst h; exact ⟨rfl, by decide⟩
  · rename_i k
    obtain ⟨hb, hv⟩ := bif_some h
    simp only [Bool.and_eq_true] at hb
    simp only [Option.some.injEq] at hv
    subst hv
    have h1 : 0 < k := by have := hb.1; simpa [Nat.blt_eq] using this
    have h2 : k < 18446744073709551616 := by have := hb.2; simpa [Nat.blt_eq] using this
    refine ⟨?_, h2⟩
    rw [cq.beq0 (by omega)]; rfl
  · cases h
theorem ents_some : ∀ {xs : List (List AV)} {l : List EntW}, entsOf xs = some l → xs = l.map EntW.enc ∧ ∀ p ∈ l, p.2 < 18446744073709551616 := by
  intro xs
  induction xs with
  | nil => intro l h; simp [entsOf] at h; subst h; exact ⟨rfl, by simp⟩
  | cons c xs ih =>
    intro l h
    unfold entsOf at h
    split at h
    · rename_i e; cases e
    · rename_i s ws l' e
      injection e with e1 e2
      subst e1 e2
      split at h
      · rename_i w r hw hr
        simp only [Option.some.injEq] at h
        subst h
        obtain ⟨k1, k2⟩ := word_some hw
        obtain ⟨k3, k4⟩ := ih hr
        refine ⟨?_, ?_⟩
        · rw [k1, k3]; rfl
        · intro p hp
          rcases List.mem_cons.1 hp with rfl | hp
          · exact k2
          · exact k4 p hp
      · cases h
    · cases h
theorem als_of {μ : Mu} : ∀ {l : List EntW} {vs : List Value}, (∀ p ∈ l, p.2 < 18446744073709551616) → rowCells μ 2 (l.map EntW.enc) vs → ∃ als : List (Al μ), als.map (fun x => x.1.1) = l ∧ vs = (als.map Al.cells).flatten := by
  intro l
  induction l with
  | nil => intro vs _ h; exact ⟨[], rfl, h⟩
  | cons p l ih =>
    intro vs hl h
    obtain ⟨us, ws, rfl, h1, h2, h3⟩ := h
    obtain ⟨als, e1, e2⟩ := ih (fun q hq => hl q (by simp [hq])) h3
    refine ⟨⟨(p, us), h1, hl p (by simp)⟩ :: als, ?_, ?_⟩
    · rw [List.map_cons, e1]
    · rw [List.map_cons, List.flatten_cons, e2]; rfl
theorem of_als {μ : Mu} : ∀ (als : List (Al μ)), rowCells μ 2 (als.map fun x => EntW.enc x.1.1) (als.map Al.cells).flatten := by
  intro als
  induction als with
  | nil => rfl
  | cons x als ih => exact ⟨x.cells, (als.map Al.cells).flatten, rfl, x.2.1, x.len, ih⟩
theorem flat_len {μ : Mu} (als : List (Al μ)) : (als.map Al.cells).flatten.length = als.length * 2 := by
  induction als with
  | nil => rfl
  | cons x als ih => rw [List.map_cons, List.flatten_cons, List.length_append, ih, x.len, List.length_cons]; omega
theorem flat_get {μ : Mu} : ∀ (als : List (Al μ)) (t : Nat), t < als.length * 2 → (als.map Al.cells).flatten[t]! = (als[t / 2]!).cells[t % 2]! := by
  intro als
  induction als with
  | nil => intro t h; simp at h
  | cons x als ih =>
    intro t h
    have hx := x.len
    have hf := flat_len als
    rw [List.length_cons] at h
    rw [List.map_cons, List.flatten_cons]
    by_cases h2 : t < 2
    · have e1 : t / 2 = 0 := by omega
      have e2 : t % 2 = t := by omega
      rw [e1, e2, List.getElem!_eq_getElem?_getD, List.getElem?_append_left (by omega)]
      simp [List.getElem!_eq_getElem?_getD]
    · obtain ⟨s, rfl⟩ : ∃ s, t = s + 2 := ⟨t - 2, by omega⟩
      have e1 : (s + 2) / 2 = s / 2 + 1 := by omega
      have e2 : (s + 2) % 2 = s % 2 := by omega
      have := ih s (by omega)
      rw [List.getElem!_eq_getElem?_getD] at this
      rw [e1, e2, List.getElem!_eq_getElem?_getD, List.getElem?_append_right (by omega), hx, show s + 2 - 2 = s by omega, this]
      simp [List.getElem!_eq_getElem?_getD]
theorem flat_arr {μ : Mu} (als : List (Al μ)) : flatK Al.cells 2 als.toArray = (als.map Al.cells).flatten.toArray := by
  refine ext_get! (by simp only [size_flatK, List.size_toArray]; exact (flat_len als).symm) fun t ht => ?_
  have ht' : t < als.length * 2 := by simpa using ht
  rw [get_flatK _ _ _ t (by simpa using ht')]
  have := flat_get als t ht'
  simp only [List.getElem!_toArray] at this ⊢
  exact this.symm
theorem strict_inj {l : List EntW} (h : strictL l = true) : ∀ x ∈ l, ∀ y ∈ l, ltC x y = false → ltC y x = false → x = y := by
  induction l with
  | nil => intro x hx; cases hx
  | cons a l ih =>
    unfold strictL at h
    simp only [Bool.and_eq_true, List.all_eq_true, Bool.or_eq_true] at h
    intro x hx y hy h1 h2
    rcases List.mem_cons.1 hx with ex | hx'
    · rcases List.mem_cons.1 hy with ey | hy'
      · rw [ex, ey]
      · subst ex
        rcases h.1 y hy' with h3 | h3
        · rw [h1] at h3; cases h3
        · rw [h2] at h3; cases h3
    · rcases List.mem_cons.1 hy with ey | hy'
      · subst ey
        rcases h.1 x hx' with h3 | h3
        · rw [h2] at h3; cases h3
        · rw [h1] at h3; cases h3
      · exact ih h.2 x hx' y hy' h1 h2
theorem sorted_als {μ : Mu} {l : List EntW} (hs : strictL l = true) {als : List (Al μ)} (e : als.map (fun x => x.1.1) = l) {d' : Array (Al μ)} (hp : Go.Sort.PermIn 0 als.toArray.size als.toArray d') (hso : Go.Sort.SortedIn (ltOf Al.cf) 0 als.toArray.size d') :
    d'.toList.map (fun x => x.1.1) = isort ltC l ∧ d'.toList.length = als.length := by
  obtain ⟨p1, _, p3⟩ := hp
  have hsz : d'.size = als.length := by simpa using p1
  have e3 : d'.toList.Perm als := by
    have h1 : d'.extract 0 als.toArray.size = d' := by
      rw [← p1]; simp
    have h2 : als.toArray.extract 0 als.toArray.size = als.toArray := by simp
    rw [h1, h2] at p3
    simpa using p3
  refine ⟨?_, by simpa using hsz⟩
  obtain ⟨s1, s2⟩ := isortQ_spec ltC ltC_asymm ltC_up l
  have hp' : (d'.toList.map fun x => x.1.1).Perm l := by rw [← e]; exact e3.map _
  refine sorted_uniq (lt := ltC) (hp'.trans s2.symm) ?_ s1 ?_
  · unfold Sorted
    rw [List.pairwise_map, List.pairwise_iff_getElem]
    intro i j hi hj hij
    have hi' : i < d'.size := by simpa using hi
    have hj' : j < d'.size := by simpa using hj
    have := hso i j (Nat.zero_le _) hij (by simpa [hsz] using hj')
    rw [ltOf_cf, getElem!_pos d' j hj', getElem!_pos d' i hi'] at this
    simpa using this
  · intro x hx y hy
    exact strict_inj hs x (hp'.mem_iff.1 hx) y (hp'.mem_iff.1 hy)
theorem enter48 (us : Array Value) (w2 : World) : (callFunc 22 us).run P w2 = .ok (.enter 22 us) w2 := by
  have hname : ¬ (Tryz.f22.name = "runtime.NumGoroutine") := by decide
  have hbody : Tryz.f22.body.isSome = true := by rfl
  obtain ⟨c, hc⟩ := Option.isSome_iff_exists.1 hbody
  simp [callFunc, Tryz.func22, hname, hc]
theorem sort47 {μ : Mu} {loc : Nat → Value} {w : World} {l : List EntW} (hlen : l.length ≤ 1073741824) (hst : strictL l = true) (hw : ∀ p ∈ l, p.2 < 18446744073709551616) (hpub : Pub μ w) (hob : obOK w.heap.size (lentL False loc [10000]) μ loc w 10000 (.row 51 2 (l.map EntW.enc))) :
    Calls P 21 #[loc 10000, .func (.func 22) #[] #[]] w fun e w' => ∃ v μ' loc', e = .returned v ∧ CallPost False μ loc [10000] (.tup []) [(10000, .row 51 2 ((isort ltC l).map EntW.enc))] w v μ' loc' w' := by
  have hob' := hob
  obtain ⟨vs, hown, hrc, hbl⟩ := hob'
  rcases hown.2 with ⟨e1, h0⟩ | ⟨g, cap, cur, e1, _, hg, hcap, hmax, hsz, htake⟩
  · have hl : l = [] := by
      cases l with
      | nil => rfl
      | cons a b => simp at h0
    subst hl
    have hc : Calls P 21 #[.slice none 0 0, .func (.func 22) #[] #[]] w fun e w' => e = .returned (.tuple #[]) ∧ w' = w := AnyF.slices_SortFunc_none Tryz.laysF6 none 0 _ w
    rw [e1]
    refine hc.mono ?_
    rintro e w' ⟨rfl, rfl⟩
    exact ⟨_, μ, loc, rfl, same_post hpub hob⟩
  · obtain ⟨als, ha1, ha2⟩ := als_of hw hrc
    have hal : als.length = l.length := by rw [← ha1]; simp
    have hll : (l.map EntW.enc).length = als.length := by simp [hal]
    rw [hll] at e1 hcap htake
    rw [ha2] at htake
    have hfl := flat_len als
    have hin : inB (loc 10000) g := by rw [e1]; exact inB_slice.2 rfl
    obtain ⟨hownB, hmu⟩ := hbl g hin
    have hlt : g < w.heap.size := (Array.getElem?_eq_some_iff.1 hg).1
    have hcell : ∀ (j : Nat), j < als.length * 2 → cur[j]? = (als.map Al.cells).flatten[j]? := by
      intro j hj
      have h1 : (cur.toList.take (als.length * 2))[j]? = (als.map Al.cells).flatten[j]? := by rw [htake]
      rw [List.getElem?_take, if_pos hj] at h1
      simpa using h1
    have hH : Go.Sort.HoldsK Al.cells 2 w g 0 als.toArray := by
      intro j hj
      rw [flat_arr] at hj ⊢
      have hj' : j < als.length * 2 := by rw [← hfl]; simpa using hj
      have hcj := hcell j hj'
      have hjf : j < (als.map Al.cells).flatten.length := by omega
      rw [List.getElem?_eq_getElem hjf] at hcj
      rw [Nat.zero_add]
      refine ⟨?_, ?_⟩
      · unfold World.cell?
        simp only [hg]
        rw [List.getElem!_toArray, List.getElem!_eq_getElem?_getD, List.getElem?_eq_getElem hjf]
        simp [hcj]
      · unfold World.frozen?
        simp [hg]
    have hcmp : CmpLays P 22 #[] (Al.cells (μ := μ)) 2 Al.cf g 0 als.toArray.size w := by
      intro m os dk hdk x y
      refine cmp48 (W := sortWorldK Al.cells 2 w g 0 m dk os) ?_ x y
      obtain ⟨_, k2, _⟩ := heap_put (enc := id) (n := m) (d := flatK Al.cells 2 dk) (os := os) hg
      intro b j z hz
      have h := hpub b j z hz
      have hne : b ≠ g := fun e => by subst e; rw [hmu j] at hz; cases hz
      exact (see_of_block (k2 b (see_lt h) hne) j).trans h
    have hc : Calls P 21 #[.slice (some ⟨g, 0, none⟩) als.toArray.size cap, .func (.func 22) #[] #[]] w fun e w' => e = .returned (.tuple #[]) ∧ ∃ d' n os, Go.Sort.PermIn 0 als.toArray.size als.toArray d' ∧ Go.Sort.SortedIn (ltOf Al.cf) 0 als.toArray.size d' ∧ w' = sortWorldK Al.cells 2 w g 0 n d' os :=
      AnyQ.slices_SortFunc Tryz.laysF6 2 Tryz.isAgg51 Tryz.sizeOf51 Al.cells Al.len Al.one Al.cf swo 22 #[] g 0 cap als.toArray w enter48 hcmp hH hlt (by simp; omega)
    have hc' : Calls P 21 #[.slice (some ⟨g, 0, none⟩) als.length cap, .func (.func 22) #[] #[]] w fun e w' => e = .returned (.tuple #[]) ∧ ∃ d' n os, Go.Sort.PermIn 0 als.toArray.size als.toArray d' ∧ Go.Sort.SortedIn (ltOf Al.cf) 0 als.toArray.size d' ∧ w' = sortWorldK Al.cells 2 w g 0 n d' os := by
      simpa using hc
    rw [e1]
    refine hc'.mono ?_
    rintro e w' ⟨rfl, d', n, os, hp, hso, rfl⟩
    obtain ⟨q1, q2⟩ := sorted_als hst ha1 hp hso
    have hfl' := flat_len d'.toList
    have hfa : flatK Al.cells 2 d' = (d'.toList.map Al.cells).flatten.toArray := by
      have := flat_arr d'.toList
      simpa using this
    obtain ⟨k1, k2, k3⟩ := heap_put (enc := id) (n := n) (d := flatK Al.cells 2 d') (os := os) hg
    obtain ⟨t1, t2⟩ := take_put (enc := id) (l := (d'.toList.map Al.cells).flatten) (cur := cur) (by rw [hfl', q2, hsz]; omega)
    rw [← hfa] at t1 t2
    rw [List.map_id] at t2
    have hil : (isort ltC l).length = als.length := by rw [← q1, List.length_map, q2]
    refine ⟨_, μ, loc, rfl, sort_post (cur := cur) (us := (d'.toList.map Al.cells).flatten) hpub e1 hcap hmax hsz hownB hmu k1 t1 (by rw [← q2, ← hfl']; exact t2) (by rw [hfl', q2]) k2 rfl rfl rfl k3 (by rw [List.length_map, hil]) ?_⟩
    rw [← q1, List.map_map]
    exact of_als d'.toList
end Go.Proofs.YtfoddgpndoeeaaaGreatDoor.cl
