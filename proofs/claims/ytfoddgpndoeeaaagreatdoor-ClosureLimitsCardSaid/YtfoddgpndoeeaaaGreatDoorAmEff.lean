/-
  THE ABSTRACT MACHINE: operations with an effect.
-/
import Derived.Test.YtfoddgpndoeeaaaGreatDoorAmStep
set_option linter.unusedVariables false
set_option linter.unusedSimpArgs false
namespace Go.AM
open Go.RowKit

section
variable {μ μ' : Mu} {loc : Nat → Value}

theorem repRow_of_cells {sz b : Nat} {xs : List (List AV)} {vs : List Value} {off : Nat} (h : rowCells μ sz xs vs) (hle : μ.le μ') (hc : ∀ j u, vs[j]? = some u → μ' b (off + j) = some u) : repRow μ' sz b xs off := by
  induction xs generalizing vs off with
  | nil => simp [repRow]
  | cons x xs ih =>
    obtain ⟨us, ws, rfl, h1, h2, h3⟩ := h
    rw [repRow]
    refine ⟨⟨us, (h1.mono hle).1, h1.2, h2, fun j u hu => hc j u ?_⟩, ih h3 fun j u hu => ?_⟩
    · rw [List.getElem?_append_left (by simpa using (List.getElem?_eq_some_iff.1 hu).1)]; exact hu
    · have := hc (sz + j) u (by rw [List.getElem?_append_right (by omega), h2]; simpa using hu)
      rwa [← Nat.add_assoc] at this

theorem rowCells_append {sz : Nat} {xs ys : List (List AV)} {vs us : List Value} (h : rowCells μ sz xs vs) (k : rowCells μ sz ys us) : rowCells μ sz (xs ++ ys) (vs ++ us) := by
  induction xs generalizing vs with
  | nil => have : vs = [] := h; subst this; simpa using k
  | cons x xs ih => obtain ⟨a, b, rfl, h1, h2, h3⟩ := h; exact ⟨a, b ++ us, by simp, h1, h2, ih h3⟩
theorem rowCells_replicate {sz : Nat} {z : List AV} {zs : List Value} (h : repC μ z zs) (hl : zs.length = sz) : ∀ n, rowCells μ sz (List.replicate n z) (List.replicate n zs).flatten
  | 0 => rfl
  | n + 1 => ⟨zs, (List.replicate n zs).flatten, by simp [List.replicate_succ], h, hl, rowCells_replicate h hl n⟩
theorem rowCells_chunks {sz : Nat} : ∀ (n : Nat) {cs : List AV} {vs : List Value}, repC μ cs vs → cs.length = n * sz → rowCells μ sz (chunks sz n cs) vs
  | 0, cs, vs, h, hl => by
    have : vs = [] := List.eq_nil_of_length_eq_zero (by rw [h.length]; omega)
    subst this; rfl
  | n + 1, cs, vs, h, hl => by
    rw [Nat.add_mul] at hl
    have hv := h.length
    exact ⟨vs.take sz, vs.drop sz, by simp, h.take sz, by simp; omega, rowCells_chunks n (h.drop sz) (by simp; omega)⟩
theorem repCells_rep {z : List AV} {zs : List Value} (h : repC μ z zs) : ∀ n, repC μ (repCells z n) (List.replicate n zs).flatten
  | 0 => ⟨repAll_nil, by simp⟩
  | n + 1 => by simpa [repCells, List.replicate_succ] using h.append (repCells_rep h n)
theorem repCells_length (z : List AV) : ∀ n, (repCells z n).length = n * z.length
  | 0 => by simp [repCells]
  | n + 1 => by simp [repCells, repCells_length z n, Nat.add_mul]; omega
theorem chunks_length (sz : Nat) : ∀ (n : Nat) (l : List AV), (chunks sz n l).length = n
  | 0, _ => rfl
  | n + 1, l => by simp [chunks, chunks_length sz n]

theorem repS_purge' {id : Nat} {s : SV} {v : Value} (k : repS μ loc s v) : repS μ loc (s.purge id) v := by
  unfold SV.purge
  cases s.mentions id with
  | true => trivial
  | false => exact k
theorem repS_publish {id : Nat} {s : SV} {v : Value} {x : AV} (k : repS μ loc s v) (hx : rep μ x (baseV (loc id))) : repS μ loc (s.publish id x) v := by
  cases s with
  | row j =>
    cases h : Nat.beq j id with
    | true =>
      simp only [SV.publish, h, cond_true]
      have := beq_iff.1 h; subst this; have e : v = baseV (loc j) := k; rw [e]; exact hx
    | false => simp only [SV.publish, h, cond_false]; exact k
  | _ => exact repS_purge' k
theorem repSs_publish {id : Nat} {x : AV} (hx : rep μ x (baseV (loc id))) : ∀ (cs : List SV) (vs : List Value), repSs μ loc cs vs → repSs μ loc (cs.map (SV.publish id x)) vs
  | [], vs => fun h => h
  | c :: cs, vs => fun ⟨u, us, e, h1, h2⟩ => ⟨u, us, e, repS_publish h1 hx, repSs_publish hx cs us h2⟩

theorem rowS {id : Nat} {v : Value} (h : baseV v = v) : repS μ (upd loc id v) (.row id) v := by
  show v = baseV (upd loc id v id)
  rw [upd_same, h]

theorem made_flatten (zc : Array Value) (s : Nat) (hz : zc.size = s) (hs : 0 < s) (n : Nat) : (madeCells zc (n * s)).toList = (List.replicate n zc.toList).flatten := by
  have key : ∀ n, (List.range (n * s)).map (fun i => zc[i % s]!) = (List.replicate n zc.toList).flatten := by
    intro n
    induction n with
    | zero => simp
    | succ n ih =>
      rw [Nat.succ_mul, Nat.add_comm, List.range_add, List.map_append, List.map_map]
      have h1 : (List.range s).map (fun i => zc[i % s]!) = zc.toList := by
        apply List.ext_getElem?
        intro i
        simp only [List.getElem?_map, List.getElem?_range]
        by_cases hi : i < s
        · simp [hi, List.getElem?_range, Nat.mod_eq_of_lt hi, hz, getElem!_pos, Array.getElem?_eq_getElem (show i < zc.size by omega)]
        · simp [hi, List.getElem?_eq_none (show zc.toList.length ≤ i by simp; omega), List.getElem?_eq_none (show (List.range s).length ≤ i by simp; omega)]
      have h2 : ((fun i => zc[i % s]!) ∘ fun x => s + x) = fun i => zc[i % s]! := by
        funext i; simp [Function.comp]
      rw [h1, h2, ih]
      simp [List.replicate_succ]
  have := key n
  simpa [madeCells, hz] using this

theorem take_flatten (zs : List Value) {l c : Nat} (h : l ≤ c) : (List.replicate c zs).flatten.take (l * zs.length) = (List.replicate l zs).flatten := by
  obtain ⟨d, rfl⟩ := Nat.exists_eq_add_of_le h
  rw [← List.replicate_append_replicate, List.flatten_append, List.take_append_of_le_length (by simp)]
  exact List.take_of_length_le (by simp)
end

section
variable {P : Program} {N : Nat} {w0 : World} {μ0 : Mu} {L : Lent} {μ : Mu} {loc : Nat → Value} {st st' : St} {a : Act} {w : World} {Q : Exit → Act → World → Prop} {K : Act → World → Prop}

theorem row_repV {e sz : Nat} {xs : List (List AV)} {u : Value} {cells : List Value} (hown : w.ownsRow 0 e sz u xs.length cells) (hrc : rowCells μ sz xs cells) {μ' : Mu} (hle : μ.le μ')
    (hm : ∀ b j v, blockOf u = some b → see w b j = some v → μ' b j = some v) : rep μ' (.lst sz xs) u := by
  have hone := rowCells_one hrc
  rw [rep]
  rcases hown.2 with ⟨e1, e2⟩ | ⟨g, cap, cur, e1, _, hg, hnc, hcm, _⟩
  · exact ⟨none, 0, by rw [e1, e2], by omega, by simp [maxLen], .inl e2⟩
  · refine ⟨_, cap, e1, hnc, hcm, .inr ⟨g, 0, rfl, repRow_of_cells hrc hle fun j u hu => ?_⟩⟩
    have := hown.cells (g := g) (by rw [e1]; rfl) j u hu
    rw [add_lit] at this
    exact hm g _ u (by rw [e1]; rfl) (see_of_cell this (hone u (List.mem_of_getElem? hu)))

theorem allSome_get {α : Type} : ∀ {vs : List (Option α)} {l : List α}, allSome vs = some l → vs = l.map some
  | [], l, h => by simp only [allSome, Option.some.injEq] at h; subst h; rfl
  | none :: vs, l, h => by simp [allSome] at h
  | some x :: vs, l, h => by
    simp only [allSome, Option.map_eq_some_iff] at h
    obtain ⟨l', h1, rfl⟩ := h
    simp [allSome_get h1]

theorem val_rep {n0 : Nat} {id : Nat} {o : Ob} {v : AV} (h : obOK n0 L μ loc w id o) (hv : o.val = some v) {μ' : Mu} (hle : μ.le μ')
    (hm : ∀ b j v, inB (loc id) b → see w b j = some v → μ' b j = some v) : rep μ' v (baseV (loc id)) := by
  cases o with
  | box t cells => simp [Ob.val] at hv
  | it s n => simp [Ob.val] at hv
  | row e sz xs =>
    simp only [Ob.val, Option.some.injEq] at hv; subst hv
    rw [base_row h]
    obtain ⟨vs, hown, hrc, _⟩ := h
    exact row_repV hown hrc hle (fun b j v hb => hm b j v (.inl hb))
  | mp k e ks es =>
    simp only [Ob.val, Option.some.injEq] at hv; subst hv
    rw [base_mp h]
    obtain ⟨b, ents, clock, hl, _, hh, _, h1, h2, _⟩ := h
    rw [rep, hl]
    exact .inr ⟨b, _, _, rfl, repAll_mono hle _ _ h1, repAll_mono hle _ _ h2, hm b 0 _ (by rw [hl]; exact inB_map.2 rfl) (see_map_of hh)⟩
  | mr k e sz ks vs =>
    simp only [Ob.val, Option.map_eq_some_iff] at hv
    obtain ⟨l, hal, rfl⟩ := hv
    obtain ⟨b, ents, clock, us, hl, _, hh, _, h1, h2, h3, h4, h5, h6⟩ := h
    have hvs := allSome_get hal
    rw [hl, rep]
    refine .inr ⟨b, _, ents.toList.map (·.val), rfl, repAll_mono hle _ _ h1, ?_, hm b 0 _ (by rw [hl]; exact inB_mr.2 (.inl rfl)) (see_map_of hh)⟩
    have key : ∀ (l : List (List (List AV))) (es : List Value), es.length = l.length → (∀ (i : Nat) xs, l[i]? = some xs → ∃ u, es[i]? = some u ∧ rep μ' (.lst sz xs) u) → repAll μ' (l.map (.lst sz)) es := by
      intro l
      induction l with
      | nil => intro es he _; rw [List.eq_nil_of_length_eq_zero he]; exact repAll_nil
      | cons x l ih =>
        intro es he hall
        cases es with
        | nil => simp at he
        | cons u es =>
          obtain ⟨u', hu', hr⟩ := hall 0 x (by simp)
          simp at hu'; subst hu'
          exact repAll_cons hr (ih es (by simpa using he) (fun i xs hi => by
            obtain ⟨u2, hu2, hr2⟩ := hall (i + 1) xs (by simpa using hi)
            exact ⟨u2, by simpa using hu2, hr2⟩))
    refine key l _ (by simp [h3, hvs]) (fun i xs hi => ?_)
    obtain ⟨u, cells, k1, k2, k3, k4, k5⟩ := h4 i xs (by rw [hvs]; simp [hi])
    exact ⟨u, k2, row_repV k3 k4 hle (fun g j v hg => hm g j v (by rw [hl]; exact inB_mr.2 (.inr ⟨u, List.mem_of_getElem? k1, hg⟩)))⟩

open Classical in
/-- what is public when an object has become so -/
noncomputable def pubMu (w : World) (loc : Nat → Value) (id : Nat) (μ : Mu) : Mu := fun b j => if inB (loc id) b then see w b j else μ b j

theorem Rel.pubGen (hR : Rel N w0 μ0 L μ loc st a w) {id : Nat} {o : Ob} (hob : st.ob id = some o) (hlt : id < 10000) (f : SV → SV) (g : Ob → Ob) (hf : ∀ s v, repS (pubMu w loc id μ) loc s v → repS (pubMu w loc id μ) loc (f s) v)
    (hg : ∀ ob, g ob = match ob with | .box t cells => .box t (cells.map f) | o => o) :
    μ.le (pubMu w loc id μ) ∧ Rel N w0 μ0 L (pubMu w loc id μ) loc { env := fun i => (st.env i).map f, ob := put (fun i => (st.ob i).map g) id none } a w := by
  have hok := hR.obs id _ hob
  have hfs : ∀ (cs : List SV) (vs : List Value), repSs (pubMu w loc id μ) loc cs vs → repSs (pubMu w loc id μ) loc (cs.map f) vs := by
    intro cs
    induction cs with
    | nil => intro vs h; exact h
    | cons c cs ih => rintro vs ⟨u, us, e, h1, h2⟩; exact ⟨u, us, e, hf _ _ h1, ih us h2⟩
  have hle : μ.le (pubMu w loc id μ) := fun b j v hv => by
    by_cases hb : inB (loc id) b
    · have := (hok.block b hb).2.2 j; rw [this] at hv; cases hv
    · simpa [pubMu, hb] using hv
  have hother : ∀ i oi, i ≠ id → st.ob i = some oi → ∀ b, inB (loc i) b → ∀ j, pubMu w loc id μ b j = none := fun i oi hne hi b hb j => by
    have hn : ¬ inB (loc id) b := fun hid => hR.apart id i _ oi hob hi (fun e => hne e.symm) b hid hb
    simp only [pubMu, if_neg hn]
    exact (hR.obs i oi hi).block b hb |>.2.2 j
  have h1 := (hR.drop id).world (w' := w) (μ' := pubMu w loc id μ) hle (fun b j v hv => by
      by_cases hb : inB (loc id) b
      · rcases (hok.block b hb).1 with hh | ⟨v, hh, _⟩
        · exact .inr hh
        · rw [hR.names id hlt] at hh; cases hh
      · exact .inl (by simpa [pubMu, hb] using hv)) (fun b j v hv => by
      by_cases hb : inB (loc id) b
      · simpa [pubMu, hb] using hv
      · exact hR.pub b j v (by simpa [pubMu, hb] using hv)) (fun i oi hi b hb => by
      by_cases e' : id = i
      · subst e'; simp [put_same] at hi
      · simp only [put_other _ _ e'] at hi
        exact ⟨rfl, hother i oi (fun e => e' e.symm) hi b hb⟩) (fun _ _ _ => rfl) rfl rfl rfl (Nat.le_refl _)
  refine ⟨hle, h1.small, h1.names, h1.fix, h1.size, h1.defers, ?_, h1.pub, h1.base, ?_, ?_, h1.keep, h1.os, h1.tape, h1.output, h1.grown, h1.drawn⟩
  · intro i s hi
    simp only [] at hi
    cases he : st.env i with
    | none => simp [he] at hi
    | some s' =>
      simp [he] at hi; subst hi
      obtain ⟨v, hv, hr⟩ := h1.env i s' he
      exact ⟨v, hv, hf _ _ hr⟩
  · intro i oi hi
    by_cases e' : id = i
    · subst e'; simp [put_same] at hi
    · simp only [put_other _ _ e'] at hi
      cases ho : st.ob i with
      | none => simp [ho] at hi
      | some oj =>
        simp [ho] at hi; subst hi
        have k := h1.obs i oj (by simpa only [put_other _ _ e'] using ho)
        rw [hg]
        cases oj with
        | box t cells =>
          obtain ⟨b, vs, hl, ho', hh, hm, hs, h1'⟩ := k
          exact ⟨b, vs, hl, ho', hh, hm, hfs _ _ hs, h1'⟩
        | row e2 sz2 xs2 => exact k
        | mp k2 e2 ks2 vs2 => exact k
        | mr k2 e2 s2 ks2 vs2 => exact k
        | it s2 n2 => exact k
  · intro i j oi oj hi hj hij
    have get : ∀ k ok, put (fun i => (st.ob i).map g) id none k = some ok → ∃ ok', st.ob k = some ok' := fun k ok hk => by
      by_cases e' : id = k
      · subst e'; simp [put_same] at hk
      · simp only [put_other _ _ e'] at hk
        cases ho : st.ob k with
        | none => simp [ho] at hk
        | some x => exact ⟨x, rfl⟩
    obtain ⟨oi', hi'⟩ := get i oi hi
    obtain ⟨oj', hj'⟩ := get j oj hj
    exact hR.apart i j oi' oj' hi' hj' hij

theorem own_lt {id : Nat} (h : ownId id = true) : id < 10000 := by simpa [ownId, Nat.blt_eq] using h

theorem Rel.publish (hR : Rel N w0 μ0 L μ loc st a w) {id : Nat} (h : st.publish id = some st') : ∃ μ', μ.le μ' ∧ Rel N w0 μ0 L μ' loc st' a w := by
  unfold St.publish at h
  split at h
  · rename_i v hid hob'
    injection h with h
    subst h
    obtain ⟨o, hob, hval⟩ := Option.bind_eq_some_iff.1 hob'
    have hok := hR.obs id _ hob
    have hle : μ.le (pubMu w loc id μ) := fun b j v hv => by
      by_cases hb : inB (loc id) b
      · have := (hok.block b hb).2.2 j; rw [this] at hv; cases hv
      · simpa [pubMu, hb] using hv
    have hrep : rep (pubMu w loc id μ) v (baseV (loc id)) := val_rep hok hval hle fun b j v hb hc => by simpa [pubMu, hb] using hc
    exact ⟨_, hR.pubGen hob (own_lt hid) (SV.publish id v) (Ob.publish id v) (fun s u hs => repS_publish hs hrep) (fun ob => by cases ob <;> rfl)⟩
  · cases h

theorem Rel.pubBox (hR : Rel N w0 μ0 L μ loc st a w) {id : Nat} (h : st.pubBox id = some st') : ∃ μ', μ.le μ' ∧ Rel N w0 μ0 L μ' loc st' a w := by
  unfold St.pubBox at h
  split at h
  · rename_i t cells hid hob
    split at h
    · rename_i cs hcs
      injection h with h
      subst h
      obtain ⟨b, vs, hl, ho, hh, hm, hs, h1⟩ := hR.obs id _ hob
      have hle : μ.le (pubMu w loc id μ) := fun b' j v hv => by
        by_cases hb : inB (loc id) b'
        · have := ((hR.obs id _ hob).block b' hb).2.2 j; rw [this] at hv; cases hv
        · simpa [AM.pubMu, hb] using hv
      have hc : repC (pubMu w loc id μ) cs vs := ⟨repAll_mono hle _ _ (allPure_rep hcs hs), h1⟩
      refine ⟨_, hR.pubGen hob (own_lt hid) (SV.pubBox id cs) (Ob.pubBox id cs) (fun s u hs => ?_) (fun ob => by cases ob <;> rfl)⟩
      cases s with
      | ptr j off =>
        simp only [SV.pubBox]
        cases hj : Nat.beq j id with
        | false => exact hs
        | true =>
          have := beq_iff.1 hj; subst this
          obtain ⟨b', hl', rfl⟩ := hs
          rw [hl] at hl'
          simp only [Value.pointer.injEq, Option.some.injEq, Addr.mk.injEq] at hl'
          obtain ⟨rfl, _⟩ := hl'
          refine ⟨b, off, vs.drop off, rfl, hc.drop off, fun k u hu => ?_⟩
          rw [List.getElem?_drop] at hu
          have e : inB (loc j) b := by rw [hl]; exact inB_ptr.2 rfl
          simp only [AM.pubMu, if_pos e]
          exact see_of_cell (by rw [cell_of_row w b (off + k) vs.toArray t (0, 0) hh]; simpa using hu) (h1 u (List.mem_of_getElem? hu))
      | undef => exact repS_purge' hs
      | any => exact repS_purge' hs
      | pv x => exact repS_purge' hs
      | row j => exact repS_purge' hs
      | rp j sz i off => exact repS_purge' hs
      | sub j sz lo hi => exact repS_purge' hs
      | cp c => exact repS_purge' hs
      | cl f caps => exact repS_purge' hs
      | ag caps => exact repS_purge' hs
      | two s b => exact repS_purge' hs
    · cases h
  · cases h

theorem pubCaps_sound (hR : Rel N w0 μ0 L μ loc st a w) : ∀ {xs : List Operand} {st st' : St} {μ : Mu}, Rel N w0 μ0 L μ loc st a w → pubCaps st xs = some st' → ∃ μ', μ.le μ' ∧ Rel N w0 μ0 L μ' loc st' a w := by
  intro xs
  induction xs with
  | nil => intro st st' μ h hp; simp only [pubCaps, Option.some.injEq] at hp; subst hp; exact ⟨μ, Mu.le.refl _, h⟩
  | cons x xs ih =>
    intro st st' μ h hp
    cases x with
    | tmp i =>
      simp only [pubCaps] at hp
      split at hp
      · rename_i id off hi
        cases h1 : st.pubBox id with
        | none => rw [h1] at hp; cases hp
        | some st1 =>
          rw [h1] at hp
          obtain ⟨μ1, hle1, hR1⟩ := h.pubBox h1
          obtain ⟨μ2, hle2, hR2⟩ := ih hR1 hp
          exact ⟨μ2, hle1.trans hle2, hR2⟩
      · exact ih h hp
    | const v => exact ih h hp
    | func f => exact ih h hp
    | global g => exact ih h hp

/-- the fences: the wide one, in a round or not -/
def Wd (F : Fence) : Prop := F.plain = Fence.wide
theorem Wd.fn {F : Fence} (h : Wd F) (f : FuncId) : F.fn f := by
  have h : F.plain = Fence.wide := h
  have : F.plain.fn = Fence.wide.fn := congrArg Fence.fn h
  have : F.fn = Fence.wide.fn := this
  rw [this]; trivial
theorem Wd.depth {F : Fence} (h : Wd F) : F.depth = none := by
  have h : F.plain = Fence.wide := h
  have : F.plain.depth = Fence.wide.depth := congrArg Fence.depth h
  exact this
theorem Wd.one {F : Fence} (h : Wd F) {p : Prop} : F.depth.isSome = true → p := fun e => by rw [h.depth] at e; cases e
theorem Wd.plain {F : Fence} (h : Wd F) (hr : F.round = none) : F = Fence.wide := by
  have := h
  unfold Wd Fence.plain at this
  rw [← hr] at this
  exact this
theorem Wd.wide : Wd Fence.wide := rfl
theorem Wd.inRound {F : Fence} (h : Wd F) (l : Nat) : Wd (F.inRound l) := h
end
end Go.AM
namespace Go
def Oper.wpW (P : Program) (o : Oper) (a : Act) (w : World) (K : Act → World → Prop) (Q : Exit → Act → World → Prop) : Prop := ∀ F, AM.Wd F → o.wpIn F 0 P a w K Q
end Go
namespace Go.AM
open Go.RowKit
section
variable {P : Program} {N : Nat} {w0 : World} {μ0 : Mu} {L : Lent} {μ : Mu} {loc : Nat → Value} {st st' : St} {a : Act} {w : World} {Q : Exit → Act → World → Prop} {K : Act → World → Prop}
theorem wpW_of {o : Oper} {x : Next} {w' : World} (hnd : ∀ c, o.op ≠ .defer c) (hr : (execOp a.eval o).run P w = .ok x w') (h : ∀ F, Wd F → o.uponIn F 0 P a K Q (.ok x w')) : o.wpW P a w K Q := fun F hF => by
  unfold Oper.wpIn
  rw [Oper.semAt_eq _ _ _ hnd, hr]
  exact ⟨fun f _ => hF.fn f, h F hF⟩
theorem wp_skipW {o : Oper} {w' : World} (hr : (execOp a.eval o).run P w = .ok .skip w') (hK : K (a.put o.dst undef) w') : o.wpW P a w K Q :=
  wpW_of (fun c hc => by
    unfold execOp at hr
    rw [hc] at hr
    simp only [Sem.run_bind] at hr
    cases hx : (resolve a.eval c o.type).run P w with
    | ok d w2 => rw [hx] at hr; simp at hr
    | halt e w2 => rw [hx] at hr; simp at hr) hr fun _ _ => hK
theorem wp_value {o : Oper} {v : Value} {w' : World} (hr : (execOp a.eval o).run P w = .ok (.value v) w') (hK : K (a.put o.dst v) w') : o.wpW P a w K Q :=
  wpW_of (fun c hc => by
    unfold execOp at hr
    rw [hc] at hr
    simp only [Sem.run_bind] at hr
    cases hx : (resolve a.eval c o.type).run P w with
    | ok d w2 => rw [hx] at hr; simp at hr
    | halt e w2 => rw [hx] at hr; simp at hr) hr fun _ _ => hK

/-- the frame behind an operation -/
def Goes (N : Nat) (w0 : World) (μ0 : Mu) (L : Lent) (st' : St) (K : Act → World → Prop) : Prop := ∀ a' w' μ' loc', Rel N w0 μ0 L μ' loc' st' a' w' → K a' w'

theorem wp_gives (hR : Rel N w0 μ0 L μ loc st a w) {o : Oper} {sv : SV} (hd : ∀ i, o.dst = some i → i < N) (hg : Gives P μ loc o sv a w) (hK : Goes N w0 μ0 L (st.set o.dst sv) K) : o.wpW P a w K Q := by
  obtain ⟨v, hr, hs⟩ := hg
  exact wp_value hr (hK _ _ _ _ (hR.set hd hs))

theorem mu_new (hR : Rel N w0 μ0 L μ loc st a w) : ∀ b, w.heap.size ≤ b → ∀ j, μ b j = none := fun b hb j => by
  cases hj : μ b j with
  | none => rfl
  | some v =>
    have := see_lt (hR.pub b j v hj)
    omega

theorem below_alloc (w : World) (o : Obj) : Below w.heap.size w (w.alloc o) := (Below.refl _ _).alloc (Nat.le_refl _) o

/-- a new block, as an object -/
theorem Rel.made (hR : Rel N w0 μ0 L μ loc st a w) {d : Nat} (hd : d < N) {x : Obj} {val : Value} {o : Ob} {sv : SV} (hval : ∀ g, inB val g → g = w.heap.size)
    (hob : obOK w0.heap.size L μ (upd loc d val) (w.alloc x) d o) (hs : repS μ (upd loc d val) sv val) :
    Rel N w0 μ0 L μ (upd loc d val) ((st.new d o).set (some d) sv) (a.put (some d) val) (w.alloc x) := by
  have h1 := (hR.grow' (below_alloc w x)).new (id := d) (val := val) (o := o) (.inl (Nat.lt_of_lt_of_le hd hR.small)) hob (fun j oj hj hne g hg => by
    have := hval g hg
    subst this
    intro hb
    have := ((hR.obs j oj hj).block _ hb).2.1
    omega)
  exact h1.set (fun i hi => by injection hi with hi; omega) hs

theorem eff_box {o : Oper} {t : TypeId} {d : Nat} {v : Value} {cells : List SV} (hR : Rel N w0 μ0 L μ loc st a w) (hd : d < N) (hdst : o.dst = some d)
    (hr : (execOp a.eval o).run P w = .ok (.value (.pointer (some ⟨w.heap.size, 0, none⟩))) (w.alloc (.cells v.cells t)))
    (hs : repSs μ (upd loc d (.pointer (some ⟨w.heap.size, 0, none⟩))) cells v.cells.toList) (h1 : ∀ u ∈ v.cells.toList, u.oneCell' = true)
    (hK : Goes N w0 μ0 L ((st.new d (.box t cells)).set (some d) (.ptr d 0)) K) : o.wpW P a w K Q := by
  refine wp_value hr ?_
  rw [hdst]
  refine hK _ _ _ _ (hR.made hd (by simp [inB, blockOf, eq_comm]) ?_ ?_)
  · refine ⟨w.heap.size, v.cells.toList, upd_same _ _ _, .inl hR.grown, ?_, mu_new hR _ (Nat.le_refl _), hs, h1⟩
    rw [Array.toArray_toList]; exact heap_alloc_new w _
  · exact ⟨w.heap.size, upd_same _ _ _, rfl⟩

theorem one_of (hR : Rel N w0 μ0 L μ loc st a w) {s : SV} {v : Value} (h : oneOK st s = true) (k : repS μ loc s v) : v.oneCell' = true ∧ v.cells = #[v] := by
  cases s with
  | undef => simp [oneOK] at h
  | any => simp [oneOK] at h
  | pv x =>
    cases x with
    | agg cs => simp [oneOK] at h
    | tup cs => simp [oneOK] at h
    | self n => simp only [repS, rep] at k
    | nilp => simp only [repS, rep] at k; subst k; exact ⟨rfl, rfl⟩
    | nils => simp only [repS, rep] at k; subst k; exact ⟨rfl, rfl⟩
    | bool b => simp only [repS, rep] at k; subst k; exact ⟨rfl, rfl⟩
    | int q n => simp only [repS, rep] at k; subst k; exact ⟨rfl, rfl⟩
    | str q => simp only [repS, rep] at k; subst k; exact ⟨rfl, rfl⟩
    | lst sz xs => simp only [repS, rep] at k; obtain ⟨A, c, rfl, _⟩ := k; exact ⟨rfl, rfl⟩
    | fn f caps => simp only [repS, rep] at k; obtain ⟨vs, rfl, _⟩ := k; exact ⟨rfl, rfl⟩
    | ref cs => simp only [repS, rep] at k; obtain ⟨b, off, vs, rfl, _⟩ := k; exact ⟨rfl, rfl⟩
    | mp ks es => simp only [repS, rep] at k; rcases k with ⟨rfl, _⟩ | ⟨b, kv, ev, rfl, _⟩ <;> exact ⟨rfl, rfl⟩
  | ptr id off => obtain ⟨b, _, rfl⟩ := k; exact ⟨rfl, rfl⟩
  | row id =>
    simp only [oneOK] at h
    split at h
    · rename_i e sz xs hob
      have hb := base_row (hR.obs id _ hob)
      obtain ⟨vs, hown, _⟩ := hR.obs id _ hob
      have e : v = baseV (loc id) := k
      rw [hb] at e
      rcases hown.2 with ⟨e1, _⟩ | ⟨g, cap, cur, e1, _⟩
      · rw [e, e1]; exact ⟨rfl, rfl⟩
      · rw [e, e1]; exact ⟨rfl, rfl⟩
    · rename_i k' e' ks vs hob
      obtain ⟨b, ents, clock, hl, _⟩ := hR.obs id _ hob
      have e : v = baseV (loc id) := k
      rw [e, hl]; exact ⟨rfl, rfl⟩
    · cases h
  | rp id sz i off => obtain ⟨g, n, c, _, rfl⟩ := k; exact ⟨rfl, rfl⟩
  | sub id sz lo hi => simp [oneOK] at h
  | two s b => simp [oneOK] at h
  | cp cs => obtain ⟨b, off, vs, rfl, _⟩ := k; exact ⟨rfl, rfl⟩
  | cl f caps => obtain ⟨vs, rfl, _⟩ := k; exact ⟨rfl, rfl⟩
  | ag caps => simp [oneOK] at h

theorem caps_sound {loc : Nat → Value} : ∀ {caps : List Cap} {vs : List Value}, repCaps μ loc caps vs → repSs μ loc (caps.map capSV) vs
  | [], vs, h => h
  | c :: cs, vs, ⟨u, us, e, h1, h2⟩ => by
    refine ⟨u, us, e, ?_, caps_sound h2⟩
    cases c with
    | v a => exact h1
    | p id => exact h1
    | r id => exact h1

/-! literals of slices -/
theorem lit_run (hR : Rel N w0 μ0 L μ loc st a w) {t : TypeId} {len : Nat} {parts : Array (Nat × Operand)} {e : TypeId} {s : Nat} {xs : List (List AV)} (h : litCells P t len parts.toList st = some (e, s, xs)) :
    ∃ vs : List Value, (Instr.buildSlice t len (parts.map fun p => (p.1, a.eval p.2))).run P w = .ok (.slice (some ⟨w.heap.size, 0, none⟩) len len) (w.alloc (.cells vs.toArray e)) ∧ rowCells μ s xs vs ∧ xs.length = len ∧ len ≤ maxLen ∧ 0 < s := by
  unfold litCells at h
  split at h
  · rename_i e' s' hs
    obtain ⟨hu, inf, hinf, hsz⟩ := isSlice_parts hs
    split at h
    · rename_i z ps hz hps
      split at h
      · rename_i hc
        obtain ⟨hlen, hpos, hzl, hnt⟩ := hc
        cases hf : fillC (fun i => some (i * s', s')) (repCells z len) ps with
        | none => simp [hf] at h
        | some cs =>
          simp [hf] at h
          obtain ⟨rfl, rfl, rfl⟩ := h
          obtain ⟨i, v, hi, hv, hcz⟩ := zeroCells_run (μ := μ) hz
          rw [hinf] at hi
          injection hi with hi; subst hi
          obtain ⟨h1, h2⟩ := partsOf_sound hR hps
          have hzc : v.cells.size = s' := by have := hcz.length; simpa [hzl] using this
          obtain ⟨ws, hw, hr⟩ := fill_sound (us := parts.toList.map fun p => (p.1, a.eval p.2)) hf (repCells_rep hcz len) (by simpa [List.map_map, Function.comp_def] using h1) (by simpa [List.map_map, Function.comp_def] using h2) (fun p hp x e => by
            have := List.all_eq_true.1 hnt p hp
            rw [e] at this; cases this)
          have hcl : cs.length = len * s' := by
            have key : ∀ (ps : List (Nat × AV)) (cells cs : List AV), fillC (fun i => some (i * s', s')) cells ps = some cs → cs.length = cells.length := by
              intro ps
              induction ps with
              | nil => intro cells cs h; simp [fillC] at h; rw [h]
              | cons p ps ih =>
                intro cells cs h
                obtain ⟨j, x⟩ := p
                simp only [fillC] at h
                split at h
                · rename_i hcond
                  rw [ih _ _ h]
                  simp only [List.length_append, List.length_take, List.length_drop]; omega
                · cases h
            rw [key _ _ _ hf, repCells_length, hzl]
          refine ⟨ws, ?_, rowCells_chunks len hr hcl, chunks_length _ _ _, by simp only [maxLen]; have : len * 1 ≤ len * s' := Nat.mul_le_mul_left _ hpos; omega, hpos⟩
          have hmade : (List.replicate len v.cells.toList).flatten.toArray = madeCells v.cells (len * s') := by
            rw [← made_flatten v.cells s' hzc hpos len]
          rw [hmade] at hw
          by_cases h0 : len * s' = 0
          · have hle : ¬ (len * s' > 16777216) := by omega
            have e0 : madeCells v.cells (len * s') = #[] := by rw [h0]; simp [madeCells, Array.range_zero']
            rw [e0] at hw
            simp [Instr.buildSlice, run_underlying hu, sizeOf, typeInfo, hinf, hsz, h0, hw, newRow, Array.range_zero']
          · have hle : ¬ (len * s' > 16777216) := by omega
            simp only [madeCells] at hw
            simp [Instr.buildSlice, run_underlying hu, sizeOf, typeInfo, hinf, hsz, h0, zeroValue, hv, hw, newRow, hlen]
      · cases h
    · cases h
  · cases h

theorem eff_buildRow {o : Oper} {t : TypeId} {len : Nat} {parts : Array (Nat × Operand)} {d e s : Nat} {xs : List (List AV)} (hR : Rel N w0 μ0 L μ loc st a w) (hd : d < N) (hdst : o.dst = some d) (ho : o.op = .buildSlice t len parts)
    (h : litCells P t len parts.toList st = some (e, s, xs)) (hK : Goes N w0 μ0 L ((st.new d (.row e s xs)).set (some d) (.row d)) K) : o.wpW P a w K Q := by
  obtain ⟨vs, hr, hrc, hxl, hml, hpos⟩ := lit_run (P := P) hR h
  refine wp_value (v := .slice (some ⟨w.heap.size, 0, none⟩) len len) (w' := w.alloc (.cells vs.toArray e)) (by unfold execOp; rw [ho]; simp [hr]) ?_
  rw [hdst]
  refine hK _ _ _ _ (hR.made hd (by simp [inB, blockOf, eq_comm]) ?_ (rowS rfl))
  refine ⟨vs, ⟨by rw [rowCells_length hrc], .inr ⟨w.heap.size, len, vs.toArray, ?_, Nat.zero_le _, heap_alloc_new w _, by omega, hml, ?_, ?_⟩⟩, hrc, fun g hg => ?_⟩
  · rw [upd_same, hxl]
  · simp [rowCells_length hrc, hxl]
  · rw [hxl, ← hxl, ← rowCells_length hrc]; simp
  · rw [upd_same] at hg
    simp [inB, blockOf] at hg
    subst hg
    exact ⟨.inl hR.grown, mu_new hR _ (Nat.le_refl _)⟩

theorem fval_build {o : Oper} {t : TypeId} {len : Nat} {parts : Array (Nat × Operand)} {e s : Nat} {xs : List (List AV)} (hR : Rel N w0 μ0 L μ loc st a w) (hd : ∀ i, o.dst = some i → i < N) (ho : o.op = .buildSlice t len parts)
    (h : litCells P t len parts.toList st = some (e, s, xs)) (hK : Goes N w0 μ0 L (st.set o.dst (.pv (.lst s xs))) K) : o.wpW P a w K Q := by
  obtain ⟨vs, hr, hrc, hxl, hml, hpos⟩ := lit_run (P := P) hR h
  refine wp_value (v := .slice (some ⟨w.heap.size, 0, none⟩) len len) (w' := w.alloc (.cells vs.toArray e)) (by unfold execOp; rw [ho]; simp [hr]) ?_
  let μ' : Mu := fun b j => if b = w.heap.size then vs[j]? else μ b j
  have hnone := mu_new hR
  have hle : μ.le μ' := fun b j v hv => by
    by_cases hb : b = w.heap.size
    · subst hb; rw [hnone _ (Nat.le_refl _) j] at hv; cases hv
    · simpa [μ', hb] using hv
  have h1 := hR.grow (w' := w.alloc (.cells vs.toArray e)) (μ' := μ') ⟨hle, fun b j v hv => by
      by_cases hb : b = w.heap.size
      · exact .inr (by omega)
      · exact .inl (by simpa [μ', hb] using hv)⟩ (fun b j v hv => by
      by_cases hb : b = w.heap.size
      · subst hb
        have hv' : vs[j]? = some v := by simpa [μ'] using hv
        exact see_of_cell (by simp [hv']) (rowCells_one hrc v (List.mem_of_getElem? hv'))
      · have hv' : μ b j = some v := by simpa [μ', hb] using hv
        exact hR.pubBelow (below_alloc w _) b j v hv') (below_alloc w _)
  refine hK _ _ _ _ (h1.set hd ?_)
  show rep μ' (.lst s xs) _
  rw [rep]
  refine ⟨_, len, by rw [hxl], by omega, hml, .inr ⟨w.heap.size, 0, rfl, repRow_of_cells hrc hle fun j u hu => ?_⟩⟩
  simpa [μ'] using hu

theorem eff_make {o : Oper} {t : TypeId} {l c : Operand} {d e s : Nat} {kl kc : IntKind} {nl nc : Int} {z : List AV} {i : TypeInfo} (hR : Rel N w0 μ0 L μ loc st a w) (hd : d < N) (hdst : o.dst = some d) (ho : o.op = .makeSlice t l c)
    (hs : isSlice P t = some (e, s)) (hl : (opnd P 0 st l).bind pure? = some (.int kl nl)) (hc : (opnd P 0 st c).bind pure? = some (.int kc nc)) (hz : zeroCells P e = some z) (hi : P.info? e = some i)
    (hcond : 0 < s ∧ z.length = s ∧ 0 ≤ nl ∧ nl ≤ nc ∧ i.bytes * nc.toNat ≤ 281474976710656 ∧ nc ≤ 9223372036854775807)
    (hK : Goes N w0 μ0 L ((st.new d (.row e s (List.replicate nl.toNat z))).set (some d) (.row d)) K) : o.wpW P a w K Q := by
  obtain ⟨hpos, hzl, h0, hlc, hby, h63⟩ := hcond
  obtain ⟨hu, inf, hinf, hsz⟩ := isSlice_parts hs
  rw [hinf] at hi; injection hi with hi; subst hi
  obtain ⟨i', v, hi', hv, hcz⟩ := zeroCells_run (μ := μ) hz
  rw [hinf] at hi'; injection hi' with hi'; subst hi'
  have hzc : v.cells.size = s := by have := hcz.length; simpa [hzl] using this
  have hlv := pure_sound hR hl
  have hcv := pure_sound hR hc
  rw [rep] at hlv hcv
  have hby' : (inf.bytes : Int) * nc ≤ 281474976710656 := by
    have e1 : ((inf.bytes * nc.toNat : Nat) : Int) ≤ 281474976710656 := by omega
    rw [Int.natCast_mul, Int.toNat_of_nonneg (by omega)] at e1
    exact e1
  have hr := run_make (P := P) w t e inf v hu hinf hv kl kc nl nc h0 hlc hby' h63
  refine wp_value (v := .slice (some ⟨w.heap.size, 0, none⟩) nl.toNat nc.toNat) (w' := w.alloc (.cells (madeCells v.cells (nc.toNat * inf.size)) e)) (by unfold execOp; rw [ho]; simp [hlv, hcv, hr]) ?_
  rw [hdst]
  refine hK _ _ _ _ (hR.made hd (by simp [inB, blockOf, eq_comm]) ?_ (rowS rfl))
  have hrc := rowCells_replicate (sz := s) hcz (by simpa using hzc) nl.toNat
  refine ⟨_, ⟨rowCells_length hrc, .inr ⟨w.heap.size, nc.toNat, _, ?_, Nat.zero_le _, heap_alloc_new w _, ?_, ?_, ?_, ?_⟩⟩, hrc, fun g hg => ?_⟩
  · rw [upd_same]; simp
  · simp; omega
  · simp only [maxLen]; omega
  · rw [size_madeCells, hsz]
  · rw [hsz, made_flatten v.cells s hzc hpos]
    have := take_flatten v.cells.toList (l := nl.toNat) (c := nc.toNat) (by omega)
    simp only [Array.length_toList, hzc] at this
    simp only [List.length_replicate]
    exact this
  · rw [upd_same] at hg
    simp [inB, blockOf] at hg
    subst hg
    exact ⟨.inl hR.grown, mu_new hR _ (Nat.le_refl _)⟩

theorem eff_nil {o : Oper} {d e s : Nat} (hR : Rel N w0 μ0 L μ loc st a w) (hd : d < N) (hdst : o.dst = some d) (ho : o.op = .assign (.const (.slice none 0 0)))
    (hK : Goes N w0 μ0 L ((st.new d (.row e s [])).set (some d) (.row d)) K) : o.wpW P a w K Q := by
  refine wp_value (v := .slice none 0 0) (w' := w) (by unfold execOp; rw [ho]; rfl) ?_
  rw [hdst]
  refine hK _ _ _ _ ((hR.new (id := d) (val := .slice none 0 0) (o := .row e s []) (.inl (Nat.lt_of_lt_of_le hd hR.small)) ?_ (fun j oj hj hne g hg => by simp [inB, blockOf] at hg)).set (fun i hi => by injection hi with hi; omega) (rowS rfl))
  refine ⟨[], ⟨by simp, .inl ⟨upd_same _ _ _, rfl⟩⟩, rfl, fun g hg => ?_⟩
  rw [upd_same] at hg; simp [inB, blockOf] at hg

/-! clearing a part of a row -/
theorem rowCells_take {sz : Nat} {xs : List (List AV)} {vs : List Value} (h : rowCells μ sz xs vs) (n : Nat) : rowCells μ sz (xs.take n) (vs.take (n * sz)) := by
  induction n generalizing xs vs with
  | zero => simp [rowCells]
  | succ n ih =>
    cases xs with
    | nil => simp only [rowCells] at h; subst h; simp [rowCells]
    | cons x xs =>
      obtain ⟨us, ws, rfl, h1, h2, h3⟩ := h
      refine ⟨us, ws.take (n * sz), ?_, h1, h2, ih h3⟩
      rw [show (n + 1) * sz = us.length + n * sz from by rw [Nat.add_mul, h2]; omega, List.take_length_add_append]
theorem rowCells_drop {sz : Nat} {xs : List (List AV)} {vs : List Value} (h : rowCells μ sz xs vs) (n : Nat) : rowCells μ sz (xs.drop n) (vs.drop (n * sz)) := by
  induction n generalizing xs vs with
  | zero => simpa using h
  | succ n ih =>
    cases xs with
    | nil => simp only [rowCells] at h; subst h; simp [rowCells]
    | cons x xs =>
      obtain ⟨us, ws, rfl, h1, h2, h3⟩ := h
      rw [show (n + 1) * sz = us.length + n * sz from by rw [Nat.add_mul, h2]; omega, List.drop_length_add_append]
      exact ih h3

theorem run_clear_some {t e ty : TypeId} {inf : TypeInfo} {v : Value} (hu : P.underlying t = some (.slice e)) (hinf : P.info? e = some inf) (hv : inf.zero = some v) {ad : Addr} {n c : Nat} (hn : 0 < n) {w' : World} (hsc : (storeCells ad (Builtin.zeroCells v.cells n).toList).run P w = .ok () w') :
    (Builtin.clear_ #[t] ty #[.slice (some ad) n c]).run P w = .ok (.tuple #[]) w' := by
  obtain ⟨k, rfl⟩ : ∃ k, n = k + 1 := ⟨n - 1, by omega⟩
  simp [Builtin.clear_, run_underlying hu, zeroValue, typeInfo, hinf, hv, hsc]

theorem eff_clear {o : Oper} {c : Call} {t e e' : TypeId} {s id sz sz' lo hi : Nat} {x : Operand} {xs : List (List AV)} {z : List AV} (hR : Rel N w0 μ0 L μ loc st a w) (hdst : o.dst = none) (ho : o.op = .call c) (hc : c.callee = .builtin .clear) (ha : c.args.toList = [x]) (ht : c.argTypes.toList = [t])
    (hs : isSlice P t = some (e, s)) (hx : opnd P t st x = some (.sub id sz lo hi)) (hob : st.ob id = some (.row e' sz' xs)) (hz : zeroCells P e = some z) (hcond : s = sz ∧ sz = sz' ∧ z.length = sz ∧ hi ≤ xs.length ∧ e = e' ∧ 0 < sz)
    (hK : Goes N w0 μ0 L { st with ob := put st.ob id (some (.row e' sz' (xs.take lo ++ List.replicate (hi - lo) z ++ xs.drop hi))) } K) : o.wpW P a w K Q := by
  obtain ⟨rfl, rfl, hzl, hhi, rfl, hpos⟩ := hcond
  obtain ⟨callee, ⟨args⟩, ⟨argTypes⟩⟩ := c
  simp only at hc ha ht
  subst hc; subst ha; subst ht
  obtain ⟨hu, inf, hinf, hsz⟩ := isSlice_parts hs
  obtain ⟨A, n, cp, A', c', hloc, hlo, hhn, hcc, hxv, _, hg⟩ := opnd_sound hR hx
  obtain ⟨vs, hown, hrc, hm⟩ := hR.obs id _ hob
  by_cases hlt : lo < hi
  · obtain ⟨g, rfl, rfl⟩ := hg hlt
    obtain ⟨cap, cur, hloc', hheap, hnc, hcm, hcs, htake⟩ : ∃ cap cur, loc id = .slice (some ⟨g, 0, none⟩) xs.length cap ∧ w.heap[g]? = some (.cells cur e (0, 0)) ∧ xs.length ≤ cap ∧ cap ≤ maxLen ∧ cur.size = cap * s ∧ cur.toList.take (xs.length * s) = vs := by
      rcases hown.2 with ⟨_, e2⟩ | ⟨g', cap, cur, e1, _, h2, h3, h4, h5, h6⟩
      · omega
      · rw [hloc] at e1
        simp only [Value.slice.injEq, Option.some.injEq, Addr.mk.injEq, and_true] at e1
        obtain ⟨rfl, rfl, rfl⟩ := e1
        exact ⟨cp, cur, hloc, h2, h3, h4, h5, h6⟩
    obtain ⟨i', v, hi', hv, hcz⟩ := zeroCells_run (μ := μ) hz
    rw [hinf] at hi'; injection hi' with hi'; subst hi'
    have hzc : v.cells.size = s := by have := hcz.length; simpa [hzl] using this
    have hzs : (Builtin.zeroCells v.cells (hi - lo)).toList = (List.replicate (hi - lo) v.cells.toList).flatten := by
      rw [← made_flatten v.cells s hzc hpos (hi - lo)]
      simp [Builtin.zeroCells, madeCells, hzc]
    have hrz := rowCells_replicate (sz := s) hcz (by simpa using hzc) (hi - lo)
    have hul : ((List.replicate (hi - lo) v.cells.toList).flatten).length = (hi - lo) * s := by have := rowCells_length hrz; simpa using this
    have hvl := rowCells_length hrc
    have hcl : xs.length * s ≤ cur.size := by rw [hcs]; exact Nat.mul_le_mul_right _ hnc
    have hmul : lo * s + (hi - lo) * s = hi * s := by rw [← Nat.add_mul]; congr 1; omega
    have hhis : hi * s ≤ xs.length * s := Nat.mul_le_mul_right _ hhi
    have hsc := run_storeCells_at P g (lo * s) e (List.replicate (hi - lo) v.cells.toList).flatten 0 cur w hheap (by rw [hul]; omega) (rowCells_one hrz)
    simp only [Nat.add_zero, hul] at hsc
    have hrc' := rowCells_append (rowCells_append (rowCells_take hrc lo) hrz) (rowCells_drop hrc hi)
    have hxl' : (xs.take lo ++ List.replicate (hi - lo) z ++ xs.drop hi).length = xs.length := by simp; omega
    have hrun := run_clear_some (P := P) (ty := o.type) (c := c') (n := hi - lo) hu hinf hv (by omega) (by rw [hzs]; exact hsc)
    refine wp_value (v := .tuple #[]) (w' := w.setRow g (cur.toList.take (lo * s) ++ (List.replicate (hi - lo) v.cells.toList).flatten ++ cur.toList.drop (lo * s + (hi - lo) * s)).toArray) (by
      unfold execOp; rw [ho]
      simp only [resolve, invoke, builtin, Sem.run_bind, Sem.run_pure, Result.andThen_ok, hxv, List.map_toArray, List.map_cons, List.map_nil]
      simp only [hrun, Result.andThen_ok]) ?_
    rw [hdst]
    refine hK _ _ _ _ (hR.write hob (g := g) (by rw [hloc]; exact inB_slice.2 rfl) (fun k hk => setRow_other w g k _ hk) rfl rfl rfl (by simp) ?_)
    refine ⟨_, ⟨?_, .inr ⟨g, cap, _, ?_, Nat.zero_le _, setRow_heap w g cur _ e _ hheap, ?_, hcm, ?_, ?_⟩⟩, hrc', fun g' hg' => hm g' hg'⟩
    · rw [rowCells_length hrc']
    · rw [hxl']; exact hloc'
    · rw [hxl']; exact hnc
    · simp only [List.size_toArray, List.length_append, List.length_take, List.length_drop, Array.length_toList, hul]; omega
    · rw [hxl', ← htake]
      have hb : hi * s ≤ cur.toList.length := by simp; omega
      have ha : lo * s ≤ hi * s := Nat.mul_le_mul_right _ (by omega)
      rw [hmul, List.take_take, Nat.min_eq_left (by omega), List.drop_take]
      have hl1 : (cur.toList.take (lo * s) ++ (List.replicate (hi - lo) v.cells.toList).flatten).length = hi * s := by rw [List.length_append, List.length_take, hul]; omega
      generalize hq : cur.toList.take (lo * s) ++ (List.replicate (hi - lo) v.cells.toList).flatten = q at hl1
      show List.take (xs.length * s) (q ++ List.drop (hi * s) cur.toList) = q ++ _
      rw [List.take_append, List.take_of_length_le (by omega), hl1]
  · have h0 : hi - lo = 0 := by omega
    have e0 : xs.take lo ++ List.replicate (hi - lo) z ++ xs.drop hi = xs := by
      rw [h0, show lo = hi from by omega]; simp
    rw [e0] at hK
    refine wp_value (v := .tuple #[]) (w' := w) (by
      unfold execOp; rw [ho]
      simp [resolve, invoke, builtin, hxv, h0, Builtin.clear_, run_underlying hu]
      cases A' <;> simp) ?_
    rw [hdst]
    refine hK _ _ μ loc ?_
    have : put st.ob id (some (.row e s xs)) = st.ob := by
      funext i
      by_cases e : id = i
      · subst e; rw [put_same, hob]
      · rw [put_other _ _ e]
    rw [this]; exact hR

/-! stores -/
theorem eff_store {o : Oper} {t : TypeId} {x y : Operand} {sa sv : SV} (hR : Rel N w0 μ0 L μ loc st a w) (hdst : o.dst = none) (ho : o.op = .store t x y)
    (hx : opnd P 0 st x = some sa) (hy : opnd P t st y = some sv) (h : storeAt P t st sa sv = some st') (hK : Goes N w0 μ0 L st' K) : o.wpW P a w K Q := by
  have hxa := opnd_sound hR hx
  have hyv := opnd_sound hR hy
  have fin : ∀ (ad : Addr) (w' : World), a.eval x = .pointer (some ad) → (storeVar t ad (a.eval y)).run P w = .ok () w' → Rel N w0 μ0 L μ loc st' a w' → o.wpW P a w K Q := fun ad w' e hr hR' => by
    refine wp_skipW (w' := w') ?_ (by rw [hdst]; exact hK _ _ _ _ hR')
    unfold execOp
    rw [ho]
    simp only [Instr.storeAt, e, Instr.sureAddr, Sem.run_bind, Sem.run_pure, Result.andThen_ok, hr]
  unfold storeAt at h
  split at h
  · rename_i id off
    obtain ⟨b, hl, hxa⟩ := hxa
    split at h
    · rename_i bt cells n hob hsz
      obtain ⟨b', vs, hl', hnF, hheap, hmu, hss, h1⟩ := hR.obs id _ hob
      rw [hl] at hl'
      simp only [Value.pointer.injEq, Option.some.injEq, Addr.mk.injEq, and_true] at hl'
      subst hl'
      have hlen := repSs_length hss
      have fin2 : ∀ (us : List Value) (sus : List SV), (a.eval y).cells.toList = us → us.length = n → off + n ≤ vs.length → (∀ u ∈ us, u.oneCell' = true) → repSs μ loc sus us →
          st' = { st with ob := put st.ob id (some (.box bt (cells.take off ++ sus ++ cells.drop (off + n)))) } → o.wpW P a w K Q := by
        intro us sus hus hul hle hone hsus hst
        have hsc := run_storeCells_at P b off bt us 0 vs.toArray w hheap (by simp; omega) hone
        simp only [Nat.add_zero] at hsc
        refine fin ⟨b, off, none⟩ _ hxa (by
          have : (a.eval y).cells.size = n := by rw [← hul, ← hus]; simp
          simp only [storeVar, Sem.run_bind, sizeT_run hsz, Result.andThen_ok, this, ne_eq, not_true_eq_false, if_false, Sem.run_pure, hus]
          exact hsc) ?_
        rw [hst]
        refine hR.write hob (g := b) (by rw [hl]; exact inB_ptr.2 rfl) (fun k hk => setRow_other w b k _ hk) rfl rfl rfl (by simp) ?_
        refine ⟨b, vs.take off ++ us ++ vs.drop (off + n), hl, hnF, ?_, hmu, ?_, ?_⟩
        · have := setRow_heap w b vs.toArray (vs.toArray.toList.take off ++ us ++ vs.toArray.toList.drop (off + us.length)).toArray bt (0, 0) hheap
          simpa [hul] using this
        · exact repSs_append (repSs_append (repSs_take hss off) hsus) (repSs_drop hss (off + n))
        · intro u hu
          simp only [List.mem_append] at hu
          rcases hu with (hu | hu) | hu
          · exact h1 u (List.mem_of_mem_take hu)
          · exact hone u hu
          · exact h1 u (List.mem_of_mem_drop hu)
      split at h
      · rename_i cs
        split at h
        · rename_i hcond
          injection h with h
          obtain ⟨us, e, hall, hone⟩ := hyv
          have hs := caps_sound hall
          exact fin2 us (cs.map capSV) (by rw [e]; rfl) (by rw [repSs_length hs, List.length_map]; exact hcond.1) (by omega) hone hs h.symm
        · cases h
      · rename_i cs
        split at h
        · rename_i hcond
          injection h with h
          have hyv' := hyv
          simp only [repS, rep] at hyv'
          obtain ⟨us, e, hall, hone⟩ := hyv'
          exact fin2 us (cs.map .pv) (by rw [e]; rfl) (by rw [repAll_length hall]; exact hcond.1) (by omega) hone (repSs_pv hall) h.symm
        · cases h
      · split at h
        · rename_i hcond
          injection h with h
          obtain ⟨ho1, hc1⟩ := one_of hR hcond.2.2 hyv
          refine fin2 [a.eval y] [sv] (by rw [hc1]) (by simp [hcond.1]) (by omega) (by simpa using ho1) ⟨_, [], rfl, hyv, rfl⟩ ?_
          rw [← h, hcond.1, List.set_eq_take_append_cons_drop, if_pos hcond.2.1]
          simp
        · cases h
    · cases h
  · rename_i id sz i off
    obtain ⟨g, n', cp, hl, hxa⟩ := hxa
    split at h
    · rename_i e sz' xs n v hob hsz
      split at h
      · rename_i c hg
        split at h
        · rename_i hcond
          obtain ⟨rfl, hvl, hle, hnt⟩ := hcond
          injection h with h
          obtain ⟨vs, hown, hrc, hm⟩ := hR.obs id _ hob
          have hil : i < xs.length := (List.getElem?_eq_some_iff.1 hg).1
          obtain ⟨cap, cur, hloc, hheap, hnc, hcm, hcs, htake⟩ : ∃ cap cur, loc id = .slice (some ⟨g, 0, none⟩) xs.length cap ∧ w.heap[g]? = some (.cells cur e (0, 0)) ∧ xs.length ≤ cap ∧ cap ≤ maxLen ∧ cur.size = cap * sz ∧ cur.toList.take (xs.length * sz) = vs := by
            rcases hown.2 with ⟨_, e2⟩ | ⟨g', cap, cur, e1, _, h2, h3, h4, h5, h6⟩
            · omega
            · rw [hl] at e1
              simp only [Value.slice.injEq, Option.some.injEq, Addr.mk.injEq, and_true] at e1
              obtain ⟨rfl, rfl, rfl⟩ := e1
              exact ⟨cp, cur, hl, h2, h3, h4, h5, h6⟩
          have hyc : repC μ v.cells (a.eval y).cells.toList := rep_cells (show rep μ v (a.eval y) from hyv) (fun z e => by rw [e] at hnt; cases hnt)
          have hul : (a.eval y).cells.toList.length = n := by rw [hyc.length]; exact hvl
          -- the row's cells, as a list, with the new ones in their place
          have key : ∀ (xs : List (List AV)) (vs : List Value) (i : Nat) (c : List AV), rowCells μ sz xs vs → xs[i]? = some c → off + n ≤ c.length →
              rowCells μ sz (xs.set i (c.take off ++ v.cells ++ c.drop (off + n))) (vs.take (i * sz + off) ++ (a.eval y).cells.toList ++ vs.drop (i * sz + off + n)) ∧ i * sz + off + n ≤ vs.length := by
            intro xs
            induction xs with
            | nil => intro vs i c _ h; simp at h
            | cons x xs ih =>
              intro vs i c hrc hx hle
              obtain ⟨us, ws, rfl, k1, k2, k3⟩ := hrc
              cases i with
              | zero =>
                simp at hx; subst hx
                have hxl := k1.length
                refine ⟨?_, by simp; omega⟩
                refine ⟨us.take off ++ (a.eval y).cells.toList ++ us.drop (off + n), ws, ?_, ((k1.take off).append hyc).append (k1.drop (off + n)), ?_, k3⟩
                · simp only [Nat.zero_mul, Nat.zero_add]
                  rw [List.take_append_of_le_length (by omega), List.drop_append_of_le_length (by omega)]
                  simp [List.append_assoc]
                · simp only [List.length_append, List.length_take, List.length_drop, hul]; omega
              | succ i =>
                simp at hx
                obtain ⟨r1, r2⟩ := ih ws i c k3 hx hle
                refine ⟨?_, by simp [Nat.add_mul, k2]; omega⟩
                refine ⟨us, ws.take (i * sz + off) ++ (a.eval y).cells.toList ++ ws.drop (i * sz + off + n), ?_, k1, k2, r1⟩
                rw [show (i + 1) * sz + off = us.length + (i * sz + off) from by rw [Nat.add_mul, k2]; omega, List.take_length_add_append,
                  show us.length + (i * sz + off) + n = us.length + (i * sz + off + n) from by omega, List.drop_length_add_append]
                simp [List.append_assoc]
          obtain ⟨hrc', hle'⟩ := key xs vs i c hrc hg hle
          have hvl' := rowCells_length hrc
          have hcl : xs.length * sz ≤ cur.size := by rw [hcs]; exact Nat.mul_le_mul_right _ hnc
          have hsc := run_storeCells_at P g (i * sz + off) e (a.eval y).cells.toList 0 cur w hheap (by rw [hul]; omega) hyc.2
          simp only [Nat.add_zero, hul] at hsc
          refine fin ⟨g, i * sz + off, none⟩ _ hxa (by
            have : (a.eval y).cells.size = n := by simpa using hul
            simp only [storeVar, Sem.run_bind, sizeT_run hsz, Result.andThen_ok, this, ne_eq, not_true_eq_false, if_false, Sem.run_pure]
            exact hsc) ?_
          rw [← h]
          refine hR.write hob (g := g) (by rw [hl]; exact inB_slice.2 rfl) (fun k hk => setRow_other w g k _ hk) rfl rfl rfl (by simp) ?_
          refine ⟨_, ⟨?_, .inr ⟨g, cap, _, ?_, Nat.zero_le _, setRow_heap w g cur _ e _ hheap, ?_, hcm, ?_, ?_⟩⟩, hrc', fun g' hg' => hm g' hg'⟩
          · rw [rowCells_length hrc']
          · simpa using hloc
          · simpa using hnc
          · simp only [List.size_toArray, List.length_append, List.length_take, List.length_drop, Array.length_toList, hul]; omega
          · simp only [List.length_set]
            have hvl2 : vs.length ≤ cur.toList.length := by simp; omega
            rw [show vs.take (i * sz + off) = cur.toList.take (i * sz + off) from by rw [← htake, List.take_take, Nat.min_eq_left (by omega)],
              show vs.drop (i * sz + off + n) = (cur.toList.drop (i * sz + off + n)).take (xs.length * sz - (i * sz + off + n)) from by rw [← htake, List.drop_take]]
            rw [List.take_append, List.take_of_length_le (by simp [hul]; omega)]
            congr 2
            simp only [List.length_append, List.length_take, Array.length_toList, hul]
            omega
        · cases h
      · cases h
    · cases h
  · cases h

theorem run_append_nil' (t ty e : TypeId) (i : TypeInfo) (ht : P.underlying t = some (.slice e)) (hi : P.info? e = some i) (v : Value) (n : Nat) (xs : List Value) (size : Nat) (hown : w.ownsRow 0 e size v n xs) (c : Nat) :
    (Builtin.append_ #[t, t] ty #[v, .slice none 0 c]).run P w = .ok v w := by
  rcases hown.2 with ⟨rfl, rfl⟩ | ⟨g, cap, cur, rfl, _, _, hnc, _⟩
  · simp [Builtin.append_, run_underlying ht, sizeOf, typeInfo, hi, Builtin.lenOf, Builtin.firstCells]
  · simp [Builtin.append_, run_underlying ht, sizeOf, typeInfo, hi, Builtin.lenOf, Builtin.firstCells, hnc, storeCells]

theorem eff_append {o : Oper} {x y : Operand} {t e : TypeId} {d sz id : Nat} {sy : SV} {xs ys : List (List AV)} {i : TypeInfo} (hR : Rel N w0 μ0 L μ loc st a w) (hd : d < N) (hdst : o.dst = some d)
    (ho : o.op = .call { callee := .builtin .append, args := #[x, y], argTypes := #[t, t] }) (hs : isSlice P t = some (e, sz)) (hx : opnd P t st x = some (.row id)) (hy : opnd P t st y = some sy)
    (hob : st.ob id = some (.row e sz xs)) (hel : elems st sy = some (sz, ys)) (hi : P.info? e = some i) (hpos : 0 < sz) (hby : (xs.length + ys.length) * i.bytes ≤ 140737488355328) (hlen : xs.length + ys.length ≤ 4611686018427387904)
    (hz : i.zero.map (fun z => z.cells.size) = some sz) (hid : id < 10000 ∨ 20000 ≤ id) (hK : Goes N w0 μ0 L ((st.new id (.row e sz (xs ++ ys))).set (some d) (.row id)) K) : o.wpW P a w K Q := by
  obtain ⟨hu, inf, hinf, hsz⟩ := isSlice_parts hs
  rw [hinf] at hi; injection hi with hi; subst hi
  obtain ⟨z, hz0, hzs⟩ : ∃ z, inf.zero = some z ∧ z.cells.size = sz := by
    cases hzz : inf.zero with
    | none => simp [hzz] at hz
    | some z => simp [hzz] at hz; exact ⟨z, rfl, hz⟩
  have hxv : a.eval x = loc id := (opnd_sound hR hx : a.eval x = baseV (loc id)).trans (base_row (hR.obs id _ hob))
  have hyv := opnd_sound hR hy
  obtain ⟨vs, hown, hrc, hm⟩ := hR.obs id _ hob
  -- the source: its value and its cells
  obtain ⟨A, c, hyv', us, hus, hsrc⟩ := elems_cells hR hel hyv
  have hul := rowCells_length hus
  obtain ⟨v', w', hrun, hown2, hgrow, hblk⟩ : ∃ v' w', (Builtin.append_ #[t, t] o.type #[loc id, .slice A ys.length c]).run P w = .ok v' w' ∧ w'.ownsRow 0 e sz v' (xs.length + ys.length) (vs ++ us) ∧ w.grownBy w' (loc id).ownBlock ∧
      (v'.ownBlock = (loc id).ownBlock ∨ v'.ownBlock = some w.heap.size) := by
    cases A with
    | none =>
      have h0 : ys.length = 0 := by
        rcases hsrc with h0 | ⟨ad, h, _⟩
        · exact h0
        · cases h
      have hu0 : us = [] := List.eq_nil_of_length_eq_zero (by rw [hul, h0]; simp)
      subst hu0
      rw [h0]
      exact ⟨loc id, w, run_append_nil' t o.type e inf hu hinf (loc id) _ vs sz hown c, by simpa using hown, ⟨rfl, rfl, rfl, Nat.le_refl _, fun _ _ _ => rfl⟩, .inl rfl⟩
    | some ad =>
      have hcells : ∀ j u, us[j]? = some u → w.cell? (ad.add j) = some u := by
        rcases hsrc with h0 | ⟨ad', h, hc⟩
        · have hu0 : us = [] := List.eq_nil_of_length_eq_zero (by rw [hul, h0]; simp)
          subst hu0; intro j u hu; simp at hu
        · injection h with h; subst h; exact hc
      obtain ⟨v', w', h1, h2, h3, _, h5⟩ := run_append_own_at (P := P) w 0 t o.type e inf z sz inf.bytes hu hinf hz0 hsz rfl hzs hpos (loc id) xs.length vs hown ad ys.length c us hul hcells (rowCells_one hus) (by simp only [maxLen]; omega) hby (Nat.zero_le _)
      exact ⟨v', w', h1, h2, h3, h5⟩
  have hbo : ∀ v : Value, (∃ A n c, v = .slice A n c) → v.ownBlock = blockOf v := by
    rintro v ⟨A, n, c, rfl⟩; cases A <;> rfl
  have hloc : ∃ A n c, loc id = .slice A n c := by
    rcases hown.2 with ⟨e1, _⟩ | ⟨g, cap, cur, e1, _⟩
    · exact ⟨_, _, _, e1⟩
    · exact ⟨_, _, _, e1⟩
  have hv' : ∃ A n c, v' = .slice A n c := by
    rcases hown2.2 with ⟨e1, _⟩ | ⟨g, cap, cur, e1, _⟩
    · exact ⟨_, _, _, e1⟩
    · exact ⟨_, _, _, e1⟩
  rw [hbo _ hloc] at hgrow hblk
  rw [hbo _ hv'] at hblk
  have hok := hR.obs id _ hob
  refine wp_value (v := v') (w' := w') (by unfold execOp; rw [ho]; simp [resolve, invoke, builtin, hxv, hyv', hrun]) ?_
  rw [hdst]
  -- the frame without the row, in the new world
  have h1 := (hR.drop id).world (w' := w') (Mu.le.refl _) (fun _ _ _ h => .inl h) (fun b j v h => by
      have hc := hR.pub b j v h
      have hlt := see_lt hc
      have hne : some b ≠ blockOf (loc id) := fun e => by have := (hok.block b (.inl e.symm)).2.2 j; rw [this] at h; cases h
      rw [see_of_block (hgrow.block b hlt hne)]; exact hc) (fun k ok hk b hb => by
      by_cases e' : id = k
      · subst e'; simp [put_same] at hk
      · simp only [put_other _ _ e'] at hk
        obtain ⟨_, hlt, hmu⟩ := (hR.obs k ok hk).block b hb
        have hne : some b ≠ blockOf (loc id) := fun e => hR.apart id k _ ok hob hk e' b (.inl e.symm) hb
        exact ⟨hgrow.block b hlt hne, hmu⟩) (fun b hb hl => by
      refine hgrow.block b (Nat.lt_of_lt_of_le hb hR.grown) (fun e => ?_)
      rcases (hok.block b (.inl e.symm)).1 with h | ⟨v, hv, h⟩
      · omega
      · exact hl ⟨id, v, hv, h⟩) hgrow.os hgrow.tape hgrow.output hgrow.size (fun _ => run_drawn hrun)
  have h2 := h1.new (id := id) (val := v') (o := .row e sz (xs ++ ys)) hid (by
      refine ⟨vs ++ us, ?_, rowCells_append hrc hus, fun g hg => ?_⟩
      · rw [upd_same, List.length_append]; exact hown2
      · rw [upd_same] at hg
        replace hg : blockOf v' = some g := by obtain ⟨A', n', c', rfl⟩ := hv'; exact inB_slice.1 hg
        rcases hblk with hb | hb
        · rw [hg] at hb
          have := hok.block g (.inl hb.symm)
          exact ⟨this.1, this.2.2⟩
        · rw [hg] at hb
          injection hb with hb
          subst hb
          exact ⟨.inl hR.grown, mu_new hR _ (Nat.le_refl _)⟩) (fun j oj hj hne g hg => by
      have hj' : st.ob j = some oj := by
        by_cases e' : id = j
        · exact absurd e'.symm hne
        · simpa only [put_other _ _ e'] using hj
      replace hg : blockOf v' = some g := by obtain ⟨A', n', c', rfl⟩ := hv'; exact inB_slice.1 hg
      rcases hblk with hb | hb
      · rw [hg] at hb
        exact hR.apart id j _ oj hob hj' (fun e => hne e.symm) g (.inl hb.symm)
      · rw [hg] at hb
        injection hb with hb
        subst hb
        intro hbj
        have := ((hR.obs j oj hj').block _ hbj).2.1
        omega)
  have heq : St.new { st with ob := put st.ob id none } id (.row e sz (xs ++ ys)) = St.new st id (.row e sz (xs ++ ys)) := by
    simp only [St.new, St.purge]
    congr 1
    funext k
    by_cases e' : id = k
    · subst e'; simp [put_same]
    · simp only [put_other _ _ e']
  rw [heq] at h2
  exact hK _ _ _ _ (h2.set (fun i hi => by injection hi with hi; omega) (rowS (by obtain ⟨A', n', c', rfl⟩ := hv'; rfl)))


/-! maps -/
theorem makeMap_run {t k e : TypeId} {r : Option Operand} (hR : Rel N w0 μ0 L μ loc st a w) (ht : P.underlying t = some (.map k e)) (hr : reserveOk P st r = true) : (Instr.makeMap t (r.map a.eval)).run P w = .ok (.map (some w.heap.size)) (w.alloc (.map #[] 0)) := by
  have hrun : (Instr.makeMap t (r.map a.eval)).run P w = .ok (.map (some w.heap.size)) (w.alloc (.map #[] 0)) := by
    cases r with
    | none => rfl
    | some x =>
      simp only [reserveOk] at hr
      cases hx : (opnd P 0 st x).bind pure? with
      | none => simp [hx] at hr
      | some y =>
        cases y with
        | int q n =>
          have := pure_sound hR hx
          rw [rep] at this
          have e : (Instr.makeMap t (some (.int q n))).run P w = (Instr.makeMap t none).run P w := by simp [Instr.makeMap, run_underlying ht, asInt, asIntOf]
          simp only [Option.map_some, this]
          rw [e]; rfl
        | _ => simp [hx] at hr
  exact hrun

theorem eff_makeMap {o : Oper} {t k e : TypeId} {r : Option Operand} {d : Nat} (hR : Rel N w0 μ0 L μ loc st a w) (hd : d < N) (hdst : o.dst = some d) (ho : o.op = .makeMap t r) (ht : P.underlying t = some (.map k e))
    (hr : reserveOk P st r = true) (hK : Goes N w0 μ0 L ((st.new d (.mp k e [] [])).set (some d) (.row d)) K) : o.wpW P a w K Q := by
  have hrun := makeMap_run (P := P) hR ht hr
  refine wp_value (v := .map (some w.heap.size)) (w' := w.alloc (.map #[] 0)) (by unfold execOp; rw [ho]; simp [hrun]) ?_
  rw [hdst]
  refine hK _ _ _ _ (hR.made hd (val := .map (some w.heap.size)) (fun g hg => inB_map.1 hg) ?_ ?_)
  · refine ⟨w.heap.size, #[], 0, upd_same _ _ _, .inl hR.grown, (by show (w.heap.push _)[w.heap.size]? = _; simp), mu_new hR _ (Nat.le_refl _), by simp [repAll], by simp [repAll], ⟨by simp, by simp⟩⟩
  · exact rowS rfl

theorem keyIs_same {key x : AV} {kv xv : Value} (h : keyIs key x = some true) (hk : rep μ key kv) (hx : rep μ x xv) : kv = xv ∧ key = x := by
  unfold keyIs at h
  split at h
  · rename_i s t
    simp only [Option.some.injEq, beq_iff_eq] at h
    subst h
    rw [rep] at hk hx
    exact ⟨hk.trans hx.symm, rfl⟩
  · rename_i q s q' t
    split at h
    · rename_i e; subst e
      simp only [Option.some.injEq, beq_iff_eq] at h
      subst h
      rw [rep] at hk hx
      exact ⟨hk.trans hx.symm, rfl⟩
    · cases h
  · rename_i s t
    simp only [Option.some.injEq, beq_iff_eq] at h
    subst h
    rw [rep] at hk hx
    exact ⟨hk.trans hx.symm, rfl⟩
  · cases h
theorem keyThatStays_same {kv : Value} {key : AV} (hk : rep μ key kv) {kt : TypeId} (hok : keyOk P kt key = true) (w : World) : (Instr.keyThatStays kv kv).run P w = .ok kv w := by
  have hs : ∀ n, Instr.sameBits n kv kv = true := by
    intro n
    unfold keyOk at hok
    split at hok
    · rw [rep] at hk; subst hk; cases n <;> simp [Instr.sameBits, str_eq]
    · rw [rep] at hk; subst hk; cases n <;> simp [Instr.sameBits]
    · rw [rep] at hk; subst hk; cases n <;> simp [Instr.sameBits]
    · cases hok
  simp only [Instr.keyThatStays, hs 10000]
  simp

theorem repAll_set {xs : List AV} {vs : List Value} (h : repAll μ xs vs) {i : Nat} {x : AV} {v : Value} (hx : rep μ x v) : repAll μ (xs.set i x) (vs.set i v) := by
  induction xs generalizing vs i with
  | nil => rw [repAll] at h; subst h; simp [repAll]
  | cons y xs ih =>
    rw [repAll] at h
    obtain ⟨u, us, rfl, h1, h2⟩ := h
    cases i with
    | zero => simpa using repAll_cons hx h2
    | succ i => simpa using repAll_cons h1 (ih h2)

/-- a map is written -/
theorem mapUpdate_run {t kt et : TypeId} {b : Nat} {ents : Array MapEntry} {clock : Nat} {key : AV} {kv x : Value} {ks : List AV} {r : Option Nat} (hu : P.underlying t = some (.map kt et)) (hh : w.heap[b]? = some (.map ents clock)) (hkr : rep μ key kv) (hok : keyOk P kt key = true)
    (h1 : repAll μ ks (ents.toList.map (·.key))) (hf : mfind key ks = some r) :
    ∃ ents' clock', (Instr.mapUpdate t (.map (some b)) kv x).run P w = .ok () { w with heap := w.heap.setIfInBounds b (.map ents' clock') } ∧
      (r = none → repAll μ (ks ++ [key]) (ents'.toList.map (·.key)) ∧ ents'.toList.map (·.val) = ents.toList.map (·.val) ++ [x]) ∧
      (∀ j, r = some j → repAll μ ks (ents'.toList.map (·.key)) ∧ ents'.toList.map (·.val) = (ents.toList.map (·.val)).set j x ∧ j < ents.size) ∧ (Born ents clock → Born ents' clock') := by
  have hfk := findKey_run hkr hok h1 hf w
  cases r with
  | none =>
    refine ⟨ents.push { key := kv, val := x, born := clock }, clock + 1, ?_, fun _ => ⟨?_, by simp⟩, (fun j e => by cases e), fun hB => ⟨fun y hy => ?_, ?_⟩⟩
    · simp only [] at hfk
      simp [Instr.mapUpdate, run_underlying hu, run_getObj_mp hh, checkKey_run hkr hok, hfk, setObj, Sem.run, hh]
    · simpa using repAll_append h1 (repAll_cons hkr repAll_nil)
    · rw [Array.toList_push, List.mem_append] at hy
      rcases hy with hy | hy
      · have := hB.1 y hy; omega
      · rw [List.mem_singleton] at hy; subst hy; exact Nat.lt_succ_self _
    · rw [Array.toList_push, List.map_append, List.nodup_append]
      refine ⟨hB.2, by simp, fun a ha b hb => ?_⟩
      obtain ⟨y, hy, rfl⟩ := List.mem_map.1 ha
      simp only [List.map_cons, List.map_nil, List.mem_singleton] at hb
      subst hb
      have := hB.1 y hy; omega
  | some j =>
    obtain ⟨e, he, hrun, y, hy, hyk⟩ := hfk
    obtain ⟨yv, hyv, hyr⟩ := repAll_get h1 hy
    have he' : ents[j]? = some e := by simpa using he
    have hyv' : yv = e.key := by
      simp [he'] at hyv; exact hyv.symm
    subst hyv'
    obtain ⟨hsame, _⟩ := keyIs_same hyk hkr hyr
    have hborn : (ents.modify j fun e => { e with key := kv, val := x }).toList.map (·.born) = ents.toList.map (·.born) := by
      apply List.ext_getElem?
      intro i
      simp only [List.getElem?_map, Array.getElem?_toList, Array.getElem?_modify]
      by_cases e1 : j = i
      · subst e1; simp [he']
      · simp [e1]
    refine ⟨ents.modify j fun e => { e with key := kv, val := x }, clock, ?_, (fun e => by cases e), (fun j' ej => ?_), fun hB => ⟨fun y hy => ?_, by rw [hborn]; exact hB.2⟩⟩
    rotate_right
    · have hm : y.born ∈ ents.toList.map (·.born) := by rw [← hborn]; exact List.mem_map.2 ⟨y, hy, rfl⟩
      obtain ⟨z, hz, e⟩ := List.mem_map.1 hm
      rw [← e]; exact hB.1 z hz
    · simp [Instr.mapUpdate, run_underlying hu, run_getObj_mp hh, checkKey_run hkr hok, hrun, he', ← hsame, keyThatStays_same hkr hok, setObj, Sem.run, hh]
    · injection ej with ej; subst ej
      refine ⟨?_, ?_, (Array.getElem?_eq_some_iff.1 he').1⟩
      · have : (ents.modify j fun e => { e with key := kv, val := x }).toList.map (·.key) = ents.toList.map (·.key) := by
          apply List.ext_getElem?
          intro i
          simp only [List.getElem?_map, Array.getElem?_toList, Array.getElem?_modify]
          by_cases e1 : j = i
          · subst e1; simp [he', hsame]
          · simp [e1]
        rw [this]; exact h1
      · apply List.ext_getElem?
        intro i
        simp only [List.getElem?_map, Array.getElem?_toList, Array.getElem?_modify, List.getElem?_set]
        by_cases e1 : j = i
        · subst e1; simp [he']
          exact (Array.getElem?_eq_some_iff.1 he').1
        · simp [e1]

theorem eff_mapStore {o : Oper} {t : TypeId} {m k x : Operand} (hR : Rel N w0 μ0 L μ loc st a w) (hdst : o.dst = none) (ho : o.op = .mapUpdate t m k x ∨ o.op = .insert t m k x) (h : mapStore P st t m k x = some st')
    (hK : Goes N w0 μ0 L st' K) : o.wpW P a w K Q := by
  unfold mapStore at h
  split at h
  · rename_i kt et hu
    split at h
    · rename_i st1 hst1
      obtain ⟨μ1, hR1⟩ : ∃ μ1, Rel N w0 μ0 L μ1 loc st1 a w := by
        unfold laidIn at hst1
        split at hst1
        · injection hst1 with e; subst e; exact ⟨μ, hR⟩
        · obtain ⟨μ', _, h'⟩ := hR.publish hst1; exact ⟨μ', h'⟩
        · cases hst1
      split at h
      · rename_i id key v hm hk hx
        split at h
        · rename_i k' e' ks vs hob
          cases hc : (keyOk P kt key && v.noTup) with
          | false => simp [hc] at h
          | true =>
            simp only [hc, cond_true] at h
            simp only [Bool.and_eq_true] at hc
            split at h
            · rename_i ks' vs' hput
              injection h with h
              subst h
              obtain ⟨b, ents, clock, hl, hown, hh, hmu, h1, h2, hB⟩ := hR1.obs id _ hob
              have hmv : a.eval m = .map (some b) := by
                have := opnd_sound hR1 hm
                simp only [repS] at this
                rw [this, hl]; rfl
              have hkr := pure_sound hR1 hk
              have hxr := pure_sound hR1 hx
              have key1 : ∃ ents' clock', (Instr.mapUpdate t (a.eval m) (a.eval k) (a.eval x)).run P w = .ok () { w with heap := w.heap.setIfInBounds b (.map ents' clock') } ∧ repAll μ1 ks' (ents'.toList.map (·.key)) ∧ repAll μ1 vs' (ents'.toList.map (·.val)) ∧ Born ents' clock' := by
                unfold mput at hput
                cases hf : mfind key ks with
                | none => simp [hf] at hput
                | some r =>
                  obtain ⟨ents', clock', hrun, q1, q2, q3⟩ := mapUpdate_run (x := a.eval x) hu hh hkr hc.1 h1 hf
                  refine ⟨ents', clock', by rw [hmv]; exact hrun, ?_⟩
                  cases r with
                  | none =>
                    simp only [hf, Option.some.injEq, Prod.mk.injEq] at hput
                    obtain ⟨rfl, rfl⟩ := hput
                    obtain ⟨k1, k2⟩ := q1 rfl
                    exact ⟨k1, by rw [k2]; exact repAll_append h2 (repAll_cons hxr repAll_nil), q3 hB⟩
                  | some j =>
                    simp only [hf, Option.some.injEq, Prod.mk.injEq] at hput
                    obtain ⟨rfl, rfl⟩ := hput
                    obtain ⟨k1, k2, _⟩ := q2 j rfl
                    exact ⟨k1, by rw [k2]; exact repAll_set h2 hxr, q3 hB⟩
              obtain ⟨ents', clock', hrun, r1, r2, r3⟩ := key1
              have hlt := (Array.getElem?_eq_some_iff.1 hh).1
              have hwrite := hR1.write hob (g := b) (by rw [hl]; exact inB_map.2 rfl) (w' := { w with heap := w.heap.setIfInBounds b (.map ents' clock') }) (o' := .mp k' e' ks' vs') (fun b' hb' => by
                  simp only []; rw [Array.getElem?_setIfInBounds_ne (fun e => hb' e.symm)]) rfl rfl rfl (by simp) ⟨b, ents', clock', hl, hown, by simp [hlt], hmu, r1, r2, r3⟩
              have : ((execOp a.eval o).run P w) = .ok .skip { w with heap := w.heap.setIfInBounds b (.map ents' clock') } := by
                unfold execOp
                rcases ho with ho | ho <;> rw [ho] <;> simp [hrun]
              exact wp_skipW this (by rw [hdst]; exact hK _ _ _ _ hwrite)
            · cases h
        · cases h
      · cases h
    · cases h
  · cases h

theorem repAll_erase {xs : List AV} {vs : List Value} (h : repAll μ xs vs) (i : Nat) : repAll μ (xs.eraseIdx i) (vs.eraseIdx i) := by
  induction xs generalizing vs i with
  | nil => rw [repAll] at h; subst h; simp [repAll]
  | cons x xs ih =>
    rw [repAll] at h
    obtain ⟨u, us, rfl, h1, h2⟩ := h
    cases i with
    | zero => simpa using h2
    | succ i => simpa using repAll_cons h1 (ih h2 i)

theorem map_erase {α β : Type} (f : α → β) (l : List α) (j : Nat) : (l.eraseIdx j).map f = (l.map f).eraseIdx j := by
  induction l generalizing j with
  | nil => rfl
  | cons x l ih =>
    cases j with
    | zero => rfl
    | succ j => simp [ih]
theorem eff_delete {o : Oper} {c : Call} {t : TypeId} {ts : List TypeId} {m k : Operand} (hR : Rel N w0 μ0 L μ loc st a w) (hdst : o.dst = none) (ho : o.op = .call c) (hc : c.callee = .builtin .delete) (ha : c.args.toList = [m, k]) (ht : c.argTypes.toList = t :: ts) (h : mapDelete P st t m k = some st')
    (hK : Goes N w0 μ0 L st' K) : o.wpW P a w K Q := by
  obtain ⟨callee, ⟨args⟩, ⟨argTypes⟩⟩ := c
  simp only at hc ha ht
  subst hc; subst ha; subst ht
  unfold mapDelete at h
  split at h
  · rename_i kt et hu
    split at h
    · rename_i id key hm hk
      split at h
      · rename_i k' e' ks vs hob
        cases hok : keyOk P kt key with
        | false => simp [hok] at h
        | true =>
          simp only [hok, cond_true] at h
          split at h
          · rename_i ks' vs' hdel
            injection h with h
            subst h
            obtain ⟨b, ents, clock, hl, hown, hh, hmu, h1, h2, hB⟩ := hR.obs id _ hob
            have hmv : a.eval m = .map (some b) := by
              have := opnd_sound hR hm
              simp only [repS] at this
              rw [this, hl]; rfl
            have hkr := pure_sound hR hk
            have key1 : ∃ ents', (Builtin.delete_ (t :: ts).toArray o.type #[a.eval m, a.eval k]).run P w = .ok (.tuple #[]) { w with heap := w.heap.setIfInBounds b (.map ents' clock) } ∧ repAll μ ks' (ents'.toList.map (·.key)) ∧ repAll μ vs' (ents'.toList.map (·.val)) ∧ Born ents' clock := by
              unfold mdel at hdel
              cases hf : mfind key ks with
              | none => simp [hf] at hdel
              | some r =>
                have hfk := findKey_run hkr hok h1 hf w
                cases r with
                | none =>
                  simp only [hf, Option.some.injEq, Prod.mk.injEq] at hdel
                  obtain ⟨rfl, rfl⟩ := hdel
                  simp only [] at hfk
                  exact ⟨ents, by simp [Builtin.delete_, hmv, run_underlying hu, run_getObj_mp hh, checkKey_run hkr hok, hfk, setObj, Sem.run, hh], h1, h2, hB⟩
                | some j =>
                  simp only [hf, Option.some.injEq, Prod.mk.injEq] at hdel
                  obtain ⟨rfl, rfl⟩ := hdel
                  obtain ⟨e, he, hrun, _⟩ := hfk
                  refine ⟨ents.eraseIdxIfInBounds j, by simp [Builtin.delete_, hmv, run_underlying hu, run_getObj_mp hh, checkKey_run hkr hok, hrun, setObj, Sem.run, hh], ?_, ?_, ⟨fun y hy => hB.1 y (by rw [Array.toList_eraseIdxIfInBounds] at hy; exact (List.eraseIdx_sublist _ _).subset hy), by rw [Array.toList_eraseIdxIfInBounds]; exact hB.2.sublist ((List.eraseIdx_sublist _ _).map _)⟩⟩
                  · have := repAll_erase h1 j
                    rw [← map_erase] at this; rw [Array.toList_eraseIdxIfInBounds]; exact this
                  · have := repAll_erase h2 j
                    rw [← map_erase] at this; rw [Array.toList_eraseIdxIfInBounds]; exact this
            obtain ⟨ents', hrun, r1, r2, r3⟩ := key1
            have hlt := (Array.getElem?_eq_some_iff.1 hh).1
            have hwrite := hR.write hob (g := b) (by rw [hl]; exact inB_map.2 rfl) (w' := { w with heap := w.heap.setIfInBounds b (.map ents' clock) }) (o' := .mp k' e' ks' vs') (fun b' hb' => by
                simp only []; rw [Array.getElem?_setIfInBounds_ne (fun e => hb' e.symm)]) rfl rfl rfl (by simp) ⟨b, ents', clock, hl, hown, by simp [hlt], hmu, r1, r2, r3⟩
            refine wp_value (v := .tuple #[]) (w' := { w with heap := w.heap.setIfInBounds b (.map ents' clock) }) (by
              unfold execOp; rw [ho]
              simp only [List.map_toArray, List.map_cons, List.map_nil, resolve, invoke, builtin]
              have hrun' : (Builtin.delete_ { toList := t :: ts } o.type #[a.eval m, a.eval k]).run P w = _ := hrun
              simp [hrun']) ?_
            rw [hdst]
            exact hK _ _ _ _ hwrite
          · cases h
      · cases h
    · cases h
  · cases h

/-! maps of rows -/
theorem repCaps_base {id : Nat} {val : Value} {us : Array Value} (htup : loc id = .tuple us) (hbase : baseV val = baseV (loc id)) : ∀ {cs : List Cap} {vs : List Value}, repCaps μ loc cs vs → repCaps μ (upd loc id val) cs vs
  | [], vs, h => h
  | c :: cs, vs, ⟨u, us', e, h1, h2⟩ => by
    refine ⟨u, us', e, ?_, repCaps_base htup hbase h2⟩
    cases c with
    | v a => exact h1
    | p j =>
      obtain ⟨b, k1, k2⟩ := h1
      have hne : j ≠ id := fun e => by subst e; rw [htup] at k1; cases k1
      exact ⟨b, by rw [upd_other _ _ hne]; exact k1, k2⟩
    | r j =>
      show u = baseV (upd loc id val j)
      by_cases e : j = id
      · subst e; rw [upd_same, hbase]; exact h1
      · rw [upd_other _ _ e]; exact h1
theorem repS_base {id : Nat} {val : Value} {us : Array Value} (htup : loc id = .tuple us) (hbase : baseV val = baseV (loc id)) {s : SV} {v : Value} (k : repS μ loc s v) : repS μ (upd loc id val) s v := by
  induction s generalizing v with
  | undef => exact k
  | any => exact k
  | pv y => exact k
  | cp cs => exact k
  | ptr j off =>
    obtain ⟨b, h1, h2⟩ := k
    have hne : j ≠ id := fun e => by subst e; rw [htup] at h1; cases h1
    exact ⟨b, by rw [upd_other _ _ hne]; exact h1, h2⟩
  | row j =>
    show v = baseV (upd loc id val j)
    by_cases e : j = id
    · subst e; rw [upd_same, hbase]; exact k
    · rw [upd_other _ _ e]; exact k
  | rp j sz i off =>
    obtain ⟨g, n, c, h1, h2⟩ := k
    have hne : j ≠ id := fun e => by subst e; rw [htup] at h1; cases h1
    exact ⟨g, n, c, by rw [upd_other _ _ hne]; exact h1, h2⟩
  | sub j sz lo hi =>
    obtain ⟨A, n, c, A', c', h1, h2⟩ := k
    have hne : j ≠ id := fun e => by subst e; rw [htup] at h1; cases h1
    exact ⟨A, n, c, A', c', by rw [upd_other _ _ hne]; exact h1, h2⟩
  | cl f caps => obtain ⟨vs, e, hc⟩ := k; exact ⟨vs, e, repCaps_base htup hbase hc⟩
  | ag caps => obtain ⟨vs, e, hc, h1⟩ := k; exact ⟨vs, e, repCaps_base htup hbase hc, h1⟩
  | two s b ih => obtain ⟨y, e, k⟩ := k; exact ⟨y, e, ih k⟩
theorem repSs_base {id : Nat} {val : Value} {us : Array Value} (htup : loc id = .tuple us) (hbase : baseV val = baseV (loc id)) : ∀ {cs : List SV} {vs : List Value}, repSs μ loc cs vs → repSs μ (upd loc id val) cs vs
  | [], vs, h => h
  | c :: cs, vs, ⟨u, us', e, h1, h2⟩ => ⟨u, us', e, repS_base htup hbase h1, repSs_base htup hbase h2⟩
theorem obOK_base {n0 : Nat} {i id : Nat} {val : Value} {us : Array Value} (htup : loc id = .tuple us) (hbase : baseV val = baseV (loc id)) {o : Ob} (h : obOK n0 L μ loc w i o) (hne : i ≠ id) : obOK n0 L μ (upd loc id val) w i o := by
  cases o with
  | box t cells =>
    obtain ⟨b, vs, hl, ho, hh, hm, hs, h1⟩ := h
    exact ⟨b, vs, by rw [upd_other _ _ hne]; exact hl, ho, hh, hm, repSs_base htup hbase hs, h1⟩
  | row e sz xs =>
    obtain ⟨vs, hown, hrc, hm⟩ := h
    refine ⟨vs, by rw [upd_other _ _ hne]; exact hown, hrc, fun g hg => hm g (by rw [upd_other _ _ hne] at hg; exact hg)⟩
  | mp k e ks es =>
    obtain ⟨b, ents, clock, hl, rest⟩ := h
    exact ⟨b, ents, clock, by rw [upd_other _ _ hne]; exact hl, rest⟩
  | mr k e sz ks vs =>
    obtain ⟨b, ents, clock, us, hl, rest⟩ := h
    exact ⟨b, ents, clock, us, by rw [upd_other _ _ hne]; exact hl, rest⟩
  | it s pos =>
    obtain ⟨b, hl, rest⟩ := h
    exact ⟨b, by rw [upd_other _ _ hne]; exact hl, rest⟩

/-- a map of rows is written, or a row of it comes or goes -/
theorem Rel.relay (hR : Rel N w0 μ0 L μ loc st a w) {id : Nat} {o o' : Ob} {val : Value} {us : Array Value} (ho : st.ob id = some o) (htup : loc id = .tuple us) (hbase : baseV val = baseV (loc id)) (hsmall : id < 10000) {g : Nat} (hg : inB (loc id) g) {w' : World}
    (hch : ∀ b, b ≠ g → w'.heap[b]? = w.heap[b]?) (hos : w'.os = w.os) (htape : w'.tape = w.tape) (hout : w'.output = w.output) (hsz : w'.heap.size = w.heap.size)
    (hob : obOK w0.heap.size L μ (upd loc id val) w' id o') (hap : ∀ j oj, st.ob j = some oj → j ≠ id → ∀ q, inB val q → ¬ inB (loc j) q) (hdr : L.q → w.drawn ≤ w'.drawn := by exact fun _ => Nat.le_refl _) : Rel N w0 μ0 L μ (upd loc id val) { st with ob := put st.ob id (some o') } a w' := by
  obtain ⟨hown, hlt, hmu⟩ := (hR.obs id o ho).block g hg
  have h1 := (hR.drop id).world (w' := w') (Mu.le.refl _) (fun _ _ _ h => .inl h) (fun b j v h => by
      have hne : b ≠ g := fun e => by subst e; rw [hmu j] at h; cases h
      have := hR.pub b j v h
      rw [see_of_block (hch b hne)]; exact this) (fun i oi hi b hb => by
      by_cases e : id = i
      · subst e; simp [put_same] at hi
      · simp only [put_other _ _ e] at hi
        have hne : b ≠ g := fun e' => by subst e'; exact hR.apart id i o oi ho hi e b hg hb
        exact ⟨hch b hne, ((hR.obs i oi hi).block b hb).2.2⟩) (fun b hb hl => by
      refine hch b (fun e => ?_)
      subst e
      rcases hown with h | ⟨v, hv, h⟩
      · omega
      · exact hl ⟨id, v, hv, h⟩) hos htape hout (by omega) hdr
  refine ⟨h1.small, h1.names, ?_, h1.size, h1.defers, ?_, h1.pub, h1.base, ?_, ?_, h1.keep, h1.os, h1.tape, h1.output, h1.grown, h1.drawn⟩
  · intro i v hv hi
    have hne : i ≠ id := fun e => by subst e; rw [hR.names i hsmall] at hv; cases hv
    rw [upd_other _ _ hne]; exact hR.fix i v hv hi
  · intro i s hi
    obtain ⟨v, hv, hr⟩ := h1.env i s hi
    exact ⟨v, hv, repS_base htup hbase hr⟩
  · intro i oi hi
    by_cases e : id = i
    · subst e; simp only [put_same, Option.some.injEq] at hi; subst hi; exact hob
    · simp only [put_other _ _ e] at hi
      exact obOK_base htup hbase (h1.obs i oi (by simpa only [put_other _ _ e] using hi)) (Ne.symm e)
  · intro i j oi oj hi hj hij q hq
    by_cases ei : id = i
    · subst ei
      simp only [put_other _ _ hij] at hj
      rw [upd_same] at hq
      rw [upd_other _ _ (Ne.symm hij)]
      exact hap j oj hj (Ne.symm hij) q hq
    · simp only [put_other _ _ ei] at hi
      rw [upd_other _ _ (Ne.symm ei)] at hq
      by_cases ej : id = j
      · subst ej
        rw [upd_same]
        exact fun hq' => hap i oi hi hij q hq' hq
      · simp only [put_other _ _ ej] at hj
        rw [upd_other _ _ (Ne.symm ej)]
        exact hR.apart i j oi oj hi hj hij q hq

/-- what speaks of an object is forgotten, and the object -/
theorem Rel.purgeOb (hR : Rel N w0 μ0 L μ loc st a w) (id : Nat) : Rel N w0 μ0 L μ loc (st.purge id) a w := by
  have hu : upd loc id (loc id) = loc := funext fun i => by
    by_cases e : i = id
    · subst e; exact upd_same _ _ _
    · exact upd_other _ _ e
  have hsub : ∀ i oi, (st.purge id).ob i = some oi → i ≠ id ∧ ∃ oj, st.ob i = some oj ∧ oi = oj.purge id := fun i oi h => by
    by_cases e : id = i
    · subst e; simp [St.purge, put_same] at h
    · simp only [St.purge, put_other _ _ e, Option.map_eq_some_iff] at h
      obtain ⟨oj, h1, h2⟩ := h
      exact ⟨Ne.symm e, oj, h1, h2.symm⟩
  refine ⟨hR.small, hR.names, hR.fix, hR.size, hR.defers, ?_, hR.pub, hR.base, ?_, ?_, hR.keep, hR.os, hR.tape, hR.output, hR.grown, hR.drawn⟩
  · intro i s hi
    simp only [St.purge, Option.map_eq_some_iff] at hi
    obtain ⟨s', h1, rfl⟩ := hi
    obtain ⟨v, hv, hr⟩ := hR.env i s' h1
    exact ⟨v, hv, repS_purge' hr⟩
  · intro i oi hi
    obtain ⟨hne, oj, h1, rfl⟩ := hsub i oi hi
    have := obOK_purge (x := loc id) (hR.obs i oj h1) hne
    rwa [hu] at this
  · intro i j oi oj hi hj hij
    obtain ⟨_, oi', h1, _⟩ := hsub i oi hi
    obtain ⟨_, oj', h2, _⟩ := hsub j oj hj
    exact hR.apart i j oi' oj' h1 h2 hij

theorem mrKey_parts {t : TypeId} {m k : Operand} {et : TypeId} {id : Nat} {key : AV} {k' e : TypeId} {sz : Nat} {ks : List AV} {vs : List (Option (List (List AV)))} (h : mrKey P st t m k = some (et, id, key, k', e, sz, ks, vs)) :
    ∃ kt, P.underlying t = some (.map kt et) ∧ opnd P t st m = some (.row id) ∧ (opnd P kt st k).bind pure? = some key ∧ st.ob id = some (.mr k' e sz ks vs) ∧ keyOk P kt key = true ∧ id < 10000 := by
  unfold mrKey at h
  split at h
  · rename_i kt et' hu
    split at h
    · rename_i id' key' hm hk
      split at h
      · rename_i k2 e2 sz2 ks2 vs2 hob
        cases hb : (keyOk P kt key' && Nat.blt id' 10000) with
        | false => rw [hb] at h; cases h
        | true =>
          simp only [hb, cond_true, Option.some.injEq, Prod.mk.injEq] at h
          obtain ⟨rfl, rfl, rfl, rfl, rfl, rfl, rfl, rfl⟩ := h
          rw [Bool.and_eq_true] at hb
          exact ⟨kt, hu, hm, hk, hob, hb.1, by simpa [Nat.blt_eq] using hb.2⟩
      · cases h
    · cases h
  · cases h

theorem zeroVal_nil {t : TypeId} {s : Nat} (h : zeroVal P t = some (.lst s [])) (w : World) : (zeroValue t).run P w = .ok (.slice none 0 0) w := by
  unfold zeroVal at h
  split at h
  · rename_i i hi
    split at h
    · cases hz : zeroAll P (cellTys P 8 t) _ <;> rw [hz] at h <;> cases h
    · rename_i v hne hz
      unfold ofConst at h
      split at h
      · cases h
      · cases h
      · cases h
      · simp [zeroValue, typeInfo, hi, hz]
      · cases h
      · split at h <;> cases h
      · cases h
    · cases h
  · cases h

theorem mr_base {n0 : Nat} {id : Nat} {k e : TypeId} {sz : Nat} {ks : List AV} {vs : List (Option (List (List AV)))} (h : obOK n0 L μ loc w id (.mr k e sz ks vs)) : ∃ b us, loc id = .tuple (.map (some b) :: us).toArray := by
  obtain ⟨b, ents, clock, us, hl, _⟩ := h
  exact ⟨b, us, hl⟩

theorem eff_mrOut {o : Oper} {t : TypeId} {m k : Operand} {d : Nat} (hR : Rel N w0 μ0 L μ loc st a w) (hd : d < N) (hdst : o.dst = some d) (ho : o.op = .lookup t m k false) (h : mrOut P st t m k d = some st') (hK : Goes N w0 μ0 L st' K) : o.wpW P a w K Q := by
  unfold mrOut at h
  split at h
  · rename_i et id key k' e sz ks vs hmk
    obtain ⟨kt, hu, hm, hk, hob, hok, hid⟩ := mrKey_parts hmk
    cases hdd : Nat.beq id d with
    | true => rw [hdd] at h; cases h
    | false =>
    simp only [hdd, cond_false] at h
    have hne : id ≠ d := fun e => by subst e; simp [Nat.beq_refl] at hdd
    obtain ⟨b, ents, clock, us, hl, hown, hh, hmu, h1, h2, h3, h4, h5, h6⟩ := hR.obs id _ hob
    have hmv : a.eval m = .map (some b) := by
      have : a.eval m = baseV (loc id) := opnd_sound hR hm
      rw [this, hl]; rfl
    have hkr := pure_sound hR hk
    have hd' : d < 10000 := Nat.lt_of_lt_of_le hd hR.small
    split at h
    · rename_i i hf
      have hfk := findKey_run hkr hok h1 hf w
      obtain ⟨ent, he, hrun, _⟩ := hfk
      split at h
      · rename_i xs hvi
        injection h with h; subst h
        obtain ⟨u, cells, k1, k2, k3, k4, k5⟩ := h4 i xs hvi
        have hval : u = ent.val := by
          have he' : ents[i]? = some ent := by simpa using he
          simp [he'] at k2
          exact k2.symm
        refine wp_value (v := ent.val) (w' := w) (by
          unfold execOp; rw [ho]
          simp [hmv, Instr.lookup, run_underlying hu, run_getObj_mp hh, checkKey_run hkr hok, hrun]) ?_
        rw [hdst, ← hval]
        have hil : i < us.length := (List.getElem?_eq_some_iff.1 k1).1
        -- the row goes out of the map
        have r1 := hR.relay (id := id) (o' := .mr k' e sz ks (vs.set i none)) (val := .tuple (.map (some b) :: us.set i undef).toArray) (g := b) (w' := w) hob hl (by rw [hl]; rfl) hid (by rw [hl]; exact inB_mr.2 (.inl rfl)) (fun _ _ => rfl) rfl rfl rfl rfl (by
            refine ⟨b, ents, clock, us.set i undef, upd_same _ _ _, hown, hh, hmu, h1, by simp [h2], by simp [h3], fun q ys hq => ?_, fun q hq => ?_, fun q q' x y hx hy hqq g hg => ?_⟩
            · have hqi : q ≠ i := fun e => by subst e; simp [List.getElem?_set] at hq
              rw [List.getElem?_set_ne (Ne.symm hqi)] at hq
              obtain ⟨u', cells', m1, m2⟩ := h4 q ys hq
              exact ⟨u', cells', by rw [List.getElem?_set_ne (Ne.symm hqi)]; exact m1, m2⟩
            · by_cases hqi : q = i
              · subst hqi; simp [List.getElem?_set, hil]
              · rw [List.getElem?_set_ne (Ne.symm hqi)] at hq
                rw [List.getElem?_set_ne (Ne.symm hqi)]
                exact h5 q hq
            · have und : ∀ (q : Nat) (z : Value), (us.set i undef)[q]? = some z → ∀ g, blockOf z = some g → us[q]? = some z := fun q z hz g hg => by
                by_cases hqi : q = i
                · rw [hqi, List.getElem?_set_self hil] at hz
                  injection hz with hz
                  subst hz
                  simp [undef, blockOf] at hg
                · rwa [List.getElem?_set_ne (Ne.symm hqi)] at hz
              intro hg'
              exact h6 q q' x y (und q x hx g hg) (und q' y hy g hg') hqq g hg hg') (fun j oj hj hji q hq => by
            refine fun hqj => hR.apart id j _ oj hob hj (Ne.symm hji) q ?_ hqj
            rw [hl]
            rcases inB_mr.1 hq with rfl | ⟨z, hz, hzq⟩
            · exact inB_mr.2 (.inl rfl)
            · rcases List.mem_or_eq_of_mem_set hz with hz | rfl
              · exact inB_mr.2 (.inr ⟨z, hz, hzq⟩)
              · simp [undef, blockOf] at hzq)
        -- and becomes a row of the frame
        have hsl : baseV u = u := by rcases k3.2 with ⟨e1, _⟩ | ⟨g, cap, cur, e1, _⟩ <;> rw [e1] <;> rfl
        have hin : ∀ g, inB u g → blockOf u = some g := fun g hg => by
          rcases k3.2 with ⟨e1, _⟩ | ⟨g', cap, cur, e1, _⟩ <;> rw [e1] at hg ⊢ <;> exact inB_slice.1 hg
        have r2 := r1.new (id := d) (val := u) (o := .row e sz xs) (.inl hd') (by
            refine ⟨cells, by rw [upd_same]; exact k3, k4, fun g hg => ?_⟩
            rw [upd_same] at hg
            obtain ⟨m1, m2⟩ := k5 g (hin g hg)
            exact ⟨.inl m1, m2⟩) (fun j oj hj hjd g hg => by
            have hgu := hin g hg
            by_cases hji : id = j
            · subst hji
              rw [upd_same]
              intro hb
              rcases inB_mr.1 hb with rfl | ⟨z, hz, hzq⟩
              · -- the map's own block holds no cells
                rcases k3.2 with ⟨e1, _⟩ | ⟨g', cap, cur, e1, _, hg', _⟩
                · rw [e1] at hgu; simp [blockOf] at hgu
                · rw [e1] at hgu; simp [blockOf] at hgu; subst hgu; rw [hh] at hg'; cases hg'
              · obtain ⟨q, hq, eq⟩ := List.mem_iff_getElem.1 hz
                have hq' : (us.set i undef)[q]? = some z := by rw [List.getElem?_eq_getElem hq, eq]
                by_cases hqi : q = i
                · subst hqi
                  simp [List.getElem?_set, hil] at hq'
                  subst hq'
                  simp [undef, blockOf] at hzq
                · rw [List.getElem?_set_ne (Ne.symm hqi)] at hq'
                  exact h6 q i z u hq' k1 hqi g hzq hgu
            · simp only [put_other _ _ hji] at hj
              rw [upd_other _ _ (Ne.symm hji)]
              exact hR.apart id j _ oj hob hj hji g (by rw [hl]; exact inB_mr.2 (.inr ⟨u, List.mem_of_getElem? k1, hgu⟩)))
        exact hK _ _ _ _ (r2.set (fun i hi => by injection hi with hi; omega) (rowS hsl))
      · cases h
    · rename_i hf
      split at h
      · rename_i s0 e' s hz hs
        split at h
        · rename_i hcond
          obtain ⟨rfl, rfl, hpos⟩ := hcond
          injection h with h; subst h
          have hfk := findKey_run hkr hok h1 hf w
          have hzr := zeroVal_nil hz w
          refine wp_value (v := .slice none 0 0) (w' := w) (by
            unfold execOp; rw [ho]
            simp [hmv, Instr.lookup, run_underlying hu, run_getObj_mp hh, checkKey_run hkr hok, hfk, hzr]) ?_
          rw [hdst]
          refine hK _ _ _ _ ((hR.new (id := d) (val := .slice none 0 0) (o := .row e s []) (.inl hd') ?_ (fun j oj hj hne g hg => by simp [inB, blockOf] at hg)).set (fun i hi => by injection hi with hi; omega) (rowS rfl))
          refine ⟨[], ⟨by simp, .inl ⟨upd_same _ _ _, rfl⟩⟩, rfl, fun g hg => ?_⟩
          rw [upd_same] at hg; simp [inB, blockOf] at hg
        · cases h
      · cases h
    · cases h
  · cases h

/-- a row, under what name ever, is laid into a map of rows -/
theorem eff_lay {o : Oper} {t kt et : TypeId} {m k x : Operand} {id : Nat} {key : AV} {k' e : TypeId} {sz : Nat} {ks ks' : List AV} {vs vs' : List (Option (List (List AV)))} {xs : List (List AV)} {cells : List Value}
    (hR : Rel N w0 μ0 L μ loc st a w) (hdst : o.dst = none) (ho : o.op = .mapUpdate t m k x ∨ o.op = .insert t m k x) (hu : P.underlying t = some (.map kt et)) (hmv : a.eval m = baseV (loc id)) (hkr : rep μ key (a.eval k)) (hok : keyOk P kt key = true)
    (hob : st.ob id = some (.mr k' e sz ks vs)) (hid : id < 10000) (hput : mput key (some xs) ks vs = some (ks', vs')) (hrow : w.ownsRow 0 e sz (a.eval x) xs.length cells) (hrc : rowCells μ sz xs cells)
    (hg : ∀ g, blockOf (a.eval x) = some g → w0.heap.size ≤ g ∧ ∀ j, μ g j = none) (hfree : ∀ j oj, st.ob j = some oj → ∀ g, blockOf (a.eval x) = some g → ¬ inB (loc j) g)
    (hK : Goes N w0 μ0 L { st with ob := put st.ob id (some (.mr k' e sz ks' vs')) } K) : o.wpW P a w K Q := by
  obtain ⟨b, ents, clock, us, hl, hown, hh, hmu, h1, h2, h3, h4, h5, h6⟩ := hR.obs id _ hob
  have hmv' : a.eval m = .map (some b) := by rw [hmv, hl]; rfl
  cases hf : mfind key ks with
  | none => simp [mput, hf] at hput
  | some r =>
  obtain ⟨ents', clock', hrun, q1, q2, _⟩ := mapUpdate_run (x := a.eval x) hu hh hkr hok h1 hf
  have hlt := (Array.getElem?_eq_some_iff.1 hh).1
  have hsl : ∀ g, inB (a.eval x) g → blockOf (a.eval x) = some g := fun g hg => by
    rcases hrow.2 with ⟨e1, _⟩ | ⟨g', cap, cur, e1, _⟩ <;> rw [e1] at hg ⊢ <;> exact inB_slice.1 hg
  have hbx : blockOf (a.eval x) ≠ some b := fun e => by
    rcases hrow.2 with ⟨e1, _⟩ | ⟨g', cap, cur, e1, _, hg', _⟩
    · rw [e1] at e; simp [blockOf] at e
    · rw [e1] at e; simp [blockOf] at e; subst e; rw [hh] at hg'; cases hg'
  have hnu : ∀ u ∈ us, ∀ g, blockOf u = some g → blockOf (a.eval x) ≠ some g := fun u hu g hgu hgx => hfree id _ hob g hgx (by rw [hl]; exact inB_mr.2 (.inr ⟨u, hu, hgu⟩))
  -- other rows lie as they lay
  have other : ∀ (u : Value) (cs : List Value) (ys : List (List AV)), w.ownsRow 0 e sz u ys.length cs → blockOf u ≠ some b → World.ownsRow { w with heap := w.heap.setIfInBounds b (.map ents' clock') } 0 e sz u ys.length cs := fun u cs ys hu hub =>
    ownsRow_keep hu (fun g hg => by
      have : b ≠ g := fun e => hub (by rw [e]; exact hg)
      simp only []; rw [Array.getElem?_setIfInBounds_ne this])
  have hub : ∀ u ∈ us, blockOf u ≠ some b := fun u hu e => by
    obtain ⟨i, ys, m1, m2⟩ := mr_mem h2 h5 hu e
    obtain ⟨u', cells', n1, n2, n3, _⟩ := h4 i ys m1
    rw [m2] at n1; injection n1 with n1; subst n1
    rcases n3.2 with ⟨e1, _⟩ | ⟨g', cap, cur, e1, _, hg', _⟩
    · rw [e1] at e; simp [blockOf] at e
    · rw [e1] at e; simp [blockOf] at e; subst e; rw [hh] at hg'; cases hg'
  have fin : ∀ us', (∀ u ∈ us', u ∈ us ∨ u = a.eval x) → obOK w0.heap.size L μ (upd loc id (.tuple (.map (some b) :: us').toArray)) { w with heap := w.heap.setIfInBounds b (.map ents' clock') } id (.mr k' e sz ks' vs') → o.wpW P a w K Q := fun us' hus hob' => by
    have r1 := hR.relay (id := id) (val := .tuple (.map (some b) :: us').toArray) (g := b) (w' := { w with heap := w.heap.setIfInBounds b (.map ents' clock') }) hob hl (by rw [hl]; rfl) hid (by rw [hl]; exact inB_mr.2 (.inl rfl))
      (fun b' hb' => by simp only []; rw [Array.getElem?_setIfInBounds_ne (fun e => hb' e.symm)]) rfl rfl rfl (by simp) hob' (fun j oj hj hji q hq => by
        rcases inB_mr.1 hq with rfl | ⟨z, hz, hzq⟩
        · exact fun hqj => hR.apart id j _ oj hob hj (Ne.symm hji) q (by rw [hl]; exact inB_mr.2 (.inl rfl)) hqj
        · rcases hus z hz with hz | rfl
          · exact fun hqj => hR.apart id j _ oj hob hj (Ne.symm hji) q (by rw [hl]; exact inB_mr.2 (.inr ⟨z, hz, hzq⟩)) hqj
          · exact hfree j oj hj q hzq)
    have : ((execOp a.eval o).run P w) = .ok .skip { w with heap := w.heap.setIfInBounds b (.map ents' clock') } := by
      unfold execOp
      rcases ho with ho | ho <;> rw [ho] <;> simp [hmv', hrun]
    exact wp_skipW this (by rw [hdst]; exact hK _ _ _ _ r1)
  cases r with
  | none =>
    simp only [mput, hf, Option.some.injEq, Prod.mk.injEq] at hput
    obtain ⟨rfl, rfl⟩ := hput
    obtain ⟨c1, c2⟩ := q1 rfl
    have hsize : ents'.size = ents.size + 1 := by have := congrArg List.length c2; simpa using this
    refine fin (us ++ [a.eval x]) (fun u hu => by simpa using hu) ⟨b, ents', clock', us ++ [a.eval x], upd_same _ _ _, hown, by simp [hlt], hmu, c1, by simp [h2], by simp [hsize, h3], fun i ys hi => ?_, fun i hi => ?_, fun i j u v hu hv hij g hgu hgv => ?_⟩
    · by_cases hil : i < vs.length
      · rw [List.getElem?_append_left hil] at hi
        obtain ⟨u, cs, n1, n2, n3, n4, n5⟩ := h4 i ys hi
        exact ⟨u, cs, by rw [List.getElem?_append_left (by omega)]; exact n1, by rw [c2, List.getElem?_append_left (by simp; omega)]; exact n2, other u cs ys n3 (hub u (List.mem_of_getElem? n1)), n4, n5⟩
      · rw [List.getElem?_append_right (by omega)] at hi
        have hi0 : i - vs.length = 0 := by
          have := (List.getElem?_eq_some_iff.1 hi).1
          simp at this; omega
        rw [hi0] at hi
        simp at hi; subst hi
        refine ⟨a.eval x, cells, ?_, ?_, other _ _ _ hrow hbx, hrc, hg⟩
        · rw [List.getElem?_append_right (by omega), h2, hi0]; rfl
        · rw [c2, List.getElem?_append_right (by simp; omega)]; simp [h3, hi0]
    · by_cases hil : i < vs.length
      · rw [List.getElem?_append_left hil] at hi
        rw [List.getElem?_append_left (by omega)]; exact h5 i hi
      · rw [List.getElem?_append_right (by omega)] at hi
        have hi0 : i - vs.length = 0 := by
          have := (List.getElem?_eq_some_iff.1 hi).1
          simp at this; omega
        rw [hi0] at hi
        simp at hi
    · have split : ∀ q z, (us ++ [a.eval x])[q]? = some z → (us[q]? = some z) ∨ (q = us.length ∧ z = a.eval x) := fun q z hz => by
        by_cases hq : q < us.length
        · rw [List.getElem?_append_left hq] at hz; exact .inl hz
        · rw [List.getElem?_append_right (by omega)] at hz
          have h0 : q - us.length = 0 := by
            have := (List.getElem?_eq_some_iff.1 hz).1
            simp at this; omega
          rw [h0] at hz
          simp at hz
          exact .inr ⟨by omega, hz.symm⟩
      rcases split i u hu with hu2 | ⟨e1, e2⟩ <;> rcases split j v hv with hv2 | ⟨e3, e4⟩
      · exact h6 i j u v hu2 hv2 hij g hgu hgv
      · rw [e4] at hgv; exact hnu u (List.mem_of_getElem? hu2) g hgu hgv
      · rw [e2] at hgu; exact hnu v (List.mem_of_getElem? hv2) g hgv hgu
      · exact hij (e1.trans e3.symm)
  | some p =>
    simp only [mput, hf, Option.some.injEq, Prod.mk.injEq] at hput
    obtain ⟨rfl, rfl⟩ := hput
    obtain ⟨c1, c2, hpl⟩ := q2 p rfl
    have hsize : ents'.size = ents.size := by have := congrArg List.length c2; simpa using this
    have hpu : p < us.length := by omega
    refine fin (us.set p (a.eval x)) (fun u hu => List.mem_or_eq_of_mem_set hu) ⟨b, ents', clock', us.set p (a.eval x), upd_same _ _ _, hown, by simp [hlt], hmu, c1, by simp [h2], by simp [hsize, h3], fun i ys hi => ?_, fun i hi => ?_, fun i j u v hu hv hij g hgu hgv => ?_⟩
    · by_cases hip : i = p
      · subst hip
        rw [List.getElem?_set] at hi
        simp [show i < vs.length by omega] at hi
        subst hi
        refine ⟨a.eval x, cells, by simp [List.getElem?_set, hpu], by rw [c2]; simp [List.getElem?_set, hpl], other _ _ _ hrow hbx, hrc, hg⟩
      · rw [List.getElem?_set_ne (Ne.symm hip)] at hi
        obtain ⟨u, cs, n1, n2, n3, n4, n5⟩ := h4 i ys hi
        exact ⟨u, cs, by rw [List.getElem?_set_ne (Ne.symm hip)]; exact n1, by rw [c2, List.getElem?_set_ne (Ne.symm hip)]; exact n2, other u cs ys n3 (hub u (List.mem_of_getElem? n1)), n4, n5⟩
    · by_cases hip : i = p
      · subst hip
        rw [List.getElem?_set] at hi
        simp at hi
      · rw [List.getElem?_set_ne (Ne.symm hip)] at hi
        rw [List.getElem?_set_ne (Ne.symm hip)]; exact h5 i hi
    · have split : ∀ q z, (us.set p (a.eval x))[q]? = some z → (us[q]? = some z) ∨ (q = p ∧ z = a.eval x) := fun q z hz => by
        by_cases hq : q = p
        · subst hq
          simp [List.getElem?_set, hpu] at hz
          exact .inr ⟨rfl, hz.symm⟩
        · rw [List.getElem?_set_ne (Ne.symm hq)] at hz; exact .inl hz
      rcases split i u hu with hu2 | ⟨e1, e2⟩ <;> rcases split j v hv with hv2 | ⟨e3, e4⟩
      · exact h6 i j u v hu2 hv2 hij g hgu hgv
      · rw [e4] at hgv; exact hnu u (List.mem_of_getElem? hu2) g hgu hgv
      · rw [e2] at hgu; exact hnu v (List.mem_of_getElem? hv2) g hgv hgu
      · exact hij (e1.trans e3.symm)

theorem eff_mrIn {o : Oper} {t : TypeId} {m k x : Operand} (hR : Rel N w0 μ0 L μ loc st a w) (hdst : o.dst = none) (ho : o.op = .mapUpdate t m k x ∨ o.op = .insert t m k x) (h : mrIn P st t m k x = some st') (hK : Goes N w0 μ0 L st' K) : o.wpW P a w K Q := by
  unfold mrIn at h
  split at h
  · rename_i et id key k' e sz ks vs hmk
    obtain ⟨kt, hu, hm, hk, hob, hok, hid⟩ := mrKey_parts hmk
    have hmv : a.eval m = baseV (loc id) := opnd_sound hR hm
    have hkr := pure_sound hR hk
    split at h
    · split at h
      · rename_i e' s hs
        split at h
        · rename_i hcond
          split at h
          · rename_i ks' vs' hput
            injection h with h; subst h
            have hx : a.eval (.const (.slice none 0 0)) = .slice none 0 0 := rfl
            exact eff_lay (cells := []) hR hdst ho hu hmv hkr hok hob hid hput (by rw [hx]; exact ⟨by simp, .inl ⟨rfl, rfl⟩⟩) rfl (fun g hg => by rw [hx] at hg; simp [blockOf] at hg) (fun j oj _ g hg => by rw [hx] at hg; simp [blockOf] at hg) hK
          · cases h
        · cases h
      · cases h
    · split at h
      · rename_i j hx
        split at h
        · rename_i e' s xs hobj
          split at h
          · rename_i hcond
            obtain ⟨rfl, rfl, hj⟩ := hcond
            split at h
            · rename_i ks' vs' hput
              injection h with h; subst h
              have hne : id ≠ j := fun e => by subst e; rw [hob] at hobj; cases hobj
              have hxv : a.eval x = loc j := (opnd_sound hR hx : a.eval x = baseV (loc j)).trans (base_row (hR.obs j _ hobj))
              obtain ⟨cells, hrow, hrc, hgj⟩ := hR.obs j _ hobj
              have hob2 : (st.purge j).ob id = some (.mr k' e s ks vs) := by simp [St.purge, put_other _ _ (Ne.symm hne), hob, Ob.purge]
              refine eff_lay (cells := cells) (hR.purgeOb j) hdst ho hu hmv hkr hok hob2 hid hput (by rw [hxv]; exact hrow) hrc (fun g hg => ?_) (fun i oi hi g hg => ?_) hK
              · rw [hxv] at hg
                obtain ⟨m1, m2⟩ := hgj g (.inl hg)
                rcases m1 with m1 | ⟨v, hv, _⟩
                · exact ⟨m1, m2⟩
                · rw [hR.names j hj] at hv; cases hv
              · rw [hxv] at hg
                by_cases e : j = i
                · subst e; simp [St.purge, put_same] at hi
                · simp only [St.purge, put_other _ _ e, Option.map_eq_some_iff] at hi
                  obtain ⟨oi', hi', _⟩ := hi
                  exact hR.apart j i _ oi' hobj hi' e g (.inl hg)
            · cases h
          · cases h
        · cases h
      · cases h
  · cases h

theorem eff_makeMr {o : Oper} {t k e e' : TypeId} {s : Nat} {r : Option Operand} {d : Nat} (hR : Rel N w0 μ0 L μ loc st a w) (hd : d < N) (hdst : o.dst = some d) (ho : o.op = .makeMap t r) (ht : P.underlying t = some (.map k e))
    (hr : reserveOk P st r = true) (hK : Goes N w0 μ0 L ((st.new d (.mr k e' s [] [])).set (some d) (.row d)) K) : o.wpW P a w K Q := by
  have hrun := makeMap_run (P := P) hR ht hr
  refine wp_value (v := .map (some w.heap.size)) (w' := w.alloc (.map #[] 0)) (by unfold execOp; rw [ho]; simp [hrun]) ?_
  rw [hdst]
  have h1 := (hR.grow' (below_alloc w (.map #[] 0))).new (id := d) (val := .tuple (.map (some w.heap.size) :: []).toArray) (o := .mr k e' s [] []) (.inl (Nat.lt_of_lt_of_le hd hR.small))
    ⟨w.heap.size, #[], 0, [], upd_same _ _ _, hR.grown, (by show (w.heap.push _)[w.heap.size]? = _; simp), mu_new hR _ (Nat.le_refl _), by simp [repAll], rfl, rfl, by simp, by simp, by simp⟩ (fun j oj hj hne g hg => by
    rcases inB_mr.1 hg with rfl | ⟨u, hu, _⟩
    · intro hb
      have := ((hR.obs j oj hj).block _ hb).2.1
      omega
    · simp at hu)
  exact hK _ _ _ _ (h1.set (fun i hi => by injection hi with hi; omega) (by show _ = baseV (upd _ _ _ _); rw [upd_same]; rfl))

/-! strings, rune by rune -/
theorem eff_range {o : Oper} {t : TypeId} {x : Operand} {d : Nat} {s : List UInt8} (hR : Rel N w0 μ0 L μ loc st a w) (hd : d < N) (hdst : o.dst = some d) (ho : o.op = .range t x) (ht : P.underlying t = some .string) (hx : (opnd P t st x).bind pure? = some (.str s))
    (hK : Goes N w0 μ0 L ((st.new d (.it s 0)).set (some d) (.ptr d 0)) K) : o.wpW P a w K Q := by
  have hv := pure_sound hR hx
  rw [rep] at hv
  refine wp_value (v := .pointer (some ⟨w.heap.size, 0, none⟩)) (w' := w.alloc (.stringIter ⟨s.toArray⟩ 0)) (by unfold execOp; rw [ho]; simp [Instr.range, run_underlying ht, hv, newObj, Sem.run]) ?_
  rw [hdst]
  refine hK _ _ _ _ (hR.made hd (fun g hg => inB_ptr.1 hg) ?_ ?_)
  · exact ⟨w.heap.size, upd_same _ _ _, .inl hR.grown, (by show (w.heap.push _)[w.heap.size]? = _; simp), mu_new hR _ (Nat.le_refl _)⟩
  · exact ⟨w.heap.size, upd_same _ _ _, rfl⟩

theorem eff_next {o : Oper} {x : Operand} {d id pos : Nat} {s : List UInt8} (hR : Rel N w0 μ0 L μ loc st a w) (hd : d < N) (hdst : o.dst = some d) (ho : o.op = .next x true) (hx : opnd P 0 st x = some (.ptr id 0)) (hob : st.ob id = some (.it s pos))
    (hK : if pos < s.length then Goes N w0 μ0 L (St.set { st with ob := put st.ob id (some (.it s (pos + (Utf8.decode ⟨s.toArray⟩ pos).2))) } (some d) (.pv (.tup [.bool true, .int .i64 pos, .int .i32 (Utf8.decode ⟨s.toArray⟩ pos).1]))) K
      else Goes N w0 μ0 L (st.set (some d) (.pv (.tup [.bool false]))) K) : o.wpW P a w K Q := by
  obtain ⟨b0, hl0, hv⟩ := opnd_sound hR hx
  obtain ⟨b, hl, hown, hh, hmu⟩ := hR.obs id _ hob
  rw [hl] at hl0
  simp only [Value.pointer.injEq, Option.some.injEq, Addr.mk.injEq, and_true] at hl0
  subst hl0
  have hsz : (⟨s.toArray⟩ : ByteArray).size = s.length := by simp [ByteArray.size]
  have hlt := (Array.getElem?_eq_some_iff.1 hh).1
  have hget : (getObj b).run P w = .ok (.stringIter ⟨s.toArray⟩ pos) w := by simp [getObj, Sem.run, hh]
  by_cases hp : pos < s.length
  · rw [if_pos hp] at hK
    refine wp_value (v := .tuple #[.bool true, .int .i64 pos, .int .i32 (Utf8.decode ⟨s.toArray⟩ pos).1]) (w' := { w with heap := w.heap.setIfInBounds b (.stringIter ⟨s.toArray⟩ (pos + (Utf8.decode ⟨s.toArray⟩ pos).2)) }) (by
      unfold execOp; rw [ho]
      simp [Instr.next, hv, hget, hsz, hp, goInt]
      simp [setObj, Sem.run, hh]) ?_
    rw [hdst]
    have r1 := hR.write hob (o' := .it s (pos + (Utf8.decode ⟨s.toArray⟩ pos).2)) (g := b) (by rw [hl]; exact inB_ptr.2 rfl) (w' := { w with heap := w.heap.setIfInBounds b (.stringIter ⟨s.toArray⟩ (pos + (Utf8.decode ⟨s.toArray⟩ pos).2)) }) (fun b' hb' => by
      simp only []; rw [Array.getElem?_setIfInBounds_ne (fun e => hb' e.symm)]) rfl rfl rfl (by simp) ⟨b, hl, hown, by simp [hlt], hmu⟩
    refine hK _ _ _ _ (r1.set (fun i hi => by injection hi with hi; omega) ?_)
    show rep μ (.tup _) _
    rw [rep]
    exact ⟨[.bool true, .int .i64 pos, .int .i32 (Utf8.decode ⟨s.toArray⟩ pos).1], rfl, repAll_cons (by simp [rep]) (repAll_cons (by simp [rep]) (repAll_cons (by simp [rep]) repAll_nil))⟩
  · rw [if_neg hp] at hK
    refine wp_value (v := .tuple #[.bool false]) (w' := w) (by
      unfold execOp; rw [ho]
      simp [Instr.next, hv, hget, hsz, hp]) ?_
    rw [hdst]
    refine hK _ _ _ _ (hR.set (fun i hi => by injection hi with hi; omega) ?_)
    show rep μ (.tup _) _
    rw [rep]
    exact ⟨[.bool false], rfl, repAll_cons (by simp [rep]) repAll_nil⟩
end
end Go.AM
