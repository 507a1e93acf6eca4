/-
  THE ABSTRACT MACHINE: operations with an effect.
-/
import Derived.Test.YtogpflcfahjafaaAmStep
set_option linter.unusedVariables false
set_option linter.unusedSimpArgs false
namespace Go.AM
open Go.RowKit

section
variable {μ μ' : Mu} {loc : Nat → Value}

theorem repRow_of_cells {sz b : Nat} {xs : List (List AV)} {vs : List Value} {off : Nat} (h : rowCells μ sz xs vs) (hle : μ.le μ') (hc : ∀ j u, vs[j]? = some u → μ' b (off + j) = some u) : repRow μ' sz b xs off := by
  induction xs generalizing vs off with
  | nil => simp [repRow]
  | cons x xs ih =>
    obtain ⟨us, ws, rfl, h1, h2, h3⟩ := h
    rw [repRow]
    refine ⟨⟨us, (h1.mono hle).1, h1.2, h2, fun j u hu => hc j u ?_⟩, ih h3 fun j u hu => ?_⟩
    · rw [List.getElem?_append_left (by simpa using (List.getElem?_eq_some_iff.1 hu).1)]; exact hu
    · have := hc (sz + j) u (by rw [List.getElem?_append_right (by omega), h2]; simpa using hu)
      rwa [← Nat.add_assoc] at this

theorem cells_of_repRow {sz b : Nat} {xs : List (List AV)} {off : Nat} (h : repRow μ sz b xs off) : ∃ vs, rowCells μ sz xs vs ∧ ∀ j u, vs[j]? = some u → μ b (off + j) = some u := by
  induction xs generalizing off with
  | nil => exact ⟨[], rfl, by simp⟩
  | cons x xs ih =>
    rw [repRow] at h
    obtain ⟨⟨us, h1, h2, h3, h4⟩, h5⟩ := h
    obtain ⟨ws, k1, k2⟩ := ih h5
    refine ⟨us ++ ws, ⟨us, ws, rfl, ⟨h1, h2⟩, h3, k1⟩, fun j u hu => ?_⟩
    by_cases hj : j < us.length
    · rw [List.getElem?_append_left hj] at hu; exact h4 j u hu
    · rw [List.getElem?_append_right (by omega), h3] at hu
      have := k2 _ u hu
      rwa [show off + sz + (j - sz) = off + j from by omega] at this

theorem rowCells_append {sz : Nat} {xs ys : List (List AV)} {vs us : List Value} (h : rowCells μ sz xs vs) (k : rowCells μ sz ys us) : rowCells μ sz (xs ++ ys) (vs ++ us) := by
  induction xs generalizing vs with
  | nil => have : vs = [] := h; subst this; simpa using k
  | cons x xs ih => obtain ⟨a, b, rfl, h1, h2, h3⟩ := h; exact ⟨a, b ++ us, by simp, h1, h2, ih h3⟩
theorem rowCells_one {sz : Nat} {xs : List (List AV)} {vs : List Value} (h : rowCells μ sz xs vs) : ∀ u ∈ vs, u.oneCell' = true := by
  induction xs generalizing vs with
  | nil => have : vs = [] := h; subst this; simp
  | cons x xs ih =>
    obtain ⟨a, b, rfl, h1, h2, h3⟩ := h
    intro u hu
    rcases List.mem_append.1 hu with hu | hu
    · exact h1.2 u hu
    · exact ih h3 u hu
theorem rowCells_replicate {sz : Nat} {z : List AV} {zs : List Value} (h : repC μ z zs) (hl : zs.length = sz) : ∀ n, rowCells μ sz (List.replicate n z) (List.replicate n zs).flatten
  | 0 => rfl
  | n + 1 => ⟨zs, (List.replicate n zs).flatten, by simp [List.replicate_succ], h, hl, rowCells_replicate h hl n⟩
theorem rowCells_chunks {sz : Nat} : ∀ (n : Nat) {cs : List AV} {vs : List Value}, repC μ cs vs → cs.length = n * sz → rowCells μ sz (chunks sz n cs) vs
  | 0, cs, vs, h, hl => by
    have : vs = [] := List.eq_nil_of_length_eq_zero (by rw [h.length]; omega)
    subst this; rfl
  | n + 1, cs, vs, h, hl => by
    rw [Nat.add_mul] at hl
    have hv := h.length
    exact ⟨vs.take sz, vs.drop sz, by simp, h.take sz, by simp; omega, rowCells_chunks n (h.drop sz) (by simp; omega)⟩
theorem repCells_rep {z : List AV} {zs : List Value} (h : repC μ z zs) : ∀ n, repC μ (repCells z n) (List.replicate n zs).flatten
  | 0 => ⟨repAll_nil, by simp⟩
  | n + 1 => by simpa [repCells, List.replicate_succ] using h.append (repCells_rep h n)
theorem repCells_length (z : List AV) : ∀ n, (repCells z n).length = n * z.length
  | 0 => by simp [repCells]
  | n + 1 => by simp [repCells, repCells_length z n, Nat.add_mul]; omega
theorem chunks_length (sz : Nat) : ∀ (n : Nat) (l : List AV), (chunks sz n l).length = n
  | 0, _ => rfl
  | n + 1, l => by simp [chunks, chunks_length sz n]

theorem repS_purge' {id : Nat} {s : SV} {v : Value} (k : repS μ loc s v) : repS μ loc (s.purge id) v := by
  unfold SV.purge
  cases s.mentions id with
  | true => trivial
  | false => exact k
theorem repS_publish {id : Nat} {s : SV} {v : Value} {x : AV} (k : repS μ loc s v) (hx : rep μ x (loc id)) : repS μ loc (s.publish id x) v := by
  cases s with
  | row j =>
    cases h : Nat.beq j id with
    | true =>
      simp only [SV.publish, h, cond_true]
      have := beq_iff.1 h; subst this; have e : v = loc j := k; rw [e]; exact hx
    | false => simp only [SV.publish, h, cond_false]; exact k
  | _ => exact repS_purge' k
theorem repSs_publish {id : Nat} {x : AV} (hx : rep μ x (loc id)) : ∀ (cs : List SV) (vs : List Value), repSs μ loc cs vs → repSs μ loc (cs.map (SV.publish id x)) vs
  | [], vs => fun h => h
  | c :: cs, vs => fun ⟨u, us, e, h1, h2⟩ => ⟨u, us, e, repS_publish h1 hx, repSs_publish hx cs us h2⟩

theorem made_flatten (zc : Array Value) (s : Nat) (hz : zc.size = s) (hs : 0 < s) (n : Nat) : (madeCells zc (n * s)).toList = (List.replicate n zc.toList).flatten := by
  have key : ∀ n, (List.range (n * s)).map (fun i => zc[i % s]!) = (List.replicate n zc.toList).flatten := by
    intro n
    induction n with
    | zero => simp
    | succ n ih =>
      rw [Nat.succ_mul, Nat.add_comm, List.range_add, List.map_append, List.map_map]
      have h1 : (List.range s).map (fun i => zc[i % s]!) = zc.toList := by
        apply List.ext_getElem?
        intro i
        simp only [List.getElem?_map, List.getElem?_range]
        by_cases hi : i < s
        · simp [hi, List.getElem?_range, Nat.mod_eq_of_lt hi, hz, getElem!_pos, Array.getElem?_eq_getElem (show i < zc.size by omega)]
        · simp [hi, List.getElem?_eq_none (show zc.toList.length ≤ i by simp; omega), List.getElem?_eq_none (show (List.range s).length ≤ i by simp; omega)]
      have h2 : ((fun i => zc[i % s]!) ∘ fun x => s + x) = fun i => zc[i % s]! := by
        funext i; simp [Function.comp]
      rw [h1, h2, ih]
      simp [List.replicate_succ]
  have := key n
  simpa [madeCells, hz] using this

theorem take_flatten (zs : List Value) {l c : Nat} (h : l ≤ c) : (List.replicate c zs).flatten.take (l * zs.length) = (List.replicate l zs).flatten := by
  obtain ⟨d, rfl⟩ := Nat.exists_eq_add_of_le h
  rw [← List.replicate_append_replicate, List.flatten_append, List.take_append_of_le_length (by simp)]
  exact List.take_of_length_le (by simp)
end

section
variable {P : Program} {N : Nat} {w0 : World} {μ0 : Mu} {L : Lent} {μ : Mu} {loc : Nat → Value} {st st' : St} {a : Act} {w : World} {Q : Exit → Act → World → Prop} {K : Act → World → Prop}

theorem row_rep {n0 : Nat} {id e sz : Nat} {xs : List (List AV)} (h : obOK n0 L μ loc w id (.row e sz xs)) {μ' : Mu} (hle : μ.le μ')
    (hm : ∀ b j v, blockOf (loc id) = some b → w.cell? ⟨b, j, none⟩ = some v → μ' b j = some v) : rep μ' (.lst sz xs) (loc id) := by
  obtain ⟨vs, hown, hrc, _⟩ := h
  rw [rep]
  rcases hown.2 with ⟨e1, e2⟩ | ⟨g, cap, cur, e1, _, hg, hnc, hcm, _⟩
  · exact ⟨none, 0, by rw [e1, e2], by omega, by simp [maxLen], .inl e2⟩
  · refine ⟨_, cap, e1, hnc, hcm, .inr ⟨g, 0, rfl, repRow_of_cells hrc hle fun j u hu => ?_⟩⟩
    have := hown.cells (g := g) (by rw [e1]; rfl) j u hu
    rw [add_lit] at this
    exact hm g _ u (by rw [e1]; rfl) this

theorem Rel.publish (hR : Rel N w0 μ0 L μ loc st a w) {id : Nat} (h : st.publish id = some st') : ∃ μ', μ.le μ' ∧ Rel N w0 μ0 L μ' loc st' a w := by
  unfold St.publish at h
  split at h
  · rename_i e sz xs hid hob
    injection h with h
    subst h
    have hlt : id < 10000 := by
      have : ¬ (10000 ≤ id) := fun hle => by rw [Nat.ble_eq_true_of_le hle] at hid; cases hid
      omega
    have hok := hR.obs id _ hob
    let μ' : Mu := fun b j => if blockOf (loc id) = some b then w.cell? ⟨b, j, none⟩ else μ b j
    have hle : μ.le μ' := fun b j v hv => by
      by_cases hb : blockOf (loc id) = some b
      · have := (hok.block b hb).2.2 j; rw [this] at hv; cases hv
      · simpa [μ', hb] using hv
    have hrep : rep μ' (.lst sz xs) (loc id) := row_rep hok hle fun b j v hb hc => by simpa [μ', hb] using hc
    have hother : ∀ i oi, i ≠ id → st.ob i = some oi → ∀ b, blockOf (loc i) = some b → ∀ j, μ' b j = none := fun i oi hne hi b hb j => by
      have hn : blockOf (loc id) ≠ some b := fun hid => hR.apart id i _ oi hob hi (fun e => hne e.symm) b hid hb
      simp only [μ', if_neg hn]
      exact (hR.obs i oi hi).block b hb |>.2.2 j
    have h1 := (hR.drop id).world (w' := w) (μ' := μ') hle (fun b j v hv => by
        by_cases hb : blockOf (loc id) = some b
        · rcases (hok.block b hb).1 with hh | ⟨v, hh, _⟩
          · exact .inr hh
          · rw [hR.names id hlt] at hh; cases hh
        · exact .inl (by simpa [μ', hb] using hv)) (fun b j v hv => by
        by_cases hb : blockOf (loc id) = some b
        · simpa [μ', hb] using hv
        · exact hR.pub b j v (by simpa [μ', hb] using hv)) (fun i oi hi b hb => by
        by_cases e' : id = i
        · subst e'; simp [put_same] at hi
        · simp only [put_other _ _ e'] at hi
          exact ⟨rfl, hother i oi (fun e => e' e.symm) hi b hb⟩) (fun _ _ _ => rfl) rfl rfl rfl (Nat.le_refl _)
    refine ⟨μ', hle, h1.small, h1.names, h1.fix, h1.size, h1.defers, ?_, h1.pub, h1.base, ?_, ?_, h1.keep, h1.os, h1.tape, h1.output, h1.grown⟩
    · intro i s hi
      simp only [] at hi
      cases he : st.env i with
      | none => simp [he] at hi
      | some s' =>
        simp [he] at hi; subst hi
        obtain ⟨v, hv, hr⟩ := h1.env i s' he
        exact ⟨v, hv, repS_publish hr hrep⟩
    · intro i oi hi
      by_cases e' : id = i
      · subst e'; simp [put_same] at hi
      · simp only [put_other _ _ e'] at hi
        cases ho : st.ob i with
        | none => simp [ho] at hi
        | some oj =>
          simp [ho] at hi; subst hi
          have k := h1.obs i oj (by simpa only [put_other _ _ e'] using ho)
          cases oj with
          | box t cells =>
            obtain ⟨b, vs, hl, ho', hh, hm, hs, h1'⟩ := k
            exact ⟨b, vs, hl, ho', hh, hm, repSs_publish hrep _ _ hs, h1'⟩
          | row e2 sz2 xs2 => exact k
    · intro i j oi oj hi hj hij
      have get : ∀ k ok, put (fun i => (st.ob i).map (Ob.publish id (.lst sz xs))) id none k = some ok → ∃ ok', st.ob k = some ok' := fun k ok hk => by
        by_cases e' : id = k
        · subst e'; simp [put_same] at hk
        · simp only [put_other _ _ e'] at hk
          cases ho : st.ob k with
          | none => simp [ho] at hk
          | some x => exact ⟨x, rfl⟩
      obtain ⟨oi', hi'⟩ := get i oi hi
      obtain ⟨oj', hj'⟩ := get j oj hj
      exact hR.apart i j oi' oj' hi' hj' hij
  · cases h

theorem wp_value {o : Oper} {v : Value} {w' : World} (hr : (execOp a.eval o).run P w = .ok (.value v) w') (hK : K (a.put o.dst v) w') : o.wp P a w K Q := by
  unfold Oper.wp; rw [hr]; exact hK

/-- the frame behind an operation -/
def Goes (N : Nat) (w0 : World) (μ0 : Mu) (L : Lent) (st' : St) (K : Act → World → Prop) : Prop := ∀ a' w' μ' loc', Rel N w0 μ0 L μ' loc' st' a' w' → K a' w'

theorem wp_gives (hR : Rel N w0 μ0 L μ loc st a w) {o : Oper} {sv : SV} (hd : ∀ i, o.dst = some i → i < N) (hg : Gives P μ loc o sv a w) (hK : Goes N w0 μ0 L (st.set o.dst sv) K) : o.wp P a w K Q := by
  obtain ⟨v, hr, hs⟩ := hg
  exact wp_value hr (hK _ _ _ _ (hR.set hd hs))

theorem mu_new (hR : Rel N w0 μ0 L μ loc st a w) : ∀ b, w.heap.size ≤ b → ∀ j, μ b j = none := fun b hb j => by
  cases hj : μ b j with
  | none => rfl
  | some v =>
    have := World.block_lt_of_cell? w ⟨b, j, none⟩ (hR.pub b j v hj)
    simp at this; omega

theorem below_alloc (w : World) (o : Obj) : Below w.heap.size w (w.alloc o) := (Below.refl _ _).alloc (Nat.le_refl _) o

/-- a new block, as an object -/
theorem Rel.made (hR : Rel N w0 μ0 L μ loc st a w) {d : Nat} (hd : d < N) {x : Obj} {val : Value} {o : Ob} {sv : SV} (hval : blockOf val = some w.heap.size)
    (hob : obOK w0.heap.size L μ (upd loc d val) (w.alloc x) d o) (hs : repS μ (upd loc d val) sv val) :
    Rel N w0 μ0 L μ (upd loc d val) ((st.new d o).set (some d) sv) (a.put (some d) val) (w.alloc x) := by
  have h1 := (hR.grow' (below_alloc w x)).new (id := d) (val := val) (o := o) (.inl (Nat.lt_of_lt_of_le hd hR.small)) hob (fun j oj hj hne g hg => by
    rw [hval] at hg
    injection hg with hg
    subst hg
    intro hb
    have := ((hR.obs j oj hj).block _ hb).2.1
    omega)
  exact h1.set (fun i hi => by injection hi with hi; omega) hs

theorem eff_box {o : Oper} {t : TypeId} {d : Nat} {v : Value} {cells : List SV} (hR : Rel N w0 μ0 L μ loc st a w) (hd : d < N) (hdst : o.dst = some d)
    (hr : (execOp a.eval o).run P w = .ok (.value (.pointer (some ⟨w.heap.size, 0, none⟩))) (w.alloc (.cells v.cells t)))
    (hs : repSs μ (upd loc d (.pointer (some ⟨w.heap.size, 0, none⟩))) cells v.cells.toList) (h1 : ∀ u ∈ v.cells.toList, u.oneCell' = true)
    (hK : Goes N w0 μ0 L ((st.new d (.box t cells)).set (some d) (.ptr d 0)) K) : o.wp P a w K Q := by
  refine wp_value hr ?_
  rw [hdst]
  refine hK _ _ _ _ (hR.made hd rfl ?_ ?_)
  · refine ⟨w.heap.size, v.cells.toList, upd_same _ _ _, .inl hR.grown, ?_, mu_new hR _ (Nat.le_refl _), hs, h1⟩
    rw [Array.toArray_toList]; exact heap_alloc_new w _
  · exact ⟨w.heap.size, upd_same _ _ _, rfl⟩

theorem one_of (hR : Rel N w0 μ0 L μ loc st a w) {s : SV} {v : Value} (h : oneOK st s = true) (k : repS μ loc s v) : v.oneCell' = true ∧ v.cells = #[v] := by
  cases s with
  | undef => simp [oneOK] at h
  | any => simp [oneOK] at h
  | pv x =>
    cases x with
    | agg cs => simp [oneOK] at h
    | tup cs => simp [oneOK] at h
    | bool b => simp only [repS, rep] at k; subst k; exact ⟨rfl, rfl⟩
    | int q n => simp only [repS, rep] at k; subst k; exact ⟨rfl, rfl⟩
    | str q => simp only [repS, rep] at k; subst k; exact ⟨rfl, rfl⟩
    | lst sz xs => simp only [repS, rep] at k; obtain ⟨A, c, rfl, _⟩ := k; exact ⟨rfl, rfl⟩
    | fn f caps => simp only [repS, rep] at k; obtain ⟨vs, rfl, _⟩ := k; exact ⟨rfl, rfl⟩
  | ptr id off => obtain ⟨b, _, rfl⟩ := k; exact ⟨rfl, rfl⟩
  | row id =>
    simp only [oneOK] at h
    split at h
    · rename_i e sz xs hob
      obtain ⟨vs, hown, _⟩ := hR.obs id _ hob
      have e : v = loc id := k
      rcases hown.2 with ⟨e1, _⟩ | ⟨g, cap, cur, e1, _⟩
      · rw [e, e1]; exact ⟨rfl, rfl⟩
      · rw [e, e1]; exact ⟨rfl, rfl⟩
    · cases h
  | rp id sz i off => obtain ⟨g, n, c, _, rfl⟩ := k; exact ⟨rfl, rfl⟩
  | cp cs => obtain ⟨b, off, vs, rfl, _⟩ := k; exact ⟨rfl, rfl⟩
  | cl f caps => obtain ⟨vs, rfl, _⟩ := k; exact ⟨rfl, rfl⟩

/-! literals of slices -/
theorem lit_run (hR : Rel N w0 μ0 L μ loc st a w) {t : TypeId} {len : Nat} {parts : Array (Nat × Operand)} {e : TypeId} {s : Nat} {xs : List (List AV)} (h : litCells P t len parts.toList st = some (e, s, xs)) :
    ∃ vs : List Value, (Instr.buildSlice t len (parts.map fun p => (p.1, a.eval p.2))).run P w = .ok (.slice (some ⟨w.heap.size, 0, none⟩) len len) (w.alloc (.cells vs.toArray e)) ∧ rowCells μ s xs vs ∧ xs.length = len ∧ len ≤ maxLen ∧ 0 < s := by
  unfold litCells at h
  split at h
  · rename_i e' s' hs
    obtain ⟨hu, inf, hinf, hsz⟩ := isSlice_parts hs
    split at h
    · rename_i z ps hz hps
      split at h
      · rename_i hc
        obtain ⟨hlen, hpos, hzl, hnt⟩ := hc
        cases hf : fillC (fun i => some (i * s', s')) (repCells z len) ps with
        | none => simp [hf] at h
        | some cs =>
          simp [hf] at h
          obtain ⟨rfl, rfl, rfl⟩ := h
          obtain ⟨i, v, hi, hv, hcz⟩ := zeroCells_run (μ := μ) hz
          rw [hinf] at hi
          injection hi with hi; subst hi
          obtain ⟨h1, h2⟩ := partsOf_sound hR hps
          have hzc : v.cells.size = s' := by have := hcz.length; simpa [hzl] using this
          obtain ⟨ws, hw, hr⟩ := fill_sound (us := parts.toList.map fun p => (p.1, a.eval p.2)) hf (repCells_rep hcz len) (by simpa [List.map_map, Function.comp_def] using h1) (by simpa [List.map_map, Function.comp_def] using h2) (fun p hp x e => by
            have := List.all_eq_true.1 hnt p hp
            rw [e] at this; cases this)
          have hcl : cs.length = len * s' := by
            have key : ∀ (ps : List (Nat × AV)) (cells cs : List AV), fillC (fun i => some (i * s', s')) cells ps = some cs → cs.length = cells.length := by
              intro ps
              induction ps with
              | nil => intro cells cs h; simp [fillC] at h; rw [h]
              | cons p ps ih =>
                intro cells cs h
                obtain ⟨j, x⟩ := p
                simp only [fillC] at h
                split at h
                · rename_i hcond
                  rw [ih _ _ h]
                  simp only [List.length_append, List.length_take, List.length_drop]; omega
                · cases h
            rw [key _ _ _ hf, repCells_length, hzl]
          refine ⟨ws, ?_, rowCells_chunks len hr hcl, chunks_length _ _ _, by simp only [maxLen]; have : len * 1 ≤ len * s' := Nat.mul_le_mul_left _ hpos; omega, hpos⟩
          have hmade : (List.replicate len v.cells.toList).flatten.toArray = madeCells v.cells (len * s') := by
            rw [← made_flatten v.cells s' hzc hpos len]
          rw [hmade] at hw
          by_cases h0 : len * s' = 0
          · have hle : ¬ (len * s' > 16777216) := by omega
            have e0 : madeCells v.cells (len * s') = #[] := by rw [h0]; simp [madeCells, Array.range_zero']
            rw [e0] at hw
            simp [Instr.buildSlice, run_underlying hu, sizeOf, typeInfo, hinf, hsz, h0, hw, newRow, Array.range_zero']
          · have hle : ¬ (len * s' > 16777216) := by omega
            simp only [madeCells] at hw
            simp [Instr.buildSlice, run_underlying hu, sizeOf, typeInfo, hinf, hsz, h0, zeroValue, hv, hw, newRow, hlen]
      · cases h
    · cases h
  · cases h

theorem eff_buildRow {o : Oper} {t : TypeId} {len : Nat} {parts : Array (Nat × Operand)} {d e s : Nat} {xs : List (List AV)} (hR : Rel N w0 μ0 L μ loc st a w) (hd : d < N) (hdst : o.dst = some d) (ho : o.op = .buildSlice t len parts)
    (h : litCells P t len parts.toList st = some (e, s, xs)) (hK : Goes N w0 μ0 L ((st.new d (.row e s xs)).set (some d) (.row d)) K) : o.wp P a w K Q := by
  obtain ⟨vs, hr, hrc, hxl, hml, hpos⟩ := lit_run (P := P) hR h
  refine wp_value (v := .slice (some ⟨w.heap.size, 0, none⟩) len len) (w' := w.alloc (.cells vs.toArray e)) (by unfold execOp; rw [ho]; simp [hr]) ?_
  rw [hdst]
  refine hK _ _ _ _ (hR.made hd rfl ?_ (upd_same _ _ _).symm)
  refine ⟨vs, ⟨by rw [rowCells_length hrc], .inr ⟨w.heap.size, len, vs.toArray, ?_, Nat.zero_le _, heap_alloc_new w _, by omega, hml, ?_, ?_⟩⟩, hrc, fun g hg => ?_⟩
  · rw [upd_same, hxl]
  · simp [rowCells_length hrc, hxl]
  · rw [hxl, ← hxl, ← rowCells_length hrc]; simp
  · rw [upd_same] at hg
    simp [blockOf] at hg
    subst hg
    exact ⟨.inl hR.grown, mu_new hR _ (Nat.le_refl _)⟩

theorem fval_build {o : Oper} {t : TypeId} {len : Nat} {parts : Array (Nat × Operand)} {e s : Nat} {xs : List (List AV)} (hR : Rel N w0 μ0 L μ loc st a w) (hd : ∀ i, o.dst = some i → i < N) (ho : o.op = .buildSlice t len parts)
    (h : litCells P t len parts.toList st = some (e, s, xs)) (hK : Goes N w0 μ0 L (st.set o.dst (.pv (.lst s xs))) K) : o.wp P a w K Q := by
  obtain ⟨vs, hr, hrc, hxl, hml, hpos⟩ := lit_run (P := P) hR h
  refine wp_value (v := .slice (some ⟨w.heap.size, 0, none⟩) len len) (w' := w.alloc (.cells vs.toArray e)) (by unfold execOp; rw [ho]; simp [hr]) ?_
  let μ' : Mu := fun b j => if b = w.heap.size then vs[j]? else μ b j
  have hnone := mu_new hR
  have hle : μ.le μ' := fun b j v hv => by
    by_cases hb : b = w.heap.size
    · subst hb; rw [hnone _ (Nat.le_refl _) j] at hv; cases hv
    · simpa [μ', hb] using hv
  have h1 := hR.grow (w' := w.alloc (.cells vs.toArray e)) (μ' := μ') ⟨hle, fun b j v hv => by
      by_cases hb : b = w.heap.size
      · exact .inr (by omega)
      · exact .inl (by simpa [μ', hb] using hv)⟩ (fun b j v hv => by
      by_cases hb : b = w.heap.size
      · subst hb
        have hv' : vs[j]? = some v := by simpa [μ'] using hv
        simp [hv']
      · have hv' : μ b j = some v := by simpa [μ', hb] using hv
        exact hR.pubBelow (below_alloc w _) b j v hv') (below_alloc w _)
  refine hK _ _ _ _ (h1.set hd ?_)
  show rep μ' (.lst s xs) _
  rw [rep]
  refine ⟨_, len, by rw [hxl], by omega, hml, .inr ⟨w.heap.size, 0, rfl, repRow_of_cells hrc hle fun j u hu => ?_⟩⟩
  simpa [μ'] using hu

theorem eff_make {o : Oper} {t : TypeId} {l c : Operand} {d e s : Nat} {kl kc : IntKind} {nl nc : Int} {z : List AV} {i : TypeInfo} (hR : Rel N w0 μ0 L μ loc st a w) (hd : d < N) (hdst : o.dst = some d) (ho : o.op = .makeSlice t l c)
    (hs : isSlice P t = some (e, s)) (hl : (opnd P 0 st l).bind pure? = some (.int kl nl)) (hc : (opnd P 0 st c).bind pure? = some (.int kc nc)) (hz : zeroCells P e = some z) (hi : P.info? e = some i)
    (hcond : 0 < s ∧ z.length = s ∧ 0 ≤ nl ∧ nl ≤ nc ∧ i.bytes * nc.toNat ≤ 281474976710656 ∧ nc ≤ 9223372036854775807)
    (hK : Goes N w0 μ0 L ((st.new d (.row e s (List.replicate nl.toNat z))).set (some d) (.row d)) K) : o.wp P a w K Q := by
  obtain ⟨hpos, hzl, h0, hlc, hby, h63⟩ := hcond
  obtain ⟨hu, inf, hinf, hsz⟩ := isSlice_parts hs
  rw [hinf] at hi; injection hi with hi; subst hi
  obtain ⟨i', v, hi', hv, hcz⟩ := zeroCells_run (μ := μ) hz
  rw [hinf] at hi'; injection hi' with hi'; subst hi'
  have hzc : v.cells.size = s := by have := hcz.length; simpa [hzl] using this
  have hlv := pure_sound hR hl
  have hcv := pure_sound hR hc
  rw [rep] at hlv hcv
  have hby' : (inf.bytes : Int) * nc ≤ 281474976710656 := by
    have e1 : ((inf.bytes * nc.toNat : Nat) : Int) ≤ 281474976710656 := by omega
    rw [Int.natCast_mul, Int.toNat_of_nonneg (by omega)] at e1
    exact e1
  have hr := run_make (P := P) w t e inf v hu hinf hv kl kc nl nc h0 hlc hby' h63
  refine wp_value (v := .slice (some ⟨w.heap.size, 0, none⟩) nl.toNat nc.toNat) (w' := w.alloc (.cells (madeCells v.cells (nc.toNat * inf.size)) e)) (by unfold execOp; rw [ho]; simp [hlv, hcv, hr]) ?_
  rw [hdst]
  refine hK _ _ _ _ (hR.made hd rfl ?_ (upd_same _ _ _).symm)
  have hrc := rowCells_replicate (sz := s) hcz (by simpa using hzc) nl.toNat
  refine ⟨_, ⟨rowCells_length hrc, .inr ⟨w.heap.size, nc.toNat, _, ?_, Nat.zero_le _, heap_alloc_new w _, ?_, ?_, ?_, ?_⟩⟩, hrc, fun g hg => ?_⟩
  · rw [upd_same]; simp
  · simp; omega
  · simp only [maxLen]; omega
  · rw [size_madeCells, hsz]
  · rw [hsz, made_flatten v.cells s hzc hpos]
    have := take_flatten v.cells.toList (l := nl.toNat) (c := nc.toNat) (by omega)
    simp only [Array.length_toList, hzc] at this
    simp only [List.length_replicate]
    exact this
  · rw [upd_same] at hg
    simp [blockOf] at hg
    subst hg
    exact ⟨.inl hR.grown, mu_new hR _ (Nat.le_refl _)⟩

theorem eff_nil {o : Oper} {d e s : Nat} (hR : Rel N w0 μ0 L μ loc st a w) (hd : d < N) (hdst : o.dst = some d) (ho : o.op = .assign (.const (.slice none 0 0)))
    (hK : Goes N w0 μ0 L ((st.new d (.row e s [])).set (some d) (.row d)) K) : o.wp P a w K Q := by
  refine wp_value (v := .slice none 0 0) (w' := w) (by unfold execOp; rw [ho]; rfl) ?_
  rw [hdst]
  refine hK _ _ _ _ ((hR.new (id := d) (val := .slice none 0 0) (o := .row e s []) (.inl (Nat.lt_of_lt_of_le hd hR.small)) ?_ (fun j oj hj hne g hg => by simp [blockOf] at hg)).set (fun i hi => by injection hi with hi; omega) (upd_same _ _ _).symm)
  refine ⟨[], ⟨by simp, .inl ⟨upd_same _ _ _, rfl⟩⟩, rfl, fun g hg => ?_⟩
  rw [upd_same] at hg; simp [blockOf] at hg

/-! stores -/
theorem eff_store {o : Oper} {t : TypeId} {x y : Operand} {sa sv : SV} (hR : Rel N w0 μ0 L μ loc st a w) (hdst : o.dst = none) (ho : o.op = .store t x y)
    (hx : opnd P 0 st x = some sa) (hy : opnd P t st y = some sv) (h : storeAt P t st sa sv = some st') (hK : Goes N w0 μ0 L st' K) : o.wp P a w K Q := by
  have hxa := opnd_sound hR hx
  have hyv := opnd_sound hR hy
  have fin : ∀ (ad : Addr) (w' : World), a.eval x = .pointer (some ad) → (storeVar t ad (a.eval y)).run P w = .ok () w' → Rel N w0 μ0 L μ loc st' a w' → o.wp P a w K Q := fun ad w' e hr hR' => by
    unfold Oper.wp execOp
    rw [ho]
    simp only [Instr.storeAt, e, Instr.sureAddr, Sem.run_bind, Sem.run_pure, Result.andThen_ok, hr, Oper.upon, hdst, Act.put]
    exact hK _ _ _ _ hR'
  unfold storeAt at h
  split at h
  · rename_i id off
    obtain ⟨b, hl, hxa⟩ := hxa
    split at h
    · rename_i bt cells n hob hsz
      obtain ⟨b', vs, hl', hnF, hheap, hmu, hss, h1⟩ := hR.obs id _ hob
      rw [hl] at hl'
      simp only [Value.pointer.injEq, Option.some.injEq, Addr.mk.injEq, and_true] at hl'
      subst hl'
      have hlen := repSs_length hss
      have fin2 : ∀ (us : List Value) (sus : List SV), (a.eval y).cells.toList = us → us.length = n → off + n ≤ vs.length → (∀ u ∈ us, u.oneCell' = true) → repSs μ loc sus us →
          st' = { st with ob := put st.ob id (some (.box bt (cells.take off ++ sus ++ cells.drop (off + n)))) } → o.wp P a w K Q := by
        intro us sus hus hul hle hone hsus hst
        have hsc := run_storeCells_at P b off bt us 0 vs.toArray w hheap (by simp; omega) hone
        simp only [Nat.add_zero] at hsc
        refine fin ⟨b, off, none⟩ _ hxa (by
          have : (a.eval y).cells.size = n := by rw [← hul, ← hus]; simp
          simp only [storeVar, Sem.run_bind, sizeT_run hsz, Result.andThen_ok, this, ne_eq, not_true_eq_false, if_false, Sem.run_pure, hus]
          exact hsc) ?_
        rw [hst]
        refine hR.write hob (g := b) (by rw [hl]; rfl) (fun k hk => setRow_other w b k _ hk) rfl rfl rfl (by simp) ?_
        refine ⟨b, vs.take off ++ us ++ vs.drop (off + n), hl, hnF, ?_, hmu, ?_, ?_⟩
        · have := setRow_heap w b vs.toArray (vs.toArray.toList.take off ++ us ++ vs.toArray.toList.drop (off + us.length)).toArray bt (0, 0) hheap
          simpa [hul] using this
        · exact repSs_append (repSs_append (repSs_take hss off) hsus) (repSs_drop hss (off + n))
        · intro u hu
          simp only [List.mem_append] at hu
          rcases hu with (hu | hu) | hu
          · exact h1 u (List.mem_of_mem_take hu)
          · exact hone u hu
          · exact h1 u (List.mem_of_mem_drop hu)
      split at h
      · rename_i cs
        split at h
        · rename_i hcond
          injection h with h
          have hyv' := hyv
          simp only [repS, rep] at hyv'
          obtain ⟨us, e, hall, hone⟩ := hyv'
          exact fin2 us (cs.map .pv) (by rw [e]; rfl) (by rw [repAll_length hall]; exact hcond.1) (by omega) hone (repSs_pv hall) h.symm
        · cases h
      · split at h
        · rename_i hcond
          injection h with h
          obtain ⟨ho1, hc1⟩ := one_of hR hcond.2.2 hyv
          refine fin2 [a.eval y] [sv] (by rw [hc1]) (by simp [hcond.1]) (by omega) (by simpa using ho1) ⟨_, [], rfl, hyv, rfl⟩ ?_
          rw [← h, hcond.1, List.set_eq_take_append_cons_drop, if_pos hcond.2.1]
          simp
        · cases h
    · cases h
  · rename_i id sz i off
    obtain ⟨g, n', cp, hl, hxa⟩ := hxa
    split at h
    · rename_i e sz' xs n v hob hsz
      split at h
      · rename_i c hg
        split at h
        · rename_i hcond
          obtain ⟨rfl, hvl, hle, hnt⟩ := hcond
          injection h with h
          obtain ⟨vs, hown, hrc, hm⟩ := hR.obs id _ hob
          have hil : i < xs.length := (List.getElem?_eq_some_iff.1 hg).1
          obtain ⟨cap, cur, hloc, hheap, hnc, hcm, hcs, htake⟩ : ∃ cap cur, loc id = .slice (some ⟨g, 0, none⟩) xs.length cap ∧ w.heap[g]? = some (.cells cur e (0, 0)) ∧ xs.length ≤ cap ∧ cap ≤ maxLen ∧ cur.size = cap * sz ∧ cur.toList.take (xs.length * sz) = vs := by
            rcases hown.2 with ⟨_, e2⟩ | ⟨g', cap, cur, e1, _, h2, h3, h4, h5, h6⟩
            · omega
            · rw [hl] at e1
              simp only [Value.slice.injEq, Option.some.injEq, Addr.mk.injEq, and_true] at e1
              obtain ⟨rfl, rfl, rfl⟩ := e1
              exact ⟨cp, cur, hl, h2, h3, h4, h5, h6⟩
          have hyc : repC μ v.cells (a.eval y).cells.toList := rep_cells (show rep μ v (a.eval y) from hyv) (fun z e => by rw [e] at hnt; cases hnt)
          have hul : (a.eval y).cells.toList.length = n := by rw [hyc.length]; exact hvl
          -- the row's cells, as a list, with the new ones in their place
          have key : ∀ (xs : List (List AV)) (vs : List Value) (i : Nat) (c : List AV), rowCells μ sz xs vs → xs[i]? = some c → off + n ≤ c.length →
              rowCells μ sz (xs.set i (c.take off ++ v.cells ++ c.drop (off + n))) (vs.take (i * sz + off) ++ (a.eval y).cells.toList ++ vs.drop (i * sz + off + n)) ∧ i * sz + off + n ≤ vs.length := by
            intro xs
            induction xs with
            | nil => intro vs i c _ h; simp at h
            | cons x xs ih =>
              intro vs i c hrc hx hle
              obtain ⟨us, ws, rfl, k1, k2, k3⟩ := hrc
              cases i with
              | zero =>
                simp at hx; subst hx
                have hxl := k1.length
                refine ⟨?_, by simp; omega⟩
                refine ⟨us.take off ++ (a.eval y).cells.toList ++ us.drop (off + n), ws, ?_, ((k1.take off).append hyc).append (k1.drop (off + n)), ?_, k3⟩
                · simp only [Nat.zero_mul, Nat.zero_add]
                  rw [List.take_append_of_le_length (by omega), List.drop_append_of_le_length (by omega)]
                  simp [List.append_assoc]
                · simp only [List.length_append, List.length_take, List.length_drop, hul]; omega
              | succ i =>
                simp at hx
                obtain ⟨r1, r2⟩ := ih ws i c k3 hx hle
                refine ⟨?_, by simp [Nat.add_mul, k2]; omega⟩
                refine ⟨us, ws.take (i * sz + off) ++ (a.eval y).cells.toList ++ ws.drop (i * sz + off + n), ?_, k1, k2, r1⟩
                rw [show (i + 1) * sz + off = us.length + (i * sz + off) from by rw [Nat.add_mul, k2]; omega, List.take_length_add_append,
                  show us.length + (i * sz + off) + n = us.length + (i * sz + off + n) from by omega, List.drop_length_add_append]
                simp [List.append_assoc]
          obtain ⟨hrc', hle'⟩ := key xs vs i c hrc hg hle
          have hvl' := rowCells_length hrc
          have hcl : xs.length * sz ≤ cur.size := by rw [hcs]; exact Nat.mul_le_mul_right _ hnc
          have hsc := run_storeCells_at P g (i * sz + off) e (a.eval y).cells.toList 0 cur w hheap (by rw [hul]; omega) hyc.2
          simp only [Nat.add_zero, hul] at hsc
          refine fin ⟨g, i * sz + off, none⟩ _ hxa (by
            have : (a.eval y).cells.size = n := by simpa using hul
            simp only [storeVar, Sem.run_bind, sizeT_run hsz, Result.andThen_ok, this, ne_eq, not_true_eq_false, if_false, Sem.run_pure]
            exact hsc) ?_
          rw [← h]
          refine hR.write hob (g := g) (by rw [hl]; rfl) (fun k hk => setRow_other w g k _ hk) rfl rfl rfl (by simp) ?_
          refine ⟨_, ⟨?_, .inr ⟨g, cap, _, ?_, Nat.zero_le _, setRow_heap w g cur _ e _ hheap, ?_, hcm, ?_, ?_⟩⟩, hrc', fun g' hg' => hm g' hg'⟩
          · rw [rowCells_length hrc']
          · simpa using hloc
          · simpa using hnc
          · simp only [List.size_toArray, List.length_append, List.length_take, List.length_drop, Array.length_toList, hul]; omega
          · simp only [List.length_set]
            have hvl2 : vs.length ≤ cur.toList.length := by simp; omega
            rw [show vs.take (i * sz + off) = cur.toList.take (i * sz + off) from by rw [← htake, List.take_take, Nat.min_eq_left (by omega)],
              show vs.drop (i * sz + off + n) = (cur.toList.drop (i * sz + off + n)).take (xs.length * sz - (i * sz + off + n)) from by rw [← htake, List.drop_take]]
            rw [List.take_append, List.take_of_length_le (by simp [hul]; omega)]
            congr 2
            simp only [List.length_append, List.length_take, Array.length_toList, hul]
            omega
        · cases h
      · cases h
    · cases h
  · cases h

theorem run_append_nil' (t ty e : TypeId) (i : TypeInfo) (ht : P.underlying t = some (.slice e)) (hi : P.info? e = some i) (v : Value) (n : Nat) (xs : List Value) (size : Nat) (hown : w.ownsRow 0 e size v n xs) (c : Nat) :
    (Builtin.append_ #[t, t] ty #[v, .slice none 0 c]).run P w = .ok v w := by
  rcases hown.2 with ⟨rfl, rfl⟩ | ⟨g, cap, cur, rfl, _, _, hnc, _⟩
  · simp [Builtin.append_, run_underlying ht, sizeOf, typeInfo, hi, Builtin.lenOf, Builtin.firstCells]
  · simp [Builtin.append_, run_underlying ht, sizeOf, typeInfo, hi, Builtin.lenOf, Builtin.firstCells, hnc, storeCells]

theorem eff_append {o : Oper} {x y : Operand} {t e : TypeId} {d sz id : Nat} {sy : SV} {xs ys : List (List AV)} {i : TypeInfo} (hR : Rel N w0 μ0 L μ loc st a w) (hd : d < N) (hdst : o.dst = some d)
    (ho : o.op = .call { callee := .builtin .append, args := #[x, y], argTypes := #[t, t] }) (hs : isSlice P t = some (e, sz)) (hx : opnd P t st x = some (.row id)) (hy : opnd P t st y = some sy)
    (hob : st.ob id = some (.row e sz xs)) (hel : elems st sy = some (sz, ys)) (hi : P.info? e = some i) (hpos : 0 < sz) (hby : (xs.length + ys.length) * i.bytes ≤ 140737488355328) (hlen : xs.length + ys.length ≤ 4611686018427387904)
    (hz : i.zero.map (fun z => z.cells.size) = some sz) (hid : id < 10000 ∨ 20000 ≤ id) (hK : Goes N w0 μ0 L ((st.new id (.row e sz (xs ++ ys))).set (some d) (.row id)) K) : o.wp P a w K Q := by
  obtain ⟨hu, inf, hinf, hsz⟩ := isSlice_parts hs
  rw [hinf] at hi; injection hi with hi; subst hi
  obtain ⟨z, hz0, hzs⟩ : ∃ z, inf.zero = some z ∧ z.cells.size = sz := by
    cases hzz : inf.zero with
    | none => simp [hzz] at hz
    | some z => simp [hzz] at hz; exact ⟨z, rfl, hz⟩
  have hxv : a.eval x = loc id := opnd_sound hR hx
  have hyv := opnd_sound hR hy
  obtain ⟨vs, hown, hrc, hm⟩ := hR.obs id _ hob
  -- the source: its value and its cells
  obtain ⟨A, c, hyv', us, hus, hsrc⟩ : ∃ A c, a.eval y = .slice A ys.length c ∧ ∃ us, rowCells μ sz ys us ∧ (ys.length = 0 ∨ ∃ ad : Addr, A = some ad ∧ ∀ j u, us[j]? = some u → w.cell? (ad.add j) = some u) := by
    cases sy with
    | pv v =>
      cases v with
      | lst s' zs =>
        simp only [elems, Option.some.injEq, Prod.mk.injEq] at hel
        obtain ⟨rfl, rfl⟩ := hel
        simp only [repS, rep] at hyv
        obtain ⟨A, c, e1, _, _, h3⟩ := hyv
        rcases h3 with h0 | ⟨b, off, rfl, hrow⟩
        · have : zs = [] := List.eq_nil_of_length_eq_zero h0
          subst this
          exact ⟨A, c, e1, [], rfl, .inl rfl⟩
        · obtain ⟨us, k1, k2⟩ := cells_of_repRow hrow
          exact ⟨_, c, e1, us, k1, .inr ⟨_, rfl, fun j u hu => by rw [add_lit]; exact hR.pub _ _ _ (k2 j u hu)⟩⟩
      | _ => simp [elems] at hel
    | row id' =>
      simp only [elems] at hel
      split at hel
      · rename_i e' s' zs hob'
        simp only [Option.some.injEq, Prod.mk.injEq] at hel
        obtain ⟨rfl, rfl⟩ := hel
        obtain ⟨us, hown', hrc', _⟩ := hR.obs id' _ hob'
        have hyv : a.eval y = loc id' := hyv
        rcases hown'.2 with ⟨e1, e2⟩ | ⟨g, cap, cur, e1, _⟩
        · exact ⟨none, 0, by rw [hyv, e1, e2], us, hrc', .inl e2⟩
        · exact ⟨_, cap, by rw [hyv, e1], us, hrc', .inr ⟨_, rfl, hown'.cells (g := g) (by rw [e1]; rfl)⟩⟩
      · cases hel
    | _ => simp [elems] at hel
  have hul := rowCells_length hus
  obtain ⟨v', w', hrun, hown2, hgrow, hblk⟩ : ∃ v' w', (Builtin.append_ #[t, t] o.type #[loc id, .slice A ys.length c]).run P w = .ok v' w' ∧ w'.ownsRow 0 e sz v' (xs.length + ys.length) (vs ++ us) ∧ w.grownBy w' (loc id).ownBlock ∧
      (v'.ownBlock = (loc id).ownBlock ∨ v'.ownBlock = some w.heap.size) := by
    cases A with
    | none =>
      have h0 : ys.length = 0 := by
        rcases hsrc with h0 | ⟨ad, h, _⟩
        · exact h0
        · cases h
      have hu0 : us = [] := List.eq_nil_of_length_eq_zero (by rw [hul, h0]; simp)
      subst hu0
      rw [h0]
      exact ⟨loc id, w, run_append_nil' t o.type e inf hu hinf (loc id) _ vs sz hown c, by simpa using hown, ⟨rfl, rfl, rfl, Nat.le_refl _, fun _ _ _ => rfl⟩, .inl rfl⟩
    | some ad =>
      have hcells : ∀ j u, us[j]? = some u → w.cell? (ad.add j) = some u := by
        rcases hsrc with h0 | ⟨ad', h, hc⟩
        · have hu0 : us = [] := List.eq_nil_of_length_eq_zero (by rw [hul, h0]; simp)
          subst hu0; intro j u hu; simp at hu
        · injection h with h; subst h; exact hc
      obtain ⟨v', w', h1, h2, h3, _, h5⟩ := run_append_own_at (P := P) w 0 t o.type e inf z sz inf.bytes hu hinf hz0 hsz rfl hzs hpos (loc id) xs.length vs hown ad ys.length c us hul hcells (rowCells_one hus) (by simp only [maxLen]; omega) hby (Nat.zero_le _)
      exact ⟨v', w', h1, h2, h3, h5⟩
  have hbo : ∀ v : Value, (∃ A n c, v = .slice A n c) → v.ownBlock = blockOf v := by
    rintro v ⟨A, n, c, rfl⟩; cases A <;> rfl
  have hloc : ∃ A n c, loc id = .slice A n c := by
    rcases hown.2 with ⟨e1, _⟩ | ⟨g, cap, cur, e1, _⟩
    · exact ⟨_, _, _, e1⟩
    · exact ⟨_, _, _, e1⟩
  have hv' : ∃ A n c, v' = .slice A n c := by
    rcases hown2.2 with ⟨e1, _⟩ | ⟨g, cap, cur, e1, _⟩
    · exact ⟨_, _, _, e1⟩
    · exact ⟨_, _, _, e1⟩
  rw [hbo _ hloc] at hgrow hblk
  rw [hbo _ hv'] at hblk
  have hok := hR.obs id _ hob
  refine wp_value (v := v') (w' := w') (by unfold execOp; rw [ho]; simp [resolve, invoke, builtin, hxv, hyv', hrun]) ?_
  rw [hdst]
  -- the frame without the row, in the new world
  have h1 := (hR.drop id).world (w' := w') (Mu.le.refl _) (fun _ _ _ h => .inl h) (fun b j v h => by
      have hc := hR.pub b j v h
      have hlt := World.block_lt_of_cell? w ⟨b, j, none⟩ hc
      have hne : some b ≠ blockOf (loc id) := fun e => by have := (hok.block b e.symm).2.2 j; rw [this] at h; cases h
      rw [World.cell?_of_block (w := w) (hgrow.block b hlt hne)]; exact hc) (fun k ok hk b hb => by
      by_cases e' : id = k
      · subst e'; simp [put_same] at hk
      · simp only [put_other _ _ e'] at hk
        obtain ⟨_, hlt, hmu⟩ := (hR.obs k ok hk).block b hb
        have hne : some b ≠ blockOf (loc id) := fun e => hR.apart id k _ ok hob hk e' b e.symm hb
        exact ⟨hgrow.block b hlt hne, hmu⟩) (fun b hb hl => by
      refine hgrow.block b (Nat.lt_of_lt_of_le hb hR.grown) (fun e => ?_)
      rcases (hok.block b e.symm).1 with h | ⟨v, hv, h⟩
      · omega
      · exact hl ⟨id, v, hv, h⟩) hgrow.os hgrow.tape hgrow.output hgrow.size
  have h2 := h1.new (id := id) (val := v') (o := .row e sz (xs ++ ys)) hid (by
      refine ⟨vs ++ us, ?_, rowCells_append hrc hus, fun g hg => ?_⟩
      · rw [upd_same, List.length_append]; exact hown2
      · rw [upd_same] at hg
        rcases hblk with hb | hb
        · rw [hg] at hb
          have := hok.block g hb.symm
          exact ⟨this.1, this.2.2⟩
        · rw [hg] at hb
          injection hb with hb
          subst hb
          exact ⟨.inl hR.grown, mu_new hR _ (Nat.le_refl _)⟩) (fun j oj hj hne g hg => by
      have hj' : st.ob j = some oj := by
        by_cases e' : id = j
        · exact absurd e'.symm hne
        · simpa only [put_other _ _ e'] using hj
      rcases hblk with hb | hb
      · rw [hg] at hb
        exact hR.apart id j _ oj hob hj' (fun e => hne e.symm) g hb.symm
      · rw [hg] at hb
        injection hb with hb
        subst hb
        intro hbj
        have := ((hR.obs j oj hj').block _ hbj).2.1
        omega)
  have heq : St.new { st with ob := put st.ob id none } id (.row e sz (xs ++ ys)) = St.new st id (.row e sz (xs ++ ys)) := by
    simp only [St.new, St.purge]
    congr 1
    funext k
    by_cases e' : id = k
    · subst e'; simp [put_same]
    · simp only [put_other _ _ e']
  rw [heq] at h2
  exact hK _ _ _ _ (h2.set (fun i hi => by injection hi with hi; omega) (upd_same _ _ _).symm)

end
end Go.AM
