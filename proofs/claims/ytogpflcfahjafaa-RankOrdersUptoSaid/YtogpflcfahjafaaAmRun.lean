/-
  THE ABSTRACT MACHINE: operations, regions, code.
-/
import Derived.Test.YtogpflcfahjafaaAmEff
set_option linter.unusedVariables false
set_option linter.unusedSimpArgs false
namespace Go.AM
open Go.RowKit

def Pub (μ : Mu) (w : World) : Prop := ∀ b j v, μ b j = some v → w.cell? ⟨b, j, none⟩ = some v
def lentL (loc : Nat → Value) (names : List Nat) : Lent := fun id => if id ∈ names then some (loc id) else none
def Apart (loc : Nat → Value) (lent : List (Nat × Ob)) : Prop := ∀ i j oi oj, find lent i = some oi → find lent j = some oj → i ≠ j → ∀ g, blockOf (loc i) = some g → blockOf (loc j) ≠ some g

structure CallPost (μ : Mu) (loc : Nat → Value) (names : List Nat) (r : AV) (lent' : List (Nat × Ob)) (w : World) (v : Value) (μ' : Mu) (loc' : Nat → Value) (w' : World) : Prop where
  ext : μ.ext w.heap.size μ'
  pub : Pub μ' w'
  res : rep μ' r v
  obs : ∀ id o, find lent' id = some o → obOK w.heap.size (lentL loc names) μ' loc' w' id o
  apart : Apart loc' lent'
  keep : ∀ b, b < w.heap.size → ¬ lentB (lentL loc names) b → w'.heap[b]? = w.heap[b]?
  fix : ∀ id, id ∈ names → id < 20000 → loc' id = loc id
  os : w'.os = w.os
  tape : w'.tape = w.tape
  output : w'.output = w.output
  grown : w.heap.size ≤ w'.heap.size

/-- calls are sound -/
def CallOK (P : Program) (callF : CallF) : Prop := ∀ g args lent r lent', callF g args lent = some (r, lent') → ∀ (w : World) (μ : Mu) (loc : Nat → Value) (us : List Value), Pub μ w →
  (∀ id o, find lent id = some o → obOK w.heap.size (lentL loc (lent.map (·.1))) μ loc w id o) → Apart loc lent → repSs μ loc args us →
  (∀ w2, (callFunc g us.toArray).run P w2 = .ok (.enter g us.toArray) w2) ∧
  Calls P g us.toArray w fun e w' => ∃ v μ' loc', e = .returned v ∧ CallPost μ loc (lent.map (·.1)) r lent' w v μ' loc' w'

section
variable {P : Program} {N : Nat} {w0 : World} {μ0 : Mu} {L : Lent} {μ : Mu} {loc : Nat → Value} {st st' : St} {a : Act} {w : World} {Q : Exit → Act → World → Prop} {K : Act → World → Prop} {h : Hint} {callF : CallF}

theorem of_bif {α : Type} {c : Bool} {x : Option α} {v : α} (h : (bif c then none else x) = some v) : x = some v := by
  cases c <;> simp_all

theorem find_one {α : Type} {j i : Nat} {x v : α} (hf : find [(j, x)] i = some v) : i = j := by
  simp only [find] at hf
  cases hb : Nat.beq j i with
  | true => exact (beq_iff.1 hb).symm
  | false => simp [hb] at hf

theorem lend_sound (hR : Rel N w0 μ0 L μ loc st a w) {s : SV} {v : AV} {u : Value} (hl : lend st s = some v) (hs : repS μ loc s u) {μ' : Mu} (hle : μ.le μ')
    (hrow : ∀ id, s = .row id → ∀ b j x, blockOf (loc id) = some b → w.cell? ⟨b, j, none⟩ = some x → μ' b j = some x) : rep μ' v u := by
  cases s with
  | pv x => simp only [lend, Option.some.injEq] at hl; subst hl; exact rep_mono hle _ _ hs
  | row id =>
    simp only [lend] at hl
    split at hl
    · rename_i e sz xs hob
      injection hl with hl; subst hl
      have e : u = loc id := hs
      rw [e]
      exact row_rep (hR.obs id _ hob) hle (fun b j x hb hc => hrow id rfl b j x hb hc)
    · cases hl
  | _ => simp [lend] at hl

theorem lendAll_sound (hR : Rel N w0 μ0 L μ loc st a w) {μ' : Mu} (hle : μ.le μ') {xs : List Operand} {ts : List TypeId} {vs : List AV} (h : lendAll P st xs ts = some vs)
    (hrow : ∀ x ∈ xs, ∀ t id, opnd P t st x = some (.row id) → ∀ b j x, blockOf (loc id) = some b → w.cell? ⟨b, j, none⟩ = some x → μ' b j = some x) : repAll μ' vs (xs.map a.eval) := by
  induction xs generalizing ts vs with
  | nil => simp [lendAll] at h; subst h; exact repAll_nil
  | cons x xs ih =>
    simp only [lendAll] at h
    split at h
    · rename_i v vs' hv hvs
      injection h with h; subst h
      cases ho : opnd P (ts.headD 0) st x with
      | none => rw [ho] at hv; cases hv
      | some sv =>
        rw [ho] at hv
        simp only [Option.bind_some] at hv
        exact repAll_cons (lend_sound hR hv (opnd_sound hR ho) hle (fun id e => by subst e; exact hrow x (by simp) _ id ho)) (ih hvs (fun y hy => hrow y (by simp [hy])))
    · cases h

theorem plain_rep {μ μ' : Mu} {r : AV} {v : Value} (h : r.plain = true) (k : rep μ r v) : rep μ' r v := by
  have sc : ∀ (r : AV) (v : Value), r.scalar = true → rep μ r v → rep μ' r v := fun r v h k => by
    cases r <;> simp [AV.scalar] at h <;> simpa [rep] using k
  cases r with
  | tup vs =>
    rw [rep] at k ⊢
    obtain ⟨us, e, hall⟩ := k
    refine ⟨us, e, ?_⟩
    simp only [AV.plain] at h
    clear e
    induction vs generalizing us with
    | nil => simpa [repAll] using hall
    | cons x xs ih =>
      rw [repAll] at hall
      obtain ⟨u, us', rfl, h1, h2⟩ := hall
      simp only [List.all_cons, Bool.and_eq_true] at h
      exact repAll_cons (sc _ _ h.1 h1) (ih h.2 us' h2)
  | bool b => exact sc _ _ rfl k
  | int b n => exact sc _ _ rfl k
  | str s => exact sc _ _ rfl k
  | lst sz xs => simp [AV.plain, AV.scalar] at h
  | agg cs => simp [AV.plain, AV.scalar] at h
  | fn f caps => simp [AV.plain, AV.scalar] at h

theorem below_of {μ' : Mu} {loc' : Nat → Value} {r : AV} {lent' : List (Nat × Ob)} {u : Value} {w' : World} (hP : CallPost μ loc [] r lent' w u μ' loc' w') : Below w.heap.size w w' :=
  ⟨hP.os, hP.tape, hP.output, hP.grown, fun b hb => hP.keep b hb (by rintro ⟨id, v, h, _⟩; simp [lentL] at h)⟩

/-- a call of a function value, from its contract -/
theorem wp_call {o : Oper} {c : Call} {f : Operand} {g : Nat} {us caps : List Value} {r : AV} {lent' : List (Nat × Ob)} (ho : o.op = .call c) (hc : c.callee = .value f) (hf : a.eval f = .func (.func g) #[] caps.toArray)
    (hus : c.args.toList.map a.eval = us) (he : ∀ w2, (callFunc g (us ++ caps).toArray).run P w2 = .ok (.enter g (us ++ caps).toArray) w2)
    {R : Value → World → Prop} (hcall : Calls P g (us ++ caps).toArray w fun e w' => ∃ v, e = .returned v ∧ R v w') (hK : ∀ v w', R v w' → K (a.put o.dst v) w') : o.wp P a w K Q := by
  have hargs : c.args.map a.eval = us.toArray := by rw [← hus, ← Array.toList_map]
  unfold Oper.wp execOp
  rw [ho]
  simp only [resolve, hc, hf, Deferred.ofValue, invoke, Sem.run_bind, Sem.run_pure, Result.andThen_ok, hargs]
  have e : (#[] ++ us.toArray) ++ caps.toArray = (us ++ caps).toArray := by simp
  rw [e, he w]
  simp only [Oper.upon]
  refine hcall.mono ?_
  rintro e w' ⟨v, rfl, hr⟩
  exact hK v w' hr

theorem fn_sound (hR : Rel N w0 μ0 L μ loc st a w) {f : Operand} {g : Nat} {caps : List AV} (h : opnd P 0 st f = some (.pv (.fn g caps))) : ∃ cs : List Value, a.eval f = .func (.func g) #[] cs.toArray ∧ repAll μ caps cs := by
  have := opnd_sound hR h
  simp only [repS, rep] at this
  exact this

theorem rowIn_false {x : Operand} (h : rowIn st x = false) : ∀ t id, opnd P t st x ≠ some (.row id) := by
  intro t id e
  cases x with
  | tmp i => simp only [opnd] at e; simp [rowIn, e] at h
  | const v =>
    simp only [opnd] at e
    cases hc : ofConst P t v <;> simp [hc] at e
  | func f => simp [opnd] at e
  | global g => simp [opnd] at e

/-- a call whose result does not reach into the frame's rows -/
theorem call_sound (hR : Rel N w0 μ0 L μ loc st a w) (hcall : CallOK P callF) {o : Oper} {c : Call} {f : Operand} {g : Nat} {caps vs : List AV} {r : AV} (hd : ∀ i, o.dst = some i → i < N) (ho : o.op = .call c) (hc : c.callee = .value f)
    (hf : opnd P 0 st f = some (.pv (.fn g caps))) (hvs : lendAll P st c.args.toList c.argTypes.toList = some vs) (hr : callF g ((vs ++ caps).map .pv) [] = some (r, []))
    (hp : (r.plain || !(c.args.toList.any (rowIn st))) = true) (hK : Goes N w0 μ0 L (st.set o.dst (.pv r)) K) : o.wp P a w K Q := by
  obtain ⟨cs, hfe, hcs⟩ := fn_sound hR hf
  cases hany : c.args.toList.any (rowIn st) with
  | false =>
    have hall := lendAll_sound hR (Mu.le.refl μ) hvs (fun x hx t id e => absurd e (rowIn_false (by
      have := List.any_eq_false.1 hany x hx
      simpa using this) t id))
    obtain ⟨he, hC⟩ := hcall g _ [] r [] hr w μ loc (c.args.toList.map a.eval ++ cs) hR.pub (by simp [find]) (by intro i j oi oj hi; simp [find] at hi) (repSs_pv (repAll_append hall hcs))
    refine wp_call (R := fun v w' => ∃ μ' loc', CallPost μ loc [] r [] w v μ' loc' w') (r := r) (lent' := []) ho hc hfe rfl he (hC.mono ?_) ?_
    · rintro e w' ⟨v, μ', loc', rfl, hP⟩
      exact ⟨v, rfl, μ', loc', hP⟩
    · rintro v w' ⟨μ', loc', hP⟩
      exact hK _ _ _ _ ((hR.grow hP.ext hP.pub (below_of hP)).set hd hP.res)
  | true =>
    have hplain : r.plain = true := by simpa [hany] using hp
    -- the frame's rows are public while the call lasts
    let isRow : Nat → Prop := fun b => ∃ id e sz xs, st.ob id = some (.row e sz xs) ∧ blockOf (loc id) = some b
    have : ∀ b, Decidable (isRow b) := fun b => Classical.propDecidable _
    let μ1 : Mu := fun b j => if isRow b then w.cell? ⟨b, j, none⟩ else μ b j
    have hle : μ.le μ1 := fun b j v hv => by
      by_cases hb : isRow b
      · obtain ⟨id, e, sz, xs, hob, hbl⟩ := hb
        have := ((hR.obs id _ hob).block b hbl).2.2 j
        rw [this] at hv; cases hv
      · simpa [μ1, hb] using hv
    have hpub1 : Pub μ1 w := fun b j v hv => by
      by_cases hb : isRow b
      · simpa [μ1, hb] using hv
      · exact hR.pub b j v (by simpa [μ1, hb] using hv)
    have hall := lendAll_sound hR hle hvs (fun x hx t id e b j u hb hcell => by
      -- the operand's row is one of the frame's
      have hmem : ∃ e sz xs, st.ob id = some (.row e sz xs) := by
        clear hcell hb hpub1
        have key : ∀ (xs : List Operand) (ts : List TypeId) (vs : List AV), lendAll P st xs ts = some vs → x ∈ xs → ∃ e sz ys, st.ob id = some (.row e sz ys) := by
          intro xs
          induction xs with
          | nil => intro ts vs _ hm; simp at hm
          | cons y ys ih =>
            intro ts vs hv hm
            simp only [lendAll] at hv
            split at hv
            · rename_i v vs' hv1 hv2
              rcases List.mem_cons.1 hm with rfl | hm
              · have hty : ∀ t', opnd P t' st x = some (.row id) := by
                  intro t'
                  cases x with
                  | tmp i => exact e
                  | const q => simp only [opnd] at e; cases hq : ofConst P t q <;> simp [hq] at e
                  | func q => simp [opnd] at e
                  | global q => simp [opnd] at e
                simp only [hty, Option.bind_some, lend] at hv1
                split at hv1
                · rename_i e' sz' xs' hob; exact ⟨e', sz', xs', hob⟩
                · cases hv1
              · exact ih _ _ hv2 hm
            · cases hv
        exact key _ _ _ hvs hx
      obtain ⟨e', sz, xs, hob⟩ := hmem
      have hrow : isRow b := ⟨id, e', sz, xs, hob, hb⟩
      simpa [μ1, hrow] using hcell)
    obtain ⟨he, hC⟩ := hcall g _ [] r [] hr w μ1 loc (c.args.toList.map a.eval ++ cs) hpub1 (by simp [find]) (by intro i j oi oj hi; simp [find] at hi) (repSs_pv (repAll_append hall (repAll_mono hle _ _ hcs)))
    refine wp_call (R := fun v w' => ∃ μ' loc', CallPost μ1 loc [] r [] w v μ' loc' w') (r := r) (lent' := []) ho hc hfe rfl he (hC.mono ?_) ?_
    · rintro e w' ⟨v, μ', loc', rfl, hP⟩
      exact ⟨v, rfl, μ', loc', hP⟩
    · rintro v w' ⟨μ', loc', hP⟩
      exact hK _ _ _ _ ((hR.grow' (below_of hP)).set (sv := .pv r) hd (show rep μ r v from plain_rep hplain hP.res))

theorem capsOf_sound (hR : Rel N w0 μ0 L μ loc st a w) {xs : List Operand} {vs : List AV} (h : capsOf st xs = some vs) : repAll μ vs (xs.map a.eval) := by
  induction xs generalizing vs with
  | nil => simp [capsOf] at h; subst h; exact repAll_nil
  | cons x xs ih =>
    cases x with
    | tmp i =>
      simp only [capsOf] at h
      split at h
      · rename_i v vs' hv hvs
        injection h with h; subst h
        obtain ⟨u, hu, hr⟩ := hR.env i _ hv
        have : a.eval (.tmp i) = u := by simp [Act.eval, hu]
        exact repAll_cons (by rw [this]; exact hr) (ih hvs)
      · cases h
    | _ => simp [capsOf] at h

theorem fval_sound (hR : Rel N w0 μ0 L μ loc st a w) (hcall : CallOK P callF) {o : Oper} {v : SV} (hd : ∀ i, o.dst = some i → i < N) (hv : fval P h callF o st = some v) (hK : Goes N w0 μ0 L (st.set o.dst v) K) : o.wp P a w K Q := by
  unfold fval at hv
  split at hv
  · rename_i t len parts ho
    cases hb : o.dst.any h.rows.contains with
    | true => simp [hb] at hv
    | false =>
      simp only [hb, cond_false] at hv
      cases hl : litCells P t len parts.toList st with
      | none => simp [hl] at hv
      | some x =>
        obtain ⟨e, s, xs⟩ := x
        simp [hl] at hv; subst hv
        exact fval_build hR hd ho hl hK
  · rename_i c ho
    split at hv
    · rename_i f hc
      replace hv := of_bif hv
      split at hv
      · rename_i g caps vs hf hvs
        split at hv
        · rename_i r hr
          cases hp : (r.plain || !(c.args.toList.any (rowIn st))) with
          | true => simp only [hp, cond_true, Option.some.injEq] at hv; subst hv; exact call_sound hR hcall hd ho hc hf hvs hr hp hK
          | false => rw [hp] at hv; cases hv
        · cases hv
      · cases hv
    · exact wp_gives hR hd (gives_pcall hR ho hv) hK
  · rename_i g first caps ho
    cases hfi : first.isEmpty with
    | false => simp [hfi] at hv
    | true =>
      simp only [hfi, cond_true] at hv
      cases hcs : capsOf st caps.toList with
      | none => simp [hcs] at hv
      | some vs =>
        simp [hcs] at hv; subst hv
        have hall := capsOf_sound hR hcs
        have hf0 : first = #[] := by simpa using hfi
        refine wp_gives hR hd ⟨.func (.func g) #[] (caps.toList.map a.eval).toArray, ?_, ?_⟩ hK
        · unfold execOp; rw [ho, hf0]
          have e : caps.map a.eval = (caps.toList.map a.eval).toArray := by rw [← Array.toList_map]
          simp [Instr.makeFunc, e]
        · show rep μ (.fn g vs) _
          rw [rep]; exact ⟨_, rfl, hall⟩
  · rename_i x ho
    have key : pval P o st = some v := by
      split at hv
      · rename_i hp; exact hp.trans (of_bif hv)
      · rename_i hp; exact hp.trans (of_bif hv)
      · exact hv
    exact wp_gives hR hd (pval_sound hR key) hK
  · exact wp_gives hR hd (pval_sound hR hv) hK

theorem publishAll_sound (hR : Rel N w0 μ0 L μ loc st a w) {xs : List Operand} (h : eff.publishAll st xs = some st') : ∃ μ', Rel N w0 μ0 L μ' loc st' a w := by
  induction xs generalizing st μ with
  | nil => simp [eff.publishAll] at h; subst h; exact ⟨μ, hR⟩
  | cons x xs ih =>
    cases x with
    | tmp i =>
      simp only [eff.publishAll] at h
      split at h
      · rename_i id hi
        cases hp : st.publish id with
        | none => simp [hp] at h
        | some st1 =>
          simp [hp] at h
          obtain ⟨μ1, _, h1⟩ := hR.publish hp
          exact ih h1 h
      · exact ih hR h
    | _ => simp only [eff.publishAll] at h; exact ih hR h

/-- an object is put (back) under a name that is free -/
theorem Rel.addOb (hR : Rel N w0 μ0 L μ loc st a w) {id : Nat} {o : Ob} (hnone : st.ob id = none) (hob : obOK w0.heap.size L μ loc w id o)
    (hap : ∀ j oj, st.ob j = some oj → ∀ g, blockOf (loc id) = some g → blockOf (loc j) ≠ some g) : Rel N w0 μ0 L μ loc { st with ob := put st.ob id (some o) } a w := by
  refine ⟨hR.small, hR.names, hR.fix, hR.size, hR.defers, hR.env, hR.pub, hR.base, ?_, ?_, hR.keep, hR.os, hR.tape, hR.output, hR.grown⟩
  · intro i oi hi
    by_cases e : id = i
    · subst e; simp only [put_same, Option.some.injEq] at hi; subst hi; exact hob
    · exact hR.obs i oi (by simpa only [put_other _ _ e] using hi)
  · intro i j oi oj hi hj hij g hg
    by_cases ei : id = i
    · subst ei
      simp only [put_other _ _ hij] at hj
      exact hap j oj hj g hg
    · simp only [put_other _ _ ei] at hi
      by_cases ej : id = j
      · subst ej; intro hg'; exact hap i oi hi g hg' hg
      · simp only [put_other _ _ ej] at hj
        exact hR.apart i j oi oj hi hj hij g hg

theorem lendRef_sound (hR : Rel N w0 μ0 L μ loc st a w) {locC : Nat → Value} : ∀ {xs : List Operand} {ts : List TypeId} {vs : List SV} {ids : List Nat}, lendRef P h st xs ts = some (vs, ids) → (∀ id ∈ ids, locC 10000 = loc id) → repSs μ locC vs (xs.map a.eval) := by
  intro xs
  induction xs with
  | nil => intro ts vs ids hv _; simp only [lendRef, Option.some.injEq, Prod.mk.injEq] at hv; obtain ⟨rfl, rfl⟩ := hv; rfl
  | cons x xs ih =>
    intro ts vs ids hv hloc
    simp only [lendRef] at hv
    split at hv
    · rename_i id vs' ids' href hrest
      simp only [Option.some.injEq, Prod.mk.injEq] at hv
      obtain ⟨rfl, rfl⟩ := hv
      refine ⟨_, _, rfl, ?_, ih hrest (fun i hi => hloc i (by simp [hi]))⟩
      show a.eval x = locC 10000
      rw [hloc id (by simp)]
      cases x with
      | tmp t =>
        simp only [refIn] at href
        cases hb : h.byref.contains t with
        | false => rw [hb] at href; cases href
        | true =>
          simp only [hb, cond_true] at href
          split at href
          · rename_i id' he
            injection href with href; subst href
            obtain ⟨v, hv, hr⟩ := hR.env t _ he
            have : a.eval (.tmp t) = v := by simp [Act.eval, hv]
            rw [this]; exact hr
          · cases href
      | _ => simp [refIn] at href
    · rename_i vs' ids' href hrest
      split at hv
      · rename_i v hv1
        simp only [Option.some.injEq, Prod.mk.injEq] at hv
        obtain ⟨rfl, rfl⟩ := hv
        exact ⟨_, _, rfl, pure_sound hR hv1, ih hrest hloc⟩
      · cases hv
    · cases hv

theorem callRef_sound (hR : Rel N w0 μ0 L μ loc st a w) (hcall : CallOK P callF) {o : Oper} {c : Call} {f : Operand} {r : AV} {st1 : St} (hd : ∀ i, o.dst = some i → i < N) (ho : o.op = .call c) (hc : c.callee = .value f)
    (hv : callRef P h callF st c f = some (r, st1)) (hK : Goes N w0 μ0 L (st1.set o.dst (.pv r)) K) : o.wp P a w K Q := by
  unfold callRef at hv
  split at hv
  · rename_i g caps vs id hf hvs
    split at hv
    · rename_i e sz xs hob
      split at hv
      · rename_i r' nm e' sz' xs' hr
        cases hb : (r'.plain && Nat.beq e e' && Nat.beq sz sz' && Nat.beq nm 10000) with
        | false => simp [hb] at hv
        | true =>
          simp only [hb, cond_true, Option.some.injEq, Prod.mk.injEq] at hv
          obtain ⟨rfl, rfl⟩ := hv
          simp only [Bool.and_eq_true] at hb
          obtain ⟨cs, hfe, hcs⟩ := fn_sound hR hf
          let locC : Nat → Value := fun _ => loc id
          have hok := hR.obs id _ hob
          have hargs := lendRef_sound hR (locC := locC) hvs (fun i hi => by simp at hi; subst hi; rfl)
          have hlent : ∀ i oi, find [(10000, Ob.row e sz xs)] i = some oi → obOK w.heap.size (lentL locC ([(10000, Ob.row e sz xs)].map (·.1))) μ locC w i oi := by
            intro i oi hi
            simp only [find] at hi
            cases hb' : Nat.beq 10000 i with
            | false => simp [hb'] at hi
            | true =>
              simp only [hb', cond_true, Option.some.injEq] at hi
              subst hi
              have := beq_iff.1 hb'
              subst this
              obtain ⟨us, hown, hrc, hm⟩ := hok
              refine ⟨us, hown, hrc, fun q hq => ⟨.inr ⟨loc id, by simp [lentL, locC], hq⟩, (hm q hq).2⟩⟩
          obtain ⟨he, hC⟩ := hcall g _ _ r' _ hr w μ locC (c.args.toList.map a.eval ++ cs) hR.pub hlent (by
            intro i j oi oj hi hj hij
            have h1 := find_one hi
            have h2 := find_one hj
            omega) (repSs_append hargs (repSs_pv hcs))
          refine wp_call (R := fun v w' => ∃ μ' loc', CallPost μ locC ([(10000, Ob.row e sz xs)].map (·.1)) r' [(nm, Ob.row e' sz' xs')] w v μ' loc' w') (r := r') (lent' := []) ho hc hfe rfl he (hC.mono ?_) ?_
          · rintro e w' ⟨v, μ', loc', rfl, hP⟩
            exact ⟨v, rfl, μ', loc', hP⟩
          · rintro v w' ⟨μ', loc', hP⟩
            have hlb : ∀ b, lentB (lentL locC ([(10000, Ob.row e sz xs)].map (·.1))) b → blockOf (loc id) = some b := by
              rintro b ⟨i, x, hx, hbx⟩
              simp only [lentL] at hx
              split at hx
              · injection hx with hx; subst hx; exact hbx
              · cases hx
            have h1 := (hR.drop id).world (w' := w') (μ' := μ') hP.ext.1 (fun b j x hx => by
                rcases hP.ext.2 b j x hx with hx | hx
                · exact .inl hx
                · exact .inr (Nat.le_trans hR.grown hx)) hP.pub (fun k ok hk b hbk => by
                by_cases e' : id = k
                · subst e'; simp [put_same] at hk
                · simp only [put_other _ _ e'] at hk
                  obtain ⟨_, hlt, hmu⟩ := (hR.obs k ok hk).block b hbk
                  refine ⟨hP.keep b hlt (fun hl => hR.apart id k _ ok hob hk e' b (hlb b hl) hbk), fun j => ?_⟩
                  cases hj : μ' b j with
                  | none => rfl
                  | some x =>
                    rcases hP.ext.2 b j x hj with hx | hx
                    · rw [hmu j] at hx; cases hx
                    · omega) (fun b hb' hl => hP.keep b (Nat.lt_of_lt_of_le hb' hR.grown) (fun hl' => by
                have hbb := hlb b hl'
                rcases (hok.block b hbb).1 with hx | ⟨x, hx, hbx⟩
                · omega
                · exact hl ⟨id, x, hx, hbx⟩)) hP.os hP.tape hP.output hP.grown
            have hob' : obOK w0.heap.size L μ' loc w' id (.row e' sz' xs') := by
              have k := hP.obs nm (.row e' sz' xs') (by simp [find, Nat.beq_refl])
              have hnm : loc' nm = loc id := by
                have := beq_iff.1 hb.2
                exact hP.fix nm (by simp [this]) (by omega)
              obtain ⟨us, hown, hrc, hm⟩ := k
              rw [hnm] at hown hm
              exact ⟨us, hown, hrc, fun q hq => ⟨(hok.block q hq).1, (hm q hq).2⟩⟩
            have h2 := h1.addOb (id := id) (o := .row e' sz' xs') (by simp [put_same]) hob' (fun j oj hj q hq => by
              by_cases e' : id = j
              · subst e'; simp [put_same] at hj
              · simp only [put_other _ _ e'] at hj
                exact hR.apart id j _ oj hob hj e' q hq)
            have heq : ({ env := st.env, ob := put (put st.ob id none) id (some (.row e' sz' xs')) } : St) = { env := st.env, ob := put st.ob id (some (.row e' sz' xs')) } := by
              congr 1
              funext k
              by_cases e' : id = k
              · subst e'; simp [put_same]
              · simp only [put_other _ _ e']
            rw [heq] at h2
            exact hK _ _ _ _ (h2.set hd hP.res)
      · cases hv
    · cases hv
  · cases hv

theorem eff_sound (hR : Rel N w0 μ0 L μ loc st a w) (hcall : CallOK P callF) {o : Oper} (hd : ∀ i, o.dst = some i → i < N) (hv : eff P h callF o st = some st') (hK : Goes N w0 μ0 L st' K) : o.wp P a w K Q := by
  unfold eff at hv
  split at hv
  · rename_i d hdst ho
    split at hv
    · rename_i e s hs
      split at hv
      · injection hv with hv; subst hv
        exact eff_nil hR (hd d hdst) hdst ho hK
      · cases hv
    · cases hv
  · rename_i d x hnc hdst ho
    split at hv
    · rename_i id hx
      split at hv
      · rename_i st1 hp
        split at hv
        · rename_i v hv1
          injection hv with hv; subst hv
          obtain ⟨μ1, _, h1⟩ := hR.publish hp
          exact wp_gives h1 hd (gives_move h1 (.inr ho) hv1) (by rw [hdst]; exact hK)
        · cases hv
      · cases hv
    · cases hv
  · rename_i d t x hdst ho
    split at hv
    · rename_i cs hx hagg
      injection hv with hv; subst hv
      have hxv := opnd_sound hR hx
      simp only [repS, rep] at hxv
      obtain ⟨vs, hxv, hall, hone⟩ := hxv
      refine eff_box (v := .agg vs.toArray) hR (hd d hdst) hdst ?_ (by simpa [Value.cells] using repSs_pv hall) (by simpa [Value.cells] using hone) hK
      unfold execOp; rw [ho]
      simp [Instr.box, newVar, newRow, hxv, Value.cells]
    · rename_i v hnot hx hagg
      split at hv
      · rename_i hone
        injection hv with hv; subst hv
        have hxv := opnd_sound hR hx
        obtain ⟨h1, hc1⟩ := one_of hR hone hxv
        refine eff_box (v := a.eval x) hR (hd d hdst) hdst ?_ (by rw [hc1]; exact ⟨_, [], rfl, repS_purge hxv, rfl⟩) (by rw [hc1]; simpa using h1) hK
        unfold execOp; rw [ho]
        simp [Instr.box, newVar, newRow]
      · cases hv
    · cases hv
  · rename_i d t hdst ho
    split at hv
    · rename_i z hz
      injection hv with hv; subst hv
      obtain ⟨i, v, hi, hzv, hc⟩ := zeroCells_run (μ := μ) hz
      refine eff_box (v := v) hR (hd d hdst) hdst ?_ (repSs_pv hc.1) hc.2 hK
      unfold execOp; rw [ho]
      simp [Instr.alloc, zeroValue, typeInfo, hi, hzv, newVar, newRow]
    · cases hv
  · rename_i d t l c hdst ho
    split at hv
    · rename_i e s kl nl kc nc hs hl hc
      split at hv
      · rename_i z i hz hi
        split at hv
        · rename_i hcond
          injection hv with hv; subst hv
          exact eff_make hR (hd d hdst) hdst ho hs hl hc hz hi hcond hK
        · cases hv
      · cases hv
    · cases hv
  · rename_i d t len parts hdst ho
    split at hv
    · rename_i e s xs hl
      injection hv with hv; subst hv
      exact eff_buildRow hR (hd d hdst) hdst ho hl hK
    · cases hv
  · rename_i t x y hdst ho
    split at hv
    · rename_i sa sv hx hy
      exact eff_store hR hdst ho hx hy hv hK
    · cases hv
  · rename_i d c ho
    split at hv
    · rename_i hc
      split at hv
      · rename_i d' x y t t' hdst hargs htys
        split at hv
        · rename_i e s id sy hs hx hy
          split at hv
          · rename_i e' sz xs sz' ys i hob hel hi
            split at hv
            · rename_i hcond
              obtain ⟨rfl, rfl, rfl, rfl, hpos, hby, hlen, hz, hmv⟩ := hcond
              injection hv with hv; subst hv
              have ho' : o.op = .call { callee := .builtin .append, args := #[x, y], argTypes := #[t, t] } := by
                rw [ho]
                obtain ⟨cal, ⟨as⟩, ⟨ts⟩⟩ := c
                simp only at hc hargs htys
                subst hc; subst hargs; subst htys; rfl
              refine eff_append hR (hd d' hdst) hdst ho' hs hx hy hob hel hi hpos hby hlen hz ?_ hK
              simp only [eff.mayMove, Bool.or_eq_true] at hmv
              rcases hmv with hm | hm
              · left; simpa [Nat.blt_eq] using hm
              · right; exact Nat.le_of_ble_eq_true hm
            · cases hv
          · cases hv
        · cases hv
      · cases hv
    · rename_i f hc
      cases href : c.args.toList.any (fun x => (refIn h st x).isSome) with
      | true =>
        simp only [href, cond_true] at hv
        cases hcr : callRef P h callF st c f with
        | none => simp [hcr] at hv
        | some x =>
          obtain ⟨r, st1⟩ := x
          simp [hcr] at hv; subst hv
          exact callRef_sound hR hcall hd ho hc hcr hK
      | false =>
      simp only [href, cond_false] at hv
      split at hv
      · rename_i st1 hp
        split at hv
        · rename_i g caps vs hf hvs
          split at hv
          · rename_i r hr
            cases hany : c.args.toList.any (rowIn st1) with
            | true => simp [hany] at hv
            | false =>
              simp only [hany, cond_false, Option.some.injEq] at hv
              subst hv
              obtain ⟨μ1, h1⟩ := publishAll_sound hR hp
              exact call_sound h1 hcall hd ho hc hf hvs hr (by simp [hany]) hK
          · cases hv
        · cases hv
      · cases hv
    · cases hv
  · cases hv

theorem step_sound (hR : Rel N w0 μ0 L μ loc st a w) (hcall : CallOK P callF) {o : Oper} (hd : ∀ i, o.dst = some i → i < N) (hv : step P h callF o st = some st') (hK : Goes N w0 μ0 L st' K) : o.wp P a w K Q := by
  unfold step at hv
  split at hv
  · rename_i v hf
    injection hv with hv; subst hv
    exact fval_sound hR hcall hd hf hK
  · exact eff_sound hR hcall hd hv hK

theorem wanted_sound (hR : Rel N w0 μ0 L μ loc st a w) {ops : Array Oper} {o : Oper} {b : Bool} (hw : wantedA ops o st = some b) : Region.wanted o (yielded ops a.tmps) = b := by
  unfold wantedA at hw
  unfold Region.wanted
  split at hw
  · rename_i hg; injection hw with hw; subst hw; rw [hg]
  · rename_i j want hg
    rw [hg]
    simp only
    split at hw
    · rename_i d hdst
      split at hw
      · rename_i t ht
        injection hw with hw; subst hw
        obtain ⟨v, hv, hr⟩ := hR.env d _ ht
        simp only [repS, rep] at hr; subst hr
        simp [yielded, hdst, hv]
      · rename_i ht
        injection hw with hw; subst hw
        obtain ⟨v, hv, hr⟩ := hR.env d _ ht
        have hr : v = undef := hr
        subst hr
        simp [yielded, hdst, hv, undef]
      · cases hw
    · cases hw

theorem runOps_sound (hcall : CallOK P callF) {ops : Array Oper} : ∀ {l : List Oper} {st : St} {μ : Mu} {loc : Nat → Value} {a : Act} {w : World}, Rel N w0 μ0 L μ loc st a w → (∀ o ∈ l, ∀ i, o.dst = some i → i < N) → runOps P h callF ops l st = some st' →
    (∀ a' w' μ' loc', Rel N w0 μ0 L μ' loc' st' a' w' → Q .normal a' w') → wpList P ops Q l a w := by
  intro l
  induction l with
  | nil =>
    intro st μ loc a w hR _ hv hQ
    simp only [runOps, Option.some.injEq] at hv; subst hv
    exact hQ _ _ _ _ hR
  | cons o l ih =>
    intro st μ loc a w hR hd hv hQ
    simp only [runOps] at hv
    split at hv
    · rename_i b hw
      have hwant := wanted_sound hR hw
      unfold wpList
      rw [hwant]
      cases b with
      | true =>
        simp only [cond_true] at hv
        simp only [if_true]
        cases hs : step P h callF o st with
        | none => simp [hs] at hv
        | some st1 =>
          simp [hs] at hv
          exact .inl (step_sound hR hcall (hd o (by simp)) hs (fun a' w' μ' loc' h1 => ih h1 (fun p hp => hd p (by simp [hp])) hv hQ))
      | false =>
        simp only [cond_false] at hv
        simp only [Bool.false_eq_true, if_false]
        exact ih (hR.set (hd o (by simp)) (show repS μ loc .undef undef from rfl)) (fun p hp => hd p (by simp [hp])) hv hQ
    · cases hv

end
end Go.AM
