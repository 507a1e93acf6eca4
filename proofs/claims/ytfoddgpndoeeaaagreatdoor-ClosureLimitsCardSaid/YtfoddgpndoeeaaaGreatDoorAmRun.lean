/-
  THE ABSTRACT MACHINE: operations, regions, code.
-/
import Derived.Test.YtfoddgpndoeeaaaGreatDoorAmEff
set_option linter.unusedVariables false
set_option linter.unusedSimpArgs false
namespace Go.AM
open Go.RowKit

def Pub (μ : Mu) (w : World) : Prop := ∀ b j v, μ b j = some v → see w b j = some v
def lentL (q : Prop) (loc : Nat → Value) (names : List Nat) : Lent := ⟨fun id => if id ∈ names then some (loc id) else none, q⟩
def Apart (loc : Nat → Value) (lent : List (Nat × Ob)) : Prop := ∀ i j oi oj, find lent i = some oi → find lent j = some oj → i ≠ j → ∀ g, inB (loc i) g → ¬ inB (loc j) g

structure CallPost (q : Prop) (μ : Mu) (loc : Nat → Value) (names : List Nat) (r : AV) (lent' : List (Nat × Ob)) (w : World) (v : Value) (μ' : Mu) (loc' : Nat → Value) (w' : World) : Prop where
  ext : μ.ext w.heap.size μ'
  pub : Pub μ' w'
  res : rep μ' r v ∨ (∃ n A m c, r = .self n ∧ 10000 ∈ names ∧ loc' 10000 = .slice A m c ∧ n ≤ m ∧ v = .slice A n c) ∨
    ∃ e sz xs vs, r = .tup [.self e, .lst sz xs] ∧ w'.ownsRow 0 e sz v xs.length vs ∧ rowCells μ' sz xs vs ∧ ∀ g, blockOf v = some g → w.heap.size ≤ g ∧ (∀ j, μ' g j = none) ∧ ∀ id o, find lent' id = some o → ¬ inB (loc' id) g
  obs : ∀ id o, find lent' id = some o → obOK w.heap.size (lentL q loc names) μ' loc' w' id o
  apart : Apart loc' lent'
  keep : ∀ b, b < w.heap.size → ¬ lentB (lentL q loc names) b → w'.heap[b]? = w.heap[b]?
  fix : ∀ id, id ∈ names → id < 20000 → loc' id = loc id
  os : w'.os = w.os
  tape : w'.tape = w.tape
  output : w'.output = w.output
  grown : w.heap.size ≤ w'.heap.size
  drawn : q → w.drawn ≤ w'.drawn

theorem CallPost.pure {q : Prop} {μ : Mu} {loc : Nat → Value} {names : List Nat} {r : AV} {lent' : List (Nat × Ob)} {w : World} {v : Value} {μ' : Mu} {loc' : Nat → Value} {w' : World} (h : CallPost q μ loc names r lent' w v μ' loc' w') (hn : r.noSelf = true) : rep μ' r v := by
  rcases h.res with h | ⟨n, A, m, c, rfl, _⟩ | ⟨e, sz, xs, vs, rfl, _⟩
  · exact h
  · cases hn
  · cases hn

theorem plain_noSelf {r : AV} (h : r.plain = true) : r.noSelf = true := by
  cases r with
  | self n => cases h
  | tup vs =>
    cases vs with
    | nil => rfl
    | cons v vs => cases v <;> first | rfl | (simp [AV.plain, AV.scalar] at h)
  | _ => rfl
/-- calls are sound -/
def CallOK (q : Prop) (B : Mu) (P : Program) (callF : CallF) : Prop := ∀ g args lent r lent', callF g args lent = some (r, lent') → ∀ (w : World) (μ : Mu) (loc : Nat → Value) (us : List Value), B.le μ → Pub μ w →
  (∀ id o, find lent id = some o → obOK w.heap.size (lentL q loc (lent.map (·.1))) μ loc w id o) → Apart loc lent → repSs μ loc args us →
  (∀ w2, (callFunc g us.toArray).run P w2 = .ok (.enter g us.toArray) w2) ∧
  Calls P g us.toArray w fun e w' => ∃ v μ' loc', e = .returned v ∧ CallPost q μ loc (lent.map (·.1)) r lent' w v μ' loc' w'

theorem CallOK.mono {q : Prop} {B B' : Mu} {P : Program} {callF : CallF} (h : CallOK q B P callF) (hB : B.le B') : CallOK q B' P callF :=
  fun g args lent r lent' hv w μ loc us hle => h g args lent r lent' hv w μ loc us (hB.trans hle)

section
variable {P : Program} {N : Nat} {w0 : World} {μ0 : Mu} {L : Lent} {μ : Mu} {loc : Nat → Value} {st st' : St} {a : Act} {w : World} {Q : Exit → Act → World → Prop} {K : Act → World → Prop} {h : Hint} {callF : CallF}

theorem of_bif {α : Type} {c : Bool} {x : Option α} {v : α} (h : (bif c then none else x) = some v) : x = some v := by
  cases c <;> simp_all

theorem find_one {α : Type} {j i : Nat} {x v : α} (hf : find [(j, x)] i = some v) : i = j := by
  simp only [find] at hf
  cases hb : Nat.beq j i with
  | true => exact (beq_iff.1 hb).symm
  | false => simp [hb] at hf

theorem lend_sound (hR : Rel N w0 μ0 L μ loc st a w) {s : SV} {v : AV} {u : Value} (hl : lend st s = some v) (hs : repS μ loc s u) {μ' : Mu} (hle : μ.le μ')
    (hrow : ∀ id, s = .row id → ∀ b j x, inB (loc id) b → see w b j = some x → μ' b j = some x) : rep μ' v u := by
  cases s with
  | pv x => simp only [lend, Option.some.injEq] at hl; subst hl; exact rep_mono hle _ _ hs
  | row id =>
    simp only [lend] at hl
    obtain ⟨ob, hob, hval⟩ := Option.bind_eq_some_iff.1 hl
    have e : u = baseV (loc id) := hs
    rw [e]
    exact val_rep (hR.obs id _ hob) hval hle (fun b j x hb hc => hrow id rfl b j x hb hc)
  | _ => simp [lend] at hl

theorem lendAll_sound (hR : Rel N w0 μ0 L μ loc st a w) {μ' : Mu} (hle : μ.le μ') {xs : List Operand} {ts : List TypeId} {vs : List AV} (h : lendAll P st xs ts = some vs)
    (hrow : ∀ x ∈ xs, ∀ t id, opnd P t st x = some (.row id) → ∀ b j x, inB (loc id) b → see w b j = some x → μ' b j = some x) : repAll μ' vs (xs.map a.eval) := by
  induction xs generalizing ts vs with
  | nil => simp [lendAll] at h; subst h; exact repAll_nil
  | cons x xs ih =>
    simp only [lendAll] at h
    split at h
    · rename_i v vs' hv hvs
      injection h with h; subst h
      cases ho : opnd P (ts.headD 0) st x with
      | none => rw [ho] at hv; cases hv
      | some sv =>
        rw [ho] at hv
        simp only [Option.bind_some] at hv
        exact repAll_cons (lend_sound hR hv (opnd_sound hR ho) hle (fun id e => by subst e; exact hrow x (by simp) _ id ho)) (ih hvs (fun y hy => hrow y (by simp [hy])))
    · cases h

theorem plain_rep {μ μ' : Mu} {r : AV} {v : Value} (h : r.plain = true) (k : rep μ r v) : rep μ' r v := by
  have sc : ∀ (r : AV) (v : Value), r.scalar = true → rep μ r v → rep μ' r v := fun r v h k => by
    cases r <;> simp [AV.scalar] at h <;> simpa [rep] using k
  cases r with
  | tup vs =>
    rw [rep] at k ⊢
    obtain ⟨us, e, hall⟩ := k
    refine ⟨us, e, ?_⟩
    simp only [AV.plain] at h
    clear e
    induction vs generalizing us with
    | nil => simpa [repAll] using hall
    | cons x xs ih =>
      rw [repAll] at hall
      obtain ⟨u, us', rfl, h1, h2⟩ := hall
      simp only [List.all_cons, Bool.and_eq_true] at h
      exact repAll_cons (sc _ _ h.1 h1) (ih h.2 us' h2)
  | bool b => exact sc _ _ rfl k
  | int b n => exact sc _ _ rfl k
  | str s => exact sc _ _ rfl k
  | lst sz xs => simp [AV.plain, AV.scalar] at h
  | agg cs => simp [AV.plain, AV.scalar] at h
  | fn f caps => simp [AV.plain, AV.scalar] at h
  | ref cs => simp [AV.plain, AV.scalar] at h
  | mp ks es => simp [AV.plain, AV.scalar] at h
  | self n => simp [AV.plain, AV.scalar] at h
  | nilp => simp [AV.plain, AV.scalar] at h
  | nils => simp [AV.plain, AV.scalar] at h

theorem below_of {μ' : Mu} {loc' : Nat → Value} {r : AV} {lent' : List (Nat × Ob)} {u : Value} {w' : World} {q : Prop} (hP : CallPost q μ loc [] r lent' w u μ' loc' w') : Below w.heap.size w w' :=
  ⟨hP.os, hP.tape, hP.output, hP.grown, fun b hb => hP.keep b hb (by rintro ⟨id, v, h, _⟩; simp [lentL] at h)⟩

/-- a call of a function value, from its contract -/
theorem wp_call {o : Oper} {c : Call} {f : Operand} {g : Nat} {us caps : List Value} {r : AV} {lent' : List (Nat × Ob)} (ho : o.op = .call c) (hc : c.callee = .value f) (hf : a.eval f = .func (.func g) #[] caps.toArray)
    (hus : c.args.toList.map a.eval = us) (he : ∀ w2, (callFunc g (us ++ caps).toArray).run P w2 = .ok (.enter g (us ++ caps).toArray) w2)
    {R : Value → World → Prop} (hcall : Calls P g (us ++ caps).toArray w fun e w' => ∃ v, e = .returned v ∧ R v w') (hK : ∀ v w', R v w' → K (a.put o.dst v) w') : o.wpW P a w K Q := by
  have hargs : c.args.map a.eval = us.toArray := by rw [← hus, ← Array.toList_map]
  refine wpW_of (fun c' hc' => by rw [ho] at hc'; cases hc') (x := .enter g (us ++ caps).toArray) (w' := w) ?_ fun F hF => ?_
  · unfold execOp
    rw [ho]
    simp only [resolve, hc, hf, Deferred.ofValue, invoke, Sem.run_bind, Sem.run_pure, Result.andThen_ok, hargs]
    have e : (#[] ++ us.toArray) ++ caps.toArray = (us ++ caps).toArray := by simp
    rw [e, he w]
  · refine ⟨hF.one, ?_⟩
    have h1 : CallsIn Fence.wide (0 - 1) P g (us ++ caps).toArray w _ := callsIn_wide.2 hcall
    have h2 : CallsIn F (0 - 1) P g (us ++ caps).toArray w (fun e w' => ∃ v, e = .returned v ∧ R v w') := by
      have := hF
      unfold Wd at this
      rw [← this] at h1
      exact h1
    refine h2.mono ?_
    rintro e w' ⟨v, rfl, hr⟩
    exact hK v w' hr

theorem fn_sound (hR : Rel N w0 μ0 L μ loc st a w) {f : Operand} {g : Nat} {caps : List AV} (h : opnd P 0 st f = some (.pv (.fn g caps))) : ∃ cs : List Value, a.eval f = .func (.func g) #[] cs.toArray ∧ repAll μ caps cs := by
  have := opnd_sound hR h
  simp only [repS, rep] at this
  exact this

theorem rowIn_false {x : Operand} (h : rowIn st x = false) : ∀ t id, opnd P t st x ≠ some (.row id) := by
  intro t id e
  cases x with
  | tmp i => simp only [opnd] at e; simp [rowIn, e] at h
  | const v =>
    simp only [opnd] at e
    cases hc : ofConst P t v <;> simp [hc] at e
  | func f => simp [opnd] at e
  | global g => simp [opnd] at e

/-- a call whose result does not reach into the frame's rows -/
theorem call_sound (hR : Rel N w0 μ0 L μ loc st a w) (hcall : CallOK L.q μ0 P callF) {o : Oper} {c : Call} {f : Operand} {g : Nat} {caps vs : List AV} {r : AV} (hd : ∀ i, o.dst = some i → i < N) (ho : o.op = .call c) (hc : c.callee = .value f)
    (hf : opnd P 0 st f = some (.pv (.fn g caps))) (hvs : lendAll P st c.args.toList c.argTypes.toList = some vs) (hr : callF g ((vs ++ caps).map .pv) [] = some (r, []))
    (hp : (r.plain || !(c.args.toList.any (rowIn st))) = true) (hns : r.noSelf = true) (hK : Goes N w0 μ0 L (st.set o.dst (.pv r)) K) : o.wpW P a w K Q := by
  obtain ⟨cs, hfe, hcs⟩ := fn_sound hR hf
  cases hany : c.args.toList.any (rowIn st) with
  | false =>
    have hall := lendAll_sound hR (Mu.le.refl μ) hvs (fun x hx t id e => absurd e (rowIn_false (by
      have := List.any_eq_false.1 hany x hx
      simpa using this) t id))
    obtain ⟨he, hC⟩ := hcall g _ [] r [] hr w μ loc (c.args.toList.map a.eval ++ cs) hR.base.1 hR.pub (by simp [find]) (by intro i j oi oj hi; simp [find] at hi) (repSs_pv (repAll_append hall hcs))
    refine wp_call (R := fun v w' => ∃ μ' loc', CallPost L.q μ loc [] r [] w v μ' loc' w') (r := r) (lent' := []) ho hc hfe rfl he (hC.mono ?_) ?_
    · rintro e w' ⟨v, μ', loc', rfl, hP⟩
      exact ⟨v, rfl, μ', loc', hP⟩
    · rintro v w' ⟨μ', loc', hP⟩
      exact hK _ _ _ _ ((hR.grow hP.ext hP.pub (below_of hP) hP.drawn).set hd (hP.pure hns))
  | true =>
    have hplain : r.plain = true := by simpa [hany] using hp
    -- the frame's rows are public while the call lasts
    let isRow : Nat → Prop := fun b => ∃ id ob, st.ob id = some ob ∧ ob.val.isSome = true ∧ inB (loc id) b
    have : ∀ b, Decidable (isRow b) := fun b => Classical.propDecidable _
    let μ1 : Mu := fun b j => if isRow b then see w b j else μ b j
    have hle : μ.le μ1 := fun b j v hv => by
      by_cases hb : isRow b
      · obtain ⟨id, ob, hob, _, hbl⟩ := hb
        have := ((hR.obs id _ hob).block b hbl).2.2 j
        rw [this] at hv; cases hv
      · simpa [μ1, hb] using hv
    have hpub1 : Pub μ1 w := fun b j v hv => by
      by_cases hb : isRow b
      · simpa [μ1, hb] using hv
      · exact hR.pub b j v (by simpa [μ1, hb] using hv)
    have hall := lendAll_sound hR hle hvs (fun x hx t id e b j u hb hcell => by
      -- the operand's row is one of the frame's
      have hmem : ∃ ob, st.ob id = some ob ∧ ob.val.isSome = true := by
        clear hcell hb hpub1
        have key : ∀ (xs : List Operand) (ts : List TypeId) (vs : List AV), lendAll P st xs ts = some vs → x ∈ xs → ∃ ob, st.ob id = some ob ∧ ob.val.isSome = true := by
          intro xs
          induction xs with
          | nil => intro ts vs _ hm; simp at hm
          | cons y ys ih =>
            intro ts vs hv hm
            simp only [lendAll] at hv
            split at hv
            · rename_i v vs' hv1 hv2
              rcases List.mem_cons.1 hm with rfl | hm
              · have hty : ∀ t', opnd P t' st x = some (.row id) := by
                  intro t'
                  cases x with
                  | tmp i => exact e
                  | const q => simp only [opnd] at e; cases hq : ofConst P t q <;> simp [hq] at e
                  | func q => simp [opnd] at e
                  | global q => simp [opnd] at e
                simp only [hty, Option.bind_some, lend] at hv1
                obtain ⟨ob, hob, hval⟩ := Option.bind_eq_some_iff.1 hv1
                exact ⟨ob, hob, by rw [hval]; rfl⟩
              · exact ih _ _ hv2 hm
            · cases hv
        exact key _ _ _ hvs hx
      obtain ⟨ob, hob, hval⟩ := hmem
      have hrow : isRow b := ⟨id, ob, hob, hval, hb⟩
      simpa [μ1, hrow] using hcell)
    obtain ⟨he, hC⟩ := hcall g _ [] r [] hr w μ1 loc (c.args.toList.map a.eval ++ cs) (hR.base.1.trans hle) hpub1 (by simp [find]) (by intro i j oi oj hi; simp [find] at hi) (repSs_pv (repAll_append hall (repAll_mono hle _ _ hcs)))
    refine wp_call (R := fun v w' => ∃ μ' loc', CallPost L.q μ1 loc [] r [] w v μ' loc' w') (r := r) (lent' := []) ho hc hfe rfl he (hC.mono ?_) ?_
    · rintro e w' ⟨v, μ', loc', rfl, hP⟩
      exact ⟨v, rfl, μ', loc', hP⟩
    · rintro v w' ⟨μ', loc', hP⟩
      exact hK _ _ _ _ ((hR.grow' (below_of hP) hP.drawn).set (sv := .pv r) hd (show rep μ r v from plain_rep hplain (hP.pure hns)))

theorem capsOf_sound (hR : Rel N w0 μ0 L μ loc st a w) {xs : List Operand} {vs : List AV} (h : capsOf st xs = some vs) : repAll μ vs (xs.map a.eval) := by
  induction xs generalizing vs with
  | nil => simp [capsOf] at h; subst h; exact repAll_nil
  | cons x xs ih =>
    cases x with
    | tmp i =>
      simp only [capsOf] at h
      split at h
      · rename_i v vs' hv hvs
        injection h with h; subst h
        obtain ⟨u, hu, hr⟩ := hR.env i _ hv
        have : a.eval (.tmp i) = u := by simp [Act.eval, hu]
        exact repAll_cons (by rw [this]; exact hr) (ih hvs)
      · rename_i cs vs' hv hvs
        injection h with h; subst h
        obtain ⟨u, hu, hr⟩ := hR.env i _ hv
        have : a.eval (.tmp i) = u := by simp [Act.eval, hu]
        obtain ⟨b, off, us, e, hc, hm⟩ := hr
        exact repAll_cons (by rw [this, rep]; exact ⟨b, off, us, e, hc.1, hc.2, hm⟩) (ih hvs)
      · cases h
    | _ => simp [capsOf] at h

theorem capsCl_sound (hR : Rel N w0 μ0 L μ loc st a w) {xs : List Operand} {cs : List Cap} (h : capsCl st xs = some cs) : repCaps μ loc cs (xs.map a.eval) := by
  induction xs generalizing cs with
  | nil => simp [capsCl] at h; subst h; rfl
  | cons x xs ih =>
    cases x with
    | tmp i =>
      simp only [capsCl] at h
      split at h
      · rename_i v vs' hv hvs
        injection h with h; subst h
        obtain ⟨u, hu, hr⟩ := hR.env i _ hv
        have : a.eval (.tmp i) = u := by simp [Act.eval, hu]
        exact ⟨_, _, rfl, by rw [this]; exact hr, ih hvs⟩
      · rename_i cs' vs' hv hvs
        injection h with h; subst h
        obtain ⟨u, hu, hr⟩ := hR.env i _ hv
        have : a.eval (.tmp i) = u := by simp [Act.eval, hu]
        obtain ⟨b, off, us, e, hc, hm⟩ := hr
        refine ⟨_, _, rfl, ?_, ih hvs⟩
        show rep μ (.ref cs') _
        rw [this, rep]; exact ⟨b, off, us, e, hc.1, hc.2, hm⟩
      · rename_i id vs' hv hvs
        injection h with h; subst h
        obtain ⟨u, hu, hr⟩ := hR.env i _ hv
        have : a.eval (.tmp i) = u := by simp [Act.eval, hu]
        obtain ⟨b, h1, h2⟩ := hr
        exact ⟨_, _, rfl, ⟨b, h1, by rw [this, h2]⟩, ih hvs⟩
      · cases h
    | _ => simp [capsCl] at h

theorem eff_makeFunc (hR : Rel N w0 μ0 L μ loc st a w) {o : Oper} {g : Nat} {first caps : Array Operand} {d : Nat} {vs : List AV} (hd : d < N) (hdst : o.dst = some d) (ho : o.op = .makeFunc (.func g) first caps) (hfi : first.isEmpty = true)
    (hp : pubCaps st caps.toList = some st') (hcs : capsOf st' caps.toList = some vs) (hK : Goes N w0 μ0 L (st'.set (some d) (.pv (.fn g vs))) K) : o.wpW P a w K Q := by
  obtain ⟨μ', hle, hR'⟩ := pubCaps_sound hR hR hp
  have hall := capsOf_sound hR' hcs
  have hf0 : first = #[] := by simpa using hfi
  refine wp_gives hR' (fun i hi => by rw [hdst] at hi; injection hi with hi; subst hi; exact hd) ⟨.func (.func g) #[] (caps.toList.map a.eval).toArray, ?_, ?_⟩ (by rw [hdst]; exact hK)
  · unfold execOp; rw [ho, hf0]
    have e : caps.map a.eval = (caps.toList.map a.eval).toArray := by rw [← Array.toList_map]
    simp [Instr.makeFunc, e]
  · show rep μ' (.fn g vs) _
    rw [rep]; exact ⟨_, rfl, hall⟩

theorem publishAll_sound (hR : Rel N w0 μ0 L μ loc st a w) {xs : List Operand} (h : eff.publishAll st xs = some st') : ∃ μ', Rel N w0 μ0 L μ' loc st' a w := by
  induction xs generalizing st μ with
  | nil => simp [eff.publishAll] at h; subst h; exact ⟨μ, hR⟩
  | cons x xs ih =>
    cases x with
    | tmp i =>
      simp only [eff.publishAll] at h
      split at h
      · rename_i id hi
        cases hp : st.publish id with
        | none => simp [hp] at h
        | some st1 =>
          simp [hp] at h
          obtain ⟨μ1, _, h1⟩ := hR.publish hp
          exact ih h1 h
      · exact ih hR h
    | _ => simp only [eff.publishAll] at h; exact ih hR h

/-- an object is put (back) under a name that is free -/
theorem Rel.addOb (hR : Rel N w0 μ0 L μ loc st a w) {id : Nat} {o : Ob} (hnone : st.ob id = none) (hob : obOK w0.heap.size L μ loc w id o)
    (hap : ∀ j oj, st.ob j = some oj → ∀ g, inB (loc id) g → ¬ inB (loc j) g) : Rel N w0 μ0 L μ loc { st with ob := put st.ob id (some o) } a w := by
  refine ⟨hR.small, hR.names, hR.fix, hR.size, hR.defers, hR.env, hR.pub, hR.base, ?_, ?_, hR.keep, hR.os, hR.tape, hR.output, hR.grown, hR.drawn⟩
  · intro i oi hi
    by_cases e : id = i
    · subst e; simp only [put_same, Option.some.injEq] at hi; subst hi; exact hob
    · exact hR.obs i oi (by simpa only [put_other _ _ e] using hi)
  · intro i j oi oj hi hj hij g hg
    by_cases ei : id = i
    · subst ei
      simp only [put_other _ _ hij] at hj
      exact hap j oj hj g hg
    · simp only [put_other _ _ ei] at hi
      by_cases ej : id = j
      · subst ej; intro hg'; exact hap i oi hi g hg' hg
      · simp only [put_other _ _ ej] at hj
        exact hR.apart i j oi oj hi hj hij g hg

theorem lendRef_sound (hR : Rel N w0 μ0 L μ loc st a w) {locC : Nat → Value} : ∀ {xs : List Operand} {ts : List TypeId} {vs : List SV} {ids : List Nat}, lendRef P h st xs ts = some (vs, ids) → (∀ id ∈ ids, locC 10000 = loc id) → repSs μ locC vs (xs.map a.eval) := by
  intro xs
  induction xs with
  | nil => intro ts vs ids hv _; simp only [lendRef, Option.some.injEq, Prod.mk.injEq] at hv; obtain ⟨rfl, rfl⟩ := hv; rfl
  | cons x xs ih =>
    intro ts vs ids hv hloc
    simp only [lendRef] at hv
    split at hv
    · rename_i id vs' ids' href hrest
      simp only [Option.some.injEq, Prod.mk.injEq] at hv
      obtain ⟨rfl, rfl⟩ := hv
      refine ⟨_, _, rfl, ?_, ih hrest (fun i hi => hloc i (by simp [hi]))⟩
      show a.eval x = baseV (locC 10000)
      rw [hloc id (by simp)]
      cases x with
      | tmp t =>
        simp only [refIn] at href
        cases hb : h.byref.contains t with
        | false => rw [hb] at href; cases href
        | true =>
          simp only [hb, cond_true] at href
          split at href
          · rename_i id' he
            injection href with href; subst href
            obtain ⟨v, hv, hr⟩ := hR.env t _ he
            have : a.eval (.tmp t) = v := by simp [Act.eval, hv]
            rw [this]; exact hr
          · cases href
      | _ => simp [refIn] at href
    · rename_i vs' ids' href hrest
      split at hv
      · rename_i v hv1
        simp only [Option.some.injEq, Prod.mk.injEq] at hv
        obtain ⟨rfl, rfl⟩ := hv
        exact ⟨_, _, rfl, pure_sound hR hv1, ih hrest hloc⟩
      · cases hv
    · cases hv

theorem callRef_sound (hR : Rel N w0 μ0 L μ loc st a w) (hcall : CallOK L.q μ0 P callF) {o : Oper} {c : Call} {f : Operand} {st1 : St} (hd : ∀ i, o.dst = some i → i < N) (ho : o.op = .call c) (hc : c.callee = .value f)
    (hv : callRef P h callF st c f o.dst = some st1) (hK : Goes N w0 μ0 L st1 K) : o.wpW P a w K Q := by
  unfold callRef at hv
  split at hv
  · rename_i g caps vs id hf hvs
    split at hv
    · rename_i e sz xs hob
      split at hv
      · rename_i r' nm e' sz' xs' hr
        cases hb : (Nat.beq e e' && Nat.beq sz sz' && Nat.beq nm 10000) with
        | false => simp [hb] at hv
        | true =>
          simp only [hb, cond_true] at hv
          simp only [Bool.and_eq_true] at hb
          obtain ⟨cs, hfe, hcs⟩ := fn_sound hR hf
          let locC : Nat → Value := fun _ => loc id
          have hok := hR.obs id _ hob
          have hargs := lendRef_sound hR (locC := locC) hvs (fun i hi => by simp at hi; subst hi; rfl)
          have hlent : ∀ i oi, find [(10000, Ob.row e sz xs)] i = some oi → obOK w.heap.size (lentL L.q locC ([(10000, Ob.row e sz xs)].map (·.1))) μ locC w i oi := by
            intro i oi hi
            simp only [find] at hi
            cases hb' : Nat.beq 10000 i with
            | false => simp [hb'] at hi
            | true =>
              simp only [hb', cond_true, Option.some.injEq] at hi
              subst hi
              have := beq_iff.1 hb'
              subst this
              obtain ⟨us, hown, hrc, hm⟩ := hok
              refine ⟨us, hown, hrc, fun q hq => ⟨.inr ⟨loc id, by simp [lentL, locC], hq⟩, (hm q hq).2⟩⟩
          obtain ⟨he, hC⟩ := hcall g _ _ r' _ hr w μ locC (c.args.toList.map a.eval ++ cs) hR.base.1 hR.pub hlent (by
            intro i j oi oj hi hj hij
            have h1 := find_one hi
            have h2 := find_one hj
            omega) (repSs_append hargs (repSs_pv hcs))
          refine wp_call (R := fun v w' => ∃ μ' loc', CallPost L.q μ locC ([(10000, Ob.row e sz xs)].map (·.1)) r' [(nm, Ob.row e' sz' xs')] w v μ' loc' w') (r := r') (lent' := []) ho hc hfe rfl he (hC.mono ?_) ?_
          · rintro e w' ⟨v, μ', loc', rfl, hP⟩
            exact ⟨v, rfl, μ', loc', hP⟩
          · rintro v w' ⟨μ', loc', hP⟩
            have hlb : ∀ b, lentB (lentL L.q locC ([(10000, Ob.row e sz xs)].map (·.1))) b → inB (loc id) b := by
              rintro b ⟨i, x, hx, hbx⟩
              simp only [lentL] at hx
              split at hx
              · injection hx with hx; subst hx; exact hbx
              · cases hx
            have h1 := (hR.drop id).world (w' := w') (μ' := μ') hP.ext.1 (fun b j x hx => by
                rcases hP.ext.2 b j x hx with hx | hx
                · exact .inl hx
                · exact .inr (Nat.le_trans hR.grown hx)) hP.pub (fun k ok hk b hbk => by
                by_cases e' : id = k
                · subst e'; simp [put_same] at hk
                · simp only [put_other _ _ e'] at hk
                  obtain ⟨_, hlt, hmu⟩ := (hR.obs k ok hk).block b hbk
                  refine ⟨hP.keep b hlt (fun hl => hR.apart id k _ ok hob hk e' b (hlb b hl) hbk), fun j => ?_⟩
                  cases hj : μ' b j with
                  | none => rfl
                  | some x =>
                    rcases hP.ext.2 b j x hj with hx | hx
                    · rw [hmu j] at hx; cases hx
                    · omega) (fun b hb' hl => hP.keep b (Nat.lt_of_lt_of_le hb' hR.grown) (fun hl' => by
                have hbb := hlb b hl'
                rcases (hok.block b hbb).1 with hx | ⟨x, hx, hbx⟩
                · omega
                · exact hl ⟨id, x, hx, hbx⟩)) hP.os hP.tape hP.output hP.grown hP.drawn
            have hnm : loc' nm = loc id := by
              have := beq_iff.1 hb.2
              exact hP.fix nm (by simp [this]) (by omega)
            obtain ⟨us, hown, hrc, hm⟩ := hP.obs nm (.row e' sz' xs') (by simp [find, Nat.beq_refl])
            rw [hnm] at hown hm
            split at hv
            · rename_i n
              cases hc2 : (Nat.ble n xs'.length && mayMove id) with
              | false => rw [hc2] at hv; cases hv
              | true =>
              simp only [hc2, cond_true, Option.some.injEq] at hv
              subst hv
              simp only [Bool.and_eq_true] at hc2
              have hnl : n ≤ xs'.length := Nat.le_of_ble_eq_true hc2.1
              obtain ⟨A, m, cp, hl10, hnm', hvv⟩ : ∃ A m cp, loc' 10000 = .slice A m cp ∧ n ≤ m ∧ v = .slice A n cp := by
                rcases hP.res with hx | ⟨n', A, m, cp, e1, _, h1, h2, h3⟩ | ⟨_, _, _, _, e1, _⟩
                · rw [rep] at hx; exact hx.elim
                · injection e1 with e1; subst e1; exact ⟨A, m, cp, h1, h2, h3⟩
                · cases e1
              have e10 := beq_iff.1 hb.2
              rw [e10] at hnm
              rw [hnm] at hl10
              have hid : id < 10000 ∨ 20000 ≤ id := by
                have hmv := hc2.2
                simp only [mayMove, Bool.or_eq_true] at hmv
                rcases hmv with hm | hm
                · left; simpa [Nat.blt_eq] using hm
                · right; exact Nat.le_of_ble_eq_true (Bool.and_eq_true _ _ ▸ hm).1
              have hblk : ∀ q, inB v q ↔ inB (loc id) q := fun q => by rw [hvv, hl10, inB_slice, inB_slice]; cases A <;> rfl
              have h2 := h1.new (id := id) (val := v) (o := .row e' sz' (xs'.take n)) hid ?_ (fun j oj hj hne q hq => by
                simp only [put_other _ _ (Ne.symm hne)] at hj
                exact hR.apart id j _ oj hob hj (Ne.symm hne) q ((hblk q).1 hq))
              · have heq : (St.new { env := st.env, ob := put st.ob id none } id (.row e' sz' (xs'.take n))) = st.new id (.row e' sz' (xs'.take n)) := by
                  simp only [St.new, St.purge]
                  congr 1
                  funext k
                  by_cases e' : id = k
                  · subst e'; simp [put_same]
                  · simp only [put_other _ _ e']
                rw [heq] at h2
                exact hK _ _ _ _ (h2.set hd (sv := .row id) (rowS (by rw [hvv]; rfl)))
              · have hlen : (xs'.take n).length = n := by simp; omega
                have hrc2 := rowCells_take hrc n
                refine ⟨us.take (n * sz'), ⟨by rw [rowCells_length hrc2], ?_⟩, hrc2, fun q hq => ?_⟩
                · rw [upd_same, hlen, hvv]
                  rcases hown.2 with ⟨e1, e2⟩ | ⟨q, cap, cur, e1, k1, k2, k3, k4, k5, k6⟩
                  · rw [hl10] at e1
                    simp only [Value.slice.injEq] at e1
                    obtain ⟨rfl, rfl, rfl⟩ := e1
                    have : n = 0 := by omega
                    subst this
                    exact .inl ⟨rfl, rfl⟩
                  · rw [hl10] at e1
                    simp only [Value.slice.injEq] at e1
                    obtain ⟨rfl, rfl, rfl⟩ := e1
                    refine .inr ⟨q, cp, cur, rfl, k1, k2, by omega, k4, k5, ?_⟩
                    rw [← k6, List.take_take, Nat.min_eq_left (Nat.mul_le_mul_right _ hnl)]
                · rw [upd_same, hblk q] at hq
                  exact ⟨(hok.block q hq).1, (hm q hq).2⟩
            · rename_i hns
              cases hpl : r'.plain with
              | false => rw [hpl] at hv; cases hv
              | true =>
              simp only [hpl, cond_true, Option.some.injEq] at hv
              subst hv
              have hob' : obOK w0.heap.size L μ' loc w' id (.row e' sz' xs') := ⟨us, hown, hrc, fun q hq => ⟨(hok.block q hq).1, (hm q hq).2⟩⟩
              have h2 := h1.addOb (id := id) (o := .row e' sz' xs') (by simp [put_same]) hob' (fun j oj hj q hq => by
                by_cases e' : id = j
                · subst e'; simp [put_same] at hj
                · simp only [put_other _ _ e'] at hj
                  exact hR.apart id j _ oj hob hj e' q hq)
              have heq : ({ env := st.env, ob := put (put st.ob id none) id (some (.row e' sz' xs')) } : St) = { env := st.env, ob := put st.ob id (some (.row e' sz' xs')) } := by
                congr 1
                funext k
                by_cases e' : id = k
                · subst e'; simp [put_same]
                · simp only [put_other _ _ e']
              rw [heq] at h2
              exact hK _ _ _ _ (h2.set hd (hP.pure (plain_noSelf hpl)))
      · cases hv
    · cases hv
  · cases hv

/-! a box whose slices are rows -/
theorem newRows_sound (hR : Rel N w0 μ0 L μ loc st a w) : ∀ (l : List (Nat × TypeId × Nat)) (st : St) (loc : Nat → Value), Rel N w0 μ0 L μ loc st a w → (∀ x ∈ l, x.1 < 10000) →
    ∃ loc', Rel N w0 μ0 L μ loc' (newRows l st) a w ∧ (∀ x ∈ l, loc' x.1 = .slice none 0 0) ∧ ∀ i, loc i = .slice none 0 0 → loc' i = .slice none 0 0
  | [], st, loc, h, _ => ⟨loc, h, by simp, fun _ h => h⟩
  | (id, e, s) :: l, st, loc, h, hl => by
    have h1 := h.new (id := id) (val := .slice none 0 0) (o := .row e s []) (.inl (hl (id, e, s) (by simp))) ⟨[], ⟨by simp, .inl ⟨upd_same _ _ _, rfl⟩⟩, rfl, fun g hg => by rw [upd_same] at hg; simp [inB, blockOf] at hg⟩ (fun j oj hj hne g hg => by simp [inB, blockOf] at hg)
    obtain ⟨loc', h2, h3, h4⟩ := newRows_sound hR l _ _ h1 (fun x hx => hl x (by simp [hx]))
    refine ⟨loc', h2, fun x hx => ?_, fun i hi => h4 i ?_⟩
    · rcases List.mem_cons.1 hx with rfl | hx
      · exact h4 _ (upd_same _ _ _)
      · exact h3 x hx
    · by_cases e : i = id
      · subst e; exact upd_same _ _ _
      · rw [upd_other _ _ e]; exact hi

theorem cellSVs_sound {d : Nat} : ∀ (j : Nat) (ts : List TypeId) (vs : List Value) (svs : List SV) (l : List (Nat × TypeId × Nat)), cellSVs P d j ts vs = some (svs, l) →
    (∀ x ∈ l, x.1 < 10000) ∧ (∀ u ∈ vs, u.oneCell' = true) ∧ ∀ (loc : Nat → Value), (∀ x ∈ l, loc x.1 = .slice none 0 0) → repSs μ loc svs vs
  | j, [], [], svs, l, hv => by
    simp only [cellSVs, Option.some.injEq, Prod.mk.injEq] at hv
    obtain ⟨rfl, rfl⟩ := hv
    exact ⟨by simp, by simp, fun _ _ => rfl⟩
  | j, [], _ :: _, svs, l, hv => by simp [cellSVs] at hv
  | j, _ :: _, [], svs, l, hv => by simp [cellSVs] at hv
  | j, t :: ts, v :: vs, svs, l, hv => by
    simp only [cellSVs] at hv
    split at hv
    · rename_i svs' l' hrest
      obtain ⟨i1, i2, i3⟩ := cellSVs_sound (j + 1) ts vs svs' l' hrest
      split at hv
      · rename_i e s hs
        cases hb : (Nat.blt 0 s && Nat.blt (5000 + 16 * d + j) 10000) with
        | false => rw [hb] at hv; cases hv
        | true =>
          simp only [hb, cond_true, Option.some.injEq, Prod.mk.injEq] at hv
          obtain ⟨rfl, rfl⟩ := hv
          simp only [Bool.and_eq_true] at hb
          have hlt : 5000 + 16 * d + j < 10000 := by have := hb.2; simpa [Nat.blt_eq] using this
          refine ⟨fun x hx => ?_, fun u hu => ?_, fun loc hl => ?_⟩
          · rcases List.mem_cons.1 hx with rfl | hx
            · exact hlt
            · exact i1 x hx
          · rcases List.mem_cons.1 hu with rfl | hu
            · rfl
            · exact i2 u hu
          · exact ⟨_, _, rfl, (by show _ = baseV (loc _); rw [hl (5000 + 16 * d + j, e, s) (by simp)]; rfl), i3 loc (fun x hx => hl x (by simp [hx]))⟩
      · simp only [Option.map_eq_some_iff, Prod.mk.injEq] at hv
        obtain ⟨av, hc, rfl, rfl⟩ := hv
        have hr := ofConst_rep (μ := μ) hc
        refine ⟨i1, fun u hu => ?_, fun loc hl => ⟨_, _, rfl, hr, i3 loc hl⟩⟩
        rcases List.mem_cons.1 hu with rfl | hu
        · unfold ofConst at hc
          split at hc <;> first | rfl | cases hc
        · exact i2 u hu
    · cases hv

theorem eff_allocRows (hR : Rel N w0 μ0 L μ loc st a w) {o : Oper} {d : Nat} {t : TypeId} {svs : List SV} {l : List (Nat × TypeId × Nat)} (hd : d < N) (hdst : o.dst = some d) (ho : o.op = .alloc t)
    (hz : ((zeroVals P t).bind fun vs => cellSVs P d 0 (cellTys P 8 t) vs) = some (svs, l)) (hK : Goes N w0 μ0 L (((newRows l st).new d (.box t (svs.map (SV.purge d)))).set (some d) (.ptr d 0)) K) : o.wpW P a w K Q := by
  obtain ⟨vs, hvs, hcs⟩ := Option.bind_eq_some_iff.1 hz
  unfold zeroVals at hvs
  split at hvs
  · rename_i i hi
    simp only [Option.map_eq_some_iff] at hvs
    obtain ⟨v, hzv, rfl⟩ := hvs
    obtain ⟨h1, h2, h3⟩ := cellSVs_sound (μ := μ) 0 _ _ _ _ hcs
    obtain ⟨loc', hR', h4, _⟩ := newRows_sound hR l st loc hR h1
    refine eff_box (v := v) hR' hd hdst ?_ (repSs_purge _ _ (h3 loc' h4)) h2 hK
    unfold execOp; rw [ho]
    simp [Instr.alloc, zeroValue, typeInfo, hi, hzv, newVar, newRow]
  · cases hvs

/-! an aggregate some of whose cells are rows or maps -/
theorem partSV_sound (hR : Rel N w0 μ0 L μ loc st a w) {s : SV} {l : List SV} {u : Value} (h : partSV st s = some l) (k : repS μ loc s u) : repSs μ loc l u.cells.toList ∧ ∀ x ∈ u.cells.toList, x.oneCell' = true := by
  unfold partSV at h
  split at h
  · rename_i cs
    injection h with h; subst h
    simp only [repS, rep] at k
    obtain ⟨vs, rfl, h1, h2⟩ := k
    exact ⟨by simpa [Value.cells] using repSs_pv h1, by simpa [Value.cells] using h2⟩
  · cases ho : oneOK st s with
    | false => rw [ho] at h; cases h
    | true =>
      rw [ho] at h
      simp only [cond_true, Option.some.injEq] at h; subst h
      obtain ⟨h1, h2⟩ := one_of hR ho k
      rw [h2]
      exact ⟨⟨_, [], rfl, k, rfl⟩, by simpa using h1⟩

theorem fillS_sound (hR : Rel N w0 μ0 L μ loc st a w) {place : Nat → Option (Nat × Nat)} {ty : Nat → TypeId} : ∀ {parts : List (Nat × Operand)} {ps : List (Nat × List SV)} {cells cs : List SV} {vs : List Value}, partsSV P ty st parts = some ps → fillS place cells ps = some cs → repSs μ loc cells vs → (∀ u ∈ vs, u.oneCell' = true) →
    ∃ ws : List Value, Instr.fill place vs.toArray (parts.map fun p => (p.1, a.eval p.2)) = some ws.toArray ∧ repSs μ loc cs ws ∧ ∀ u ∈ ws, u.oneCell' = true
  | [], ps, cells, cs, vs => fun h1 h2 h3 h4 => by
    simp only [partsSV, Option.some.injEq] at h1; subst h1
    simp only [fillS, Option.some.injEq] at h2; subst h2
    exact ⟨vs, by simp [Instr.fill], h3, h4⟩
  | (i, x) :: parts, ps, cells, cs, vs => fun h1 h2 h3 h4 => by
    simp only [partsSV] at h1
    split at h1
    · rename_i l rest hx hrest
      injection h1 with h1; subst h1
      obtain ⟨sx, hsx, hl⟩ := Option.bind_eq_some_iff.1 hx
      obtain ⟨hc, hone⟩ := partSV_sound hR hl (opnd_sound hR hsx)
      simp only [fillS] at h2
      split at h2
      · cases h2
      · rename_i off size hpl
        split at h2
        · rename_i hcond
          have hlen : (a.eval x).cells.size = size := by
            have := repSs_length hc; simpa [hcond.1] using this
          have hvl := repSs_length h3
          have hnews := repSs_append (repSs_append (repSs_take h3 off) hc) (repSs_drop h3 (off + size))
          obtain ⟨ws, hw, hr, ho⟩ := fillS_sound hR hrest h2 hnews (fun u hu => by
            simp only [List.mem_append] at hu
            rcases hu with (hu | hu) | hu
            · exact h4 u (List.mem_of_mem_take hu)
            · exact hone u hu
            · exact h4 u (List.mem_of_mem_drop hu))
          refine ⟨ws, ?_, hr, ho⟩
          simp only [List.map_cons, Instr.fill, hpl]
          rw [if_neg (by simp [hlen]; omega)]
          rw [← hw]
          congr 1
          have hsp := splice_list vs (a.eval x).cells.toList off 0 (by simp; omega)
          simp only [Nat.add_zero, Array.length_toList, hlen] at hsp
          rw [← hsp, ← Array.foldl_toList, Array.toList_zipIdx]
        · cases h2
    · cases h1

theorem capsAll_sound : ∀ {cs : List SV} {caps : List Cap} {vs : List Value}, capsAll st cs = some caps → repSs μ loc cs vs → repCaps μ loc caps vs
  | [], caps, vs => fun h k => by simp only [capsAll, Option.some.injEq] at h; subst h; exact k
  | s :: cs, caps, vs => fun h ⟨u, us, e, k1, k2⟩ => by
    simp only [capsAll] at h
    split at h
    · rename_i c rest hc hrest
      injection h with h; subst h
      refine ⟨u, us, e, ?_, capsAll_sound hrest k2⟩
      unfold capOf at hc
      cases ho : oneOK st s with
      | false => rw [ho] at hc; cases hc
      | true =>
        rw [ho] at hc
        simp only [cond_true] at hc
        split at hc
        · injection hc with hc; subst hc; exact k1
        · injection hc with hc; subst hc; exact k1
        · cases hc
    · cases h

theorem eff_buildRows (hR : Rel N w0 μ0 L μ loc st a w) {o : Oper} {d : Nat} {t : TypeId} {parts : Array (Nat × Operand)} (hd : d < N) (hdst : o.dst = some d) (ho : o.op = .build t parts) (h : buildRows P st d t parts.toList = some st') (hK : Goes N w0 μ0 L st' K) : o.wpW P a w K Q := by
  unfold buildRows at h
  split at h
  · rename_i fs svs l hu hz
    cases hfs : fs.toList.all (fun f => (sizeT P f.type).isSome) with
    | false => rw [hfs] at h; cases h
    | true =>
      rw [hfs] at h
      simp only [cond_true] at h
      split at h
      · rename_i ps hps
        split at h
        · rename_i cs hcs
          injection h with h; subst h
          obtain ⟨sv2, hf, hca⟩ := Option.bind_eq_some_iff.1 hcs
          obtain ⟨vs, hvs, hcell⟩ := Option.bind_eq_some_iff.1 hz
          unfold zeroVals at hvs
          split at hvs
          · rename_i i hi
            simp only [Option.map_eq_some_iff] at hvs
            obtain ⟨v, hzv, rfl⟩ := hvs
            obtain ⟨h1, h2, h3⟩ := cellSVs_sound (μ := μ) 0 _ _ _ _ hcell
            obtain ⟨loc', hR', h4, _⟩ := newRows_sound hR l st loc hR h1
            obtain ⟨ws, hw, hr, hone⟩ := fillS_sound hR' hps hf (h3 loc' h4) h2
            refine wp_value (v := .agg ws.toArray) (w' := w) ?_ ?_
            · obtain ⟨fl⟩ := fs
              have hpl := run_places (P := P) (w := w) fl hfs
              have hpe : (fun x => Option.map (fun f : Field => (f.offset, (sizeT P f.type).getD 0)) fl[x]?) = structPlace P t := by
                funext x
                simp only [structPlace, fieldOf, hu, List.getElem?_toArray]
                cases hx : fl[x]? with
                | none => rfl
                | some fd =>
                  obtain ⟨n, hn⟩ := Option.isSome_iff_exists.1 (List.all_eq_true.1 hfs fd (List.mem_of_getElem? hx))
                  simp [hn]
              simp only [Array.toArray_toList] at hw
              unfold execOp; rw [ho]
              simp [Instr.build, zeroValue, typeInfo, hi, hzv, run_underlying hu, hpl, hpe, hw]
            · rw [hdst]
              exact hK _ _ _ _ (hR'.set (fun i hi => by injection hi with hi; omega) ⟨ws, rfl, capsAll_sound hca hr, hone⟩)
          · cases hvs
        · cases h
      · cases h
  · cases h

/-! names of objects that are lent -/
theorem distinct_nodup : ∀ {l : List Nat}, distinct l = true → l.Nodup
  | [], _ => List.nodup_nil
  | x :: l, h => by
    simp only [distinct, Bool.and_eq_true, Bool.not_eq_true'] at h
    refine List.nodup_cons.2 ⟨fun hm => ?_, distinct_nodup h.2⟩
    have : l.contains x = true := by simpa using hm
    rw [this] at h; cases h.1
theorem find_pair {α : Type} : ∀ {l : List (Nat × α)} {i : Nat} {v : α}, find l i = some v → (i, v) ∈ l
  | [], _, _, h => by simp [find] at h
  | (j, u) :: l, i, v, h => by
    simp only [find] at h
    cases hb : Nat.beq j i with
    | true => simp only [hb, cond_true, Option.some.injEq] at h; have := beq_iff.1 hb; subst this; subst h; simp
    | false => simp only [hb, cond_false] at h; exact List.mem_cons_of_mem _ (find_pair h)
theorem find_none {α : Type} : ∀ {l : List (Nat × α)} {i : Nat}, find l i = none → i ∉ l.map (·.1)
  | [], _, _ => by simp
  | (j, u) :: l, i, h => by
    simp only [find] at h
    cases hb : Nat.beq j i with
    | true => simp [hb] at h
    | false =>
      simp only [hb, cond_false] at h
      simp only [List.map_cons, List.mem_cons, not_or]
      exact ⟨fun e => by subst e; simp [Nat.beq_refl] at hb, find_none h⟩
theorem find_of_pair {α : Type} : ∀ {l : List (Nat × α)} {i : Nat} {v : α}, (l.map (·.1)).Nodup → (i, v) ∈ l → find l i = some v
  | [], _, _, _, h => by simp at h
  | (j, u) :: l, i, v, hn, h => by
    simp only [List.map_cons, List.nodup_cons] at hn
    simp only [find]
    rcases List.mem_cons.1 h with h | h
    · injection h with h1 h2; subst h1; subst h2; simp [Nat.beq_refl]
    · have : j ≠ i := fun e => by subst e; exact hn.1 (List.mem_map.2 ⟨_, h, rfl⟩)
      rw [beq_ne this]; exact find_of_pair hn.2 h
theorem nameAll_fst (mv : Nat → Bool) : ∀ (k : Nat) (l : List Nat), (nameAll mv k l).map (·.1) = l
  | _, [] => rfl
  | k, id :: l => by simp [nameAll, nameAll_fst mv (k + 1) l]
theorem nameAll_range (mv : Nat → Bool) : ∀ (k : Nat) (l : List Nat), k + l.length ≤ 10000 → ∀ p ∈ nameAll mv k l, (mv p.1 = true → 20000 + k ≤ p.2) ∧ (mv p.1 = false → 10000 + k ≤ p.2 ∧ p.2 < 20000)
  | _, [], _, p, h => by simp [nameAll] at h
  | k, id :: l, hk, p, h => by
    simp only [List.length_cons] at hk
    simp only [nameAll, List.mem_cons] at h
    rcases h with rfl | h
    · cases hm : mv id <;> simp [hm] <;> omega
    · have := nameAll_range mv (k + 1) l (by omega) p h
      exact ⟨fun e => by have := this.1 e; omega, fun e => by have := this.2 e; omega⟩
theorem nameAll_nodup (mv : Nat → Bool) : ∀ (k : Nat) (l : List Nat), k + l.length ≤ 10000 → ((nameAll mv k l).map (·.2)).Nodup
  | _, [], _ => by simp [nameAll]
  | k, id :: l, hk => by
    simp only [List.length_cons] at hk
    simp only [nameAll, List.map_cons, List.nodup_cons]
    refine ⟨fun hm => ?_, nameAll_nodup mv (k + 1) l (by omega)⟩
    obtain ⟨p, hp, e⟩ := List.mem_map.1 hm
    have := nameAll_range mv (k + 1) l (by omega) p hp
    cases h1 : mv p.1 with
    | true => have h2 := this.1 h1; cases h3 : mv id <;> simp [h3] at e <;> omega
    | false => have h2 := this.2 h1; cases h3 : mv id <;> simp [h3] at e <;> omega
theorem swap_map : ∀ (m : List (Nat × Nat)), (swap m).map (·.1) = m.map (·.2)
  | [] => rfl
  | (a, b) :: l => by simp [swap, swap_map l]
theorem mem_swap : ∀ {m : List (Nat × Nat)} {a b : Nat}, (a, b) ∈ m → (b, a) ∈ swap m
  | (x, y) :: l, a, b, h => by
    rcases List.mem_cons.1 h with h | h
    · injection h with h1 h2; subst h1; subst h2; simp [swap]
    · simp only [swap]; exact List.mem_cons_of_mem _ (mem_swap h)

theorem repCaps_ren {loc loc' : Nat → Value} {ρ : Nat → Nat} {names : List Nat} (hρ : ∀ j ∈ names, loc' (ρ j) = loc j) : ∀ {cs : List Cap} {vs : List Value}, SV.closed names (.cl 0 cs) = true → repCaps μ loc cs vs → repCaps μ loc' (cs.map (Cap.ren ρ)) vs
  | [], vs, _, h => h
  | c :: cs, vs, hc, ⟨u, us, e, h1, h2⟩ => by
    simp only [SV.closed, List.all_cons, Bool.and_eq_true] at hc
    refine ⟨u, us, e, ?_, repCaps_ren hρ (by simpa [SV.closed] using hc.2) h2⟩
    cases c with
    | v a => exact h1
    | p id => obtain ⟨b, k1, k2⟩ := h1; exact ⟨b, by rw [hρ id (by simpa using hc.1)]; exact k1, k2⟩
    | r id => show u = baseV (loc' (ρ id)); rw [hρ id (by simpa using hc.1)]; exact h1
theorem repS_ren {loc loc' : Nat → Value} {ρ : Nat → Nat} {names : List Nat} (hρ : ∀ j ∈ names, loc' (ρ j) = loc j) {s : SV} {v : Value} (hc : s.closed names = true) (h : repS μ loc s v) : repS μ loc' (s.ren ρ) v := by
  induction s generalizing v with
  | two s b ih => obtain ⟨x, e, h⟩ := h; exact ⟨x, e, ih (by simpa [SV.closed] using hc) h⟩
  | undef => exact h
  | any => exact h
  | pv x => exact h
  | cp cs => exact h
  | ptr j off => obtain ⟨b, h1, h2⟩ := h; exact ⟨b, by rw [hρ j (by simpa [SV.closed] using hc)]; exact h1, h2⟩
  | row j => show v = baseV (loc' (ρ j)); rw [hρ j (by simpa [SV.closed] using hc)]; exact h
  | rp j sz i off => obtain ⟨g, n, c, h1, h2⟩ := h; exact ⟨g, n, c, by rw [hρ j (by simpa [SV.closed] using hc)]; exact h1, h2⟩
  | sub j sz lo hi => obtain ⟨A, n, c, A', c', h1, h2⟩ := h; exact ⟨A, n, c, A', c', by rw [hρ j (by simpa [SV.closed] using hc)]; exact h1, h2⟩
  | cl f caps => obtain ⟨vs, e, h1⟩ := h; exact ⟨vs, e, repCaps_ren hρ (by simpa [SV.closed] using hc) h1⟩
  | ag caps => obtain ⟨vs, e, h1, h2⟩ := h; exact ⟨vs, e, repCaps_ren hρ (by simpa [SV.closed] using hc) h1, h2⟩
theorem repSs_ren {loc loc' : Nat → Value} {ρ : Nat → Nat} {names : List Nat} (hρ : ∀ j ∈ names, loc' (ρ j) = loc j) : ∀ {cs : List SV} {vs : List Value}, cs.all (SV.closed names) = true → repSs μ loc cs vs → repSs μ loc' (cs.map (SV.ren ρ)) vs
  | [], vs, _, h => h
  | c :: cs, vs, hc, ⟨u, us, e, h1, h2⟩ => by
    simp only [List.all_cons, Bool.and_eq_true] at hc
    exact ⟨u, us, e, repS_ren hρ hc.1 h1, repSs_ren hρ hc.2 h2⟩
theorem obOK_ren {n0 n0' : Nat} {L L' : Lent} {loc loc' : Nat → Value} {ρ : Nat → Nat} {names : List Nat} (hρ : ∀ j ∈ names, loc' (ρ j) = loc j) {id id' : Nat} {o : Ob} (hc : o.closed names = true) (h : obOK n0 L μ loc w id o) (hid : loc' id' = loc id)
    (hown : ∀ b, inB (loc id) b → ownB n0' L' id' b) : obOK n0' L' μ loc' w id' (o.ren ρ) := by
  cases o with
  | box t cells =>
    obtain ⟨b, vs, hl, ho, hh, hm, hs, h1⟩ := h
    exact ⟨b, vs, by rw [hid]; exact hl, hown b (by rw [hl]; exact inB_ptr.2 rfl), hh, hm, repSs_ren hρ hc hs, h1⟩
  | row e sz xs =>
    obtain ⟨vs, hw, hrc, hm⟩ := h
    exact ⟨vs, by rw [hid]; exact hw, hrc, fun g hg => by rw [hid] at hg; exact ⟨hown g hg, (hm g hg).2⟩⟩
  | mp k e ks es =>
    obtain ⟨b, ents, clock, hl, ho, hh, hm, h1, h2, hB⟩ := h
    exact ⟨b, ents, clock, by rw [hid]; exact hl, hown b (by rw [hl]; exact inB_map.2 rfl), hh, hm, h1, h2, hB⟩
  | mr k e sz ks vs => simp [Ob.closed] at hc
  | it s pos =>
    obtain ⟨b, hl, ho, hh, hm⟩ := h
    exact ⟨b, by rw [hid]; exact hl, hown b (by rw [hl]; exact inB_ptr.2 rfl), hh, hm⟩

theorem purgeIds_env {tm : Nat → Option Value} : ∀ (l : List Nat) (st : St) (loc loc2 : Nat → Value), (∀ i, i ∉ l → loc2 i = loc i) → (∀ i s, st.env i = some s → ∃ v, tm i = some v ∧ repS μ loc s v) → ∀ i s, (purgeIds l st).env i = some s → ∃ v, tm i = some v ∧ repS μ loc2 s v
  | [], st, loc, loc2, hl, h, i, s, hs => by
    have : loc2 = loc := funext fun i => hl i (by simp)
    rw [this]; exact h i s hs
  | id :: l, st, loc, loc2, hl, h, i, s, hs => by
    refine purgeIds_env l (st.purge id) (upd loc id (loc2 id)) loc2 (fun i hi => ?_) (fun i s hs => ?_) i s hs
    · by_cases e : i = id
      · subst e; rw [upd_same]
      · rw [upd_other _ _ e]; exact hl i (by simp [e, hi])
    · simp only [St.purge, Option.map_eq_some_iff] at hs
      obtain ⟨s0, hs0, rfl⟩ := hs
      obtain ⟨v, hv, hr⟩ := h i s0 hs0
      exact ⟨v, hv, repS_purge hr⟩
theorem purgeIds_ob : ∀ (l : List Nat) (st : St) (loc loc2 : Nat → Value), (∀ i, i ∉ l → loc2 i = loc i) → ∀ i o', (purgeIds l st).ob i = some o' → i ∉ l ∧ ∃ o, st.ob i = some o ∧ ∀ n0 L μ w, obOK n0 L μ loc w i o → obOK n0 L μ loc2 w i o'
  | [], st, loc, loc2, hl, i, o', ho => by
    have : loc2 = loc := funext fun i => hl i (by simp)
    rw [this]; exact ⟨by simp, o', ho, fun _ _ _ _ h => h⟩
  | id :: l, st, loc, loc2, hl, i, o', ho => by
    obtain ⟨h1, o1, h2, h3⟩ := purgeIds_ob l (st.purge id) (upd loc id (loc2 id)) loc2 (fun i hi => by
      by_cases e : i = id
      · subst e; rw [upd_same]
      · rw [upd_other _ _ e]; exact hl i (by simp [e, hi])) i o' ho
    by_cases e : id = i
    · subst e; simp [St.purge, put_same] at h2
    · simp only [St.purge, put_other _ _ e, Option.map_eq_some_iff] at h2
      obtain ⟨o, ho, rfl⟩ := h2
      exact ⟨by simp [Ne.symm e, h1], o, ho, fun n0 L μ w h => h3 n0 L μ w (obOK_purge h (Ne.symm e))⟩

theorem argSVs_sound (hR : Rel N w0 μ0 L μ loc st a w) : ∀ {xs : List Operand} {ts : List TypeId} {vs : List SV}, argSVs P h st xs ts = some vs → repSs μ loc vs (xs.map a.eval)
  | [], ts, vs, hv => by simp only [argSVs, Option.some.injEq] at hv; subst hv; rfl
  | x :: xs, ts, vs, hv => by
    simp only [argSVs] at hv
    split at hv
    · rename_i v vs' h1 h2
      injection hv with hv; subst hv
      refine ⟨_, _, rfl, ?_, argSVs_sound hR h2⟩
      unfold argSV at h1
      split at h1
      all_goals first
        | (rename_i hx; injection h1 with h1; subst h1; exact opnd_sound hR hx)
        | cases h1
        | (rename_i hx; cases hb : isRef h x with
           | false => rw [hb] at h1; cases h1
           | true => rw [hb] at h1; simp only [cond_true, Option.some.injEq] at h1; subst h1; exact opnd_sound hR hx)
    · cases hv

theorem lentObs_sound {ids : List Nat} {ρ : Nat → Nat} : ∀ {l : List (Nat × Nat)} {lent : List (Nat × Ob)}, lentObs st ids ρ l = some lent → lent.map (·.1) = l.map (·.2) ∧ ∀ nm o', (nm, o') ∈ lent → ∃ id o, (id, nm) ∈ l ∧ st.ob id = some o ∧ o.closed ids = true ∧ o' = o.ren ρ
  | [], lent, hv => by simp only [lentObs, Option.some.injEq] at hv; subst hv; simp
  | (id, nm) :: l, lent, hv => by
    simp only [lentObs] at hv
    split at hv
    · rename_i o os ho hos
      cases hc : o.closed ids with
      | false => rw [hc] at hv; cases hv
      | true =>
        simp only [hc, cond_true, Option.some.injEq] at hv
        subst hv
        obtain ⟨h1, h2⟩ := lentObs_sound hos
        refine ⟨by simp [h1], fun nm' o' hm => ?_⟩
        rcases List.mem_cons.1 hm with hm | hm
        · injection hm with e1 e2; subst e1; subst e2; exact ⟨id, o, by simp, ho, hc, rfl⟩
        · obtain ⟨id', o1, k1, k2⟩ := h2 nm' o' hm
          exact ⟨id', o1, by simp [k1], k2⟩
    · cases hv
theorem backObs_sound {names : List Nat} {ρ : Nat → Nat} : ∀ {l : List (Nat × Nat)} {lent back : List (Nat × Ob)}, backObs names ρ l lent = some back → lent.map (·.1) = l.map (·.2) ∧ back.map (·.1) = l.map (·.1) ∧ ∀ id o', (id, o') ∈ back → ∃ nm o, (id, nm) ∈ l ∧ (nm, o) ∈ lent ∧ o.closed names = true ∧ o' = o.ren ρ
  | [], [], back, hv => by simp only [backObs, Option.some.injEq] at hv; subst hv; simp
  | [], _ :: _, back, hv => by simp [backObs] at hv
  | _ :: _, [], back, hv => by simp [backObs] at hv
  | (id, nm) :: l, (nm', o) :: os, back, hv => by
    simp only [backObs] at hv
    cases hb : (Nat.beq nm nm' && o.closed names) with
    | false => rw [hb] at hv; cases hv
    | true =>
      simp only [hb, cond_true, Option.map_eq_some_iff] at hv
      obtain ⟨r, hr, rfl⟩ := hv
      simp only [Bool.and_eq_true] at hb
      have := beq_iff.1 hb.1; subst this
      obtain ⟨h1, h2, h3⟩ := backObs_sound hr
      refine ⟨by simp [h1], by simp [h2], fun id' o' hm => ?_⟩
      rcases List.mem_cons.1 hm with hm | hm
      · injection hm with e1 e2; subst e1; subst e2; exact ⟨nm, o, by simp, by simp, hb.2, rfl⟩
      · obtain ⟨nm1, o1, k1, k2, k3⟩ := h3 id' o' hm
        exact ⟨nm1, o1, by simp [k1], by simp [k2], k3⟩

theorem callMany_sound (hR : Rel N w0 μ0 L μ loc st a w) (hcall : CallOK L.q μ0 P callF) {o : Oper} {c : Call} {f : Operand} {st1 : St} (hd : ∀ i, o.dst = some i → i < N) (ho : o.op = .call c) (hc : c.callee = .value f)
    (hv : callMany P h callF st c f o.dst = some st1) (hK : Goes N w0 μ0 L st1 K) : o.wpW P a w K Q := by
  unfold callMany at hv
  split at hv
  · rename_i g caps vs hf hvs
    simp only [] at hv
    generalize hids : closeIds st 200 ((vs ++ caps).flatMap SV.ids) [] = ids at hv
    generalize hmv : movable (o.dst.any h.stay.contains) st (rowIds (vs ++ caps)) = mv at hv
    generalize hm : nameAll mv 0 ids = m at hv
    cases hcond : (distinct ids && Nat.blt ids.length 10000 && (vs ++ caps).all (SV.closed ids)) with
    | false => rw [hcond] at hv; cases hv
    | true =>
    simp only [hcond, cond_true] at hv
    simp only [Bool.and_eq_true] at hcond
    obtain ⟨⟨hdis, hlen⟩, hclo⟩ := hcond
    have hlen : ids.length < 10000 := by simpa [Nat.blt_eq] using hlen
    have hnd := distinct_nodup hdis
    have hm1 : m.map (·.1) = ids := by rw [← hm]; exact nameAll_fst _ _ _
    have hrange : ∀ p ∈ m, (mv p.1 = true → 20000 ≤ p.2) ∧ (mv p.1 = false → 10000 ≤ p.2 ∧ p.2 < 20000) := by
      rw [← hm]
      intro p hp
      have := nameAll_range mv 0 ids (by omega) p hp
      exact ⟨fun e => by have := this.1 e; omega, fun e => by have := this.2 e; omega⟩
    have hnn : (m.map (·.2)).Nodup := by rw [← hm]; exact nameAll_nodup mv 0 ids (by omega)
    have hget : ∀ id nm, (id, nm) ∈ m → find m id = some nm := fun id nm hp => find_of_pair (by rw [hm1]; exact hnd) hp
    have hswap : ∀ id nm, (id, nm) ∈ m → find (swap m) nm = some id := fun id nm hp => find_of_pair (by rw [swap_map]; exact hnn) (mem_swap hp)
    have hex : ∀ id ∈ ids, ∃ nm, (id, nm) ∈ m := fun id hid => by
      rw [← hm1] at hid
      obtain ⟨p, hp, rfl⟩ := List.mem_map.1 hid
      exact ⟨p.2, hp⟩
    let locC : Nat → Value := fun nm => match find (swap m) nm with
      | some id => loc id
      | none => loc nm
    have hlocC : ∀ id nm, (id, nm) ∈ m → locC nm = loc id := fun id nm hp => by simp only [locC, hswap id nm hp]
    have hren : ∀ id nm, (id, nm) ∈ m → renOf m id = nm := fun id nm hp => by simp [renOf, hget id nm hp]
    have hren2 : ∀ id nm, (id, nm) ∈ m → renOf (swap m) nm = id := fun id nm hp => by simp [renOf, hswap id nm hp]
    have hρ : ∀ j ∈ ids, locC (renOf m j) = loc j := fun j hj => by
      obtain ⟨nm, hp⟩ := hex j hj
      rw [hren j nm hp, hlocC j nm hp]
    split at hv
    · rename_i lent hlent
      obtain ⟨hl1, hl2⟩ := lentObs_sound hlent
      have hlnd : (lent.map (·.1)).Nodup := by rw [hl1]; exact hnn
      split at hv
      · rename_i r lent' hr
        split at hv
        · rename_i back hback
          obtain ⟨hb1, hb2, hb3⟩ := backObs_sound hback
          have hbnd : (lent'.map (·.1)).Nodup := by rw [hb1]; exact hnn
          have hbid : back.map (·.1) = ids := by rw [hb2, hm1]
          cases hns : r.noSelf with
          | false => rw [hns] at hv; cases hv
          | true =>
          simp only [hns, cond_true, Option.some.injEq] at hv
          subst hv
          obtain ⟨sf, hsf, hfn⟩ := Option.bind_eq_some_iff.1 hf
          have hfv := opnd_sound hR hsf
          obtain ⟨cs, hfe, hcs⟩ : ∃ cs : List Value, a.eval f = .func (.func g) #[] cs.toArray ∧ repSs μ loc caps cs := by
            unfold fnSV at hfn
            split at hfn
            · simp only [Option.some.injEq, Prod.mk.injEq] at hfn
              obtain ⟨rfl, rfl⟩ := hfn
              simp only [repS, rep] at hfv
              obtain ⟨us, e, hu⟩ := hfv
              exact ⟨us, e, repSs_pv hu⟩
            · rename_i g' caps'
              simp only [Option.some.injEq, Prod.mk.injEq] at hfn
              obtain ⟨rfl, rfl⟩ := hfn
              obtain ⟨us, e, hu⟩ := hfv
              exact ⟨us, e, caps_sound hu⟩
            · cases hfn
          have hargs := argSVs_sound hR hvs
          have hall := repSs_ren hρ hclo (repSs_append hargs hcs)
          have hobs : ∀ i oi, find lent i = some oi → obOK w.heap.size (lentL L.q locC (lent.map (·.1))) μ locC w i oi := by
            intro i oi hi
            obtain ⟨id, ob, hp, hob, hoc, rfl⟩ := hl2 i oi (find_pair hi)
            refine obOK_ren hρ hoc (hR.obs id _ hob) (hlocC id i hp) (fun b hb => .inr ⟨loc id, ?_, hb⟩)
            have : i ∈ lent.map (·.1) := by rw [hl1]; exact List.mem_map.2 ⟨_, hp, rfl⟩
            simp only [lentL, if_pos this, hlocC id i hp]
          have hapC : Apart locC lent := by
            intro i j oi oj hi hj hij q hq
            obtain ⟨id, ob, hp, hob, _⟩ := hl2 i oi (find_pair hi)
            obtain ⟨id', ob', hp', hob', _⟩ := hl2 j oj (find_pair hj)
            rw [hlocC id i hp] at hq
            rw [hlocC id' j hp']
            refine hR.apart id id' ob ob' hob hob' (fun e => hij ?_) q hq
            subst e
            have := (hget id i hp).symm.trans (hget id j hp')
            injection this
          obtain ⟨he, hC⟩ := hcall g _ _ r _ hr w μ locC (c.args.toList.map a.eval ++ cs) hR.base.1 hR.pub hobs hapC hall
          refine wp_call (R := fun v w' => ∃ μ' loc', CallPost L.q μ locC (lent.map (·.1)) r lent' w v μ' loc' w') (r := r) (lent' := []) ho hc hfe rfl he (hC.mono ?_) ?_
          · rintro e w' ⟨v, μ', loc', rfl, hP⟩
            exact ⟨v, rfl, μ', loc', hP⟩
          rintro v w' ⟨μ', loc', hP⟩
          -- where the objects lie now
          let loc2 : Nat → Value := fun i => match find m i with
            | some nm => loc' nm
            | none => loc i
          have h2in : ∀ id nm, (id, nm) ∈ m → loc2 id = loc' nm := fun id nm hp => by simp only [loc2, hget id nm hp]
          have h2out : ∀ i, i ∉ ids.filter mv → loc2 i = loc i := by
            intro i hi
            cases hfi : find m i with
            | none => simp only [loc2, hfi]
            | some nm =>
              have hp := find_pair hfi
              have hmem : i ∈ ids := by rw [← hm1]; exact List.mem_map.2 ⟨_, hp, rfl⟩
              have hmv0 : mv i = false := by
                cases hx : mv i with
                | false => rfl
                | true => exact absurd (List.mem_filter.2 ⟨hmem, hx⟩) hi
              rw [h2in i nm hp, hP.fix nm (by rw [hl1]; exact List.mem_map.2 ⟨_, hp, rfl⟩) ((hrange _ hp).2 hmv0).2]
              exact hlocC i nm hp
          have hlb : ∀ b, lentB (lentL L.q locC (lent.map (·.1))) b → ∃ id ob, id ∈ ids ∧ st.ob id = some ob ∧ inB (loc id) b := by
            rintro b ⟨nm, x, hx, hbx⟩
            simp only [lentL] at hx
            split at hx
            · rename_i hmem
              injection hx with hx; subst hx
              rw [hl1] at hmem
              obtain ⟨p, hp, rfl⟩ := List.mem_map.1 hmem
              rw [hlocC p.1 p.2 hp] at hbx
              obtain ⟨q, hq, e⟩ := List.mem_map.1 (show p.2 ∈ lent.map (·.1) by rw [hl1]; exact List.mem_map.2 ⟨_, hp, rfl⟩)
              obtain ⟨id, ob, k1, k2, _⟩ := hl2 q.1 q.2 hq
              rw [e] at k1
              have := (hswap p.1 p.2 hp).symm.trans (hswap id p.2 k1)
              injection this with this
              exact ⟨p.1, ob, by rw [← hm1]; exact List.mem_map.2 ⟨_, hp, rfl⟩, by rw [this]; exact k2, hbx⟩
            · cases hx
          have holdob : ∀ i oi, st.ob i = some oi → i ∉ ids → obOK w0.heap.size L μ' loc w' i oi := by
            intro i oi hi hni
            refine (hR.obs i oi hi).keep hP.ext.1 (fun b hb => ?_)
            obtain ⟨_, hlt, hmu⟩ := (hR.obs i oi hi).block b hb
            refine ⟨hP.keep b hlt (fun hl => ?_), fun j => ?_⟩
            · obtain ⟨id, ob, h1, h2, h3⟩ := hlb b hl
              exact hR.apart id i ob oi h2 hi (fun e => hni (by rw [← e]; exact h1)) b h3 hb
            · cases hj : μ' b j with
              | none => rfl
              | some x =>
                rcases hP.ext.2 b j x hj with hx | hx
                · rw [hmu j] at hx; cases hx
                · omega
          have hback' : ∀ id o', find back id = some o' → ∃ nm o, (id, nm) ∈ m ∧ find lent' nm = some o ∧ o.closed (m.map (·.2)) = true ∧ o' = o.ren (renOf (swap m)) := by
            intro id o' hfb
            obtain ⟨nm, o, h1, h2, h3, h4⟩ := hb3 id o' (find_pair hfb)
            exact ⟨nm, o, h1, find_of_pair hbnd h2, h3, h4⟩
          have hownback : ∀ id nm ob b, (id, nm) ∈ m → find lent' nm = some ob → inB (loc' nm) b → w.heap.size ≤ b ∨ inB (loc id) b := by
            intro id nm ob b hp hfo hb
            rcases ((hP.obs nm ob hfo).block b hb).1 with hx | ⟨x, hx, hbx⟩
            · exact .inl hx
            · right
              simp only [lentL] at hx
              split at hx
              · injection hx with hx; subst hx; rw [hlocC id nm hp] at hbx; exact hbx
              · cases hx
          have hobin : ∀ id nm, (id, nm) ∈ m → ∃ ob, st.ob id = some ob := by
            intro id nm hp
            obtain ⟨q, hq, e⟩ := List.mem_map.1 (show nm ∈ lent.map (·.1) by rw [hl1]; exact List.mem_map.2 ⟨_, hp, rfl⟩)
            obtain ⟨id', ob, k1, k2, _⟩ := hl2 q.1 q.2 hq
            rw [e] at k1
            have := (hswap id nm hp).symm.trans (hswap id' nm k1)
            injection this with this
            exact ⟨ob, by rw [this]; exact k2⟩
          have hobs2 : ∀ i oi, ((find back i).orElse fun _ => (purgeIds (ids.filter mv) st).ob i) = some oi → obOK w0.heap.size L μ' loc2 w' i oi ∧ ((∃ nm o, (i, nm) ∈ m ∧ find lent' nm = some o) ∨ (i ∉ ids ∧ ∃ o, st.ob i = some o)) := by
            intro i oi hi
            cases hfb : find back i with
            | some o' =>
              rw [hfb] at hi
              simp at hi; subst hi
              obtain ⟨nm, ob, hp, hfo, hcl, rfl⟩ := hback' i o' hfb
              refine ⟨obOK_ren (names := m.map (·.2)) (fun j hj => ?_) hcl (hP.obs nm ob hfo) (h2in i nm hp) (fun b hb => ?_), .inl ⟨nm, ob, hp, hfo⟩⟩
              · obtain ⟨q, hq, rfl⟩ := List.mem_map.1 hj
                rw [hren2 q.1 q.2 hq, h2in q.1 q.2 hq]
              · rcases hownback i nm ob b hp hfo hb with hx | hx
                · exact .inl (Nat.le_trans hR.grown hx)
                · obtain ⟨ob0, hob0⟩ := hobin i nm hp
                  exact ((hR.obs i ob0 hob0).block b hx).1
            | none =>
              rw [hfb] at hi
              have hni : i ∉ ids := by rw [← hbid]; exact find_none hfb
              have hi' : (purgeIds (ids.filter mv) st).ob i = some oi := by simpa using hi
              obtain ⟨_, ob, hob, hk⟩ := purgeIds_ob _ st loc loc2 h2out i oi hi'
              exact ⟨hk _ _ _ _ (holdob i ob hob hni), .inr ⟨hni, ob, hob⟩⟩
          refine hK _ _ μ' loc2 (Rel.set (sv := .pv r) ?_ hd (hP.pure hns))
          refine ⟨hR.small, hR.names, ?_, hR.size, hR.defers, ?_, hP.pub, ⟨hR.base.1.trans hP.ext.1, ?_⟩, fun i oi hi => (hobs2 i oi hi).1, ?_, ?_, hP.os.trans hR.os, hP.tape.trans hR.tape, hP.output.trans hR.output, Nat.le_trans hR.grown hP.grown, fun q => Nat.le_trans (hR.drawn q) (hP.drawn q)⟩
          · intro id x hx hlt
            rw [h2out id (fun hmem => ?_)]
            · exact hR.fix id x hx hlt
            · have hmt := (List.mem_filter.1 hmem).2
              rw [← hmv] at hmt
              simp only [movable, Bool.and_eq_true, mayMove, Bool.or_eq_true] at hmt
              rcases hmt.1.1.2 with hh | hh
              · have : id < 10000 := by simpa [Nat.blt_eq] using hh
                rw [hR.names id this] at hx; cases hx
              · have := Nat.le_of_ble_eq_true hh.1; omega
          · exact purgeIds_env (tm := fun i => a.tmps[i]?) _ st loc loc2 h2out (fun i s hs => by
              obtain ⟨u, hu, hr⟩ := hR.env i s hs
              exact ⟨u, hu, repS_mono hP.ext.1 hr⟩)
          · intro b j x hx
            rcases hP.ext.2 b j x hx with hx | hx
            · exact hR.base.2 b j x hx
            · exact .inr (Nat.le_trans hR.grown hx)
          · intro i j oi oj hi hj hij q hq
            have outblk : ∀ k ok, k ∉ ids → st.ob k = some ok → ∀ q, inB (loc2 k) q → inB (loc k) q ∧ q < w.heap.size := by
              intro k ok hk hok q hq
              have : loc2 k = loc k := h2out k (fun hm => hk (List.mem_filter.1 hm).1)
              rw [this] at hq
              exact ⟨hq, ((hR.obs k ok hok).block q hq).2.1⟩
            have mixed : ∀ i nm o j oj q, (i, nm) ∈ m → find lent' nm = some o → j ∉ ids → st.ob j = some oj → inB (loc2 i) q → inB (loc2 j) q → False := by
              intro i nm o j oj q hp hfo hj hoj hqi hqj
              obtain ⟨hqj', hlt⟩ := outblk j oj hj hoj q hqj
              rw [h2in i nm hp] at hqi
              rcases hownback i nm o q hp hfo hqi with hx | hx
              · omega
              · obtain ⟨ob0, hob0⟩ := hobin i nm hp
                exact hR.apart i j ob0 oj hob0 hoj (fun e => hj (by rw [← e, ← hm1]; exact List.mem_map.2 ⟨_, hp, rfl⟩)) q hx hqj'
            rcases (hobs2 i oi hi).2 with ⟨nm, o, hp, hfo⟩ | ⟨hni, ob, hob⟩
            · rcases (hobs2 j oj hj).2 with ⟨nm', o', hp', hfo'⟩ | ⟨hnj, ob', hob'⟩
              · rw [h2in i nm hp] at hq
                rw [h2in j nm' hp']
                refine hP.apart nm nm' o o' hfo hfo' (fun e => hij ?_) q hq
                subst e
                have := (hswap i nm hp).symm.trans (hswap j nm hp')
                injection this
              · exact fun hqj => mixed i nm o j ob' q hp hfo hnj hob' hq hqj
            · rcases (hobs2 j oj hj).2 with ⟨nm', o', hp', hfo'⟩ | ⟨hnj, ob', hob'⟩
              · exact fun hqj => mixed j nm' o' i ob q hp' hfo' hni hob hqj hq
              · obtain ⟨hqi, _⟩ := outblk i ob hni hob q hq
                intro hqj
                obtain ⟨hqj, _⟩ := outblk j ob' hnj hob' q hqj
                exact hR.apart i j ob ob' hob hob' hij q hqi hqj
          · intro b hb hl
            refine (hP.keep b (Nat.lt_of_lt_of_le hb hR.grown) (fun hl' => ?_)).trans (hR.keep b hb hl)
            obtain ⟨id, ob, _, h2, h3⟩ := hlb b hl'
            rcases ((hR.obs id ob h2).block b h3).1 with hx | ⟨x, hx, hbx⟩
            · omega
            · exact hl ⟨id, x, hx, hbx⟩
        · cases hv
      · cases hv
    · cases hv
  · cases hv

/-! the same -/
mutual
theorem AV.same_eq : ∀ (a b : AV), AV.same a b = true → a = b
  | .bool a, b => by cases b <;> simp [AV.same]
  | .int k a, b => by cases b <;> simp [AV.same]
  | .str a, b => by cases b <;> simp [AV.same]
  | .lst s xs, b => by
    cases b <;> simp only [AV.same, Bool.and_eq_true, Bool.false_eq_true, false_imp_iff]
    rintro ⟨h1, h2⟩
    rw [beq_iff.1 h1, sameR_eq _ _ h2]
  | .agg a, b => by
    cases b <;> simp only [AV.same, Bool.false_eq_true, false_imp_iff]
    intro h; rw [sameC_eq _ _ h]
  | .fn f a, b => by
    cases b <;> simp only [AV.same, Bool.and_eq_true, Bool.false_eq_true, false_imp_iff]
    rintro ⟨h1, h2⟩
    rw [beq_iff.1 h1, sameC_eq _ _ h2]
  | .tup a, b => by
    cases b <;> simp only [AV.same, Bool.false_eq_true, false_imp_iff]
    intro h; rw [sameC_eq _ _ h]
  | .ref a, b => by
    cases b <;> simp only [AV.same, Bool.false_eq_true, false_imp_iff]
    intro h; rw [sameC_eq _ _ h]
  | .mp a b, c => by
    cases c <;> simp only [AV.same, Bool.and_eq_true, Bool.false_eq_true, false_imp_iff]
    rintro ⟨h1, h2⟩
    rw [sameC_eq _ _ h1, sameC_eq _ _ h2]
  | .self n, b => by
    cases b <;> simp only [AV.same, Bool.false_eq_true, false_imp_iff]
    intro h; rw [beq_iff.1 h]
  | .nilp, b => by cases b <;> simp [AV.same]
  | .nils, b => by cases b <;> simp [AV.same]
theorem sameC_eq : ∀ (a b : List AV), sameC a b = true → a = b
  | [], [] => fun _ => rfl
  | [], _ :: _ => fun h => by simp [sameC] at h
  | _ :: _, [] => fun h => by simp [sameC] at h
  | x :: l, y :: m => fun h => by
    simp only [sameC, Bool.and_eq_true] at h
    rw [AV.same_eq x y h.1, sameC_eq l m h.2]
theorem sameR_eq : ∀ (a b : List (List AV)), sameR a b = true → a = b
  | [], [] => fun _ => rfl
  | [], _ :: _ => fun h => by simp [sameR] at h
  | _ :: _, [] => fun h => by simp [sameR] at h
  | x :: l, y :: m => fun h => by
    simp only [sameR, Bool.and_eq_true] at h
    rw [sameC_eq x y h.1, sameR_eq l m h.2]
end
mutual
theorem AV.same_self : ∀ a : AV, AV.same a a = true
  | .bool a => by simp [AV.same]
  | .int k a => by simp [AV.same]
  | .str a => by simp [AV.same]
  | .lst s xs => by simp [AV.same, Nat.beq_refl, sameR_self xs]
  | .agg a => by simp [AV.same, sameC_self a]
  | .fn f a => by simp [AV.same, Nat.beq_refl, sameC_self a]
  | .tup a => by simp [AV.same, sameC_self a]
  | .ref a => by simp [AV.same, sameC_self a]
  | .mp a b => by simp [AV.same, sameC_self a, sameC_self b]
  | .self n => by simp [AV.same, Nat.beq_refl]
  | .nilp => by simp [AV.same]
  | .nils => by simp [AV.same]
theorem sameC_self : ∀ a : List AV, sameC a a = true
  | [] => rfl
  | x :: l => by simp [sameC, AV.same_self x, sameC_self l]
theorem sameR_self : ∀ a : List (List AV), sameR a a = true
  | [] => rfl
  | x :: l => by simp [sameR, sameC_self x, sameR_self l]
end
theorem Cap.same_eq {a b : Cap} (h : a.same b = true) : a = b := by
  cases a <;> cases b <;> simp only [Cap.same, Bool.false_eq_true] at h
  · rw [AV.same_eq _ _ h]
  · rw [beq_iff.1 h]
  · rw [beq_iff.1 h]
theorem Cap.same_self (a : Cap) : a.same a = true := by
  cases a <;> simp [Cap.same, AV.same_self, Nat.beq_refl]
theorem sameCaps_eq : ∀ {a b : List Cap}, sameCaps a b = true → a = b
  | [], [] => fun _ => rfl
  | [], _ :: _ => fun h => by simp [sameCaps] at h
  | _ :: _, [] => fun h => by simp [sameCaps] at h
  | x :: l, y :: m => fun h => by
    simp only [sameCaps, Bool.and_eq_true] at h
    rw [Cap.same_eq h.1, sameCaps_eq h.2]
theorem sameCaps_self : ∀ a : List Cap, sameCaps a a = true
  | [] => rfl
  | x :: l => by simp [sameCaps, Cap.same_self x, sameCaps_self l]
theorem SV.same_eq {a b : SV} (h : a.same b = true) : a = b := by
  induction a generalizing b with
  | two s x ih =>
    cases b <;> simp only [SV.same, Bool.and_eq_true, Bool.false_eq_true] at h
    rw [ih h.1, beq_iff_eq.1 h.2]
  | undef => cases b <;> simp only [SV.same, Bool.false_eq_true] at h; rfl
  | any => cases b <;> simp only [SV.same, Bool.false_eq_true] at h; rfl
  | pv x => cases b <;> simp only [SV.same, Bool.false_eq_true] at h; rw [AV.same_eq _ _ h]
  | ptr x y => cases b <;> simp only [SV.same, Bool.and_eq_true, Bool.false_eq_true] at h; rw [beq_iff.1 h.1, beq_iff.1 h.2]
  | row x => cases b <;> simp only [SV.same, Bool.false_eq_true] at h; rw [beq_iff.1 h]
  | rp x y z u => cases b <;> simp only [SV.same, Bool.and_eq_true, Bool.false_eq_true] at h; rw [beq_iff.1 h.1.1.1, beq_iff.1 h.1.1.2, beq_iff.1 h.1.2, beq_iff.1 h.2]
  | sub x y z u => cases b <;> simp only [SV.same, Bool.and_eq_true, Bool.false_eq_true] at h; rw [beq_iff.1 h.1.1.1, beq_iff.1 h.1.1.2, beq_iff.1 h.1.2, beq_iff.1 h.2]
  | cp x => cases b <;> simp only [SV.same, Bool.false_eq_true] at h; rw [sameC_eq _ _ h]
  | cl f x => cases b <;> simp only [SV.same, Bool.and_eq_true, Bool.false_eq_true] at h; rw [beq_iff.1 h.1, sameCaps_eq h.2]
  | ag x => cases b <;> simp only [SV.same, Bool.false_eq_true] at h; rw [sameCaps_eq h]
theorem SV.same_self (a : SV) : a.same a = true := by
  induction a <;> simp [SV.same, AV.same_self, Nat.beq_refl, sameC_self, sameCaps_self, *]
theorem sameSVs_eq : ∀ {a b : List SV}, sameSVs a b = true → a = b
  | [], [] => fun _ => rfl
  | [], _ :: _ => fun h => by simp [sameSVs] at h
  | _ :: _, [] => fun h => by simp [sameSVs] at h
  | x :: l, y :: m => fun h => by
    simp only [sameSVs, Bool.and_eq_true] at h
    rw [SV.same_eq h.1, sameSVs_eq h.2]
theorem sameSVs_self : ∀ a : List SV, sameSVs a a = true
  | [] => rfl
  | x :: l => by simp [sameSVs, SV.same_self x, sameSVs_self l]
theorem sameOR_eq : ∀ {a b : List (Option (List (List AV)))}, sameOR a b = true → a = b
  | [], [] => fun _ => rfl
  | [], _ :: _ => fun h => by simp [sameOR] at h
  | none :: _, [] => fun h => by simp [sameOR] at h
  | some _ :: _, [] => fun h => by simp [sameOR] at h
  | some x :: l, some y :: m => fun h => by
    simp only [sameOR, Bool.and_eq_true] at h
    rw [sameR_eq _ _ h.1, sameOR_eq h.2]
  | none :: l, none :: m => fun h => by
    simp only [sameOR] at h
    rw [sameOR_eq h]
  | some _ :: _, none :: _ => fun h => by simp [sameOR] at h
  | none :: _, some _ :: _ => fun h => by simp [sameOR] at h
theorem sameOR_self : ∀ a : List (Option (List (List AV))), sameOR a a = true
  | [] => rfl
  | some x :: l => by simp [sameOR, sameR_self x, sameOR_self l]
  | none :: l => by simp [sameOR, sameOR_self l]
theorem Ob.same_eq {a b : Ob} (h : a.same b = true) : a = b := by
  cases a <;> cases b <;> simp only [Ob.same, Bool.and_eq_true, Bool.false_eq_true] at h
  · rw [beq_iff.1 h.1, sameSVs_eq h.2]
  · rw [beq_iff.1 h.1.1, beq_iff.1 h.1.2, sameR_eq _ _ h.2]
  · rw [beq_iff.1 h.1.1.1, beq_iff.1 h.1.1.2, sameC_eq _ _ h.1.2, sameC_eq _ _ h.2]
  · rw [beq_iff.1 h.1.1.1.1, beq_iff.1 h.1.1.1.2, beq_iff.1 h.1.1.2, sameC_eq _ _ h.1.2, sameOR_eq h.2]
  · rw [of_decide_eq_true h.1, beq_iff.1 h.2]
theorem Ob.same_self (a : Ob) : a.same a = true := by
  cases a <;> simp [Ob.same, sameR_self, Nat.beq_refl, sameC_self, sameSVs_self, sameOR_self]
theorem sameObs_eq : ∀ {a b : List (Nat × Ob)}, sameObs a b = true → a = b
  | [], [] => fun _ => rfl
  | [], _ :: _ => fun h => by simp [sameObs] at h
  | _ :: _, [] => fun h => by simp [sameObs] at h
  | (i, x) :: l, (j, y) :: m => fun h => by
    simp only [sameObs, Bool.and_eq_true] at h
    rw [beq_iff.1 h.1.1, Ob.same_eq h.1.2, sameObs_eq h.2]
theorem sameObs_self : ∀ a : List (Nat × Ob), sameObs a a = true
  | [] => rfl
  | (i, x) :: l => by simp [sameObs, Nat.beq_refl, Ob.same_self x, sameObs_self l]

/-! there and back -/
theorem Cap.ren_back {ρ ρ' : Nat → Nat} {ids : List Nat} (h : ∀ j ∈ ids, ρ' (ρ j) = j) : ∀ {cs : List Cap}, SV.closed ids (.cl 0 cs) = true → (cs.map (Cap.ren ρ)).map (Cap.ren ρ') = cs
  | [], _ => rfl
  | c :: cs, hc => by
    simp only [SV.closed, List.all_cons, Bool.and_eq_true] at hc
    simp only [List.map_cons]
    rw [Cap.ren_back h (by simpa [SV.closed] using hc.2)]
    cases c with
    | v a => rfl
    | p id => simp only [Cap.ren]; rw [h id (by simpa using hc.1)]
    | r id => simp only [Cap.ren]; rw [h id (by simpa using hc.1)]
theorem SV.ren_back {ρ ρ' : Nat → Nat} {ids : List Nat} (h : ∀ j ∈ ids, ρ' (ρ j) = j) {s : SV} (hc : s.closed ids = true) : (s.ren ρ).ren ρ' = s := by
  induction s with
  | two s b ih => simp only [SV.ren]; rw [ih (by simpa [SV.closed] using hc)]
  | ptr j off => simp only [SV.ren]; rw [h j (by simpa [SV.closed] using hc)]
  | row j => simp only [SV.ren]; rw [h j (by simpa [SV.closed] using hc)]
  | rp j sz i off => simp only [SV.ren]; rw [h j (by simpa [SV.closed] using hc)]
  | sub j sz lo hi => simp only [SV.ren]; rw [h j (by simpa [SV.closed] using hc)]
  | cl f caps => simp only [SV.ren]; rw [Cap.ren_back h (by simpa [SV.closed] using hc)]
  | ag caps => simp only [SV.ren]; rw [Cap.ren_back h (by simpa [SV.closed] using hc)]
  | _ => rfl
theorem caps_closed_ren {ρ : Nat → Nat} {ids names : List Nat} (h : ∀ j ∈ ids, ρ j ∈ names) : ∀ {cs : List Cap}, SV.closed ids (.cl 0 cs) = true → SV.closed names (.cl 0 (cs.map (Cap.ren ρ))) = true
  | [], _ => rfl
  | c :: cs, hc => by
    simp only [SV.closed, List.all_cons, Bool.and_eq_true] at hc
    have ih := caps_closed_ren h (cs := cs) (by simpa [SV.closed] using hc.2)
    simp only [SV.closed, List.map_cons, List.all_cons, Bool.and_eq_true]
    refine ⟨?_, by simpa [SV.closed] using ih⟩
    cases c with
    | v a => rfl
    | p id => simpa [Cap.ren] using h id (by simpa using hc.1)
    | r id => simpa [Cap.ren] using h id (by simpa using hc.1)
theorem SV.closed_ren {ρ : Nat → Nat} {ids names : List Nat} (h : ∀ j ∈ ids, ρ j ∈ names) {s : SV} (hc : s.closed ids = true) : (s.ren ρ).closed names = true := by
  induction s with
  | two s b ih => simp only [SV.ren, SV.closed]; exact ih (by simpa [SV.closed] using hc)
  | ptr j off => simpa [SV.ren, SV.closed] using h j (by simpa [SV.closed] using hc)
  | row j => simpa [SV.ren, SV.closed] using h j (by simpa [SV.closed] using hc)
  | rp j sz i off => simpa [SV.ren, SV.closed] using h j (by simpa [SV.closed] using hc)
  | sub j sz lo hi => simpa [SV.ren, SV.closed] using h j (by simpa [SV.closed] using hc)
  | cl f caps => have := caps_closed_ren h (cs := caps) (by simpa [SV.closed] using hc); simpa [SV.ren, SV.closed] using this
  | ag caps => have := caps_closed_ren h (cs := caps) (by simpa [SV.closed] using hc); simpa [SV.ren, SV.closed] using this
  | _ => rfl
theorem Ob.ren_back {ρ ρ' : Nat → Nat} {ids : List Nat} (h : ∀ j ∈ ids, ρ' (ρ j) = j) {o : Ob} (hc : o.closed ids = true) : (o.ren ρ).ren ρ' = o := by
  cases o with
  | box t cells =>
    simp only [Ob.ren, List.map_map]
    congr 1
    simp only [Ob.closed, List.all_eq_true] at hc
    exact (List.map_congr_left fun s hs => SV.ren_back h (hc s hs)).trans (List.map_id _)
  | _ => rfl
theorem Ob.closed_ren {ρ : Nat → Nat} {ids names : List Nat} (h : ∀ j ∈ ids, ρ j ∈ names) {o : Ob} (hc : o.closed ids = true) : (o.ren ρ).closed names = true := by
  cases o with
  | box t cells =>
    simp only [Ob.closed, List.all_eq_true] at hc
    simp only [Ob.ren, Ob.closed, List.all_eq_true, List.mem_map]
    rintro _ ⟨s, hs, rfl⟩
    exact SV.closed_ren h (hc s hs)
  | mr k e s ks vs => simp [Ob.closed] at hc
  | _ => rfl
theorem back_lent {ids names : List Nat} {ρ ρ' : Nat → Nat} (h1 : ∀ j ∈ ids, ρ' (ρ j) = j) (h2 : ∀ j ∈ ids, ρ j ∈ names) : ∀ {l : List (Nat × Nat)} {lent : List (Nat × Ob)}, lentObs st ids ρ l = some lent → ∃ back, backObs names ρ' l lent = some back ∧ ∀ i o, find back i = some o → st.ob i = some o
  | [], lent, hv => by
    simp only [lentObs, Option.some.injEq] at hv
    subst hv
    exact ⟨[], rfl, fun i o h => by simp [find] at h⟩
  | (id, nm) :: l, lent, hv => by
    simp only [lentObs] at hv
    split at hv
    · rename_i o os ho hos
      obtain ⟨hc, hv⟩ := (show o.closed ids = true ∧ some ((nm, o.ren ρ) :: os) = some lent from by
        cases hc : o.closed ids with
        | false => rw [hc] at hv; cases hv
        | true => rw [hc] at hv; exact ⟨rfl, hv⟩)
      injection hv with hv
      subst hv
      obtain ⟨back, hb, hg⟩ := back_lent h1 h2 hos
      refine ⟨(id, (o.ren ρ).ren ρ') :: back, ?_, fun i o' hf => ?_⟩
      · simp only [backObs, Nat.beq_refl, Ob.closed_ren h2 hc, Bool.and_self, cond_true, hb, Option.map_some]
      · simp only [find] at hf
        cases hbq : Nat.beq id i with
        | true =>
          simp only [hbq, cond_true, Option.some.injEq] at hf
          rw [← beq_iff.1 hbq, ho, ← hf, Ob.ren_back h1 hc]
        | false => simp only [hbq, cond_false] at hf; exact hg i o' hf
    · cases hv

theorem callRO_many {c : Call} {f : Operand} {r : AV} {d : Option Nat} (hst : d.any h.stay.contains = true) (hv : callRO P h callF st c f = some r) : callMany P h callF st c f d = some (st.set d (.pv r)) := by
  unfold callRO at hv
  split at hv
  · rename_i g args hargs
    unfold roArgs at hargs
    split at hargs
    · rename_i g' caps vs hf hvs
      simp only [Option.some.injEq, Prod.mk.injEq] at hargs
      obtain ⟨rfl, rfl⟩ := hargs
      have hmv : movable (d.any h.stay.contains) st (rowIds (vs ++ caps)) = fun _ => false := by
        funext id; simp only [movable, hst, Bool.not_true, Bool.and_false]
      have hids : closeIds st 200 ((vs ++ caps).flatMap SV.ids) [] = roIds st (vs ++ caps) := rfl
      generalize roIds st (vs ++ caps) = ids at hv hids
      have hm : nameAll (fun _ => false) 0 ids = roNames ids := rfl
      cases hcond : (distinct ids && Nat.blt ids.length 10000 && (vs ++ caps).all (SV.closed ids)) with
      | false => rw [hcond] at hv; cases hv
      | true =>
      simp only [hcond, cond_true] at hv
      have hcond' := hcond
      simp only [Bool.and_eq_true] at hcond'
      obtain ⟨⟨hdis, hlen⟩, hclo⟩ := hcond'
      have hlen : ids.length < 10000 := by simpa [Nat.blt_eq] using hlen
      have hnd := distinct_nodup hdis
      have hm1 : (roNames ids).map (·.1) = ids := nameAll_fst _ _ _
      have hnn : ((roNames ids).map (·.2)).Nodup := nameAll_nodup _ 0 ids (by omega)
      have hget : ∀ id nm, (id, nm) ∈ roNames ids → find (roNames ids) id = some nm := fun id nm hp => find_of_pair (by rw [hm1]; exact hnd) hp
      have hswap : ∀ id nm, (id, nm) ∈ roNames ids → find (swap (roNames ids)) nm = some id := fun id nm hp => find_of_pair (by rw [swap_map]; exact hnn) (mem_swap hp)
      have hex : ∀ id ∈ ids, ∃ nm, (id, nm) ∈ roNames ids := fun id hid => by
        rw [← hm1] at hid
        obtain ⟨p, hp, rfl⟩ := List.mem_map.1 hid
        exact ⟨p.2, hp⟩
      split at hv
      · rename_i lent hlent
        split at hv
        · rename_i r' lent' hr
          cases hs : (sameObs lent' lent && r'.noSelf) with
          | false => rw [hs] at hv; cases hv
          | true =>
            rw [hs] at hv
            simp only [cond_true, Option.some.injEq] at hv
            subst hv
            simp only [Bool.and_eq_true] at hs
            have e := sameObs_eq hs.1
            subst e
            obtain ⟨back, hb, hg⟩ := back_lent (ids := ids) (names := (roNames ids).map (·.2)) (ρ := renOf (roNames ids)) (ρ' := renOf (swap (roNames ids))) (fun j hj => by
              obtain ⟨nm, hp⟩ := hex j hj
              simp [renOf, hget j nm hp, hswap j nm hp]) (fun j hj => by
              obtain ⟨nm, hp⟩ := hex j hj
              simp only [renOf, hget j nm hp, Option.getD_some]
              exact List.mem_map.2 ⟨(j, nm), hp, rfl⟩) hlent
            unfold callMany
            simp only [hf, hvs, hmv, hids, hm, hcond, cond_true, hlent, hr, hb, hs.2]
            have e1 : purgeIds (ids.filter fun _ => false) st = st := by
              have e0 : (ids.filter fun _ => false) = [] := List.filter_eq_nil_iff.2 (fun _ _ => by decide)
              rw [e0]; rfl
            rw [e1]
            congr 2
            congr 1
            funext i
            cases hfi : find back i with
            | none => rfl
            | some o => rw [hg i o hfi]; rfl
        · cases hv
      · cases hv
    · cases hargs
  · cases hv
theorem pureArgs_sound (hR : Rel N w0 μ0 L μ loc st a w) {b : Bool} : ∀ {xs : List Operand} {ts : List TypeId} {vs : List AV}, pureArgs P b st xs ts = some vs → repAll μ vs (xs.map a.eval) := by
  intro xs
  induction xs with
  | nil => intro ts vs hv; simp only [pureArgs, Option.some.injEq] at hv; subst hv; exact repAll_nil
  | cons x xs ih =>
    intro ts vs hv
    simp only [pureArgs] at hv
    split at hv
    · rename_i v us hx hus
      injection hv with hv; subst hv
      refine repAll_cons ?_ (ih hus)
      unfold pureArg at hx
      cases hb : (b && isNilS x) with
      | true =>
        rw [hb] at hx
        simp only [cond_true, Option.some.injEq] at hx
        subst hx
        rw [rep]
        have := (Bool.and_eq_true_iff.1 hb).2
        unfold isNilS at this
        split at this
        · rfl
        · cases this
      | false =>
        rw [hb] at hx
        simp only [cond_false] at hx
        obtain ⟨s, hs, hp⟩ := Option.bind_eq_some_iff.1 hx
        have := opnd_sound hR hs
        cases s <;> simp [pure?] at hp
        subst hp
        exact this
    · cases hv
theorem nilCaps_sound : ∀ {cs : List AV} {l : List (Nat × TypeId × Nat)} {ks : List Cap} {vs : List Value}, nilCaps cs l = some ks → (∀ x ∈ l, loc x.1 = .slice none 0 0) → repAll μ cs vs → repCaps μ loc ks vs
  | [], l, ks, vs, hv, _, hr => by
    simp only [nilCaps, Option.some.injEq] at hv; subst hv
    simpa [repAll, repCaps] using hr
  | a :: cs, l, ks, vs, hv, hl, hr => by
    obtain ⟨u, us, rfl, h1, h2⟩ := hr
    have other : ∀ {k' : List Cap}, nilCaps cs l = some k' → repCaps μ loc (.v a :: k') (u :: us) := fun hk => ⟨u, us, rfl, h1, nilCaps_sound hk hl h2⟩
    cases a with
    | nils =>
      cases l with
      | nil => simp [nilCaps] at hv
      | cons x l =>
        simp only [nilCaps, Option.map_eq_some_iff] at hv
        obtain ⟨k', hk, rfl⟩ := hv
        rw [rep] at h1
        refine ⟨u, us, rfl, ?_, nilCaps_sound hk (fun y hy => hl y (by simp [hy])) h2⟩
        show u = baseV (loc x.1)
        rw [hl x (by simp), h1]; rfl
    | _ =>
      simp only [nilCaps, Option.map_eq_some_iff] at hv
      obtain ⟨k', hk, rfl⟩ := hv
      exact other hk
theorem callOwn_sound (hR : Rel N w0 μ0 L μ loc st a w) (hcall : CallOK L.q μ0 P callF) {o : Oper} {c : Call} {f : Operand} {st1 : St} (hd : ∀ i, o.dst = some i → i < N) (ho : o.op = .call c) (hc : c.callee = .value f)
    (hv : callOwn P h callF st c f o.dst = some st1) (hK : Goes N w0 μ0 L st1 K) : o.wpW P a w K Q := by
  unfold callOwn at hv
  split at hv
  · rename_i d hdst
    split at hv
    · rename_i g caps vs hf hvs
      obtain ⟨cs, hfe, hcs⟩ := fn_sound hR hf
      have main : ∀ {r : AV}, callF g ((vs ++ caps).map .pv) [] = some (r, []) → (∀ v w' μ' loc', CallPost L.q μ loc [] r [] w v μ' loc' w' → Rel N w0 μ0 L μ' loc st a w' → K (a.put o.dst v) w') → o.wpW P a w K Q := fun {r} hr hk => by
        obtain ⟨he, hC⟩ := hcall g _ [] _ [] hr w μ loc (c.args.toList.map a.eval ++ cs) hR.base.1 hR.pub (by simp [find]) (by intro i j oi oj hi; simp [find] at hi) (repSs_pv (repAll_append (pureArgs_sound hR hvs) hcs))
        refine wp_call (R := fun v w' => ∃ μ' loc', CallPost L.q μ loc [] r [] w v μ' loc' w') (r := r) (lent' := []) ho hc hfe rfl he (hC.mono ?_) ?_
        · rintro e' w' ⟨v, μ', loc', rfl, hP⟩
          exact ⟨v, rfl, μ', loc', hP⟩
        · rintro v w' ⟨μ', loc', hP⟩
          exact hk v w' μ' loc' hP (hR.grow hP.ext hP.pub (below_of hP) hP.drawn)
      split at hv
      · rename_i e sz xs hr
        cases hn : (nilAt h d).isSome with
        | true => rw [hn] at hv; cases hv
        | false =>
        rw [hn] at hv
        simp only [cond_false, Option.some.injEq] at hv
        subst hv
        refine main hr fun v w' μ' loc' hP h1 => ?_
        obtain ⟨us, hown, hrc, hblk⟩ : ∃ us, w'.ownsRow 0 e sz v xs.length us ∧ rowCells μ' sz xs us ∧ ∀ g, blockOf v = some g → w.heap.size ≤ g ∧ ∀ j, μ' g j = none := by
          rcases hP.res with hx | ⟨_, _, _, _, e1, _⟩ | ⟨e2, sz2, xs2, us, e1, k1, k2, k3⟩
          · simp only [rep, repAll] at hx
            obtain ⟨_, _, ⟨_, _, _, hx, _⟩⟩ := hx
            exact hx.elim
          · cases e1
          · simp only [AV.tup.injEq, List.cons.injEq, AV.self.injEq, AV.lst.injEq, and_true] at e1
            obtain ⟨rfl, rfl, rfl⟩ := e1
            exact ⟨us, k1, k2, fun g hg => ⟨(k3 g hg).1, (k3 g hg).2.1⟩⟩
        have hdN := hd d hdst
        have hin : ∀ g, inB v g → blockOf v = some g := fun g hg => by
          rcases hg with hg | ⟨us', e1, _⟩
          · exact hg
          · subst e1
            rcases hown.2 with ⟨e2, _⟩ | ⟨_, _, _, e2, _⟩ <;> cases e2
        have h2 := h1.new (id := d) (val := v) (o := .row e sz xs) (.inl (Nat.lt_of_lt_of_le hdN hR.small)) ⟨us, by rw [upd_same]; exact hown, hrc, fun g hg => by
            rw [upd_same] at hg
            obtain ⟨k1, k2⟩ := hblk g (hin g hg)
            exact ⟨.inl (Nat.le_trans hR.grown k1), k2⟩⟩ (fun j oj hj _ g hg hb => by
          have k1 := (hblk g (hin g hg)).1
          have := ((hR.obs j oj hj).block g hb).2.1
          omega)
        rw [hdst]
        refine hK _ _ _ _ (h2.set (fun i hi => (Option.some.inj hi) ▸ hdN) (sv := .row d) ?_)
        show v = baseV (upd loc d v d)
        rw [upd_same]
        rcases hown.2 with ⟨e2, _⟩ | ⟨_, _, _, e2, _⟩ <;> rw [e2] <;> rfl
      · rename_i cs' hr
        split at hv
        · rename_i l hl
          split at hv
          · rename_i ks hks
            cases hb : l.all (fun x => Nat.blt x.1 10000) with
            | false => rw [hb] at hv; cases hv
            | true =>
            rw [hb] at hv
            simp only [cond_true, Option.some.injEq] at hv
            subst hv
            refine main hr fun v w' μ' loc' hP h1 => ?_
            have hres := hP.pure rfl
            rw [rep] at hres
            obtain ⟨vs', rfl, hra, hone⟩ := hres
            obtain ⟨loc2, h2, h3, _⟩ := newRows_sound h1 l _ _ h1 (fun x hx => Nat.blt_eq.mp (List.all_eq_true.1 hb x hx))
            rw [hdst]
            exact hK _ _ _ _ (h2.set (fun i hi => hd i (hdst.trans hi)) (sv := .ag ks) ⟨vs', rfl, nilCaps_sound hks h3 hra, hone⟩)
          · cases hv
        · cases hv
      · cases hv
    · cases hv
  · cases hv

theorem callRO_sound (hR : Rel N w0 μ0 L μ loc st a w) (hcall : CallOK L.q μ0 P callF) {o : Oper} {c : Call} {f : Operand} {r : AV} (hd : ∀ i, o.dst = some i → i < N) (ho : o.op = .call c) (hc : c.callee = .value f) (hst : o.dst.any h.stay.contains = true)
    (hv : callRO P h callF st c f = some r) (hK : Goes N w0 μ0 L (st.set o.dst (.pv r)) K) : o.wpW P a w K Q :=
  callMany_sound hR hcall hd ho hc (callRO_many hst hv) hK

theorem fval_sound (hR : Rel N w0 μ0 L μ loc st a w) (hcall : CallOK L.q μ0 P callF) {o : Oper} {v : SV} (hd : ∀ i, o.dst = some i → i < N) (hv : fval P h callF o st = some v) (hK : Goes N w0 μ0 L (st.set o.dst v) K) : o.wpW P a w K Q := by
  unfold fval at hv
  split at hv
  · rename_i t len parts ho
    cases hb : o.dst.any h.rows.contains with
    | true => simp [hb] at hv
    | false =>
      simp only [hb, cond_false] at hv
      cases hl : litCells P t len parts.toList st with
      | none => simp [hl] at hv
      | some x =>
        obtain ⟨e, s, xs⟩ := x
        simp [hl] at hv; subst hv
        exact fval_build hR hd ho hl hK
  · rename_i c ho
    split at hv
    · rename_i f hc
      replace hv := of_bif hv
      cases hro : (o.dst.any h.stay.contains && wide st c f) with
      | true =>
        rw [hro] at hv
        simp only [cond_true, Option.map_eq_some_iff] at hv
        obtain ⟨r, hr, rfl⟩ := hv
        rw [Bool.and_eq_true] at hro
        exact callRO_sound hR hcall hd ho hc hro.1 hr hK
      | false =>
      rw [hro] at hv
      replace hv := of_bif hv
      split at hv
      · rename_i g caps vs hf hvs
        split at hv
        · rename_i r hr
          cases hp : ((!(c.args.toList.any (rowIn st)) || r.plain) && r.noSelf) with
          | true =>
            simp only [hp, cond_true, Option.some.injEq] at hv; subst hv
            rw [Bool.and_eq_true] at hp
            exact call_sound hR hcall hd ho hc hf hvs hr (by rw [Bool.or_comm]; exact hp.1) hp.2 hK
          | false => rw [hp] at hv; cases hv
        · cases hv
      · cases hv
    · exact wp_gives hR hd (gives_pcall hR ho hv) hK
  · rename_i t x k ok ho
    exact wp_gives hR hd (pval_sound hR (of_bif hv)) hK
  · exact wp_gives hR hd (pval_sound hR (of_bif hv)) hK
  · rename_i g first caps ho
    cases hfi : first.isEmpty with
    | false => simp [hfi] at hv
    | true =>
      simp only [hfi, cond_true] at hv
      have hf0 : first = #[] := by simpa using hfi
      have run : (execOp a.eval o).run P w = .ok (.value (.func (.func g) #[] (caps.toList.map a.eval).toArray)) w := by
        unfold execOp; rw [ho, hf0]
        have e : caps.map a.eval = (caps.toList.map a.eval).toArray := by rw [← Array.toList_map]
        simp [Instr.makeFunc, e]
      cases hby : o.dst.any h.byref.contains with
      | true =>
        simp only [hby, cond_true] at hv
        cases hcs : capsCl st caps.toList with
        | none => simp [hcs] at hv
        | some vs =>
          simp [hcs] at hv; subst hv
          exact wp_gives hR hd ⟨_, run, (show repS μ loc (.cl g vs) _ from ⟨_, rfl, capsCl_sound hR hcs⟩)⟩ hK
      | false =>
      simp only [hby, cond_false] at hv
      cases hcs : capsOf st caps.toList with
      | none => simp [hcs] at hv
      | some vs =>
        simp [hcs] at hv; subst hv
        have hall := capsOf_sound hR hcs
        refine wp_gives hR hd ⟨_, run, ?_⟩ hK
        show rep μ (.fn g vs) _
        rw [rep]; exact ⟨_, rfl, hall⟩
  · rename_i x ho
    have key : pval P o st = some v := by
      split at hv
      · rename_i hp; exact hp.trans (of_bif hv)
      · rename_i hp; exact hp.trans (of_bif hv)
      · exact hv
    exact wp_gives hR hd (pval_sound hR key) hK
  · exact wp_gives hR hd (pval_sound hR hv) hK


theorem eff_sound (hR : Rel N w0 μ0 L μ loc st a w) (hcall : CallOK L.q μ0 P callF) {o : Oper} (hd : ∀ i, o.dst = some i → i < N) (hv : eff P h callF o st = some st') (hK : Goes N w0 μ0 L st' K) : o.wpW P a w K Q := by
  unfold eff at hv
  split at hv
  · rename_i d hdst ho
    split at hv
    · rename_i e s hs
      split at hv
      · injection hv with hv; subst hv
        exact eff_nil hR (hd d hdst) hdst ho hK
      · cases hv
    · cases hv
  · rename_i d x hnc hdst ho
    split at hv
    · rename_i id hx
      split at hv
      · rename_i st1 hp
        split at hv
        · rename_i v hv1
          injection hv with hv; subst hv
          obtain ⟨μ1, _, h1⟩ := hR.publish hp
          exact wp_gives h1 hd (gives_move h1 (.inr ho) hv1) (by rw [hdst]; exact hK)
        · cases hv
      · cases hv
    · cases hv
  · rename_i d t x hdst ho
    split at hv
    · rename_i cs hx hagg
      injection hv with hv; subst hv
      have hxv := opnd_sound hR hx
      simp only [repS, rep] at hxv
      obtain ⟨vs, hxv, hall, hone⟩ := hxv
      refine eff_box (v := .agg vs.toArray) hR (hd d hdst) hdst ?_ (by simpa [Value.cells] using repSs_pv hall) (by simpa [Value.cells] using hone) hK
      unfold execOp; rw [ho]
      simp [Instr.box, newVar, newRow, hxv, Value.cells]
    · rename_i cs hx hagg
      cases hm : (SV.ag cs).mentions d with
      | true => rw [hm] at hv; cases hv
      | false =>
      rw [hm] at hv
      simp only [cond_false, Option.some.injEq] at hv; subst hv
      have hxv := repS_upd (x := .pointer (some ⟨w.heap.size, 0, none⟩)) hm (opnd_sound hR hx)
      obtain ⟨vs, hxv, hall, hone⟩ := hxv
      refine eff_box (v := .agg vs.toArray) hR (hd d hdst) hdst ?_ (by simpa [Value.cells] using caps_sound hall) (by simpa [Value.cells] using hone) hK
      unfold execOp; rw [ho]
      simp [Instr.box, newVar, newRow, hxv, Value.cells]
    · rename_i v hnot hx hagg
      split at hv
      · rename_i hone
        injection hv with hv; subst hv
        have hxv := opnd_sound hR hx
        obtain ⟨h1, hc1⟩ := one_of hR hone hxv
        refine eff_box (v := a.eval x) hR (hd d hdst) hdst ?_ (by rw [hc1]; exact ⟨_, [], rfl, repS_purge hxv, rfl⟩) (by rw [hc1]; simpa using h1) hK
        unfold execOp; rw [ho]
        simp [Instr.box, newVar, newRow]
      · cases hv
    · cases hv
  · rename_i d t hdst ho
    cases hrw : h.rows.contains d with
    | true =>
      rw [hrw] at hv
      simp only [cond_true] at hv
      split at hv
      · rename_i svs l hz
        injection hv with hv; subst hv
        exact eff_allocRows hR (hd d hdst) hdst ho hz hK
      · cases hv
    | false =>
    rw [hrw] at hv
    simp only [cond_false] at hv
    split at hv
    · rename_i z hz
      injection hv with hv; subst hv
      obtain ⟨i, v, hi, hzv, hc⟩ := zeroCells_run (μ := μ) hz
      refine eff_box (v := v) hR (hd d hdst) hdst ?_ (repSs_pv hc.1) hc.2 hK
      unfold execOp; rw [ho]
      simp [Instr.alloc, zeroValue, typeInfo, hi, hzv, newVar, newRow]
    · cases hv
  · rename_i d t l c hdst ho
    split at hv
    · rename_i e s kl nl kc nc hs hl hc
      split at hv
      · rename_i z i hz hi
        split at hv
        · rename_i hcond
          injection hv with hv; subst hv
          exact eff_make hR (hd d hdst) hdst ho hs hl hc hz hi hcond hK
        · cases hv
      · cases hv
    · cases hv
  · rename_i d t len parts hdst ho
    split at hv
    · rename_i e s xs hl
      injection hv with hv; subst hv
      exact eff_buildRow hR (hd d hdst) hdst ho hl hK
    · cases hv
  · rename_i t x y hdst ho
    split at hv
    · rename_i sa sv hx hy
      exact eff_store hR hdst ho hx hy hv hK
    · cases hv
  · rename_i d t r hdst ho
    split at hv
    · rename_i k e hu
      cases hb : reserveOk P st r with
      | false => rw [hb] at hv; cases hv
      | true =>
        rw [hb] at hv
        simp only [cond_true] at hv
        cases hrw : h.rows.contains d with
        | true =>
          rw [hrw] at hv
          simp only [cond_true] at hv
          split at hv
          · split at hv
            · injection hv with hv; subst hv
              exact eff_makeMr hR (hd d hdst) hdst ho hu hb hK
            · cases hv
          · cases hv
        | false =>
        rw [hrw] at hv
        simp only [cond_false, Option.some.injEq] at hv
        subst hv
        exact eff_makeMap hR (hd d hdst) hdst ho hu hb hK
    · cases hv
  · rename_i t m k x hdst ho
    cases hrm : rowMap h m with
    | true => rw [hrm] at hv; exact eff_mrIn hR hdst (.inl ho) hv hK
    | false => rw [hrm] at hv; exact eff_mapStore hR hdst (.inl ho) hv hK
  · rename_i t m k x hdst ho
    cases hrm : rowMap h m with
    | true => rw [hrm] at hv; exact eff_mrIn hR hdst (.inr ho) hv hK
    | false => rw [hrm] at hv; exact eff_mapStore hR hdst (.inr ho) hv hK
  · rename_i d t m k hdst ho
    cases hrm : rowMap h m with
    | true => rw [hrm] at hv; exact eff_mrOut hR (hd d hdst) hdst ho hv hK
    | false => rw [hrm] at hv; cases hv
  · rename_i d t x hdst ho
    split at hv
    · rename_i s ht hx
      injection hv with hv; subst hv
      exact eff_range hR (hd d hdst) hdst ho ht hx hK
    · cases hv
  · rename_i d x hdst ho
    split at hv
    · rename_i id hx
      split at hv
      · rename_i s pos hob
        refine eff_next hR (hd d hdst) hdst ho hx hob ?_
        split at hv
        · rename_i hp
          injection hv with hv; subst hv
          rw [if_pos hp]; exact hK
        · rename_i hp
          injection hv with hv; subst hv
          rw [if_neg hp]; exact hK
      · cases hv
    · cases hv
  · rename_i d t parts hdst ho
    cases hrw : h.rows.contains d with
    | false => rw [hrw] at hv; cases hv
    | true => rw [hrw] at hv; exact eff_buildRows hR (hd d hdst) hdst ho hv hK
  · rename_i d g first caps hdst ho
    cases hfi : first.isEmpty with
    | false => rw [hfi] at hv; cases hv
    | true =>
      rw [hfi] at hv
      simp only [cond_true] at hv
      split at hv
      · rename_i st1 hp
        simp only [Option.map_eq_some_iff] at hv
        obtain ⟨vs, hcs, rfl⟩ := hv
        exact eff_makeFunc hR (hd d hdst) hdst ho hfi hp hcs hK
      · cases hv
  · rename_i d c ho
    split at hv
    · rename_i hc
      split at hv
      · rename_i d' x y t t' hdst hargs htys
        split at hv
        · rename_i e s id sy hs hx hy
          split at hv
          · rename_i e' sz xs sz' ys i hob hel hi
            split at hv
            · rename_i hcond
              obtain ⟨rfl, rfl, rfl, rfl, hpos, hby, hlen, hz, hmv⟩ := hcond
              injection hv with hv; subst hv
              have ho' : o.op = .call { callee := .builtin .append, args := #[x, y], argTypes := #[t, t] } := by
                rw [ho]
                obtain ⟨cal, ⟨as⟩, ⟨ts⟩⟩ := c
                simp only at hc hargs htys
                subst hc; subst hargs; subst htys; rfl
              refine eff_append hR (hd d' hdst) hdst ho' hs hx hy hob hel hi hpos hby hlen hz ?_ hK
              simp only [mayMove, Bool.or_eq_true] at hmv
              rcases hmv with hm | hm
              · left; simpa [Nat.blt_eq] using hm
              · right; exact Nat.le_of_ble_eq_true (Bool.and_eq_true _ _ ▸ hm).1
            · cases hv
          · cases hv
        · cases hv
      · cases hv
    · rename_i hc
      split at hv
      · rename_i m k t ts hdst hargs htys
        exact eff_delete hR hdst ho hc hargs htys hv hK
      · cases hv
    · rename_i hc
      split at hv
      · rename_i x t hdst hargs htys
        split at hv
        · rename_i e s id sz lo hi hs hx
          split at hv
          · rename_i e' sz' xs z hob hz
            split at hv
            · rename_i hcond
              injection hv with hv; subst hv
              exact eff_clear hR hdst ho hc hargs htys hs hx hob hz hcond hK
            · cases hv
          · cases hv
        · cases hv
      · cases hv
    · rename_i f hc
      cases how : o.dst.any h.owns.contains with
      | true =>
        rw [how] at hv
        exact callOwn_sound hR hcall hd ho hc hv hK
      | false =>
      rw [how] at hv
      simp only [cond_false] at hv
      replace hv := of_bif hv
      cases hw : wide st c f with
      | true =>
        simp only [hw, cond_true] at hv
        exact callMany_sound hR hcall hd ho hc hv hK
      | false =>
      simp only [hw, cond_false] at hv
      cases href : c.args.toList.any (fun x => (refIn h st x).isSome) with
      | true =>
        simp only [href, cond_true] at hv
        exact callRef_sound hR hcall hd ho hc hv hK
      | false =>
      simp only [href, cond_false] at hv
      split at hv
      · rename_i st1 hp
        split at hv
        · rename_i g caps vs hf hvs
          split at hv
          · rename_i r hr
            cases hany : (c.args.toList.any (rowIn st1) || !r.noSelf) with
            | true => rw [hany] at hv; cases hv
            | false =>
              simp only [hany, cond_false, Option.some.injEq] at hv
              subst hv
              obtain ⟨μ1, h1⟩ := publishAll_sound hR hp
              rw [Bool.or_eq_false_iff] at hany
              exact call_sound h1 hcall hd ho hc hf hvs hr (by simp [hany.1]) (by simpa using hany.2) hK
          · cases hv
        · cases hv
      · cases hv
    · cases hv
  · cases hv

theorem pubCells_sound : ∀ {l : List SV} {μ : Mu} {loc : Nat → Value} {st st' : St} {a : Act} {w : World}, Rel N w0 μ0 L μ loc st a w → pubCells l st = some st' → ∃ μ', μ.le μ' ∧ Rel N w0 μ0 L μ' loc st' a w
  | [], μ, loc, st, st', a, w, hR, hv => by simp only [pubCells, Option.some.injEq] at hv; subst hv; exact ⟨μ, Mu.le.refl _, hR⟩
  | s :: l, μ, loc, st, st', a, w, hR, hv => by
    unfold pubCells at hv
    split at hv
    · rename_i e; cases e
    · rename_i id l' e
      injection e with e1 e2; subst e1; subst e2
      obtain ⟨st1, h1, h2⟩ := Option.bind_eq_some_iff.1 hv
      obtain ⟨μ1, hle, hR1⟩ := hR.publish h1
      obtain ⟨μ2, hle2, hR2⟩ := pubCells_sound hR1 h2
      exact ⟨μ2, hle.trans hle2, hR2⟩
    · rename_i s' l' hne e
      injection e with e1 e2; subst e1; subst e2
      exact pubCells_sound hR hv
theorem step0_sound (hR : Rel N w0 μ0 L μ loc st a w) (hcall : CallOK L.q μ0 P callF) {o : Oper} (hd : ∀ i, o.dst = some i → i < N) (hv : step0 P h callF o st = some st') (hK : Goes N w0 μ0 L st' K) : o.wpW P a w K Q := by
  unfold step0 at hv
  split at hv
  · rename_i v hf
    injection hv with hv; subst hv
    exact fval_sound hR hcall hd hf hK
  · exact eff_sound hR hcall hd hv hK

theorem preSlots_sound : ∀ {l : List Nat} {st st' : St} {μ : Mu} {loc : Nat → Value} {a : Act} {w : World}, Rel N w0 μ0 L μ loc st a w → preSlots l st = some st' → ∃ μ', μ.le μ' ∧ Rel N w0 μ0 L μ' loc st' a w
  | [], st, st', μ, loc, a, w, hR, hv => by simp only [preSlots, Option.some.injEq] at hv; subst hv; exact ⟨μ, Mu.le.refl _, hR⟩
  | t :: l, st, st', μ, loc, a, w, hR, hv => by
    simp only [preSlots] at hv
    obtain ⟨st1, h1, h2⟩ := Option.bind_eq_some_iff.1 hv
    obtain ⟨μ1, hle, hR1⟩ : ∃ μ', μ.le μ' ∧ Rel N w0 μ0 L μ' loc st1 a w := by
      unfold preOne at h1
      split at h1
      · exact hR.publish h1
      · split at h1
        · exact pubCells_sound hR h1
        · cases h1
      · injection h1 with h1; subst h1; exact ⟨μ, Mu.le.refl _, hR⟩
    obtain ⟨μ2, hle2, hR2⟩ := preSlots_sound hR1 h2
    exact ⟨μ2, hle.trans hle2, hR2⟩
theorem step_sound (hR : Rel N w0 μ0 L μ loc st a w) (hcall : CallOK L.q μ0 P callF) {o : Oper} (hd : ∀ i, o.dst = some i → i < N) (hv : step P h callF o st = some st') (hK : Goes N w0 μ0 L st' K) : o.wpW P a w K Q := by
  unfold step at hv
  obtain ⟨st1, h1, h2⟩ := Option.bind_eq_some_iff.1 hv
  obtain ⟨μ1, _, hR1⟩ := preSlots_sound hR h1
  exact step0_sound hR1 hcall hd h2 hK

theorem wanted_sound (hR : Rel N w0 μ0 L μ loc st a w) {ops : Array Oper} {o : Oper} {b : Bool} (hw : wantedA ops o st = some b) : Region.wanted o (yielded ops a.tmps) = b := by
  unfold wantedA at hw
  unfold Region.wanted
  split at hw
  · rename_i hg; injection hw with hw; subst hw; rw [hg]
  · rename_i j want hg
    rw [hg]
    simp only
    split at hw
    · rename_i d hdst
      split at hw
      · rename_i t ht
        injection hw with hw; subst hw
        obtain ⟨v, hv, hr⟩ := hR.env d _ ht
        simp only [repS, rep] at hr; subst hr
        simp [yielded, hdst, hv]
      · rename_i ht
        injection hw with hw; subst hw
        obtain ⟨v, hv, hr⟩ := hR.env d _ ht
        have hr : v = undef := hr
        subst hr
        simp [yielded, hdst, hv, undef]
      · cases hw
    · cases hw

theorem runOps_sound (hcall : CallOK L.q μ0 P callF) {ops : Array Oper} : ∀ {l : List Oper} {st : St} {μ : Mu} {loc : Nat → Value} {a : Act} {w : World}, Rel N w0 μ0 L μ loc st a w → (∀ o ∈ l, ∀ i, o.dst = some i → i < N) → runOps P h callF ops l st = some st' →
    (∀ a' w' μ' loc', Rel N w0 μ0 L μ' loc' st' a' w' → Q .normal a' w') → ∀ F, Wd F → wpListIn F 0 P ops Q l a w := by
  intro l
  induction l with
  | nil =>
    intro st μ loc a w hR _ hv hQ F hF
    simp only [runOps, Option.some.injEq] at hv; subst hv
    exact hQ _ _ _ _ hR
  | cons o l ih =>
    intro st μ loc a w hR hd hv hQ F hF
    simp only [runOps] at hv
    split at hv
    · rename_i b hw
      have hwant := wanted_sound hR hw
      unfold wpListIn
      rw [hwant]
      cases b with
      | true =>
        simp only [cond_true] at hv
        simp only [if_true]
        cases hs : step P h callF o st with
        | none => simp [hs] at hv
        | some st1 =>
          simp [hs] at hv
          exact step_sound hR hcall (hd o (by simp)) hs (fun a' w' μ' loc' h1 => ih h1 (fun p hp => hd p (by simp [hp])) hv hQ F hF) F hF
      | false =>
        simp only [cond_false] at hv
        simp only [Bool.false_eq_true, if_false]
        exact ⟨fun f _ => hF.fn f, ih (hR.set (hd o (by simp)) (show repS μ loc .undef undef from rfl)) (fun p hp => hd p (by simp [hp])) hv hQ F hF⟩
    · cases hv

end
end Go.AM
