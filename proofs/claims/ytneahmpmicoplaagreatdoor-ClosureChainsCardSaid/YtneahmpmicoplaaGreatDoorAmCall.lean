/-
  THE ABSTRACT MACHINE: code and calls.
-/
import Derived.Test.YtneahmpmicoplaaGreatDoorAmDraw
set_option linter.unusedVariables false
set_option linter.unusedSimpArgs false
namespace Go.AM
open Go.RowKit

def Ex.exit' : Ex → Exit
  | .normal => .normal
  | .exit id => .exit id
  | .ret => .ret

section
variable {P : Program} {N : Nat} {w0 : World} {μ0 : Mu} {L : Lent} {h : Hint} {callF : CallF}

/-- behind a piece of code -/
def After (N : Nat) (w0 : World) (μ0 : Mu) (L : Lent) (e : Ex) (st : St) : Exit → Act → World → Prop := fun e' a' w' => e' = e.exit' ∧ ∃ μ' loc', Rel N w0 μ0 L μ' loc' st a' w'

theorem Rel.canon {μ : Mu} {loc : Nat → Value} {st : St} {a : Act} {w : World} (hR : Rel N w0 μ0 L μ loc st a w) (h : Hint) (key : Nat) : Rel N w0 μ0 L μ loc (h.canon key st) a w := by
  have get : ∀ {α : Type} (m : Nat → Option α) (l : List Nat) (i : Nat) (v : α), find (pickAll m l) i = some v → m i = some v := by
    intro α m l
    induction l with
    | nil => intro i v hv; simp [pickAll, find] at hv
    | cons j l ih =>
      intro i v hv
      simp only [pickAll] at hv
      split at hv
      · rename_i x hx
        simp only [find] at hv
        cases hb : Nat.beq j i with
        | true => simp only [hb, cond_true, Option.some.injEq] at hv; subst hv; rw [← beq_iff.1 hb]; exact hx
        | false => simp only [hb, cond_false] at hv; exact ih i v hv
      · exact ih i v hv
  unfold Hint.canon
  split
  rotate_left
  · exact hR
  exact ⟨hR.small, hR.names, hR.fix, hR.size, hR.defers, fun i s hi => hR.env i s (get _ _ _ _ hi), hR.pub, hR.base, fun i o hi => hR.obs i o (get _ _ _ _ hi),
    fun i j oi oj hi hj => hR.apart i j oi oj (get _ _ _ _ hi) (get _ _ _ _ hj), hR.keep, hR.os, hR.tape, hR.output, hR.grown⟩

theorem Rel.drew {μ : Mu} {loc : Nat → Value} {st : St} {a : Act} {w : World} (hR : Rel N w0 μ0 L μ loc st a w) : Rel N w0 μ0 L μ loc st a { w with drawn := w.drawn + 1 } :=
  ⟨hR.small, hR.names, hR.fix, hR.size, hR.defers, hR.env, hR.pub, hR.base, fun i o hi => by
    have := hR.obs i o hi
    cases o with
    | box t cells => exact this
    | mp k e ks vs => exact this
    | mr k e s ks vs => exact this
    | it s n => exact this
    | row e sz xs => exact this, hR.apart, hR.keep, hR.os, hR.tape, hR.output, hR.grown⟩

theorem pubObs_sound : ∀ {l : List Nat} {st st' : St} {μ : Mu} {loc : Nat → Value} {a : Act} {w : World}, Rel N w0 μ0 L μ loc st a w → pubObs l st = some st' → ∃ μ', Rel N w0 μ0 L μ' loc st' a w
  | [], st, st', μ, loc, a, w, hR, hv => by simp only [pubObs, Option.some.injEq] at hv; subst hv; exact ⟨μ, hR⟩
  | id :: l, st, st', μ, loc, a, w, hR, hv => by
    simp only [pubObs] at hv
    obtain ⟨st1, h1, h2⟩ := Option.bind_eq_some_iff.1 hv
    obtain ⟨μ1, _, hR1⟩ : ∃ μ', μ.le μ' ∧ Rel N w0 μ0 L μ' loc st1 a w := by
      unfold St.pubAny at h1
      split at h1
      · exact hR.pubBox h1
      · exact hR.publish h1
    exact pubObs_sound hR1 h2
theorem pubR_sound {st st' : St} {μ : Mu} {loc : Nat → Value} {a : Act} {w : World} {id : Nat} (hR : Rel N w0 μ0 L μ loc st a w) (hv : h.pubR id st = some st') : ∃ μ', Rel N w0 μ0 L μ' loc st' a w := by
  unfold Hint.pubR at hv
  split at hv
  · exact pubObs_sound hR hv
  · injection hv with hv; subst hv; exact ⟨μ, hR⟩

theorem exec_sound (hcall : CallOK μ0 P callF) (hm : P.follows .mixedOrders = true) (n : Nat) : ∀ (c : Code) (st : St) (e : Ex) (st' : St), dstsOk N c = true → exec P h callF n c st = some (e, st') →
    ∀ (μ : Mu) (loc : Nat → Value) (a : Act) (w : World), Rel N w0 μ0 L μ loc st a w → c.wp P (After N w0 μ0 L e st') a w := by
  intro c
  induction c with
  | skip => intro st e st' _ hv μ loc a w hR; simp only [exec, Option.some.injEq, Prod.mk.injEq] at hv; obtain ⟨rfl, rfl⟩ := hv; exact wp_skip ⟨rfl, μ, loc, hR⟩
  | label l => intro st e st' _ hv μ loc a w hR; simp only [exec, Option.some.injEq, Prod.mk.injEq] at hv; obtain ⟨rfl, rfl⟩ := hv; exact wp_label ⟨rfl, μ, loc, hR⟩
  | exit id => intro st e st' _ hv μ loc a w hR; simp only [exec, Option.some.injEq, Prod.mk.injEq] at hv; obtain ⟨rfl, rfl⟩ := hv; exact wp_exit ⟨rfl, μ, loc, hR⟩
  | ret => intro st e st' _ hv μ loc a w hR; simp only [exec, Option.some.injEq, Prod.mk.injEq] at hv; obtain ⟨rfl, rfl⟩ := hv; exact wp_ret ⟨rfl, μ, loc, hR⟩
  | region id ops draw =>
    intro st e st' hok hv μ loc a w hR
    have hd : ∀ o ∈ ops.toList, ∀ i, o.dst = some i → i < N := fun o ho i hi => by
      simp only [dstsOk, List.all_eq_true] at hok
      have := hok o ho
      simpa [hi, Nat.blt_eq] using this
    simp only [exec] at hv
    obtain ⟨st1, hpub, hv⟩ := Option.bind_eq_some_iff.1 hv
    obtain ⟨μ1, hR1⟩ := pubR_sound hR hpub
    clear hR
    have hR := hR1
    cases draw with
    | true =>
      simp only [cond_true] at hv
      cases hs : (edgesBack 0 ops.toList && onceEach (allocsOf 0 ops.toList)) with
      | false => simp [hs] at hv
      | true =>
        simp only [hs, cond_true] at hv
        simp only [Bool.and_eq_true] at hs
        cases hr : runDraw P h callF ops (allocsOf 0 ops.toList) 0 ops.toList [] (purgeAll (allocsOf 0 ops.toList) st1) with
        | none => simp [hr] at hv
        | some s =>
          simp [hr] at hv
          obtain ⟨rfl, rfl⟩ := hv
          exact wp_region_any hm (draw_sound hcall hs.1 hs.2 hr hd (fun a' w' μ' loc' h' => ⟨rfl, μ', loc', h'⟩) hR.drew)
    | false =>
      simp only [cond_false] at hv
      cases hr : runOps P h callF ops ops.toList st1 with
      | none => simp [hr] at hv
      | some s =>
        simp [hr] at hv
        obtain ⟨rfl, rfl⟩ := hv
        exact wp_region_list (runOps_sound hcall hR hd hr (fun a' w' μ' loc' h' => ⟨rfl, μ', loc', h'⟩))
  | seq x y ihx ihy =>
    intro st e st' hok hv μ loc a w hR
    simp only [dstsOk, Bool.and_eq_true] at hok
    simp only [exec] at hv
    refine wp_seq ?_
    split at hv
    · rename_i st1 hx
      refine wp_mono (ihx st _ _ hok.1 hx μ loc a w hR) ?_
      rintro e' a' w' ⟨rfl, μ', loc', h'⟩
      exact ihy st1 e st' hok.2 hv μ' loc' a' w' h'
    · rename_i hne
      refine wp_mono (ihx st e st' hok.1 hv μ loc a w hR) ?_
      rintro e' a' w' ⟨rfl, μ', loc', h'⟩
      cases e with
      | normal => exact absurd hv (hne st')
      | exit id => exact ⟨rfl, μ', loc', h'⟩
      | ret => exact ⟨rfl, μ', loc', h'⟩
  | cond c x y ihx ihy =>
    intro st e st' hok hv μ loc a w hR
    simp only [dstsOk, Bool.and_eq_true] at hok
    simp only [exec] at hv
    split at hv
    · rename_i t hc
      have hcv := opnd_sound hR hc
      simp only [repS, rep] at hcv
      cases t with
      | true => exact wp_cond_true hcv (ihx st e st' hok.1 hv μ loc a w hR)
      | false => exact wp_cond_false hcv (ihy st e st' hok.2 hv μ loc a w hR)
    · cases hv
  | block id c ih =>
    intro st e st' hok hv μ loc a w hR
    simp only [dstsOk] at hok
    simp only [exec] at hv
    refine wp_block ?_
    split at hv
    · rename_i j st1 hx
      refine wp_mono (ih st _ _ hok hx μ loc a w hR) ?_
      rintro e' a' w' ⟨rfl, μ', loc', h'⟩
      cases hb : Nat.beq j id with
      | true =>
        simp only [hb, cond_true, Option.some.injEq, Prod.mk.injEq] at hv
        obtain ⟨rfl, rfl⟩ := hv
        have := beq_iff.1 hb
        subst this
        simp only [Ex.exit', Exit.inBlock, if_true]
        exact ⟨rfl, μ', loc', h'⟩
      | false =>
        simp only [hb, cond_false, Option.some.injEq, Prod.mk.injEq] at hv
        obtain ⟨rfl, rfl⟩ := hv
        have : j ≠ id := fun e => by subst e; simp [Nat.beq_refl] at hb
        simp only [Ex.exit', Exit.inBlock, if_neg this]
        exact ⟨rfl, μ', loc', h'⟩
    · rename_i hne
      refine wp_mono (ih st e st' hok hv μ loc a w hR) ?_
      rintro e' a' w' ⟨rfl, μ', loc', h'⟩
      cases e with
      | normal => exact ⟨rfl, μ', loc', h'⟩
      | exit id => exact absurd hv (hne _ _)
      | ret => exact ⟨rfl, μ', loc', h'⟩
  | loop c ih =>
    intro st e st' hok hv μ loc a w hR
    simp only [dstsOk] at hok
    simp only [exec] at hv
    refine wp_loop_rounds n ?_
    have key : ∀ (k : Nat) (st : St) (μ : Mu) (loc : Nat → Value) (a : Act) (w : World), Rel N w0 μ0 L μ loc st a w → iter h (firstRegion c) (exec P h callF n c) k st = some (e, st') → Code.rounds P c (After N w0 μ0 L e st') k a w := by
      intro k
      induction k with
      | zero => intro st μ loc a w _ hv; simp [iter] at hv
      | succ k ihk =>
        intro st μ loc a w hR hv
        rw [rounds_succ]
        simp only [iter] at hv
        split at hv
        · rename_i st1 hx
          refine wp_mono (ih _ _ _ hok hx μ loc a w (hR.canon h _)) ?_
          rintro e' a' w' ⟨rfl, μ', loc', h'⟩
          exact ihk st1 μ' loc' a' w' h' hv
        · rename_i hne
          refine wp_mono (ih _ _ _ hok hv μ loc a w (hR.canon h _)) ?_
          rintro e' a' w' ⟨rfl, μ', loc', h'⟩
          cases e with
          | normal => exact absurd hv (hne _)
          | exit id => exact ⟨rfl, μ', loc', h'⟩
          | ret => exact ⟨rfl, μ', loc', h'⟩
    exact key n st μ loc a w hR hv
  | scope c ih =>
    intro st e st' hok hv μ loc a w hR
    simp only [dstsOk] at hok
    simp only [exec] at hv
    refine wp_scope_straight ?_
    refine wp_mono (ih st e st' hok hv μ loc a w hR) ?_
    rintro e' a' w' ⟨rfl, μ', loc', h'⟩
    cases e <;> exact ⟨rfl, μ', loc', h'⟩
  | rangeFunc f ps x y ihx ihy => intro st e st' _ hv; simp [exec] at hv
  | goto l => intro st e st' _ hv; simp [exec] at hv
  | refuse s => intro st e st' _ hv; simp [exec] at hv

/-! results -/
theorem pubSlot_sound {μ : Mu} {loc : Nat → Value} {st st' : St} {a : Act} {w : World} (hR : Rel N w0 μ0 L μ loc st a w) {t : Nat} {v : AV} (hv : pubSlot st t = some (st', v)) :
    ∃ μ', Rel N w0 μ0 L μ' loc st' a w ∧ μ.le μ' ∧ rep μ' v (a.tmps.getD t undef) := by
  have get : ∀ {μ : Mu} {st : St}, Rel N w0 μ0 L μ loc st a w → st.env t = some (.pv v) → rep μ v (a.tmps.getD t undef) := fun hR he => by
    obtain ⟨u, hu, hr⟩ := hR.env t _ he
    have : a.tmps.getD t undef = u := by simp [hu]
    rw [this]; exact hr
  unfold pubSlot at hv
  split at hv
  · rename_i v' he
    simp only [Option.some.injEq, Prod.mk.injEq] at hv
    obtain ⟨rfl, rfl⟩ := hv
    exact ⟨μ, hR, Mu.le.refl _, get hR he⟩
  · rename_i id he
    split at hv
    · rename_i st1 hp
      split at hv
      · rename_i v' he'
        simp only [Option.some.injEq, Prod.mk.injEq] at hv
        obtain ⟨rfl, rfl⟩ := hv
        obtain ⟨μ', hle, h'⟩ := hR.publish hp
        exact ⟨μ', h', hle, get h' he'⟩
      · cases hv
    · cases hv
  · cases hv

def resOne (tmps : Array Value) : ResultVar → Sem Value
  | .tmp t => pure (tmps.getD t undef)
  | .cell a t => do loadVar t (← asAddr (tmps.getD a undef))

theorem load_run {μ : Mu} {loc : Nat → Value} {st : St} {a : Act} {w : World} (hR : Rel N w0 μ0 L μ loc st a w) {ad : Nat} {t : TypeId} {sv : SV} (hv : pval P ⟨none, .load t (.tmp ad), t, "", #[], none⟩ st = some sv) :
    ∃ v, (resOne a.tmps (.cell ad t)).run P w = .ok v w ∧ repS μ loc sv v := by
  obtain ⟨v, hr, hs⟩ := pval_sound hR hv
  refine ⟨v, ?_, hs⟩
  have he : a.eval (.tmp ad) = a.tmps.getD ad undef := rfl
  simp only [execOp, Sem.run_bind] at hr
  rw [he] at hr
  cases hx : a.tmps.getD ad undef with
  | pointer p =>
    cases p with
    | none => rw [hx] at hr; simp [Instr.loadAt, Instr.sureAddr] at hr
    | some q =>
      rw [hx] at hr
      simp only [Instr.loadAt, Instr.sureAddr, Sem.run_bind, Sem.run_pure, Result.andThen_ok] at hr
      simp only [resOne, hx, asAddr, Sem.run_bind, Sem.run_pure, Result.andThen_ok]
      cases hl : (loadVar t q).run P w with
      | ok u w' =>
        rw [hl] at hr
        simp only [Result.andThen_ok, Result.ok.injEq, Next.value.injEq] at hr
        rw [hr.1, hr.2]
      | halt x w' => rw [hl] at hr; simp at hr
  | _ => rw [hx] at hr; simp [Instr.loadAt, Instr.sureAddr] at hr

theorem takeRes_sound : ∀ (l : List ResultVar) {μ : Mu} {loc : Nat → Value} {st st' : St} {a : Act} {w : World} {vs : List AV}, Rel N w0 μ0 L μ loc st a w → takeRes P l st = some (st', vs) →
    ∃ μ' us, Rel N w0 μ0 L μ' loc st' a w ∧ μ.le μ' ∧ (l.mapM (resOne a.tmps)).run P w = .ok us w ∧ repAll μ' vs us := by
  intro l
  induction l with
  | nil =>
    intro μ loc st st' a w vs hR hv
    simp only [takeRes, Option.some.injEq, Prod.mk.injEq] at hv
    obtain ⟨rfl, rfl⟩ := hv
    exact ⟨μ, [], hR, Mu.le.refl _, rfl, repAll_nil⟩
  | cons x l ih =>
    intro μ loc st st' a w vs hR hv
    have join : ∀ {μ1 : Mu} {st1 : St} {v : AV} {u : Value} {vs1 : List AV}, Rel N w0 μ0 L μ1 loc st1 a w → μ.le μ1 → (resOne a.tmps x).run P w = .ok u w → rep μ1 v u → takeRes P l st1 = some (st', vs1) → vs = v :: vs1 →
        ∃ μ' us, Rel N w0 μ0 L μ' loc st' a w ∧ μ.le μ' ∧ ((x :: l).mapM (resOne a.tmps)).run P w = .ok us w ∧ repAll μ' vs us := by
      intro μ1 st1 v u vs1 h1 hle hr hrep ht e
      obtain ⟨μ2, us, h2, hle2, hm, hall⟩ := ih h1 ht
      refine ⟨μ2, u :: us, h2, hle.trans hle2, ?_, by rw [e]; exact repAll_cons (rep_mono hle2 _ _ hrep) hall⟩
      simp [List.mapM_cons, hr, hm]
    cases x with
    | tmp t =>
      simp only [takeRes] at hv
      split at hv
      · rename_i st1 v hp
        split at hv
        · rename_i st2 vs1 ht
          simp only [Option.some.injEq, Prod.mk.injEq] at hv
          obtain ⟨rfl, rfl⟩ := hv
          obtain ⟨μ1, h1, hle, hrep⟩ := pubSlot_sound hR hp
          exact join h1 hle rfl hrep ht rfl
        · cases hv
      · cases hv
    | cell ad t =>
      simp only [takeRes] at hv
      split at hv
      · rename_i v hp
        split at hv
        · rename_i st2 vs1 ht
          simp only [Option.some.injEq, Prod.mk.injEq] at hv
          obtain ⟨rfl, rfl⟩ := hv
          obtain ⟨u, hr, hrep⟩ := load_run hR hp
          exact join hR (Mu.le.refl _) hr hrep ht rfl
        · cases hv
      · rename_i id hp
        split at hv
        · rename_i st1 hpub
          split at hv
          · rename_i v hp1
            split at hv
            · rename_i st2 vs1 ht
              simp only [Option.some.injEq, Prod.mk.injEq] at hv
              obtain ⟨rfl, rfl⟩ := hv
              obtain ⟨μ1, hle, h1⟩ := hR.publish hpub
              obtain ⟨u, hr, hrep⟩ := load_run h1 hp1
              exact join h1 hle hr hrep ht rfl
            · cases hv
          · cases hv
        · cases hv
      · cases hv

theorem results_run {fn : Func} {tmps : Array Value} {w : World} {us : List Value} (h : (fn.results.toList.mapM (resOne tmps)).run P w = .ok us w) :
    ∃ v, (results fn tmps).run P w = .ok v w ∧ ((∃ u, us = [u] ∧ v = u) ∨ (us.length ≠ 1 ∧ v = .tuple us.toArray)) := by
  have e : (results fn tmps) = (do
      let vs ← fn.results.mapM (resOne tmps)
      pure (if h : vs.size = 1 then vs[0] else .tuple vs)) := by
    unfold results
    congr 1
  rw [e]
  obtain ⟨l⟩ : ∃ l, fn.results = ⟨l⟩ := ⟨fn.results.toList, by simp⟩
  have hm : (fn.results.mapM (resOne tmps)).run P w = .ok us.toArray w := by
    rename_i hl
    rw [hl] at h ⊢
    simp only at h
    have : (List.toArray l).mapM (resOne tmps) = Functor.map List.toArray (l.mapM (resOne tmps)) := List.mapM_toArray ..
    rw [show (⟨l⟩ : Array ResultVar) = l.toArray from rfl, this]
    simp [h]
  simp only [Sem.run_bind, hm, Result.andThen_ok, Sem.run_pure]
  by_cases hs : us.length = 1
  · match us, hs with
    | [u], _ => exact ⟨u, by simp, .inl ⟨u, rfl, rfl⟩⟩
  · exact ⟨.tuple us.toArray, by simp [hs], .inr ⟨hs, rfl⟩⟩

theorem result_rep {μ : Mu} {vs : List AV} {us : List Value} {v : Value} (hall : repAll μ vs us) (hv : (∃ u, us = [u] ∧ v = u) ∨ (us.length ≠ 1 ∧ v = .tuple us.toArray)) : rep μ (result vs) v := by
  have hl := repAll_length hall
  rcases hv with ⟨u, rfl, rfl⟩ | ⟨hne, rfl⟩
  · match vs, hl with
    | [x], _ =>
      rw [repAll] at hall
      obtain ⟨u', us', e, h1, _⟩ := hall
      injection e with e1 e2
      subst e1
      exact h1
  · have : result vs = .tup vs := by
      match vs, hl with
      | [], _ => rfl
      | [x], hl => exact absurd (by simpa using hl) hne
      | _ :: _ :: _, _ => rfl
    rw [this, rep]
    exact ⟨us, rfl, hall⟩

theorem backAll_get {names : List Nat} {st : St} : ∀ {l : List Nat} {lent : List (Nat × Ob)}, backAll names st l = some lent → ∀ id o, find lent id = some o → st.ob id = some o := by
  intro l
  induction l with
  | nil => intro lent hv id o hf; simp only [backAll, Option.some.injEq] at hv; subst hv; simp [find] at hf
  | cons j l ih =>
    intro lent hv id o hf
    simp only [backAll] at hv
    split at hv
    · rename_i oj os hoj hos
      cases hc : oj.closed names with
      | false => simp [hc] at hv
      | true =>
        simp only [hc, cond_true, Option.some.injEq] at hv
        subst hv
        simp only [find] at hf
        cases hb : Nat.beq j id with
        | true => simp only [hb, cond_true, Option.some.injEq] at hf; subst hf; rw [← beq_iff.1 hb]; exact hoj
        | false => simp only [hb, cond_false] at hf; exact ih hos id o hf
    · cases hv

theorem find_argEnv : ∀ (l : List SV) (i j : Nat) (s : SV), find (argEnv i l) j = some s → ∃ k, j = i + k ∧ l[k]? = some s := by
  intro l
  induction l with
  | nil => intro i j s hf; simp [argEnv, find] at hf
  | cons x l ih =>
    intro i j s hf
    simp only [argEnv, find] at hf
    cases hb : Nat.beq i j with
    | true => simp only [hb, cond_true, Option.some.injEq] at hf; subst hf; exact ⟨0, by have := beq_iff.1 hb; omega, rfl⟩
    | false =>
      simp only [hb, cond_false] at hf
      obtain ⟨k, rfl, hk⟩ := ih (i + 1) j s hf
      exact ⟨k + 1, by omega, by simpa using hk⟩

theorem find_mem {α : Type} : ∀ {l : List (Nat × α)} {i : Nat} {v : α}, find l i = some v → i ∈ l.map (·.1) := by
  intro l
  induction l with
  | nil => intro i v hf; simp [find] at hf
  | cons x l ih =>
    intro i v hf
    obtain ⟨j, u⟩ := x
    simp only [find] at hf
    cases hb : Nat.beq j i with
    | true => simp [beq_iff.1 hb]
    | false => simp only [hb, cond_false] at hf; simp only [List.map_cons, List.mem_cons]; exact .inr (ih hf)

end

/-- a body, run: what the call gives -/
theorem body_sound {P : Program} {h : Hint} {callF : CallF} {B : Mu} (hok : progOk P = true) (hcall : CallOK B P callF) {n f : Nat} {fn : Func} {c : Code} {args : List SV} {lent lent' : List (Nat × Ob)} {r : AV} {e : Ex} {st : St}
    (hf : P.funcs[f]? = some fn) (hb : fn.body = some c) (hcond : (Nat.ble args.length fn.ntmps && (lent.map (·.1)).all (fun i => !(ownId i))) = true)
    (hx : exec P h callF n c { env := find (argEnv 0 args), ob := find lent } = some (e, st)) (hend : endK P fn lent e st = some (r, lent')) :
    ∀ (w : World) (μ : Mu) (loc : Nat → Value) (us : List Value), B.le μ → Pub μ w → (∀ id o, find lent id = some o → obOK w.heap.size (lentL loc (lent.map (·.1))) μ loc w id o) → Apart loc lent → repSs μ loc args us →
      (∀ w2, (callFunc f us.toArray).run P w2 = .ok (.enter f us.toArray) w2) ∧ Calls P f us.toArray w fun e w' => ∃ v μ' loc', e = .returned v ∧ CallPost μ loc (lent.map (·.1)) r lent' w v μ' loc' w' := by
  intro w μ loc us hBle hpub hobs hap hus
  simp only [Bool.and_eq_true] at hcond
  simp only [progOk, Bool.and_eq_true] at hok
  obtain ⟨hm, hfuncs⟩ := hok
  have hfn : funcOk fn = true := List.all_eq_true.1 hfuncs fn (List.mem_of_getElem? (show P.funcs.toList[f]? = some fn by simpa using hf))
  simp only [funcOk, hb, Bool.and_eq_true, Bool.not_eq_true'] at hfn
  obtain ⟨⟨hsmall, hname⟩, hdst⟩ := hfn
  have hlen := repSs_length hus
  have hle : args.length ≤ fn.ntmps := Nat.le_of_ble_eq_true hcond.1
  refine ⟨fun w2 => ?_, ?_⟩
  · have hname' : ¬ (fn.name = "runtime.NumGoroutine") := by simpa using hname
    simp [callFunc, hf, hname', hb]
  refine calls_of_wp hf hb ?_
  have hR : Rel fn.ntmps w μ (lentL loc (lent.map (·.1))) μ loc { env := find (argEnv 0 args), ob := find lent } { tmps := us.toArray ++ Array.replicate (fn.ntmps - us.toArray.size) undef, defers := [] } w := by
    refine ⟨Nat.le_of_ble_eq_true hsmall, ?_, ?_, ?_, rfl, ?_, hpub, ⟨Mu.le.refl _, fun _ _ _ h => .inl h⟩, hobs, hap, fun _ _ _ => rfl, rfl, rfl, rfl, Nat.le_refl _⟩
    · intro id hid
      have : ¬ (id ∈ lent.map (·.1)) := fun hm => by
        have := List.all_eq_true.1 hcond.2 id hm
        have h0 : ownId id = true := by simpa [ownId, Nat.blt_eq] using hid
        rw [h0] at this; cases this
      simp only [lentL, if_neg this]
    · intro id v hv _
      simp only [lentL] at hv
      split at hv
      · injection hv
      · cases hv
    · simp; omega
    · intro i s hi
      obtain ⟨k, hk, hs⟩ := find_argEnv args 0 i s hi
      obtain ⟨u, hu, hr⟩ := repSs_get hus hs
      have hlt := (List.getElem?_eq_some_iff.1 hu).1
      refine ⟨u, ?_, hr⟩
      rw [hk, Nat.zero_add, Array.getElem?_append_left (by simpa using hlt)]
      simpa using hu
  refine wp_mono (exec_sound (hcall.mono hBle) hm n c _ e st hdst hx μ loc _ w hR) ?_
  rintro e' a' w' ⟨rfl, μ1, loc1, h1⟩
  have fin : ∀ (e : Ex), endK P fn lent e st = some (r, lent') → (∀ id, e ≠ .exit id) → a'.defers = [] ∧ ∃ v, (results fn a'.tmps).run P w' = .ok v w' ∧ ∃ v' μ' loc', Ending.returned v = .returned v' ∧ CallPost μ loc (lent.map (·.1)) r lent' w v' μ' loc' w' := by
    intro e hend hne
    have hend' : (match selfRes fn (lent.map (·.1)) st with
      | some n => match backAll (lent.map (·.1)) st (lent.map (·.1)) with
        | some l => some (AV.self n, l)
        | none => none
      | none => match takeRes P fn.results.toList st with
      | some (st', vs) => match backAll (lent.map (·.1)) st' (lent.map (·.1)) with
        | some l => some (result vs, l)
        | none => none
      | none => none) = some (r, lent') := by
      cases e with
      | exit id => exact absurd rfl (hne id)
      | normal => exact hend
      | ret => exact hend
    split at hend'
    · rename_i n hself
      split at hend'
      · rename_i l hback
        simp only [Option.some.injEq, Prod.mk.injEq] at hend'
        obtain ⟨rfl, rfl⟩ := hend'
        have hget := backAll_get hback
        have post : ∀ v, (∃ A m c, loc1 10000 = .slice A m c ∧ n ≤ m ∧ v = .slice A n c) → 10000 ∈ lent.map (·.1) → CallPost μ loc (lent.map (·.1)) (.self n) l w v μ1 loc1 w' := fun v ⟨A, m, c, k1, k2, k3⟩ hmem =>
          ⟨h1.base, h1.pub, .inr ⟨n, A, m, c, rfl, hmem, k1, k2, k3⟩, fun id o ho => h1.obs id o (hget id o ho), fun i j oi oj hi hj => h1.apart i j oi oj (hget i oi hi) (hget j oj hj), h1.keep,
            fun id hid hlt => h1.fix id (loc id) (by simp [lentL, hid]) hlt, h1.os, h1.tape, h1.output, h1.grown⟩
        unfold selfRes at hself
        split at hself
        · rename_i t hres hnames
          have hone : ∀ u, a'.tmps[t]? = some u → (results fn a'.tmps).run P w' = .ok u w' := fun u hu => by
            obtain ⟨v, hrun, hv⟩ := results_run (P := P) (fn := fn) (tmps := a'.tmps) (w := w') (us := [u]) (by
              rw [hres]
              have : a'.tmps.getD t undef = u := by simp [hu]
              simp [List.mapM_cons, resOne, this])
            rcases hv with ⟨u', e, rfl⟩ | ⟨hne, _⟩
            · injection e with e; rw [e]; exact hrun
            · simp at hne
          have hmem : 10000 ∈ lent.map (·.1) := by rw [hnames]; simp
          split at hself
          · rename_i e' sz' xs' he hob
            injection hself with hself; subst hself
            obtain ⟨u, hu, hr⟩ := h1.env t _ he
            have hr : u = baseV (loc1 10000) := hr
            rw [base_row (h1.obs 10000 _ hob)] at hr
            obtain ⟨vs, hown, _⟩ := h1.obs 10000 _ hob
            refine ⟨h1.defers, u, hone u hu, u, μ1, loc1, rfl, post u ?_ hmem⟩
            rcases hown.2 with ⟨e1, e2⟩ | ⟨g, cap, cur, e1, _⟩
            · exact ⟨none, 0, 0, e1, by omega, by rw [hr, e1, e2]⟩
            · exact ⟨_, _, cap, e1, Nat.le_refl _, by rw [hr, e1]⟩
          · rename_i sz' n' e' sz2 xs' he hob
            injection hself with hself; subst hself
            obtain ⟨u, hu, hr⟩ := h1.env t _ he
            obtain ⟨A, m, c, A', c', k1, _, k2, _, k3, k4, _⟩ := hr
            obtain ⟨rfl, rfl⟩ := k4 rfl
            exact ⟨h1.defers, u, hone u hu, u, μ1, loc1, rfl, post u ⟨A', m, c', k1, k2, by simpa using k3⟩ hmem⟩
          · cases hself
        · cases hself
      · cases hend'
    · rename_i hself
      split at hend'
      · rename_i st2 vs ht
        split at hend'
        · rename_i l hback
          simp only [Option.some.injEq, Prod.mk.injEq] at hend'
          obtain ⟨rfl, rfl⟩ := hend'
          obtain ⟨μ2, us2, h2, hle2, hmap, hall⟩ := takeRes_sound fn.results.toList h1 ht
          obtain ⟨v, hrun, hv⟩ := results_run hmap
          refine ⟨h2.defers, v, hrun, v, μ2, loc1, rfl, ?_⟩
          have hget := backAll_get hback
          exact ⟨h2.base, h2.pub, .inl (result_rep hall hv), fun id o ho => h2.obs id o (hget id o ho), fun i j oi oj hi hj => h2.apart i j oi oj (hget i oi hi) (hget j oj hj), h2.keep,
            fun id hid hlt => h2.fix id (loc id) (by simp [lentL, hid]) hlt, h2.os, h2.tape, h2.output, h2.grown⟩
        · cases hend'
      · cases hend'
  cases e with
  | exit id => simp [endK, endN] at hend
  | normal => exact fin .normal hend (by simp)
  | ret => exact fin .ret hend (by simp)

end Go.AM
