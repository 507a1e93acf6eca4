/-
  THE ABSTRACT MACHINE: a run asks for finitely many calls; what calls give in the limit.
-/
import Derived.Test.YtfoddgpndoeeaaaGreatDoorAmCall
set_option linter.unusedVariables false
set_option linter.unusedSimpArgs false
namespace Go.AM
open Go.RowKit

theorem bif_some {R : Type} {b : Bool} {x : Option R} {r : R} (hv : (bif b then x else none) = some r) : b = true ∧ x = some r := by
  cases b with
  | true => exact ⟨rfl, hv⟩
  | false => cases hv

/-- calls and what they gave -/
abbrev Asked := List (Nat × List SV × List (Nat × Ob) × (AV × List (Nat × Ob)))
def Holds (F : CallF) (S : Asked) : Prop := ∀ s ∈ S, F s.1 s.2.1 s.2.2.1 = some s.2.2.2

theorem Holds.nil {F : CallF} : Holds F [] := fun _ h => by cases h
theorem Holds.append {F : CallF} {S T : Asked} (h : Holds F S) (k : Holds F T) : Holds F (S ++ T) := fun s hs => (List.mem_append.1 hs).elim (h s) (k s)
theorem Holds.left {F : CallF} {S T : Asked} (h : Holds F (S ++ T)) : Holds F S := fun s hs => h s (List.mem_append.2 (.inl hs))
theorem Holds.right {F : CallF} {S T : Asked} (h : Holds F (S ++ T)) : Holds F T := fun s hs => h s (List.mem_append.2 (.inr hs))
theorem Holds.one {F : CallF} {g : Nat} {args : List SV} {lent : List (Nat × Ob)} {r : AV × List (Nat × Ob)} (h : F g args lent = some r) : Holds F [(g, args, lent, r)] := fun s hs => by
  simp only [List.mem_singleton] at hs; subst hs; exact h
theorem Holds.get {F : CallF} {g : Nat} {args : List SV} {lent : List (Nat × Ob)} {r : AV × List (Nat × Ob)} (h : Holds F [(g, args, lent, r)]) : F g args lent = some r := h _ (List.mem_singleton.2 rfl)

section
variable {P : Program} {h : Hint} {F0 : CallF}

theorem callRO_fin {c : Call} {f : Operand} {st : St} {r : AV} (hv : callRO P h F0 st c f = some r) : ∃ S, Holds F0 S ∧ ∀ F, Holds F S → callRO P h F st c f = some r := by
  unfold callRO at hv
  split at hv
  · rename_i g args ha
    obtain ⟨hb, hv⟩ := bif_some hv
    split at hv
    · rename_i lent hl
      split at hv
      · rename_i r' lent' hr
        refine ⟨_, Holds.one hr, fun F hF => ?_⟩
        simp only [callRO, ha, hb, cond_true, hl, hF.get]
        exact hv
      · cases hv
    · cases hv
  · cases hv
theorem fval_fin {o : Oper} {st : St} {v : SV} (hv : fval P h F0 o st = some v) : ∃ S, Holds F0 S ∧ ∀ F, Holds F S → fval P h F o st = some v := by
  cases ho : o.op with
  | call c =>
    cases hc : c.callee with
    | value f =>
      simp only [fval, ho, hc] at hv
      cases how : o.dst.any h.owns.contains with
      | true => rw [how] at hv; cases hv
      | false =>
      rw [how] at hv
      simp only [cond_false] at hv
      cases hro : (o.dst.any h.stay.contains && wide st c f) with
      | true =>
        rw [hro] at hv
        simp only [cond_true, Option.map_eq_some_iff] at hv
        obtain ⟨r, hr, rfl⟩ := hv
        obtain ⟨S, hS, hk⟩ := callRO_fin hr
        refine ⟨S, hS, fun F hF => ?_⟩
        simp only [fval, ho, hc]
        rw [how, hro, hk F hF]; rfl
      | false =>
      rw [hro] at hv
      simp only [cond_false] at hv
      cases href : (wide st c f || c.args.toList.any (fun x => (refIn h st x).isSome)) with
      | true => rw [href] at hv; cases hv
      | false =>
        rw [href] at hv
        simp only [cond_false] at hv
        split at hv
        · rename_i g caps vs hf hvs
          split at hv
          · rename_i r hr
            refine ⟨_, Holds.one hr, fun F hF => ?_⟩
            simp only [fval, ho, hc, hf, hvs, hF.get]
            rw [how, hro, href]
            exact hv
          · cases hv
        · cases hv
    | builtin b => exact ⟨[], Holds.nil, fun F _ => by simp only [fval, ho, hc] at hv ⊢; exact hv⟩
    | invoke r m => exact ⟨[], Holds.nil, fun F _ => by simp only [fval, ho, hc] at hv ⊢; exact hv⟩
  | makeFunc fn first caps => exact ⟨[], Holds.nil, fun F _ => by cases fn <;> simp only [fval, ho] at hv ⊢ <;> exact hv⟩
  | _ => exact ⟨[], Holds.nil, fun F _ => by simp only [fval, ho] at hv ⊢; exact hv⟩

theorem callOwn_fin {c : Call} {f : Operand} {st : St} {d : Option Nat} {x : St} (hv : callOwn P h F0 st c f d = some x) : ∃ S, Holds F0 S ∧ ∀ F, Holds F S → callOwn P h F st c f d = some x := by
  unfold callOwn at hv
  split at hv
  · rename_i d
    split at hv
    · rename_i g caps vs hf hvs
      split at hv
      · rename_i e sz xs hr
        refine ⟨_, Holds.one hr, fun F hF => ?_⟩
        simp only [callOwn, hf, hvs, hF.get]
        exact hv
      · rename_i cs hr
        refine ⟨_, Holds.one hr, fun F hF => ?_⟩
        simp only [callOwn, hf, hvs, hF.get]
        exact hv
      · cases hv
    · cases hv
  · cases hv

theorem callRef_fin {c : Call} {f : Operand} {st : St} {d : Option Nat} {x : St} (hv : callRef P h F0 st c f d = some x) : ∃ S, Holds F0 S ∧ ∀ F, Holds F S → callRef P h F st c f d = some x := by
  unfold callRef at hv
  split at hv
  · rename_i g caps vs id hf hvs
    split at hv
    · rename_i e sz xs hob
      split at hv
      · rename_i r nm e' sz' xs' hr
        refine ⟨_, Holds.one hr, fun F hF => ?_⟩
        simp only [callRef, hf, hvs, hob, hF.get]
        exact hv
      · cases hv
    · cases hv
  · cases hv

theorem callMany_fin {c : Call} {f : Operand} {st : St} {d : Option Nat} {x : St} (hv : callMany P h F0 st c f d = some x) : ∃ S, Holds F0 S ∧ ∀ F, Holds F S → callMany P h F st c f d = some x := by
  unfold callMany at hv
  split at hv
  · rename_i g caps vs hf hvs
    simp only [] at hv
    obtain ⟨hb, hv⟩ := bif_some hv
    split at hv
    · rename_i lent hl
      split at hv
      · rename_i r lent' hr
        refine ⟨_, Holds.one hr, fun F hF => ?_⟩
        simp only [callMany, hf, hvs, hb, cond_true, hl, hF.get]
        exact hv
      · cases hv
    · cases hv
  · cases hv

theorem eff_other {o : Oper} {st : St} (ho : ∀ c, o.op ≠ .call c) (F : CallF) : eff P h F o st = eff P h F0 o st := by
  unfold eff
  split <;> first | rfl | (rename_i hc; exact absurd hc (ho _)) | (rename_i hc _; exact absurd hc (ho _))

theorem publish_lend {st st' : St} {id : Nat} (hp : st.publish id = some st') {x : Operand} {ty : TypeId} {a : AV} (hl : (opnd P ty st x).bind (lend st) = some a) : (opnd P ty st' x).bind (lend st') = some a := by
  unfold St.publish at hp
  split at hp
  · rename_i e sz xs hb hob
    injection hp with hp
    subst hp
    cases x with
    | tmp i =>
      simp only [opnd] at hl ⊢
      cases hi : st.env i with
      | none => rw [hi] at hl; cases hl
      | some s =>
        rw [hi] at hl
        simp only [Option.bind_some, Option.map_some] at hl ⊢
        cases s with
        | pv v => simpa [lend, SV.publish, SV.purge, SV.mentions] using hl
        | row j =>
          simp only [lend] at hl
          simp only [SV.publish]
          cases hj : Nat.beq j id with
          | true =>
            have := beq_iff.1 hj; subst this
            rw [hob] at hl
            simpa [lend] using hl
          | false =>
            have hne : id ≠ j := fun e => by subst e; simp [beq_iff.2] at hj
            simp only [cond_false, lend, put_other _ _ hne]
            obtain ⟨ob, hob', hval⟩ := Option.bind_eq_some_iff.1 hl
            rw [hob']
            cases ob with
            | box t cells => simp [Ob.val] at hval
            | row e' sz' xs' => simpa [Ob.publish] using hval
            | mp k' e' ks' vs' => simpa [Ob.publish] using hval
            | mr k' e' s' ks' vs' => simpa [Ob.publish] using hval
            | it s' n' => simp [Ob.val] at hval
        | _ => cases hl
    | const v => simp only [opnd] at hl ⊢; cases hc : ofConst P ty v <;> simp [hc, lend] at hl ⊢; exact hl
    | func f => simpa [opnd, lend] using hl
    | global g => simp [opnd] at hl
  · cases hp

theorem publishAll_lend : ∀ {xs : List Operand} {st st' : St}, eff.publishAll st xs = some st' → ∀ {x : Operand} {ty : TypeId} {a : AV}, (opnd P ty st x).bind (lend st) = some a → (opnd P ty st' x).bind (lend st') = some a := by
  intro xs
  induction xs with
  | nil => intro st st' hp x ty a hl; simp only [eff.publishAll, Option.some.injEq] at hp; subst hp; exact hl
  | cons y xs ih =>
    intro st st' hp x ty a hl
    cases y with
    | tmp i =>
      simp only [eff.publishAll] at hp
      split at hp
      · rename_i id hi
        cases h1 : st.publish id with
        | none => rw [h1] at hp; cases hp
        | some st1 => rw [h1] at hp; exact ih hp (publish_lend h1 hl)
      · exact ih hp hl
    | const v => exact ih hp hl
    | func f => exact ih hp hl
    | global g => exact ih hp hl

theorem publishAll_lendAll {st st' : St} {ys : List Operand} (hp : eff.publishAll st ys = some st') : ∀ {xs : List Operand} {ts : List TypeId} {vs : List AV}, lendAll P st xs ts = some vs → lendAll P st' xs ts = some vs := by
  intro xs
  induction xs with
  | nil => intro ts vs hl; exact hl
  | cons x xs ih =>
    intro ts vs hl
    simp only [lendAll] at hl ⊢
    split at hl
    · rename_i v us hv hus
      rw [publishAll_lend hp hv, ih hus]
      exact hl
    · cases hl

theorem publishAll_fn {st st' : St} {ys : List Operand} (hp : eff.publishAll st ys = some st') {f : Operand} {g : Nat} {caps : List AV} (hf : opnd P 0 st f = some (.pv (.fn g caps))) : opnd P 0 st' f = some (.pv (.fn g caps)) := by
  have := publishAll_lend (P := P) hp (x := f) (ty := 0) (a := .fn g caps) (by rw [hf]; rfl)
  cases h1 : opnd P 0 st' f with
  | none => rw [h1] at this; cases this
  | some s =>
    rw [h1] at this
    simp only [Option.bind_some] at this
    cases s with
    | pv v => simp only [lend, Option.some.injEq] at this; rw [this]
    | row id =>
      simp only [lend] at this
      obtain ⟨ob, _, hval⟩ := Option.bind_eq_some_iff.1 this
      cases ob <;> simp [Ob.val] at hval
    | _ => cases this

theorem eff_fin {o : Oper} {st st' : St} (hv : eff P h F0 o st = some st') : ∃ S, Holds F0 S ∧ ∀ F, Holds F S → eff P h F o st = some st' := by
  cases ho : o.op with
  | call c =>
    cases hc : c.callee with
    | value f =>
      have e1 : ∀ F, eff P h F o st = (bif o.dst.any h.owns.contains then callOwn P h F st c f o.dst else bif o.dst.any h.stay.contains && wide st c f then none else bif wide st c f then callMany P h F st c f o.dst else bif c.args.toList.any (fun x => (refIn h st x).isSome) then callRef P h F st c f o.dst else
        match eff.publishAll st c.args.toList with
        | some st' => match opnd P 0 st' f, lendAll P st' c.args.toList c.argTypes.toList with
          | some (.pv (.fn g caps)), some vs => match F g ((vs ++ caps).map .pv) [] with
            | some (r, []) => bif c.args.toList.any (rowIn st') || !r.noSelf then none else some (st'.set o.dst (.pv r))
            | _ => none
          | _, _ => none
        | none => none) := fun F => by
        cases hd : o.dst <;> simp only [eff, ho, hc, hd] <;> rfl
      rw [e1] at hv
      cases how : o.dst.any h.owns.contains with
      | true =>
        rw [how] at hv
        simp only [cond_true] at hv
        obtain ⟨S, hS, hall⟩ := callOwn_fin hv
        exact ⟨S, hS, fun F hF => by rw [e1, how]; simp only [cond_true, hall F hF]⟩
      | false =>
      rw [how] at hv
      simp only [cond_false] at hv
      cases hro : (o.dst.any h.stay.contains && wide st c f) with
      | true => rw [hro] at hv; cases hv
      | false =>
      rw [hro] at hv
      simp only [cond_false] at hv
      cases hw : wide st c f with
      | true =>
        rw [hw] at hv
        simp only [cond_true] at hv
        obtain ⟨S, hS, hall⟩ := callMany_fin hv
        exact ⟨S, hS, fun F hF => by rw [e1, how, hro, hw]; simp only [cond_true, cond_false, hall F hF]⟩
      | false =>
      rw [hw] at hv
      simp only [cond_false] at hv
      cases href : c.args.toList.any (fun x => (refIn h st x).isSome) with
      | true =>
        rw [href] at hv
        simp only [cond_true] at hv
        obtain ⟨S, hS, hall⟩ := callRef_fin hv
        exact ⟨S, hS, fun F hF => by rw [e1, how, hro, hw, href]; simp only [cond_true, cond_false, hall F hF]⟩
      | false =>
        rw [href] at hv
        simp only [cond_false] at hv
        split at hv
        · rename_i st1 hp
          split at hv
          · rename_i g caps vs hf hvs
            split at hv
            · rename_i r hr
              refine ⟨_, Holds.one hr, fun F hF => ?_⟩
              rw [e1, how, hro, hw, href]
              simp only [cond_false, hp, hf, hvs, hF.get]
              exact hv
            · cases hv
          · cases hv
        · cases hv
    | builtin b => exact ⟨[], Holds.nil, fun F _ => by cases hd : o.dst <;> cases b <;> simp only [eff, ho, hc, hd] at hv ⊢ <;> exact hv⟩
    | invoke r m => exact ⟨[], Holds.nil, fun F _ => by cases hd : o.dst <;> simp only [eff, ho, hc, hd] at hv ⊢ <;> exact hv⟩
  | _ => exact ⟨[], Holds.nil, fun F _ => by rw [eff_other (F0 := F0) (fun c hc => by rw [ho] at hc; cases hc) F]; exact hv⟩

/-- where a value fails, it fails for all calls, or a call fails: an effect that is asked for then is asked for by all that give as much -/
theorem step0_fin {o : Oper} {st st' : St} (hv : step0 P h F0 o st = some st') : ∃ S, Holds F0 S ∧ ∀ F, Holds F S → step0 P h F o st = some st' := by
  unfold step0 at hv
  split at hv
  · rename_i v hf
    obtain ⟨S, hS, hall⟩ := fval_fin hf
    exact ⟨S, hS, fun F hF => by simp only [step0, hall F hF]; exact hv⟩
  · rename_i hf
    have done : ∀ S, Holds F0 S → (∀ F, Holds F S → fval P h F o st = none ∧ eff P h F o st = some st') → ∃ S, Holds F0 S ∧ ∀ F, Holds F S → step0 P h F o st = some st' := fun S hS hall =>
      ⟨S, hS, fun F hF => by simp only [step0, (hall F hF).1]; exact (hall F hF).2⟩
    have easy : (∀ F, fval P h F o st = fval P h F0 o st) → ∃ S, Holds F0 S ∧ ∀ F, Holds F S → step0 P h F o st = some st' := fun hsame => by
      obtain ⟨S, hS, hall⟩ := eff_fin hv
      exact done S hS fun F hF => ⟨by rw [hsame F]; exact hf, hall F hF⟩
    cases ho : o.op with
    | call c =>
      cases hc : c.callee with
      | value f =>
        cases how : o.dst.any h.owns.contains with
        | true => exact easy fun F => by simp only [fval, ho, hc, how, cond_true]
        | false =>
        cases hro : (o.dst.any h.stay.contains && wide st c f) with
        | true =>
          cases hd : o.dst <;> (simp only [eff, ho, hc, hd] at hv; rw [hd] at hro how; rw [how, hro] at hv; cases hv)
        | false =>
        cases href0 : (wide st c f || c.args.toList.any (fun x => (refIn h st x).isSome)) with
        | true =>
          obtain ⟨S, hS, hall⟩ := eff_fin hv
          exact done S hS fun F hF => ⟨by simp only [fval, ho, hc]; rw [how, hro, href0]; rfl, hall F hF⟩
        | false =>
          obtain ⟨hwd, href⟩ := Bool.or_eq_false_iff.1 href0
          have e1 : ∀ F, eff P h F o st = (bif o.dst.any h.owns.contains then callOwn P h F st c f o.dst else bif o.dst.any h.stay.contains && wide st c f then none else bif wide st c f then callMany P h F st c f o.dst else bif c.args.toList.any (fun x => (refIn h st x).isSome) then callRef P h F st c f o.dst else
            match eff.publishAll st c.args.toList with
            | some st' => match opnd P 0 st' f, lendAll P st' c.args.toList c.argTypes.toList with
              | some (.pv (.fn g caps)), some vs => match F g ((vs ++ caps).map .pv) [] with
                | some (r, []) => bif c.args.toList.any (rowIn st') || !r.noSelf then none else some (st'.set o.dst (.pv r))
                | _ => none
              | _, _ => none
            | none => none) := fun F => by
            cases hd : o.dst <;> simp only [eff, ho, hc, hd] <;> rfl
          rw [e1, how, hro, hwd, href] at hv
          simp only [cond_false] at hv
          split at hv
          · rename_i st1 hp
            split at hv
            · rename_i g caps vs hfn hvs
              split at hv
              · rename_i r hr
                refine done _ (Holds.one hr) fun F hF => ⟨?_, ?_⟩
                · simp only [fval, ho, hc]
                  rw [how, hro, href0]
                  simp only [cond_false]
                  split
                  · rename_i g2 caps2 vs2 hfn2 hvs2
                    have k1 := publishAll_fn hp hfn2
                    rw [hfn] at k1
                    simp only [Option.some.injEq, SV.pv.injEq, AV.fn.injEq] at k1
                    obtain ⟨rfl, rfl⟩ := k1
                    have k2 := publishAll_lendAll hp hvs2
                    rw [hvs] at k2
                    injection k2 with k2
                    subst k2
                    simp only [fval, ho, hc] at hf
                    rw [how, hro, href0] at hf
                    simp only [cond_false, hfn2, hvs2, hr] at hf
                    rw [hF.get]
                    exact hf
                  · rfl
                · rw [e1, how, hro, hwd, href]
                  simp only [cond_false, hp, hfn, hvs, hF.get]
                  exact hv
              · cases hv
            · cases hv
          · cases hv
      | builtin b => exact easy fun F => by simp only [fval, ho, hc]
      | invoke r m => exact easy fun F => by simp only [fval, ho, hc]
    | makeFunc fn first caps => exact easy fun F => by cases fn <;> simp only [fval, ho]
    | _ => exact easy fun F => by simp only [fval, ho]

theorem step_fin {o : Oper} {st st' : St} (hv : step P h F0 o st = some st') : ∃ S, Holds F0 S ∧ ∀ F, Holds F S → step P h F o st = some st' := by
  unfold step at hv
  obtain ⟨st1, h1, h2⟩ := Option.bind_eq_some_iff.1 hv
  obtain ⟨S, hS, k⟩ := step0_fin h2
  exact ⟨S, hS, fun F hF => by simp only [step, h1, Option.bind_some, k F hF]⟩

theorem runOps_fin {ops : Array Oper} : ∀ {l : List Oper} {st st' : St}, runOps P h F0 ops l st = some st' → ∃ S, Holds F0 S ∧ ∀ F, Holds F S → runOps P h F ops l st = some st' := by
  intro l
  induction l with
  | nil => intro st st' hv; exact ⟨[], Holds.nil, fun F _ => hv⟩
  | cons o l ih =>
    intro st st' hv
    simp only [runOps] at hv
    split at hv
    · rename_i b hw
      cases b with
      | true =>
        simp only [cond_true] at hv
        cases hs : step P h F0 o st with
        | none => rw [hs] at hv; cases hv
        | some st1 =>
          rw [hs] at hv
          obtain ⟨S1, h1, k1⟩ := step_fin hs
          obtain ⟨S2, h2, k2⟩ := ih hv
          exact ⟨S1 ++ S2, h1.append h2, fun F hF => by simp only [runOps, hw, cond_true, k1 F hF.left, Option.bind_some]; exact k2 F hF.right⟩
      | false =>
        simp only [cond_false] at hv
        obtain ⟨S2, h2, k2⟩ := ih hv
        exact ⟨S2, h2, fun F hF => by simp only [runOps, hw, cond_false]; exact k2 F hF⟩
    · cases hv

theorem runDraw_fin {ops : Array Oper} : ∀ {l : List Oper} {i : Nat} {prev : List (Nat × Foot)} {st st' : St}, runDraw P h F0 ops i l prev st = some st' → ∃ S, Holds F0 S ∧ ∀ F, Holds F S → runDraw P h F ops i l prev st = some st' := by
  intro l
  induction l with
  | nil => intro i prev st st' hv; exact ⟨[], Holds.nil, fun F _ => hv⟩
  | cons o l ih =>
    intro i prev st st' hv
    simp only [runDraw] at hv
    split at hv
    · cases hv
    · rename_i b hw
      cases b with
      | true =>
        simp only [cond_true] at hv
        cases hF : (isF h st o && (preOf h o).isEmpty) with
        | true =>
          simp only [hF, cond_true] at hv
          split at hv
          · rename_i v hf
            obtain ⟨hb, hv⟩ := bif_some hv
            obtain ⟨S1, h1, k1⟩ := fval_fin hf
            obtain ⟨S2, h2, k2⟩ := ih hv
            exact ⟨S1 ++ S2, h1.append h2, fun F hS => by simp only [runDraw, hw, cond_true, hF, k1 F hS.left, hb]; exact k2 F hS.right⟩
          · cases hv
        | false =>
          simp only [hF, cond_false] at hv
          split at hv
          · rename_i st1 hs
            obtain ⟨hb, hv⟩ := bif_some hv
            obtain ⟨S1, h1, k1⟩ := step_fin hs
            obtain ⟨S2, h2, k2⟩ := ih hv
            exact ⟨S1 ++ S2, h1.append h2, fun F hS => by simp only [runDraw, hw, cond_true, hF, cond_false, k1 F hS.left, hb]; exact k2 F hS.right⟩
          · cases hv
      | false =>
        simp only [cond_false] at hv
        obtain ⟨hb, hv⟩ := bif_some hv
        obtain ⟨S2, h2, k2⟩ := ih hv
        exact ⟨S2, h2, fun F hS => by simp only [runDraw, hw, cond_false, hb, cond_true]; exact k2 F hS⟩

theorem exec_fin {n : Nat} : ∀ (c : Code) {st : St} {x : Ex × St}, exec P h F0 n c st = some x → ∃ S, Holds F0 S ∧ ∀ F m, Holds F S → n ≤ m → exec P h F m c st = some x := by
  intro c
  induction c with
  | skip => intro st x hv; exact ⟨[], Holds.nil, fun F m _ _ => hv⟩
  | label l => intro st x hv; exact ⟨[], Holds.nil, fun F m _ _ => hv⟩
  | exit id => intro st x hv; exact ⟨[], Holds.nil, fun F m _ _ => hv⟩
  | ret => intro st x hv; exact ⟨[], Holds.nil, fun F m _ _ => hv⟩
  | region id ops draw =>
    intro st x hv
    simp only [exec] at hv
    obtain ⟨st1, hpub, hv⟩ := Option.bind_eq_some_iff.1 hv
    cases draw with
    | true =>
      simp only [cond_true] at hv
      obtain ⟨hb, hv⟩ := bif_some hv
      simp only [Option.map_eq_some_iff] at hv
      obtain ⟨s, hr, rfl⟩ := hv
      obtain ⟨S, hS, k⟩ := runDraw_fin hr
      exact ⟨S, hS, fun F m hF _ => by simp only [exec, hpub, Option.bind_some, cond_true, hb, k F hF, Option.map_some]⟩
    | false =>
      simp only [cond_false, Option.map_eq_some_iff] at hv
      obtain ⟨s, hr, rfl⟩ := hv
      obtain ⟨S, hS, k⟩ := runOps_fin hr
      exact ⟨S, hS, fun F m hF _ => by simp only [exec, hpub, Option.bind_some, cond_false, k F hF, Option.map_some]⟩
  | seq a b iha ihb =>
    intro st x hv
    simp only [exec] at hv
    cases hfb : find h.blk (firstRegion a) with
    | some z => simp only [hfb] at hv; exact ⟨[], Holds.nil, fun F m _ _ => by simp only [exec, hfb]; exact hv⟩
    | none =>
    simp only [hfb] at hv
    split at hv
    · rename_i st1 ha
      obtain ⟨S1, h1, k1⟩ := iha ha
      obtain ⟨S2, h2, k2⟩ := ihb hv
      exact ⟨S1 ++ S2, h1.append h2, fun F m hF hm => by simp only [exec, hfb, k1 F m hF.left hm]; exact k2 F m hF.right hm⟩
    · rename_i hne
      obtain ⟨S1, h1, k1⟩ := iha hv
      refine ⟨S1, h1, fun F m hF hm => ?_⟩
      simp only [exec, hfb, k1 F m hF hm]
      obtain ⟨e, s⟩ := x
      cases e with
      | normal => exact absurd hv (hne s)
      | exit j => rfl
      | ret => rfl
  | cond c a b iha ihb =>
    intro st x hv
    simp only [exec] at hv
    split at hv
    · rename_i t hc
      cases t with
      | true => obtain ⟨S, hS, k⟩ := iha hv; exact ⟨S, hS, fun F m hF hm => by simp only [exec, hc, cond_true]; exact k F m hF hm⟩
      | false => obtain ⟨S, hS, k⟩ := ihb hv; exact ⟨S, hS, fun F m hF hm => by simp only [exec, hc, cond_false]; exact k F m hF hm⟩
    · cases hv
  | block id c ih =>
    intro st x hv
    simp only [exec] at hv
    split at hv
    · rename_i j s hc
      obtain ⟨S, hS, k⟩ := ih hc
      exact ⟨S, hS, fun F m hF hm => by simp only [exec, k F m hF hm]; exact hv⟩
    · rename_i hne
      obtain ⟨S, hS, k⟩ := ih hv
      refine ⟨S, hS, fun F m hF hm => ?_⟩
      simp only [exec, k F m hF hm]
      obtain ⟨e, s⟩ := x
      cases e with
      | normal => rfl
      | exit j => exact absurd hv (hne j s)
      | ret => rfl
  | loop c ih =>
    intro st x hv
    simp only [exec] at hv
    have key : ∀ (q : Nat) {st : St} {x : Ex × St}, iter h (firstRegion c) (exec P h F0 n c) q st = some x → ∃ S, Holds F0 S ∧ ∀ F m q', Holds F S → n ≤ m → q ≤ q' → iter h (firstRegion c) (exec P h F m c) q' st = some x := by
      intro q
      induction q with
      | zero => intro st x hv; simp [iter] at hv
      | succ q ihq =>
        intro st x hv
        simp only [iter] at hv
        split at hv
        · rename_i st1 hc
          obtain ⟨S1, h1, k1⟩ := ih hc
          obtain ⟨S2, h2, k2⟩ := ihq hv
          refine ⟨S1 ++ S2, h1.append h2, fun F m q' hF hm hq => ?_⟩
          obtain ⟨q'', rfl⟩ : ∃ q'', q' = q'' + 1 := ⟨q' - 1, by omega⟩
          simp only [iter, k1 F m hF.left hm]
          exact k2 F m q'' hF.right hm (by omega)
        · rename_i hne
          obtain ⟨S1, h1, k1⟩ := ih hv
          refine ⟨S1, h1, fun F m q' hF hm hq => ?_⟩
          obtain ⟨q'', rfl⟩ : ∃ q'', q' = q'' + 1 := ⟨q' - 1, by omega⟩
          simp only [iter, k1 F m hF hm]
          obtain ⟨e, s⟩ := x
          cases e with
          | normal => exact absurd hv (hne s)
          | exit j => rfl
          | ret => rfl
    obtain ⟨S, hS, k⟩ := key n hv
    exact ⟨S, hS, fun F m hF hm => by simp only [exec]; exact k F m m hF hm hm⟩
  | scope c ih =>
    intro st x hv
    simp only [exec] at hv
    obtain ⟨S, hS, k⟩ := ih hv
    exact ⟨S, hS, fun F m hF hm => by simp only [exec]; exact k F m hF hm⟩
  | rangeFunc f ps a b iha ihb => intro st x hv; simp [exec] at hv
  | goto l => intro st x hv; simp [exec] at hv
  | refuse s => intro st x hv; simp [exec] at hv

theorem exec_more {n m : Nat} (hm : n ≤ m) {c : Code} {st : St} {x : Ex × St} (hv : exec P h F0 n c st = some x) : exec P h F0 m c st = some x := by
  obtain ⟨S, hS, k⟩ := exec_fin c hv
  exact k F0 m hS hm
end

section
variable {P : Program} {H : Nat → Hint} {prim : CallF}

theorem callD_succ : ∀ (n : Nat) {f : Nat} {args : List SV} {lent : List (Nat × Ob)} {r : AV × List (Nat × Ob)}, callD P H prim n f args lent = some r → callD P H prim (n + 1) f args lent = some r := by
  intro n
  induction n with
  | zero => intro f args lent r hv; simp [callD] at hv
  | succ n ih =>
    intro f args lent r hv
    rw [callD] at hv ⊢
    dsimp only at hv ⊢
    split at hv
    · rename_i x hp; (try simp only [hp]); exact hv
    · rename_i hp
      (try simp only [hp])
      split at hv
      · rename_i fn hf
        (try simp only [hf])
        split at hv
        · rename_i c hb
          (try simp only [hb])
          obtain ⟨hc, hv⟩ := bif_some hv
          rw [hc]
          simp only [cond_true]
          split at hv
          · rename_i e st hx
            obtain ⟨S, hS, k⟩ := exec_fin c hx
            have hS' : Holds (callD P H prim (n + 1)) S := fun s hs => ih (hS s hs)
            rw [k _ (n + 1) hS' (by omega)]
            exact hv
          · cases hv
        · cases hv
      · cases hv

theorem callD_more {n m : Nat} (hm : n ≤ m) {f : Nat} {args : List SV} {lent : List (Nat × Ob)} {r : AV × List (Nat × Ob)} (hv : callD P H prim n f args lent = some r) : callD P H prim m f args lent = some r := by
  induction hm with
  | refl => exact hv
  | step _ ih => exact callD_succ _ ih

/-- what a call gives -/
noncomputable def run (P : Program) (H : Nat → Hint) (prim : CallF) : CallF := fun f args lent =>
  open Classical in if h : ∃ r n, callD P H prim n f args lent = some r then some h.choose else none

theorem run_iff {f : Nat} {args : List SV} {lent : List (Nat × Ob)} {r : AV × List (Nat × Ob)} : run P H prim f args lent = some r ↔ ∃ n, callD P H prim n f args lent = some r := by
  constructor
  · intro hv
    unfold run at hv
    split at hv
    · rename_i hex
      injection hv with hv
      rw [← hv]
      exact hex.choose_spec
    · cases hv
  · rintro ⟨n, hn⟩
    unfold run
    have hex : ∃ r n, callD P H prim n f args lent = some r := ⟨r, n, hn⟩
    rw [dif_pos hex]
    obtain ⟨m, hm⟩ := hex.choose_spec
    have h1 := callD_more (Nat.le_max_left n m) hn
    have h2 := callD_more (Nat.le_max_right n m) hm
    rw [h1] at h2
    exact h2.symm

theorem holds_run {S : Asked} (hS : Holds (run P H prim) S) : ∃ n, Holds (callD P H prim n) S := by
  induction S with
  | nil => exact ⟨0, Holds.nil⟩
  | cons s S ih =>
    obtain ⟨n, hn⟩ := ih fun t ht => hS t (List.mem_cons_of_mem _ ht)
    obtain ⟨m, hm⟩ := run_iff.1 (hS s (List.mem_cons_self ..))
    refine ⟨max n m, fun t ht => ?_⟩
    cases List.mem_cons.1 ht with
    | inl e => subst e; exact callD_more (Nat.le_max_right ..) hm
    | inr e => exact callD_more (Nat.le_max_left ..) (hn t e)

/-- a call of a function whose body runs -/
theorem run_of_exec {f : Nat} {fn : Func} {c : Code} {args : List SV} {lent : List (Nat × Ob)} {r : AV × List (Nat × Ob)} {n : Nat} {e : Ex} {st : St} (hp : prim f args lent = none)
    (hf : P.funcs[f]? = some fn) (hb : fn.body = some c) (hc : (Nat.ble args.length fn.ntmps && (lent.map (·.1)).all (fun i => !(ownId i))) = true)
    (hx : exec P (H f) (run P H prim) n c { env := find (argEnv 0 args), ob := find lent } = some (e, st)) (he : endK P (H f).own fn lent e st = some r) : run P H prim f args lent = some r := by
  obtain ⟨S, hS, k⟩ := exec_fin c hx
  obtain ⟨m, hm⟩ := holds_run hS
  have hS' : Holds (callD P H prim (max n m)) S := fun s hs => callD_more (Nat.le_max_right ..) (hm s hs)
  refine run_iff.2 ⟨max n m + 1, ?_⟩
  simp only [callD, hp, hf, hb, hc, cond_true, k _ (max n m) hS' (Nat.le_max_left ..)]
  exact he

theorem run_of_prim {f : Nat} {args : List SV} {lent : List (Nat × Ob)} {r : AV × List (Nat × Ob)} (hp : prim f args lent = some r) : run P H prim f args lent = some r :=
  run_iff.2 ⟨1, by simp only [callD, hp]⟩

theorem callD_sound {q : Prop} {B : Mu} (hok : progOk P = true) (hblk : ∀ f fn c, P.funcs[f]? = some fn → fn.body = some c → BlkOK q B P (H f) fn.ntmps c) (hprim : CallOK q B P prim) : ∀ n, CallOK q B P (callD P H prim n) := by
  intro n
  induction n with
  | zero => intro g args lent r lent' hv; simp [callD] at hv
  | succ n ih =>
    intro g args lent r lent' hv
    simp only [callD] at hv
    split at hv
    · rename_i x hp
      injection hv with hv
      subst hv
      exact hprim g args lent r lent' hp
    · split at hv
      · rename_i fn hf
        split at hv
        · rename_i c hb
          obtain ⟨hc, hv⟩ := bif_some hv
          split at hv
          · rename_i e st hx
            exact body_sound hok (hblk g) ih hf hb hc hx hv
          · cases hv
        · cases hv
      · cases hv

/-- CALLS ARE SOUND -/
theorem run_sound {q : Prop} {B : Mu} (hok : progOk P = true) (hblk : ∀ f fn c, P.funcs[f]? = some fn → fn.body = some c → BlkOK q B P (H f) fn.ntmps c) (hprim : CallOK q B P prim) : CallOK q B P (run P H prim) := by
  intro g args lent r lent' hv
  obtain ⟨n, hn⟩ := run_iff.1 hv
  exact callD_sound hok hblk hprim n g args lent r lent' hn
end
end Go.AM
