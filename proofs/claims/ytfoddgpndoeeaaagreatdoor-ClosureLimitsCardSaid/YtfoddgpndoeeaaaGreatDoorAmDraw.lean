/-
  THE ABSTRACT MACHINE: a region whose order is open.
-/
import Derived.Test.YtfoddgpndoeeaaaGreatDoorAmRun
set_option linter.unusedVariables false
set_option linter.unusedSimpArgs false
namespace Go.AM
open Go.RowKit

section
variable {P : Program} {h : Hint} {callF : CallF}

theorem opnd_congr {st st' : St} {x : Operand} (hx : ∀ t, x = .tmp t → st.env t = st'.env t) (ty : TypeId) : opnd P ty st x = opnd P ty st' x := by
  cases x with
  | tmp t => exact hx t rfl
  | _ => rfl

/-- the objects that an operand speaks of are the same -/
def SameAt (P : Program) (st st' : St) (x : Operand) : Prop := ∀ ty sv, opnd P ty st x = some sv → ∀ id ∈ sv.ids, st.ob id = st'.ob id

theorem elems_congr {st st' : St} {v : SV} (hv : ∀ id ∈ v.ids, st.ob id = st'.ob id) : elems st v = elems st' v := by
  cases v with
  | row id => simp only [elems, hv id (by simp [SV.ids])]
  | pv x => cases x <;> rfl
  | _ => rfl
theorem maps_congr {st st' : St} {v : SV} (hv : ∀ id ∈ v.ids, st.ob id = st'.ob id) : maps st v = maps st' v := by
  cases v with
  | row id => simp only [maps, hv id (by simp [SV.ids])]
  | pv x => cases x <;> rfl
  | _ => rfl
theorem lend_congr {st st' : St} {v : SV} (hv : ∀ id ∈ v.ids, st.ob id = st'.ob id) : lend st v = lend st' v := by
  cases v with
  | row id => simp only [lend, hv id (by simp [SV.ids])]
  | _ => rfl

theorem lendAll_congr {st st' : St} {xs : List Operand} {ts : List TypeId} (hob : ∀ x ∈ xs, SameAt P st st' x) (hx : ∀ x ∈ xs, ∀ ty, opnd P ty st x = opnd P ty st' x) : lendAll P st xs ts = lendAll P st' xs ts := by
  induction xs generalizing ts with
  | nil => rfl
  | cons x xs ih =>
    have hl : (opnd P (ts.headD 0) st x).bind (lend st) = (opnd P (ts.headD 0) st' x).bind (lend st') := by
      rw [← hx x (by simp)]
      cases ho : opnd P (ts.headD 0) st x with
      | none => rfl
      | some sv => exact lend_congr (hob x (by simp) _ sv ho)
    simp only [lendAll]
    rw [hl, ih (fun y hy => hob y (by simp [hy])) (fun y hy => hx y (by simp [hy]))]

theorem pureArgs_congr {st st' : St} {b : Bool} : ∀ {xs : List Operand} {ts : List TypeId}, (∀ x ∈ xs, ∀ ty, opnd P ty st x = opnd P ty st' x) → pureArgs P b st xs ts = pureArgs P b st' xs ts
  | [], _, _ => rfl
  | x :: xs, ts, hx => by
    simp only [pureArgs, pureArg]
    rw [hx x (by simp), pureArgs_congr (fun y hy => hx y (by simp [hy]))]
theorem partsOf_congr {st st' : St} {ty : Nat → TypeId} {l : List (Nat × Operand)} (hx : ∀ x ∈ l.map (·.2), ∀ t, opnd P t st x = opnd P t st' x) : partsOf P ty st l = partsOf P ty st' l := by
  induction l with
  | nil => rfl
  | cons p l ih =>
    obtain ⟨i, x⟩ := p
    simp only [partsOf]
    rw [hx x (by simp), ih (fun y hy => hx y (by simp only [List.map_cons, List.mem_cons]; exact .inr hy))]

theorem minMaxAll_congr {st st' : St} {b : Bool} {acc : AV} {l : List Operand} (hx : ∀ x ∈ l, ∀ t, opnd P t st x = opnd P t st' x) : minMaxAll P st b acc l = minMaxAll P st' b acc l := by
  induction l generalizing acc with
  | nil => rfl
  | cons x l ih =>
    simp only [minMaxAll]
    rw [hx x (by simp)]
    cases (opnd P 0 st' x).bind pure? with
    | none => rfl
    | some v =>
      simp only
      cases minMax b acc v with
      | none => rfl
      | some r => exact ih (fun y hy => hx y (by simp [hy]))

theorem pcall_congr {st st' : St} {c : Call} (hob : ∀ x ∈ c.args.toList, SameAt P st st' x) (hx : ∀ x ∈ c.args.toList, ∀ ty, opnd P ty st x = opnd P ty st' x) : pcall P c st = pcall P c st' := by
  obtain ⟨cal, ⟨args⟩, tys⟩ := c
  unfold pcall
  simp only at hx hob ⊢
  split
  · rename_i x
    have hxx := hx x (by simp)
    have hxo := hob x (by simp)
    split
    · rename_i t _
      rw [← hxx t]
      cases ho : opnd P t st x with
      | none =>
        rcases P.underlying t with _ | d
        · rfl
        · cases d <;> rfl
      | some sv =>
        have := elems_congr (hxo t sv ho)
        have this2 := maps_congr (hxo t sv ho)
        rcases P.underlying t with _ | d
        · rfl
        · cases d <;> first
            | rfl
            | (show Option.map _ (maps st sv) = Option.map _ (maps st' sv); rw [this2])
            | (cases sv with
               | pv v => cases v <;> rfl
               | _ => rfl)
            | (cases sv with
               | sub id sz lo hi => rfl
               | undef => show Option.map _ (elems st _) = Option.map _ (elems st' _); rw [this]
               | any => show Option.map _ (elems st _) = Option.map _ (elems st' _); rw [this]
               | pv v => show Option.map _ (elems st _) = Option.map _ (elems st' _); rw [this]
               | ptr id off => show Option.map _ (elems st _) = Option.map _ (elems st' _); rw [this]
               | row id => show Option.map _ (elems st _) = Option.map _ (elems st' _); rw [this]
               | rp id sz i off => show Option.map _ (elems st _) = Option.map _ (elems st' _); rw [this]
               | cp cs => show Option.map _ (elems st _) = Option.map _ (elems st' _); rw [this]
               | cl f caps => show Option.map _ (elems st _) = Option.map _ (elems st' _); rw [this]
               | ag caps => show Option.map _ (elems st _) = Option.map _ (elems st' _); rw [this]
               | two s b => show Option.map _ (elems st _) = Option.map _ (elems st' _); rw [this])
    · rfl
  · rename_i x l
    have hm : ∀ b acc, minMaxAll P st b acc l = minMaxAll P st' b acc l := fun b acc => minMaxAll_congr (fun y hy => hx y (by simp [hy]))
    rw [hx x (by simp)]
    simp only [hm]
  · rename_i x l
    have hm : ∀ b acc, minMaxAll P st b acc l = minMaxAll P st' b acc l := fun b acc => minMaxAll_congr (fun y hy => hx y (by simp [hy]))
    rw [hx x (by simp)]
    simp only [hm]
  · rfl

theorem optOpnd_congr {st st' : St} {x : Option Operand} (hx : ∀ y, x = some y → ∀ ty, opnd P ty st y = opnd P ty st' y) : optOpnd P st x = optOpnd P st' x := by
  cases x with
  | none => rfl
  | some y => simp [optOpnd, hx y rfl]

theorem pval_congr {st st' : St} {o : Oper} (hob : noObs o.op = false → ∀ x ∈ o.op.operands.toList, SameAt P st st' x) (hop : ∀ x ∈ o.op.operands.toList, ∀ ty, opnd P ty st x = opnd P ty st' x) : pval P o st = pval P o st' := by
  obtain ⟨dst, op, type, pos, after, guard⟩ := o
  simp only at hop
  cases op with
  | move x => have hx := hop x (by simp [Op.operands]); simp [pval, hx]
  | assign x => have hx := hop x (by simp [Op.operands]); simp [pval, hx]
  | pick c a b => have hx := hop c (by simp [Op.operands]); have hy := hop a (by simp [Op.operands]); have hz := hop b (by simp [Op.operands]); simp [pval, hx, hy, hz]
  | binOp op t x y t' => have hx := hop x (by simp [Op.operands]); have hy := hop y (by simp [Op.operands]); simp [pval, hx, hy]
  | unOp op t x => have hx := hop x (by simp [Op.operands]); simp [pval, hx]
  | convert s d x =>
    have hx := hop x (by simp [Op.operands])
    have ho := hob rfl x (by simp [Op.operands]) s
    have he : (opnd P s st x).bind (elems st) = (opnd P s st' x).bind (elems st') := by
      rw [← hx s]
      cases hv : opnd P s st x with
      | none => rfl
      | some sv => exact elems_congr (ho _ hv)
    simp only [pval, hx 0, he]
  | nilCheck x => have hx := hop x (by simp [Op.operands]); simp only [pval, hx]
  | fieldAddr t x f => have hx := hop x (by simp [Op.operands]); simp [pval, hx]
  | field t x f => have hx := hop x (by simp [Op.operands]); simp [pval, hx]
  | indexAddr t x i =>
    have hx := hop x (by simp [Op.operands]); have hy := hop i (by simp [Op.operands])
    have ho := hob rfl x (by simp [Op.operands]) t
    have hsl : idxSl P st t x i = idxSl P st' t x i := by
     unfold idxSl
     rw [← hx t, ← hy 0]
     cases hv : opnd P t st x with
     | none => rcases isSlice P t with _ | ⟨e, s⟩ <;> simp only []
     | some sv =>
       have hsv := ho _ hv
       clear hv
       rcases isSlice P t with _ | ⟨e, s⟩
       · simp only []
       · cases sv with
         | row id =>
           rcases opnd P 0 st i with _ | b
           · rfl
           · cases b with
             | pv v => cases v <;> first | rfl | (simp only [hsv id (by simp [SV.ids])])
             | _ => rfl
         | pv v => cases v <;> first | rfl | (rcases opnd P 0 st i with _ | b <;> first | rfl | (cases b <;> first | rfl | (rename_i q; cases q <;> rfl)))
         | _ => first | rfl | (rcases opnd P 0 st i with _ | b <;> first | rfl | (cases b <;> first | rfl | (rename_i q; cases q <;> rfl)))
    have har : ∀ n e, idxArr P st n e x i = idxArr P st' n e x i := fun n e => by simp only [idxArr, hx 0, hy 0]
    simp only [pval, hsl, har]
  | index t x i => have hx := hop x (by simp [Op.operands]); have hy := hop i (by simp [Op.operands]); simp [pval, hx, hy]
  | load t x =>
    have hx := hop x (by simp [Op.operands])
    have ho := hob rfl x (by simp [Op.operands]) 0
    simp only [pval]
    rw [← hx 0]
    cases hv : opnd P 0 st x with
    | none => rfl
    | some sv =>
      have hsv := ho _ hv
      clear hv
      cases sv with
      | ptr id off => simp only [hsv id (by simp [SV.ids])]
      | rp id sz i off => simp only [hsv id (by simp [SV.ids])]
      | pv v => cases v <;> rfl
      | _ => rfl
  | lookup t x k ok =>
    have hx := hop x (by simp [Op.operands]); have hk := hop k (by simp [Op.operands])
    have ho := hob rfl x (by simp [Op.operands]) t
    have hm : (opnd P t st x).bind (maps st) = (opnd P t st' x).bind (maps st') := by
      rw [← hx t]
      cases hv : opnd P t st x with
      | none => rfl
      | some sv => exact maps_congr (ho _ hv)
    have hkr : (opnd P t st x).bind (keysR st) = (opnd P t st' x).bind (keysR st') := by
      rw [← hx t]
      cases hv : opnd P t st x with
      | none => rfl
      | some sv =>
        have := ho _ hv
        cases sv with
        | row id => simp only [Option.bind_some, keysR]; rw [this id (by simp [SV.ids])]
        | _ => rfl
    simp only [pval, hm, hk, hkr]
  | extract x i => have hx := hop x (by simp [Op.operands]); simp [pval, hx]
  | slice t x lo hi mx =>
    cases mx with
    | some m => simp [pval]
    | none =>
      have hx := hop x (by simp [Op.operands])
      have hl := optOpnd_congr (P := P) (st := st) (st' := st') (x := lo) (fun y e => by subst e; exact hop y (by simp [Op.operands]))
      have hh := optOpnd_congr (P := P) (st := st) (st' := st') (x := hi) (fun y e => by subst e; exact hop y (by cases lo <;> simp [Op.operands]))
      have ho := hob rfl x (by simp [Op.operands]) t
      simp only [pval]
      rw [← hx t, hl, hh]
      cases hv : opnd P t st x with
      | none => rcases P.underlying t with _ | d <;> first | rfl | (cases d <;> rfl)
      | some sv =>
        have hsv := ho _ hv
        clear hv
        rcases P.underlying t with _ | d
        · rfl
        · cases d <;> first
            | rfl
            | (rcases optOpnd P st' lo with _ | l
               · cases sv with
                 | pv v => cases v <;> rfl
                 | _ => rfl
               · rcases optOpnd P st' hi with _ | l2
                 · cases sv with
                   | pv v => cases v <;> rfl
                   | _ => rfl
                 · cases sv with
                   | row id => simp only [hsv id (by simp [SV.ids])]
                   | pv v => cases v <;> rfl
                   | _ => rfl)
  | build t parts =>
    have hp := partsOf_congr (P := P) (st := st) (st' := st') (ty := fieldTy P t) (l := parts.toList) (fun x hx => hop x (by simpa [Op.operands] using hx))
    simp [pval, hp]
  | call c =>
    have hin : ∀ x ∈ c.args.toList, x ∈ (Op.call c).operands.toList := fun x hx => by
      simp only [Op.operands, Call.operands, Array.toList_append, List.mem_append]; exact .inr hx
    have := pcall_congr (P := P) (st := st) (st' := st') (c := c) (fun x hx => hob rfl x (hin x hx)) (fun x hx => hop x (hin x hx))
    simp [pval, this]
  | _ => simp [pval]

theorem mem_idsIn {st : St} : ∀ {l : List Operand} {x : Operand} {ty : TypeId} {sv : SV} {id : Nat}, x ∈ l → opnd P ty st x = some sv → id ∈ sv.ids → id ∈ idsIn st l := by
  intro l
  induction l with
  | nil => intro x ty sv id hx; simp at hx
  | cons y l ih =>
    intro x ty sv id hx ho hid
    rcases List.mem_cons.1 hx with rfl | hx
    · cases x with
      | tmp t =>
        simp only [opnd] at ho
        simp only [idsIn, ho, List.mem_append]
        exact .inl hid
      | const v =>
        simp only [opnd] at ho
        cases hc : ofConst P ty v with
        | none => simp [hc] at ho
        | some y => simp [hc] at ho; subst ho; simp [SV.ids] at hid
      | func f => simp [opnd] at ho; subst ho; simp [SV.ids] at hid
      | global g => simp [opnd] at ho
    · have := ih hx ho hid
      cases y with
      | tmp t => simp only [idsIn, List.mem_append]; exact .inr this
      | _ => simpa [idsIn] using this

theorem closeIds_done (st : St) : ∀ (n : Nat) (todo done : List Nat), ∀ id ∈ done, id ∈ closeIds st n todo done
  | 0, todo, done, id, h => by simpa [closeIds] using h
  | n + 1, [], done, id, h => by simpa [closeIds] using h
  | n + 1, x :: todo, done, id, h => by
    simp only [closeIds]
    cases done.contains x with
    | true => exact closeIds_done st n todo done id h
    | false => exact closeIds_done st n _ _ id (by simp [h])
theorem closeIds_congr {st st' : St} : ∀ (n : Nat) (todo done : List Nat), (∀ id ∈ closeIds st n todo done, st.ob id = st'.ob id) → closeIds st n todo done = closeIds st' n todo done
  | 0, todo, done, h => by simp [closeIds]
  | n + 1, [], done, h => by simp [closeIds]
  | n + 1, x :: todo, done, h => by
    simp only [closeIds] at h ⊢
    cases hc : done.contains x with
    | true => rw [hc] at h; exact closeIds_congr n todo done h
    | false =>
      rw [hc] at h
      simp only [cond_false] at h ⊢
      have hx : st.ob x = st'.ob x := h x (closeIds_done st n _ _ x (by simp))
      have hi : innerOf st x = innerOf st' x := by simp only [innerOf, hx]
      rw [← hi]
      exact closeIds_congr n _ _ h
theorem lentObs_congr {st st' : St} {ids : List Nat} {ρ : Nat → Nat} : ∀ {l : List (Nat × Nat)}, (∀ p ∈ l, st.ob p.1 = st'.ob p.1) → lentObs st ids ρ l = lentObs st' ids ρ l
  | [], _ => rfl
  | p :: l, h => by
    obtain ⟨id, nm⟩ := p
    simp only [lentObs]
    rw [h (id, nm) (by simp), lentObs_congr (fun q hq => h q (by simp [hq]))]
theorem argSVs_congr {st st' : St} : ∀ {xs : List Operand} {ts : List TypeId}, (∀ x ∈ xs, ∀ ty, opnd P ty st x = opnd P ty st' x) → argSVs P h st xs ts = argSVs P h st' xs ts
  | [], ts, _ => rfl
  | x :: xs, ts, hx => by
    simp only [argSVs, argSV]
    rw [hx x (by simp), argSVs_congr (fun y hy => hx y (by simp [hy]))]
theorem callRO_congr {st st' : St} {c : Call} {f : Operand} (hf : opnd P 0 st f = opnd P 0 st' f) (ha : ∀ x ∈ c.args.toList, ∀ ty, opnd P ty st x = opnd P ty st' x)
    (hids : ∀ g args, roArgs P h st c f = some (g, args) → ∀ id ∈ roIds st args, st.ob id = st'.ob id) : callRO P h callF st c f = callRO P h callF st' c f := by
  have e1 : roArgs P h st c f = roArgs P h st' c f := by
    unfold roArgs
    rw [hf, argSVs_congr ha]
  unfold callRO
  rw [← e1]
  cases hr : roArgs P h st c f with
  | none => rfl
  | some p =>
    obtain ⟨g, args⟩ := p
    simp only
    have hi := hids g args hr
    have e2 : roIds st args = roIds st' args := closeIds_congr 200 _ _ hi
    rw [← e2]
    have e3 : lentObs st (roIds st args) (renOf (roNames (roIds st args))) (roNames (roIds st args)) = lentObs st' (roIds st args) (renOf (roNames (roIds st args))) (roNames (roIds st args)) :=
      lentObs_congr (fun p hp => hi p.1 (by
        have : p.1 ∈ (roNames (roIds st args)).map (·.1) := List.mem_map.2 ⟨p, hp, rfl⟩
        rwa [show (roNames (roIds st args)).map (·.1) = roIds st args from nameAll_fst _ _ _] at this))
    rw [e3]

theorem fval_congr {st st' : St} {o : Oper} (hids : noObs o.op = false → ∀ id ∈ opIds st o, st.ob id = st'.ob id) (hro : ∀ id ∈ roFoot P h o st, st.ob id = st'.ob id) (henv : ∀ t ∈ slotsOf o, st.env t = st'.env t) : fval P h callF o st = fval P h callF o st' := by
  have hob : noObs o.op = false → ∀ x ∈ o.op.operands.toList, SameAt P st st' x := fun hn x hx ty sv ho id hid => hids hn id (mem_idsIn hx ho hid)
  have hop : ∀ x ∈ o.op.operands.toList, ∀ ty, opnd P ty st x = opnd P ty st' x := fun x hx ty => opnd_congr (fun t e => henv t (by
    subst e
    exact List.mem_filterMap.2 ⟨.tmp t, hx, rfl⟩)) ty
  have hpv := pval_congr (P := P) (o := o) hob hop
  obtain ⟨dst, op, type, pos, after, guard⟩ := o
  simp only at hop
  cases op with
  | buildSlice t len parts =>
    have hp : ∀ ty, partsOf P ty st parts.toList = partsOf P ty st' parts.toList := fun ty => partsOf_congr (fun x hx => hop x (by simpa [Op.operands] using hx))
    simp [fval, litCells, hp]
  | call c =>
    obtain ⟨cal, ⟨args⟩, ⟨tys⟩⟩ := c
    cases cal with
    | value f =>
      have hargs : ∀ x ∈ args, x ∈ (Op.call { callee := Callee.value f, args := ⟨args⟩, argTypes := ⟨tys⟩ }).operands.toList := fun x hx => by
        simp only [Op.operands, Call.operands, Array.toList_append, List.mem_append]; exact .inr hx
      have hf := hop f (by simp [Op.operands, Call.operands])
      have ha := lendAll_congr (P := P) (st := st) (st' := st') (xs := args) (ts := tys) (fun x hx => hob rfl x (hargs x hx)) (fun x hx => hop x (hargs x hx))
      have hr : args.any (rowIn st) = args.any (rowIn st') := by
        have key : ∀ x ∈ args, rowIn st x = rowIn st' x := fun x hx => by
          cases x with
          | tmp t =>
            have := hop (.tmp t) (hargs _ hx) 0
            simp only [opnd] at this
            simp [rowIn, this]
          | _ => rfl
        clear ha hargs hop hpv henv hob hids hro
        induction args with
        | nil => rfl
        | cons x xs ih => simp only [List.any_cons]; rw [key x (by simp), ih (fun y hy => key y (by simp [hy]))]
      have href : args.any (fun x => (refIn h st x).isSome) = args.any (fun x => (refIn h st' x).isSome) := by
        have key : ∀ x ∈ args, refIn h st x = refIn h st' x := fun x hx => by
          cases x with
          | tmp t =>
            have := hop (.tmp t) (hargs _ hx) 0
            simp only [opnd] at this
            simp [refIn, this]
          | _ => rfl
        clear ha hargs hop hpv henv hr hob hids hro
        induction args with
        | nil => rfl
        | cons x xs ih => simp only [List.any_cons]; rw [key x (by simp), ih (fun y hy => key y (by simp [hy]))]
      have hwide : wide st { callee := Callee.value f, args := ⟨args⟩, argTypes := ⟨tys⟩ } f = wide st' { callee := Callee.value f, args := ⟨args⟩, argTypes := ⟨tys⟩ } f := by
        have kf : isCl st f = isCl st' f := by
          cases f with
          | tmp t =>
            have := hf 0
            simp only [opnd] at this
            simp [isCl, this]
          | _ => rfl
        have key : ∀ x ∈ args, isPtr st x = isPtr st' x := fun x hx => by
          cases x with
          | tmp t =>
            have := hop (.tmp t) (hargs _ hx) 0
            simp only [opnd] at this
            simp [isPtr, this]
          | _ => rfl
        have kk : args.any (isPtr st) = args.any (isPtr st') := by
          clear ha hargs hop hpv henv hr hob hids href hro
          induction args with
          | nil => rfl
          | cons x xs ih => simp only [List.any_cons]; rw [key x (by simp), ih (fun y hy => key y (by simp [hy]))]
        simp only [wide, kf, kk]
      cases how : dst.any h.owns.contains with
      | true => simp [fval, how]
      | false =>
      cases hst : dst.any h.stay.contains with
      | false => simp [fval, hf, ha, hr, href, hwide, hst, how]
      | true =>
        have hc := callRO_congr (P := P) (h := h) (callF := callF) (st := st) (st' := st') (c := { callee := Callee.value f, args := ⟨args⟩, argTypes := ⟨tys⟩ }) (f := f) (hf 0) (fun x hx => hop x (hargs x hx)) (fun g as hg id hid => hro id (by
          simp only [roFoot, hg, hst, cond_true]; exact hid))
        simp [fval, hf, ha, hr, href, hwide, hst, hc, how]
    | _ => simpa [fval, pval] using hpv
  | makeFunc f first caps =>
    cases f with
    | func g =>
      have hc : capsOf st caps.toList = capsOf st' caps.toList := by
        have key : ∀ x ∈ caps.toList, ∀ ty, opnd P ty st x = opnd P ty st' x := fun x hx => hop x (by simp only [Op.operands, Array.toList_append, List.mem_append]; exact .inr hx)
        clear hop hpv henv hob hids
        generalize caps.toList = l at key
        induction l with
        | nil => rfl
        | cons x xs ih =>
          cases x with
          | tmp t =>
            have := key (.tmp t) (by simp) 0
            simp only [opnd] at this
            simp only [capsOf]
            rw [this, ih (fun y hy => key y (by simp [hy]))]
          | _ => rfl
      have hc2 : capsCl st caps.toList = capsCl st' caps.toList := by
        have key : ∀ x ∈ caps.toList, ∀ ty, opnd P ty st x = opnd P ty st' x := fun x hx => hop x (by simp only [Op.operands, Array.toList_append, List.mem_append]; exact .inr hx)
        clear hop hpv henv hob hids hc
        generalize caps.toList = l at key
        induction l with
        | nil => rfl
        | cons x xs ih =>
          cases x with
          | tmp t =>
            have := key (.tmp t) (by simp) 0
            simp only [opnd] at this
            simp only [capsCl]
            rw [this, ih (fun y hy => key y (by simp [hy]))]
          | _ => rfl
      simp [fval, hc, hc2]
    | _ => simpa [fval] using hpv
  | assign x => simp only [fval, hpv]
  | lookup t x k ok => simp only [fval, hpv]
  | build t ps => simp only [fval, hpv]
  | _ => simpa [fval] using hpv

theorem wanted_congr {st st' : St} {ops : Array Oper} {o : Oper} (henv : ∀ t ∈ readsOf ops o, st.env t = st'.env t) : wantedA ops o st = wantedA ops o st' := by
  unfold wantedA
  cases hg : o.guard with
  | none => rfl
  | some p =>
    obtain ⟨j, want⟩ := p
    simp only
    cases hd : (ops[j]?).bind (·.dst) with
    | none => rfl
    | some d => simp only; rw [henv d (by simp [readsOf, hg, hd])]

theorem meets_mem {a b : List Nat} {x : Nat} (ha : x ∈ a) (hb : x ∈ b) : meets a b = true := by
  simp only [meets, List.any_eq_true]
  exact ⟨x, ha, x, hb, Nat.beq_refl x⟩

/-- where a store goes, and what it leaves -/
theorem mention_false' {d : Nat} {v : SV} (hm : v.mentions d = false) : v.purge d = v := by simp [SV.purge, hm]
theorem storeAt_local {t : TypeId} {s s' : St} {sa sv : SV} {id : Nat} (hst : storeAt P t s sa sv = some s') (ht : targetId sa = some id) :
    s'.env = s.env ∧ (∀ j, j ≠ id → s'.ob j = s.ob j) ∧ ∀ x : St, x.ob id = s.ob id → (∀ j ∈ sv.ids, x.ob j = s.ob j) → storeAt P t x sa sv = some { x with ob := put x.ob id (s'.ob id) } := by
  have hone : ∀ x : St, (∀ j ∈ sv.ids, x.ob j = s.ob j) → oneOK x sv = oneOK s sv := fun x hx => by
    cases sv with
    | row j => simp only [oneOK]; rw [hx j (by simp [SV.ids])]
    | pv v => cases v <;> rfl
    | _ => rfl
  cases sa with
  | ptr i off =>
    simp only [targetId, Option.some.injEq] at ht
    subst ht
    simp only [storeAt] at hst
    split at hst
    · rename_i bt cells n hob hsz
      split at hst
      · rename_i cs
        split at hst
        · rename_i hc
          injection hst with hst; subst hst
          refine ⟨rfl, fun j hj => put_other _ _ (fun e => hj e.symm), fun x hx _ => ?_⟩
          simp only [storeAt, hx, hob, hsz, hc, put_same]
          simp
        · cases hst
      · rename_i cs
        split at hst
        · rename_i hc
          injection hst with hst; subst hst
          refine ⟨rfl, fun j hj => put_other _ _ (fun e => hj e.symm), fun x hx _ => ?_⟩
          simp only [storeAt, hx, hob, hsz, hc, put_same]
          simp
        · cases hst
      · rename_i hno1 hno
        split at hst
        · rename_i hc
          injection hst with hst; subst hst
          refine ⟨rfl, fun j hj => put_other _ _ (fun e => hj e.symm), fun x hx hxs => ?_⟩
          have h1 := hone x hxs
          simp only [storeAt, hx, hob, hsz, put_same]
          cases sv with
          | pv v =>
            cases v with
            | agg cs => exact absurd rfl (hno cs)
            | _ => simp only [h1, hc, and_self, if_true]
          | ag cs => exact absurd rfl (hno1 cs)
          | _ => simp only [h1, hc, and_self, if_true]
        · cases hst
    · cases hst
  | rp i sz k off =>
    simp only [targetId, Option.some.injEq] at ht
    subst ht
    simp only [storeAt] at hst
    split at hst
    · rename_i e sz' xs n v hob hsz
      split at hst
      · rename_i c hc
        split at hst
        · rename_i hcond
          injection hst with hst; subst hst
          refine ⟨rfl, fun j hj => put_other _ _ (fun e => hj e.symm), fun x hx _ => ?_⟩
          simp only [storeAt, hx, hob, hsz, hc, put_same]
          rw [if_pos hcond]
        · cases hst
      · cases hst
    · cases hst
  | _ => simp [targetId] at ht

theorem any_mem {l : List Nat} {p : Nat → Bool} {x : Nat} (hx : x ∈ l) (hp : p x = true) : l.any p = true := List.any_eq_true.2 ⟨x, hx, hp⟩
theorem mentions_ids {id : Nat} {v : SV} (h : v.mentions id = true) : id ∈ v.ids := by
  have caps : ∀ cs : List Cap, cs.any (Cap.mentions id) = true → id ∈ cs.filterMap (fun
    | .p j | .r j => some j
    | .v _ => none) := fun cs hc => by
    obtain ⟨c, hc1, hc2⟩ := List.any_eq_true.1 hc
    refine List.mem_filterMap.2 ⟨c, hc1, ?_⟩
    cases c with
    | v a => simp [Cap.mentions] at hc2
    | p j => rw [← beq_iff.1 hc2]
    | r j => rw [← beq_iff.1 hc2]
  induction v with
  | two s b ih => exact ih h
  | ptr j off => simp only [SV.ids, List.mem_singleton]; exact (beq_iff.1 h).symm
  | row j => simp only [SV.ids, List.mem_singleton]; exact (beq_iff.1 h).symm
  | rp j sz i off => simp only [SV.ids, List.mem_singleton]; exact (beq_iff.1 h).symm
  | sub j sz lo hi => simp only [SV.ids, List.mem_singleton]; exact (beq_iff.1 h).symm
  | cl f cs => exact caps cs h
  | ag cs => exact caps cs h
  | _ => simp [SV.mentions] at h
theorem St.same {x y : St} (h1 : ∀ t, x.env t = y.env t) (h2 : ∀ t, x.ob t = y.ob t) : x = y := by
  obtain ⟨xe, xo⟩ := x
  obtain ⟨ye, yo⟩ := y
  have e1 : xe = ye := funext h1
  have e2 : xo = yo := funext h2
  rw [e1, e2]
/-! what an operation does, told by what it reads -/
/-- what speaks of an object that moves: forgotten, or public data -/
def mv1 (p : Nat × Option AV) (v : SV) : SV := match p.2 with
  | none => v.purge p.1
  | some a => SV.publish p.1 a v
def moved (l : List (Nat × Option AV)) (v : SV) : SV := l.foldl (fun v p => mv1 p v) v
def Ob.mapS (g : SV → SV) : Ob → Ob
  | .box t cells => .box t (cells.map g)
  | o => o
def appFx (f : Foot) (ev : Nat → Option SV) (ov : Nat → Option Ob) (l : List (Nat × Option AV)) (x : St) : St :=
  { env := fun t => if t ∈ f.ws then ev t else (x.env t).map (moved l), ob := fun j => if j ∈ f.wo then ov j else (x.ob j).map (Ob.mapS (moved l)) }

theorem mv1_eq (p : Nat × Option AV) (v : SV) : ∃ c : SV, (∀ id, c.mentions id = false) ∧ mv1 p v = (bif v.mentions p.1 then c else v) ∧ ((∀ j, v ≠ .row j) → c = .any) := by
  obtain ⟨id, x⟩ := p
  cases x with
  | none => exact ⟨.any, fun _ => rfl, rfl, fun _ => rfl⟩
  | some a =>
    cases v with
    | row j => exact ⟨.pv a, fun _ => rfl, rfl, fun h => absurd rfl (h j)⟩
    | _ => exact ⟨.any, fun _ => rfl, rfl, fun _ => rfl⟩
theorem mv1_id {p : Nat × Option AV} {v : SV} (h : v.mentions p.1 = false) : mv1 p v = v := by
  obtain ⟨c, _, e, _⟩ := mv1_eq p v
  rw [e, h]; rfl
theorem mv1_sub {p : Nat × Option AV} {v : SV} {j : Nat} (h : (mv1 p v).mentions j = true) : v.mentions j = true := by
  obtain ⟨c, hc, e, _⟩ := mv1_eq p v
  rw [e] at h
  cases hm : v.mentions p.1 with
  | true => rw [hm] at h; simp only [cond_true] at h; rw [hc] at h; cases h
  | false => rw [hm] at h; exact h
theorem mv1_comm {p q : Nat × Option AV} (hne : p.1 ≠ q.1) (v : SV) : mv1 p (mv1 q v) = mv1 q (mv1 p v) := by
  obtain ⟨c, hc, e, k⟩ := mv1_eq p v
  obtain ⟨c', hc', e', k'⟩ := mv1_eq q v
  cases hp : v.mentions p.1 with
  | false =>
    rw [mv1_id hp]
    cases hq : v.mentions q.1 with
    | false => rw [mv1_id hq, mv1_id hp]
    | true => rw [e', hq, cond_true, mv1_id (hc' _)]
  | true =>
    rw [e, hp, cond_true, mv1_id (hc _)]
    cases hq : v.mentions q.1 with
    | false => rw [mv1_id hq, e, hp, cond_true]
    | true =>
      rw [e', hq, cond_true, mv1_id (hc' _)]
      have hr : ∀ j, v ≠ .row j := fun j hj => by
        subst hj
        exact hne ((beq_iff.1 hp).symm.trans (beq_iff.1 hq))
      rw [k hr, k' hr]
theorem moved_id : ∀ {l : List (Nat × Option AV)} {v : SV}, (∀ p ∈ l, v.mentions p.1 = false) → moved l v = v
  | [], v, _ => rfl
  | p :: l, v, h => by
    show moved l (mv1 p v) = v
    rw [mv1_id (h p (by simp))]; exact moved_id fun q hq => h q (by simp [hq])
theorem moved_sub : ∀ {l : List (Nat × Option AV)} {v : SV} {j : Nat}, (moved l v).mentions j = true → v.mentions j = true
  | [], v, j, h => h
  | p :: l, v, j, h => mv1_sub (moved_sub (l := l) h)
theorem moved_one {l : List (Nat × Option AV)} {p : Nat × Option AV} : ∀ {v : SV}, (∀ q ∈ l, p.1 ≠ q.1) → moved l (mv1 p v) = mv1 p (moved l v) := by
  induction l with
  | nil => intro v _; rfl
  | cons q l ih =>
    intro v h
    show moved l (mv1 q (mv1 p v)) = mv1 p (moved l (mv1 q v))
    rw [← mv1_comm (h q (by simp)) v]
    exact ih fun r hr => h r (by simp [hr])
theorem moved_comm : ∀ {l m : List (Nat × Option AV)} (v : SV), (∀ p ∈ l, ∀ q ∈ m, p.1 ≠ q.1) → moved l (moved m v) = moved m (moved l v)
  | [], m, v, _ => rfl
  | p :: l, m, v, h => by
    show moved l (mv1 p (moved m v)) = moved m (moved l (mv1 p v))
    rw [← moved_one (h p (by simp)), moved_comm (mv1 p v) fun r hr => h r (by simp [hr])]
theorem mapS_id {g : SV → SV} {o : Ob} (h : ∀ v, (∀ id, v.mentions id = true → o.mentions id = true) → g v = v) : o.mapS g = o := by
  cases o with
  | box t cells =>
    simp only [Ob.mapS]
    congr 1
    refine (List.map_congr_left fun c hc => h c fun id hm => ?_).trans (List.map_id _)
    simp only [Ob.mentions, List.any_eq_true]
    exact ⟨c, hc, hm⟩
  | _ => rfl
theorem mapS_moved {l : List (Nat × Option AV)} {o : Ob} (h : ∀ p ∈ l, o.mentions p.1 = false) : o.mapS (moved l) = o :=
  mapS_id fun v hv => moved_id fun p hp => by
    cases hm : v.mentions p.1 with
    | false => rfl
    | true => rw [← h p hp, hv _ hm]
theorem mapS_sub {l : List (Nat × Option AV)} {o : Ob} {j : Nat} (h : (o.mapS (moved l)).mentions j = true) : o.mentions j = true := by
  cases o with
  | box t cells =>
    simp only [Ob.mapS, Ob.mentions, List.any_map, List.any_eq_true] at h ⊢
    obtain ⟨c, hc, hm⟩ := h
    exact ⟨c, hc, moved_sub hm⟩
  | _ => exact h
theorem mapS_comm {l m : List (Nat × Option AV)} (o : Ob) (h : ∀ p ∈ l, ∀ q ∈ m, p.1 ≠ q.1) : (o.mapS (moved m)).mapS (moved l) = (o.mapS (moved l)).mapS (moved m) := by
  cases o with
  | box t cells =>
    simp only [Ob.mapS, List.map_map]
    congr 1
    exact List.map_congr_left fun c _ => moved_comm c h
  | _ => rfl
theorem mapS_nil (o : Ob) : o.mapS (moved []) = o := mapS_moved fun p hp => by cases hp

/-- it is told by what is read, and brings what it says -/
structure FxOK (sf : St → Option St) (s : St) (f : Foot) (ev : Nat → Option SV) (ov : Nat → Option Ob) (l : List (Nat × Option AV)) : Prop where
  keys : ∀ p ∈ l, p.1 ∈ f.mv
  run : ∀ x : St, (∀ t ∈ f.rs, x.env t = s.env t) → (∀ j ∈ f.ro, x.ob j = s.ob j) → sf x = some (appFx f ev ov l x)
  newE : ∀ t ∈ f.ws, ∀ v id, ev t = some v → v.mentions id = true → id ∈ f.men
  newO : ∀ j ∈ f.wo, ∀ o id, ov j = some o → o.mentions id = true → id ∈ f.men
  mvm : ∀ id ∈ f.mv, id ∈ f.men
structure FxIn (s : St) (f : Foot) : Prop where
  inE : ∀ t ∈ f.rs, ∀ v id, s.env t = some v → v.mentions id = true → id ∈ f.men
  inO : ∀ j ∈ f.ro, ∀ o id, s.ob j = some o → o.mentions id = true → id ∈ f.men
  we : ∀ t v id, s.env t = some v → id ∈ f.mv → v.mentions id = true → f.we t = true
  oe : ∀ j o id, s.ob j = some o → id ∈ f.mv → o.mentions id = true → f.oe j = true

theorem meets_not {a b : List Nat} {x y : Nat} (h : meets a b = false) (hx : x ∈ a) (hy : y ∈ b) : x ≠ y := fun e => by
  subst e; rw [meets_mem hx hy] at h; cases h

/-- two operations that have nothing to do with each other -/
theorem swapFx {sp si : St → Option St} {s : St} {fp fi : Foot} {ep ei : Nat → Option SV} {op oi : Nat → Option Ob} {lp li : List (Nat × Option AV)} (hp : FxOK sp s fp ep op lp) (hin : FxIn s fp) (hi : FxOK si (appFx fp ep op lp s) fi ei oi li) (hc : fp.conflict fi = false) :
    FxOK si s fi ei oi li ∧ FxOK sp (appFx fi ei oi li s) fp ep op lp ∧ FxIn (appFx fi ei oi li s) fp ∧ appFx fp ep op lp (appFx fi ei oi li s) = appFx fi ei oi li (appFx fp ep op lp s) := by
  unfold Foot.conflict at hc
  simp only [Bool.or_eq_false_iff] at hc
  obtain ⟨⟨⟨⟨⟨⟨⟨⟨⟨⟨⟨_, _⟩, d1⟩, d2⟩, d3⟩, d4⟩, d5⟩, d6⟩, d7⟩, d8⟩, d9⟩, d10⟩ := hc
  have w9 : ∀ t ∈ fi.rs, fp.we t = false := fun t ht => by
    cases e : fp.we t with
    | false => rfl
    | true => rw [any_mem ht e] at d9; cases d9
  have w10 : ∀ t ∈ fi.ro, fp.oe t = false := fun t ht => by
    cases e : fp.oe t with
    | false => rfl
    | true => rw [any_mem ht e] at d10; cases d10
  -- what the second one reads is the same ahead of the first one
  have aE : ∀ t ∈ fi.rs, (appFx fp ep op lp s).env t = s.env t := fun t ht => by
    simp only [appFx]
    rw [if_neg fun h => meets_not d1 h ht rfl]
    cases e : s.env t with
    | none => rfl
    | some v =>
      simp only [Option.map_some]
      rw [moved_id fun p hpl => ?_]
      cases hm : v.mentions p.1 with
      | false => rfl
      | true => have := hin.we t v p.1 e (hp.keys p hpl) hm; rw [w9 t ht] at this; cases this
  have aO : ∀ t ∈ fi.ro, (appFx fp ep op lp s).ob t = s.ob t := fun t ht => by
    simp only [appFx]
    rw [if_neg fun h => meets_not d4 h ht rfl]
    cases e : s.ob t with
    | none => rfl
    | some v =>
      simp only [Option.map_some]
      rw [mapS_moved fun p hpl => ?_]
      cases hm : v.mentions p.1 with
      | false => rfl
      | true => have := hin.oe t v p.1 e (hp.keys p hpl) hm; rw [w10 t ht] at this; cases this
  -- what the first one reads is the same behind the second one
  have bE : ∀ t ∈ fp.rs, (appFx fi ei oi li s).env t = s.env t := fun t ht => by
    simp only [appFx]
    rw [if_neg fun h => meets_not d2 ht h rfl]
    cases e : s.env t with
    | none => rfl
    | some v =>
      simp only [Option.map_some]
      rw [moved_id fun p hpl => ?_]
      cases hm : v.mentions p.1 with
      | false => rfl
      | true => exact absurd rfl (meets_not d8 (hi.keys p hpl) (hin.inE t ht v p.1 e hm))
  have bO : ∀ t ∈ fp.ro, (appFx fi ei oi li s).ob t = s.ob t := fun t ht => by
    simp only [appFx]
    rw [if_neg fun h => meets_not d5 ht h rfl]
    cases e : s.ob t with
    | none => rfl
    | some v =>
      simp only [Option.map_some]
      rw [mapS_moved fun p hpl => ?_]
      cases hm : v.mentions p.1 with
      | false => rfl
      | true => exact absurd rfl (meets_not d8 (hi.keys p hpl) (hin.inO t ht v p.1 e hm))
  have hk : ∀ p ∈ lp, ∀ q ∈ li, p.1 ≠ q.1 := fun p hpl q hq => meets_not d7 (hp.keys p hpl) (hi.mvm _ (hi.keys q hq))
  refine ⟨⟨hi.keys, fun x h1 h2 => hi.run x (fun t ht => (h1 t ht).trans (aE t ht).symm) (fun t ht => (h2 t ht).trans (aO t ht).symm), hi.newE, hi.newO, hi.mvm⟩,
    ⟨hp.keys, fun x h1 h2 => hp.run x (fun t ht => (h1 t ht).trans (bE t ht)) (fun t ht => (h2 t ht).trans (bO t ht)), hp.newE, hp.newO, hp.mvm⟩,
    ⟨fun t ht v id e hm => hin.inE t ht v id ((bE t ht).symm.trans e) hm, fun t ht v id e hm => hin.inO t ht v id ((bO t ht).symm.trans e) hm, fun t v id e hid hm => ?_, fun t v id e hid hm => ?_⟩, ?_⟩
  · simp only [appFx] at e
    split at e
    · rename_i ht; exact absurd rfl (meets_not d7 hid (hi.newE t ht v id e hm))
    · cases e0 : s.env t with
      | none => rw [e0] at e; cases e
      | some v0 =>
        rw [e0] at e
        simp only [Option.map_some, Option.some.injEq] at e
        subst e
        exact hin.we t v0 id e0 hid (moved_sub hm)
  · simp only [appFx] at e
    split at e
    · rename_i ht; exact absurd rfl (meets_not d7 hid (hi.newO t ht v id e hm))
    · cases e0 : s.ob t with
      | none => rw [e0] at e; cases e
      | some v0 =>
        rw [e0] at e
        simp only [Option.map_some, Option.some.injEq] at e
        subst e
        exact hin.oe t v0 id e0 hid (mapS_sub hm)
  · simp only [appFx, St.mk.injEq]
    constructor
    · funext t
      by_cases h1 : t ∈ fp.ws
      · rw [if_pos h1, if_neg fun h2 => meets_not d3 h1 h2 rfl]
        rw [if_pos h1]
        cases e : ep t with
        | none => rfl
        | some v =>
          simp only [Option.map_some]
          rw [moved_id fun q hq => ?_]
          cases hm : v.mentions q.1 with
          | false => rfl
          | true => exact absurd rfl (meets_not d8 (hi.keys q hq) (hp.newE t h1 v _ e hm))
      · rw [if_neg h1]
        by_cases h2 : t ∈ fi.ws
        · rw [if_pos h2, if_pos h2]
          cases e : ei t with
          | none => rfl
          | some v =>
            simp only [Option.map_some]
            rw [moved_id fun q hq => ?_]
            cases hm : v.mentions q.1 with
            | false => rfl
            | true => exact absurd rfl (meets_not d7 (hp.keys q hq) (hi.newE t h2 v _ e hm))
        · rw [if_neg h2, if_neg h2, if_neg h1]
          cases s.env t with
          | none => rfl
          | some v => simp only [Option.map_some]; rw [moved_comm v hk]
    · funext t
      by_cases h1 : t ∈ fp.wo
      · rw [if_pos h1, if_neg fun h2 => meets_not d6 h1 h2 rfl]
        rw [if_pos h1]
        cases e : op t with
        | none => rfl
        | some v =>
          simp only [Option.map_some]
          rw [mapS_moved fun q hq => ?_]
          cases hm : v.mentions q.1 with
          | false => rfl
          | true => exact absurd rfl (meets_not d8 (hi.keys q hq) (hp.newO t h1 v _ e hm))
      · rw [if_neg h1]
        by_cases h2 : t ∈ fi.wo
        · rw [if_pos h2, if_pos h2]
          cases e : oi t with
          | none => rfl
          | some v =>
            simp only [Option.map_some]
            rw [mapS_moved fun q hq => ?_]
            cases hm : v.mentions q.1 with
            | false => rfl
            | true => exact absurd rfl (meets_not d7 (hp.keys q hq) (hi.newO t h2 v _ e hm))
        · rw [if_neg h2, if_neg h2, if_neg h1]
          cases s.ob t with
          | none => rfl
          | some v => simp only [Option.map_some]; rw [mapS_comm v hk]

/-- a run of what is left, in the order of the text -/
def Runs (sf : Nat → St → Option St) : List (Nat × Foot) → St → St → Prop
  | [], s, sF => s = sF
  | p :: l, s, sF => ∃ s', sf p.1 s = some s' ∧ (p.2.all = false → ∃ ev ov m, FxOK (sf p.1) s p.2 ev ov m ∧ FxIn s p.2) ∧ Runs sf l s' sF

theorem conf_all {a b : Foot} (h : a.conflict b = false) : a.all = false ∧ b.all = false := by
  unfold Foot.conflict at h
  simp only [Bool.or_eq_false_iff] at h
  exact ⟨h.1.1.1.1.1.1.1.1.1.1.1, h.1.1.1.1.1.1.1.1.1.1.2⟩

/-- an operation that nothing ahead of it binds may go first -/
theorem Runs.front {sf : Nat → St → Option St} {i : Nat} {f : Foot} {post : List (Nat × Foot)} {sF : St} : ∀ (pre : List (Nat × Foot)) (s : St), Runs sf (pre ++ (i, f) :: post) s sF → (∀ p ∈ pre, p.2.conflict f = false) →
    ∃ s1, sf i s = some s1 ∧ Runs sf (pre ++ post) s1 sF ∧ (f.all = false → ∃ ev ov m, FxOK (sf i) s f ev ov m)
  | [], s, ⟨s', h1, h2, h3⟩, _ => ⟨s', h1, h3, fun ha => by obtain ⟨ev, ov, m, k, _⟩ := h2 ha; exact ⟨ev, ov, m, k⟩⟩
  | p :: pre, s, ⟨s', h1, h2, h3⟩, hc => by
    have hcp := hc p (by simp)
    obtain ⟨ha, hb⟩ := conf_all hcp
    obtain ⟨ep, op, lp, hp, hin⟩ := h2 ha
    obtain ⟨s1, k1, k2, k3⟩ := Runs.front pre s' h3 fun q hq => hc q (by simp [hq])
    obtain ⟨ei, oi, li, hi⟩ := k3 hb
    have e1 : s' = appFx p.2 ep op lp s := by
      have := hp.run s (fun _ _ => rfl) (fun _ _ => rfl)
      rw [h1] at this; injection this
    subst e1
    obtain ⟨r1, r2, r3, r4⟩ := swapFx hp hin hi hcp
    have e2 : s1 = appFx f ei oi li (appFx p.2 ep op lp s) := by
      have := hi.run _ (fun _ _ => rfl) (fun _ _ => rfl)
      rw [k1] at this; injection this
    refine ⟨_, r1.run s (fun _ _ => rfl) (fun _ _ => rfl), ⟨s1, ?_, fun _ => ⟨ep, op, lp, r2, r3⟩, k2⟩, fun _ => ⟨ei, oi, li, r1⟩⟩
    rw [r2.run _ (fun _ _ => rfl) (fun _ _ => rfl), r4, e2]

/-! the operations, one by one -/
def opStep (P : Program) (h : Hint) (callF : CallF) (ops : Array Oper) (k : Nat) (st : St) : Option St :=
  match ops[k]? with
  | some o => match wantedA ops o st with
    | some true => step P h callF o st
    | some false => some (st.set o.dst .undef)
    | none => none
  | none => none

theorem any_ids {id : Nat} {cells : List SV} (h : cells.any (SV.mentions id) = true) : id ∈ cells.flatMap SV.ids := by
  obtain ⟨c, hc, hm⟩ := List.any_eq_true.1 h
  exact List.mem_flatMap.2 ⟨c, hc, mentions_ids hm⟩
theorem ob_ids {id : Nat} {o : Ob} (h : o.mentions id = true) : id ∈ o.ids := by
  cases o with
  | box t cells => exact any_ids h
  | _ => cases h
theorem fill_ok {sf : St → Option St} {s s' : St} {f : Foot} {l : List (Nat × Option AV)} (hk : ∀ p ∈ l, p.1 ∈ f.mv) (hrun : ∀ x : St, (∀ t ∈ f.rs, x.env t = s.env t) → (∀ j ∈ f.ro, x.ob j = s.ob j) → sf x = some (appFx f s'.env s'.ob l x)) :
    ∃ ev ov m, FxOK sf s (f.fill s s') ev ov m ∧ FxIn s (f.fill s s') := by
  have mem : ∀ {id : Nat} {g : Nat → List Nat} {l : List Nat} {t : Nat}, t ∈ l → id ∈ g t → id ∈ l.flatMap g := fun ht h => List.mem_flatMap.2 ⟨_, ht, h⟩
  refine ⟨s'.env, s'.ob, l, ⟨hk, hrun, fun t ht v id e hm => ?_, fun j hj o id e hm => ?_, fun id hid => ?_⟩, ⟨fun t ht v id e hm => ?_, fun j hj o id e hm => ?_, fun t v id e hid hm => ?_, fun j o id e hid hm => ?_⟩⟩
  · simp only [Foot.fill, List.mem_append]
    exact .inr (.inr (.inr (.inr (.inl (mem ht (by simp only [envIds, e]; exact mentions_ids hm))))))
  · simp only [Foot.fill, List.mem_append]
    exact .inr (.inr (.inr (.inr (.inr (.inr (mem hj (by simp only [obIds, e]; exact ob_ids hm)))))))
  · simp only [Foot.fill, List.mem_append]; exact .inl hid
  · simp only [Foot.fill, List.mem_append]
    exact .inr (.inr (.inr (.inl (mem ht (by simp only [envIds, e]; exact mentions_ids hm)))))
  · simp only [Foot.fill, List.mem_append]
    exact .inr (.inr (.inr (.inr (.inr (.inl (mem hj (by simp only [obIds, e]; exact ob_ids hm)))))))
  · simp only [Foot.fill, e, List.any_eq_true]; exact ⟨id, hid, hm⟩
  · simp only [Foot.fill, e, List.any_eq_true]; exact ⟨id, hid, hm⟩
theorem map_moved_nil {α : Type} {x : Option α} {g : α → α} (h : ∀ v, g v = v) : x.map g = x := by cases x <;> simp [h]
theorem set_fx {f : Foot} {s x : St} {d : Option Nat} {v : SV} (h1 : f.ws = d.toList) (h2 : f.wo = []) : x.set d v = appFx f (s.set d v).env (s.set d v).ob [] x := by
  refine St.same (fun t => ?_) (fun j => ?_)
  · simp only [appFx, h1]
    cases d with
    | none => simp only [Option.toList_none, List.not_mem_nil, if_false, St.set]; exact (map_moved_nil fun _ => rfl).symm
    | some d =>
      by_cases e : d = t
      · subst e; simp [St.set, put_same]
      · have : ¬ t ∈ (some d).toList := by simp; exact fun h => e h.symm
        rw [if_neg this]
        simp only [St.set, put_other _ _ e]
        exact (map_moved_nil fun _ => rfl).symm
  · simp only [appFx, h2, List.not_mem_nil, if_false]
    rw [map_moved_nil mapS_nil]
    cases d <;> rfl
theorem mapS_purge (id : Nat) (o : Ob) : o.mapS (moved [(id, none)]) = o.purge id := by cases o <;> rfl
/-- a new object, under a name that moves -/
theorem new_fx {f : Foot} {s x : St} {d id : Nat} {o : Ob} {v : SV} (h1 : f.ws = [d]) (h2 : f.wo = [id]) : (x.new id o).set (some d) v = appFx f ((s.new id o).set (some d) v).env ((s.new id o).set (some d) v).ob [(id, none)] x := by
  refine St.same (fun t => ?_) (fun j => ?_)
  · simp only [appFx, h1, List.mem_singleton]
    by_cases e : t = d
    · subst e; simp [St.set, put_same]
    · rw [if_neg e]
      simp only [St.set, St.new, put_other _ _ (fun h => e h.symm), St.purge]
      rfl
  · simp only [appFx, h2, List.mem_singleton]
    by_cases e : j = id
    · subst e; simp [St.set, St.new, put_same]
    · rw [if_neg e]
      simp only [St.set, St.new, St.purge, put_other _ _ (fun h => e h.symm)]
      cases x.ob j with
      | none => rfl
      | some o' => simp only [Option.map_some]; rw [mapS_purge]

theorem skip_ok {ops : Array Oper} {k : Nat} {o : Oper} {s : St} (ho : ops[k]? = some o) (hw : wantedA ops o s = some false) :
    ∃ ev ov m, FxOK (opStep P h callF ops k) s ((footSkip ops o).fill s (s.set o.dst .undef)) ev ov m ∧ FxIn s ((footSkip ops o).fill s (s.set o.dst .undef)) :=
  fill_ok (l := []) (by simp) fun x h1 _ => by
    simp only [opStep, ho]
    rw [wanted_congr (st' := s) h1, hw]
    simp only
    rw [set_fx (f := footSkip ops o) (s := s) rfl rfl]
/-- told by what is read -/
def RunsFx (sf : St → Option St) (s : St) (f : Foot) (ev : Nat → Option SV) (ov : Nat → Option Ob) (l : List (Nat × Option AV)) : Prop :=
  (∀ p ∈ l, p.1 ∈ f.mv) ∧ ∀ x : St, (∀ t ∈ f.rs, x.env t = s.env t) → (∀ j ∈ f.ro, x.ob j = s.ob j) → sf x = some (appFx f ev ov l x)
theorem RunsFx.imp {sf : St → Option St} {s : St} {f f' : Foot} {ev : Nat → Option SV} {ov : Nat → Option Ob} {l : List (Nat × Option AV)} (hr : RunsFx sf s f ev ov l) (h1 : ∀ t ∈ f.rs, t ∈ f'.rs) (h2 : ∀ t ∈ f.ro, t ∈ f'.ro) (h3 : ∀ t ∈ f.mv, t ∈ f'.mv) (h4 : ∀ t, t ∈ f.ws ↔ t ∈ f'.ws) (h5 : ∀ t, t ∈ f.wo ↔ t ∈ f'.wo) : RunsFx sf s f' ev ov l :=
  ⟨fun p hp => h3 _ (hr.1 p hp), fun x k1 k2 => by
    rw [hr.2 x (fun t ht => k1 t (h1 t ht)) (fun t ht => k2 t (h2 t ht))]
    simp only [appFx, h4, h5]⟩
theorem RunsFx.at {sf : St → Option St} {s s' : St} {f : Foot} {ev : Nat → Option SV} {ov : Nat → Option Ob} {l : List (Nat × Option AV)} (hr : RunsFx sf s f ev ov l) (h : sf s = some s') : s' = appFx f ev ov l s := by
  have := hr.2 s (fun _ _ => rfl) (fun _ _ => rfl)
  rw [h] at this; injection this
/-- one behind the other -/
theorem then_fx {s1 s2 : St → Option St} {s : St} {f1 f2 : Foot} {ev1 ev2 : Nat → Option SV} {ov1 ov2 : Nat → Option Ob} {l1 l2 : List (Nat × Option AV)} (hr : RunsFx s1 s f1 ev1 ov1 l1) (hq : RunsFx s2 (appFx f1 ev1 ov1 l1 s) f2 ev2 ov2 l2) :
    ∃ ev ov, RunsFx (fun x => (s1 x).bind s2) s (f1.then f2) ev ov (l1 ++ l2) := by
  refine ⟨fun t => if t ∈ f2.ws then ev2 t else (ev1 t).map (moved l2), fun j => if j ∈ f2.wo then ov2 j else (ov1 j).map (Ob.mapS (moved l2)), fun p hp => ?_, fun x k1 k2 => ?_⟩
  · simp only [Foot.then, List.mem_append]
    exact (List.mem_append.1 hp).imp (hr.1 p) (hq.1 p)
  · have e1 := hr.2 x (fun t ht => k1 t (by simp [Foot.then, ht])) (fun t ht => k2 t (by simp [Foot.then, ht]))
    have e2 := hq.2 (appFx f1 ev1 ov1 l1 x) (fun t ht => by simp only [appFx]; rw [k1 t (by simp [Foot.then, ht])]) (fun t ht => by simp only [appFx]; rw [k2 t (by simp [Foot.then, ht])])
    simp only [e1, Option.bind_some, e2, Option.some.injEq]
    have mm : ∀ v, moved l2 (moved l1 v) = moved (l1 ++ l2) v := fun v => by simp only [moved, List.foldl_append]
    refine St.same (fun t => ?_) (fun j => ?_)
    · simp only [appFx, Foot.then, List.mem_append]
      by_cases a : t ∈ f2.ws
      · simp only [a, if_true, true_or]
      · by_cases b : t ∈ f1.ws
        · simp only [a, b, if_true, if_false, false_or]
        · simp only [a, b, if_false, or_self]
          cases x.env t with
          | none => rfl
          | some v => simp only [Option.map_some, mm]
    · simp only [appFx, Foot.then, List.mem_append]
      by_cases a : j ∈ f2.wo
      · simp only [a, if_true, true_or]
      · by_cases b : j ∈ f1.wo
        · simp only [a, b, if_true, if_false, false_or]
        · simp only [a, b, if_false, or_self]
          cases x.ob j with
          | none => rfl
          | some o =>
            simp only [Option.map_some, Option.some.injEq]
            cases o with
            | box t cells => simp only [Ob.mapS, List.map_map, Ob.box.injEq, true_and]; exact List.map_congr_left fun c _ => mm c
            | _ => rfl
theorem RunsFx.nil (s : St) (f : Foot) (h1 : f.ws = []) (h2 : f.wo = []) : RunsFx some s f (fun _ => none) (fun _ => none) [] :=
  ⟨by simp, fun x _ _ => by
    congr 1
    refine St.same (fun t => ?_) (fun j => ?_)
    · simp only [appFx, h1, List.not_mem_nil, if_false]; exact (map_moved_nil fun _ => rfl).symm
    · simp only [appFx, h2, List.not_mem_nil, if_false]; exact (map_moved_nil mapS_nil).symm⟩
theorem mapS_publish (id : Nat) (v : AV) (o : Ob) : o.mapS (moved [(id, some v)]) = o.publish id v := by cases o <;> rfl
theorem publish_fx {s s' : St} {id : Nat} (hp : s.publish id = some s') : ∃ ev ov l, RunsFx (fun x => x.publish id) s { ro := [id], wo := [id], mv := [id] } ev ov l := by
  unfold St.publish at hp
  split at hp
  · rename_i v ho hv
    refine ⟨fun _ => none, fun _ => none, [(id, some v)], by simp, fun x _ h2 => ?_⟩
    have e : x.ob id = s.ob id := h2 id (by simp)
    unfold St.publish
    simp only [e, ho, hv, Option.some.injEq]
    refine St.same (fun t => ?_) (fun j => ?_)
    · simp only [appFx, List.not_mem_nil, if_false]; rfl
    · simp only [appFx, List.mem_singleton]
      by_cases a : j = id
      · subst a; simp [put_same]
      · rw [if_neg a, put_other _ _ (fun h => a h.symm)]
        cases x.ob j with
        | none => rfl
        | some o => simp only [Option.map_some]; rw [mapS_publish]
  · cases hp
theorem pubCells_fx : ∀ {cells : List SV} {s s' : St}, pubCells cells s = some s' → ∃ ev ov l, RunsFx (pubCells cells) s { ro := rowsIn cells, wo := rowsIn cells, mv := rowsIn cells } ev ov l
  | [], s, s', _ => ⟨_, _, _, RunsFx.nil s _ rfl rfl⟩
  | c :: cells, s, s', hv => by
    have other : (∀ id, c ≠ .row id) → (∀ x, pubCells (c :: cells) x = pubCells cells x) ∧ rowsIn (c :: cells) = rowsIn cells := fun hne => by
      cases c <;> first | exact absurd rfl (hne _) | exact ⟨fun _ => rfl, rfl⟩
    by_cases hr : ∃ id, c = .row id
    · obtain ⟨id, rfl⟩ := hr
      simp only [pubCells] at hv
      obtain ⟨s1, h1, h2⟩ := Option.bind_eq_some_iff.1 hv
      obtain ⟨ev, ov, l, r1⟩ := publish_fx h1
      obtain ⟨ev', ov', l', r2⟩ := pubCells_fx h2
      rw [r1.at h1] at r2
      obtain ⟨ev2, ov2, r3⟩ := then_fx r1 r2
      exact ⟨ev2, ov2, _, r3.imp (fun t ht => by simp [Foot.then] at ht) (fun t ht => by simpa [Foot.then, rowsIn] using ht) (fun t ht => by simpa [Foot.then, rowsIn] using ht) (fun t => by simp [Foot.then]) (fun t => by simp [Foot.then, rowsIn, or_comm])⟩
    · obtain ⟨e1, e2⟩ := other fun id h => hr ⟨id, h⟩
      rw [e1] at hv
      obtain ⟨ev, ov, l, r⟩ := pubCells_fx hv
      refine ⟨ev, ov, l, ?_⟩
      rw [e2]
      exact ⟨r.1, fun x h1 h2 => by rw [e1]; exact r.2 x h1 h2⟩
theorem preOne_fx {s s' : St} {t : Nat} (hp : preOne s t = some s') : ∃ ev ov l, RunsFx (fun x => preOne x t) s (preFoot s t) ev ov l := by
  have hp0 := hp
  unfold preOne at hp
  unfold preFoot
  split at hp
  · rename_i id he
    obtain ⟨ev, ov, l, r⟩ := publish_fx hp
    refine ⟨ev, ov, l, r.1, fun x h1 h2 => ?_⟩
    have e : x.env t = s.env t := h1 t (by simp)
    simp only [preOne, e, he]
    exact r.2 x (by simp) h2
  · rename_i id off he
    split at hp
    · rename_i bt cells hob
      obtain ⟨ev, ov, l, r⟩ := pubCells_fx hp
      refine ⟨ev, ov, l, r.1, fun x h1 h2 => ?_⟩
      have e : x.env t = s.env t := h1 t (by simp)
      have e2 : x.ob id = s.ob id := h2 id (by simp)
      simp only [preOne, e, he, e2, hob]
      exact r.2 x (by simp) (fun j hj => h2 j (by simp [hj]))
    · cases hp
  · rename_i hn1 hn2
    refine ⟨fun _ => none, fun _ => none, [], ?_⟩
    have k2 : ∀ x : St, x.env t = s.env t → preOne x t = some x := fun x e => by
      unfold preOne
      rw [e]
      split
      · rename_i id he; exact absurd he (hn1 id)
      · rename_i id off he; exact absurd he (hn2 id off)
      · rfl
    refine ⟨by simp, fun x h1 h2 => ?_⟩
    simp only
    rw [k2 x (h1 t (by simp))]
    exact (RunsFx.nil s { rs := [t] } rfl rfl).2 x h1 h2

theorem value_fx {ops : Array Oper} {o : Oper} {s : St} {v : SV} (hv : fval P h callF o s = some v) : RunsFx (step0 P h callF o) s (footV P h ops o s) (s.set o.dst v).env (s.set o.dst v).ob [] :=
  ⟨by simp, fun x h1 h2 => by
    have hro : ∀ id ∈ roFoot P h o s, s.ob id = x.ob id := fun id hid => by
      cases hn : noObs o.op with
      | false => exact (h2 id (by simp [footV, hn, hid])).symm
      | true => cases ho : o.op <;> simp [roFoot, ho, noObs] at hid hn
    have := fval_congr (P := P) (h := h) (callF := callF) (st := s) (st' := x) (o := o) (fun hn id hid => (h2 id (by simp [footV, hn, hid])).symm) hro (fun t ht => (h1 t (by simp [footV, readsOf, ht])).symm)
    rw [hv] at this
    simp only [step0, ← this]
    rw [set_fx (f := footV P h ops o s) (s := s) rfl rfl]⟩
theorem value_ok {ops : Array Oper} {k : Nat} {o : Oper} {s : St} {v : SV} (ho : ops[k]? = some o) (hw : wantedA ops o s = some true) (hpe : preOf h o = []) (hv : fval P h callF o s = some v) :
    ∃ ev ov m, FxOK (opStep P h callF ops k) s ((footV P h ops o s).fill s (s.set o.dst v)) ev ov m ∧ FxIn s ((footV P h ops o s).fill s (s.set o.dst v)) :=
  fill_ok (l := []) (by simp) fun x h1 h2 => by
    simp only [opStep, ho]
    rw [wanted_congr (st' := s) h1, hw]
    simp only [step, hpe, preSlots, Option.bind_some]
    exact (value_fx (ops := ops) hv).2 x h1 h2

/-- an append, in one state and in another that is alike where it looks -/
theorem app_step {o : Oper} {s s' : St} {c : Call} {d id : Nat} {x y : Operand} {t t' : TypeId} (ho : o.op = .call c) (hc : c.callee = .builtin .append) (hargs : c.args.toList = [x, y]) (htys : c.argTypes.toList = [t, t']) (hd : o.dst = some d) (hx : opnd P t s x = some (.row id)) (hst : step0 P h callF o s = some s') :
    ∃ ob : Ob, s' = (s.new id ob).set (some d) (.row id) ∧
      ∀ x : St, (∀ t ∈ slotsOf o, x.env t = s.env t) → (∀ j ∈ id :: opIds s o, x.ob j = s.ob j) → step0 P h callF o x = some ((x.new id ob).set (some d) (.row id)) := by
  have hf : ∀ x : St, fval P h callF o x = none := fun x => by simp only [fval, ho, hc, pcall]
  have he : ∀ x' : St, step0 P h callF o x' = (match isSlice P t, opnd P t x' x, opnd P t' x' y with
    | some (e, s), some (.row id), some y => match x'.ob id, elems x' y, P.info? e with
      | some (.row e' sz xs), some (sz', ys), some i =>
        if t = t' ∧ e = e' ∧ s = sz ∧ sz = sz' ∧ 0 < sz ∧ (xs.length + ys.length) * i.bytes ≤ 140737488355328 ∧ xs.length + ys.length ≤ 4611686018427387904 ∧ i.zero.map (fun z => z.cells.size) = some sz ∧ mayMove id = true then
          some ((x'.new id (.row e sz (xs ++ ys))).set (some d) (.row id)) else none
      | _, _, _ => none
    | _, _, _ => none) := fun x' => by
    simp only [step0, hf, eff, ho, hc, hd, hargs, htys]
    rfl
  rw [he] at hst
  split at hst
  · rename_i e sz0 id2 sy hs hx2 hy
    rw [hx] at hx2
    simp only [Option.some.injEq, SV.row.injEq] at hx2
    subst hx2
    split at hst
    · rename_i e' sz xs sz' ys i hob hel hi
      split at hst
      · rename_i hcnd
        injection hst with hst
        refine ⟨.row e sz (xs ++ ys), hst.symm, fun x' hx' hox => ?_⟩
        have hopx : ∀ z ∈ [x, y], ∀ ty, opnd P ty x' z = opnd P ty s z := fun z hz ty => opnd_congr (fun u e => hx' u (by
          subst e
          refine List.mem_filterMap.2 ⟨.tmp u, ?_, rfl⟩
          rw [ho]
          simp only [Op.operands, Call.operands, hc, Array.toList_append, List.mem_append]
          right
          rw [hargs]; exact hz)) ty
        rw [he, hopx x (by simp) t, hopx y (by simp) t', hx, hy, hs]
        have e1 : x'.ob id = s.ob id := hox id (by simp)
        have e2 : elems x' sy = elems s sy := elems_congr (fun j hj => hox j (List.mem_cons_of_mem _ (mem_idsIn (P := P) (x := y) (ty := t') (by
          rw [ho]
          simp only [Op.operands, Call.operands, hc, Array.toList_append, List.mem_append]
          right
          rw [hargs]; simp) hy hj)))
        simp only [e1, hob, e2, hel, hi]
        rw [if_pos hcnd]
      · cases hst
    · cases hst
  · cases hst
/-- an operation with an effect -/
theorem effect0_fx {ops : Array Oper} {o : Oper} {s s' : St} (hst : step0 P h callF o s = some s') (hall : (footE0 P h ops o s).all = false) :
    ∃ ev ov m, RunsFx (step0 P h callF o) s (footE0 P h ops o s) ev ov m := by
  have go : ∀ {l : List (Nat × Option AV)}, (∀ p ∈ l, p.1 ∈ (footE0 P h ops o s).mv) → (∀ t ∈ readsOf ops o, t ∈ (footE0 P h ops o s).rs) → (∀ x : St, (∀ t ∈ (footE0 P h ops o s).rs, x.env t = s.env t) → (∀ j ∈ (footE0 P h ops o s).ro, x.ob j = s.ob j) → step0 P h callF o x = some (appFx (footE0 P h ops o s) s'.env s'.ob l x)) →
      ∃ ev ov m, RunsFx (step0 P h callF o) s (footE0 P h ops o s) ev ov m := fun hk _ hrun => ⟨_, _, _, hk, hrun⟩
  obtain ⟨F, hF⟩ : ∃ F, footE0 P h ops o s = F := ⟨_, rfl⟩
  rw [hF] at hall go ⊢
  unfold footE0 at hF
  split at hF
  · -- a store
    rename_i t ax ay hopq hdn
    unfold footStore at hF
    split at hF
    · rename_i id hx
      subst hF
      obtain ⟨sa, hsa, htg⟩ := Option.bind_eq_some_iff.1 hx
      have hfn : ∀ x, fval P h callF o x = none := fun x => by simp [fval, hopq, pval]
      have hst' := hst
      unfold step0 at hst'
      rw [hfn] at hst'
      simp only [eff, hdn, hopq, hsa] at hst'
      split at hst'
      · rename_i sa' sv e1 hy
        injection e1 with e1; subst e1
        obtain ⟨l1, l2, l3⟩ := storeAt_local hst' htg
        refine go (l := []) (by simp) (fun t ht => ht) fun x h1 h2 => ?_
        have hox : ∀ y ∈ o.op.operands.toList, ∀ ty, opnd P ty x y = opnd P ty s y := fun y hy' ty => opnd_congr (fun u e => h1 u (by
          subst e
          exact List.mem_append_left _ (List.mem_filterMap.2 ⟨.tmp u, hy', rfl⟩))) ty
        have k1 := hox ax (by rw [hopq]; simp [Op.operands]) 0
        have k2 := hox ay (by rw [hopq]; simp [Op.operands]) t
        unfold step0
        rw [hfn]
        simp only [eff, hdn, hopq, k1, k2, hsa, hy]
        rw [l3 x (h2 id (by simp)) fun j hj => h2 j (List.mem_cons_of_mem _ (mem_idsIn (P := P) (x := ay) (ty := t) (by rw [hopq]; simp [Op.operands]) hy hj))]
        congr 1
        refine St.same (fun u => ?_) (fun u => ?_)
        · simp only [appFx, List.not_mem_nil, if_false]
          exact (map_moved_nil fun _ => rfl).symm
        · simp only [appFx, List.mem_singleton]
          by_cases e : u = id
          · subst e; simp [put_same]
          · rw [if_neg e, put_other _ _ (fun h => e h.symm)]
            exact (map_moved_nil mapS_nil).symm
      · cases hst'
    · subst hF; cases hall
  · -- a new box
    rename_i t d hopq hdd
    cases hrw : h.rows.contains d with
    | true => rw [hrw] at hF; subst hF; cases hall
    | false =>
      rw [hrw] at hF
      simp only [cond_false] at hF
      subst hF
      have he : ∀ x, step0 P h callF o x = match zeroCells P t with
        | some z => some ((x.new d (.box t (z.map .pv))).set (some d) (.ptr d 0))
        | none => none := fun x => by
        have hfn : fval P h callF o x = none := by simp [fval, hopq, pval]
        unfold step0
        rw [hfn]
        simp only [eff, hdd, hopq, hrw, cond_false]
        rfl
      rw [he] at hst
      split at hst
      · rename_i z hz
        injection hst with hst; subst hst
        refine go (l := [(d, none)]) (by simp) (fun t ht => ht) fun x h1 h2 => ?_
        rw [he, hz]
        simp only
        rw [new_fx (f := { rs := readsOf ops o, ws := [d], wo := [d], mv := [d] }) (s := s) rfl rfl]
      · cases hst
  · rename_i c hopq
    split at hF
    · -- an append
      rename_i hc
      unfold footApp at hF
      split at hF
      · rename_i x y t t' d hargs htys hdd
        split at hF
        · rename_i id hx
          subst hF
          obtain ⟨ob, hs', hrun⟩ := app_step hopq hc hargs htys hdd hx hst
          subst hs'
          refine go (l := [(id, none)]) (by simp) (fun t ht => ht) fun x h1 h2 => ?_
          rw [hrun x (fun t ht => h1 t (by simp [readsOf, ht])) h2, new_fx (f := { rs := readsOf ops o, ws := [d], ro := id :: opIds s o, wo := [id], mv := [id] }) (s := s) rfl rfl]
        · subst hF; cases hall
      · subst hF; cases hall
    · -- a row handed back
      rename_i f hc
      cases how2 : (o.dst.any h.owns.contains && !(o.dst.any (fun d => (nilAt h d).isSome))) with
      | false => rw [how2] at hF; subst hF; cases hall
      | true =>
        rw [how2] at hF
        simp only [cond_true] at hF
        subst hF
        obtain ⟨how, hnil⟩ := Bool.and_eq_true_iff.1 how2
        have he : ∀ x, step0 P h callF o x = callOwn P h callF x c f o.dst := fun x => by
          have hfn : fval P h callF o x = none := by simp only [fval, hopq, hc, how, cond_true]
          unfold step0
          rw [hfn]
          cases hdd : o.dst with
          | none => rw [hdd] at how; cases how
          | some d =>
            rw [hdd] at how
            simp only [eff, hopq, hc, hdd, how, cond_true]
        have hox : ∀ x : St, (∀ t ∈ readsOf ops o, x.env t = s.env t) → ∀ y ∈ o.op.operands.toList, ∀ ty, opnd P ty x y = opnd P ty s y := fun x h1 y hy' ty => opnd_congr (fun u e => h1 u (by
          subst e
          exact List.mem_append_left _ (List.mem_filterMap.2 ⟨.tmp u, hy', rfl⟩))) ty
        rw [he] at hst
        unfold callOwn at hst
        split at hst
        · rename_i d hdd
          have hn : (nilAt h d).isSome = false := by simpa [hdd] using hnil
          rw [hn] at hst
          split at hst
          · rename_i g caps vs hf hvs
            split at hst
            rotate_left
            · rename_i cs' hr
              have : nilAt h d = none := by simpa using hn
              rw [this] at hst; cases hst
            · cases hst
            rename_i e sz xs hr
            injection hst with hst; subst hst
            refine go (l := [(d, none)]) (by simp [hdd]) (fun t ht => ht) fun x h1 h2 => ?_
            have k1 := hox x h1 f (by rw [hopq]; simp [Op.operands, Call.operands, hc]) 0
            have k2 := pureArgs_congr (P := P) (b := false) (st := x) (st' := s) (xs := c.args.toList) (ts := c.argTypes.toList) (fun y hy => hox x h1 y (by rw [hopq]; simp only [Op.operands, Call.operands, Array.toList_append, List.mem_append]; exact .inr hy))
            rw [he]
            unfold callOwn
            rw [hdd]
            simp only [hn, k1, k2, hf, hvs, hr, cond_false]
            exact congrArg some (new_fx (f := { rs := readsOf ops o, ws := (some d).toList, wo := (some d).toList, mv := (some d).toList }) (s := s) rfl rfl)
          · cases hst
        · cases hst
    · subst hF; cases hall
  · subst hF; cases hall

theorem footP_fx {ops : Array Oper} {o : Oper} : ∀ {l : List Nat} {s s' : St}, (preSlots l s).bind (step0 P h callF o) = some s' → (footP P h ops o l s).all = false → ∃ ev ov m, RunsFx (fun x => (preSlots l x).bind (step0 P h callF o)) s (footP P h ops o l s) ev ov m
  | [], s, s', hst, hall => by
    simp only [preSlots, Option.bind_some] at hst ⊢
    simp only [footP] at hall ⊢
    cases hF : isF h s o with
    | false => rw [hF] at hall; simp only [cond_false] at hall ⊢; exact effect0_fx hst hall
    | true =>
      rw [hF] at hall
      simp only [cond_true] at hall ⊢
      cases hW : isW o.op with
      | false => rw [hW] at hall; cases hall
      | true =>
        simp only [cond_true]
        cases hv : fval P h callF o s with
        | some v => exact ⟨_, _, _, value_fx hv⟩
        | none =>
          exfalso
          unfold step0 at hst
          rw [hv] at hst
          simp only at hst
          cases ho : o.op with
          | buildSlice t len parts =>
            simp only [isF, ho] at hF
            have hF : o.dst.any h.rows.contains = false := by simpa using hF
            simp only [fval, ho, hF, cond_false, Option.map_eq_none_iff] at hv
            cases hd : o.dst <;> simp [eff, ho, hd, hv] at hst
          | build t parts =>
            simp only [isF, ho] at hF
            have hF : o.dst.any h.rows.contains = false := by simpa using hF
            cases hd : o.dst with
            | none => simp [eff, ho, hd] at hst
            | some d =>
              rw [hd] at hF
              have hF' : h.rows.contains d = false := hF
              simp only [eff, ho, hd, hF', cond_false] at hst
              cases hst
          | load t x => cases hd : o.dst <;> simp [eff, ho, hd] at hst
          | _ => simp [isW, ho] at hW
  | t :: l, s, s', hst, hall => by
    simp only [preSlots] at hst
    have hst : ((preOne s t).bind (preSlots l)).bind (step0 P h callF o) = some s' := hst
    cases h1 : preOne s t with
    | none => rw [h1] at hst; cases hst
    | some s1 =>
      rw [h1] at hst
      simp only [Option.bind_some] at hst
      simp only [footP, h1] at hall ⊢
      have hall2 : (footP P h ops o l s1).all = false := by
        simp only [Foot.then, Bool.or_eq_false_iff] at hall; exact hall.2
      obtain ⟨ev, ov, m, r1⟩ := preOne_fx h1
      obtain ⟨ev', ov', m', r2⟩ := footP_fx hst hall2
      have e1 := r1.at h1
      rw [e1] at r2
      obtain ⟨ev2, ov2, r3⟩ := then_fx r1 r2
      rw [← e1] at r3
      refine ⟨ev2, ov2, _, r3.1, fun x k1 k2 => ?_⟩
      rw [← r3.2 x k1 k2]
      simp only [preSlots]
      cases preOne x t <;> rfl
theorem effect_ok {ops : Array Oper} {k : Nat} {o : Oper} {s s' : St} (ho : ops[k]? = some o) (hw : wantedA ops o s = some true) (hst : step P h callF o s = some s') (hall : ((footE P h ops o s).fill s s').all = false) :
    ∃ ev ov m, FxOK (opStep P h callF ops k) s ((footE P h ops o s).fill s s') ev ov m ∧ FxIn s ((footE P h ops o s).fill s s') := by
  have hall : (footE P h ops o s).all = false := hall
  have hall1 : (footP P h ops o (preOf h o) s).all = false := by
    simp only [footE, Foot.then, Bool.or_false] at hall; exact hall
  obtain ⟨ev, ov, m, r⟩ := footP_fx (l := preOf h o) hst hall1
  have r' : RunsFx (step P h callF o) s (footE P h ops o s) ev ov m := r.imp (fun t ht => by simp [footE, Foot.then, ht]) (fun t ht => by simp [footE, Foot.then, ht]) (fun t ht => by simp [footE, Foot.then, ht]) (fun t => by simp [footE, Foot.then]) (fun t => by simp [footE, Foot.then])
  have e := r'.at hst
  refine fill_ok r'.1 fun x h1 h2 => ?_
  simp only [opStep, ho]
  rw [wanted_congr (st' := s) fun t ht => h1 t (by simp [footE, Foot.then, ht]), hw]
  simp only
  rw [r'.2 x h1 h2, e]
  congr 1
  refine St.same (fun t => ?_) (fun j => ?_)
  · simp only [appFx]
    by_cases a : t ∈ (footE P h ops o s).ws
    · simp only [a, if_true]
    · simp only [a, if_false]
  · simp only [appFx]
    by_cases a : j ∈ (footE P h ops o s).wo
    · simp only [a, if_true]
    · simp only [a, if_false]

theorem run_of {ops : Array Oper} : ∀ (l : List Oper) (i : Nat) (prev : List (Nat × Foot)) (st s : St), (∀ k o, l[k]? = some o → ops[i + k]? = some o) → runDraw P h callF ops i l prev st = some s →
    ∃ fs : List (Nat × Foot), fs.length = l.length ∧ (∀ j, j ∈ fs.map (·.1) ↔ i ≤ j ∧ j < i + l.length) ∧ fs.Pairwise (fun p q => p.1 < q.1) ∧ Runs (opStep P h callF ops) fs st s ∧
      (∀ p ∈ prev, ∀ q ∈ fs, p.2.conflict q.2 = true → reach ops 12 q.1 p.1 = true) ∧ fs.Pairwise (fun p q => p.2.conflict q.2 = true → reach ops 12 q.1 p.1 = true) := by
  intro l
  induction l with
  | nil =>
    intro i prev st s _ hr
    simp only [runDraw, Option.some.injEq] at hr
    exact ⟨[], rfl, by simp, .nil, hr, by simp, .nil⟩
  | cons o l ih =>
    intro i prev st s hal hr
    have ho : ops[i]? = some o := by simpa using hal 0 o (by simp)
    have cont : ∀ (f : Foot) (st1 : St), opStep P h callF ops i st = some st1 → (f.all = false → ∃ ev ov m, FxOK (opStep P h callF ops i) st f ev ov m ∧ FxIn st f) → footOk ops prev i f = true → runDraw P h callF ops (i + 1) l ((i, f) :: prev) st1 = some s →
        ∃ fs : List (Nat × Foot), fs.length = (o :: l).length ∧ (∀ j, j ∈ fs.map (·.1) ↔ i ≤ j ∧ j < i + (o :: l).length) ∧ fs.Pairwise (fun p q => p.1 < q.1) ∧ Runs (opStep P h callF ops) fs st s ∧
          (∀ p ∈ prev, ∀ q ∈ fs, p.2.conflict q.2 = true → reach ops 12 q.1 p.1 = true) ∧ fs.Pairwise (fun p q => p.2.conflict q.2 = true → reach ops 12 q.1 p.1 = true) := fun f st1 h1 h2 h3 h4 => by
      obtain ⟨fs, k0, k1, k2, k3, k4, k5⟩ := ih (i + 1) ((i, f) :: prev) st1 s (fun k o' hk => by
        have := hal (k + 1) o' (by simpa using hk)
        rwa [show i + (k + 1) = i + 1 + k from by omega] at this) h4
      refine ⟨(i, f) :: fs, by simp [k0], fun j => ?_, .cons (fun q hq => ?_) k2, ⟨st1, h1, h2, k3⟩, fun p hp q hq hc => ?_, .cons (fun q hq => k4 (i, f) (by simp) q hq) k5⟩
      · simp only [List.map_cons, List.mem_cons, k1, List.length_cons]; omega
      · have := (k1 q.1).1 (List.mem_map.2 ⟨q, hq, rfl⟩)
        show i < q.1
        omega
      · rcases List.mem_cons.1 hq with rfl | hq
        · have := List.all_eq_true.1 h3 p hp
          simpa [hc] using this
        · exact k4 p (by simp [hp]) q hq hc
    simp only [runDraw] at hr
    split at hr
    · cases hr
    · rename_i b hw
      cases b with
      | false =>
        simp only [cond_false] at hr
        cases hfo : footOk ops prev i ((footSkip ops o).fill st (st.set o.dst .undef)) with
        | false => simp [hfo] at hr
        | true => simp only [hfo, cond_true] at hr; exact cont _ _ (by simp only [opStep, ho, hw]) (fun _ => skip_ok ho hw) hfo hr
      | true =>
        simp only [cond_true] at hr
        cases hF : (isF h st o && (preOf h o).isEmpty) with
        | true =>
          have hpe : preOf h o = [] := by simp only [Bool.and_eq_true] at hF; exact List.isEmpty_iff.1 hF.2
          simp only [hF, cond_true] at hr
          cases hf : fval P h callF o st with
          | none => simp [hf] at hr
          | some v =>
            simp only [hf] at hr
            cases hc : footOk ops prev i ((footV P h ops o st).fill st (st.set o.dst v)) with
            | false => simp [hc] at hr
            | true => simp only [hc, cond_true] at hr; exact cont _ _ (by simp only [opStep, ho, hw, step, hpe, preSlots, Option.bind_some, step0, hf]) (fun _ => value_ok ho hw hpe hf) hc hr
        | false =>
          simp only [hF, cond_false] at hr
          cases hs : step P h callF o st with
          | none => simp [hs] at hr
          | some st1 =>
            simp only [hs] at hr
            cases hc : footOk ops prev i ((footE P h ops o st).fill st st1) with
            | false => simp [hc] at hr
            | true => simp only [hc, cond_true] at hr; exact cont _ _ (by simp only [opStep, ho, hw, hs]) (fun ha => effect_ok ho hw hs ha) hc hr
theorem edges_get : ∀ {l : List Oper} {i : Nat}, edgesBack i l = true → ∀ (p : Nat) (o : Oper), l[p]? = some o → ∀ e ∈ o.after.toList, Region.binds .any e = true → e.on < i + p := by
  intro l
  induction l with
  | nil => intro i _ p o ho; simp at ho
  | cons x l ih =>
    intro i hs p o ho e he hb
    simp only [edgesBack, Bool.and_eq_true] at hs
    cases p with
    | zero =>
      simp at ho; subst ho
      have := List.all_eq_true.1 hs.1 e he
      simp only [hb, Bool.not_true, Bool.false_or, Nat.blt_eq] at this
      omega
    | succ p =>
      simp at ho
      have := ih hs.2 p o ho e he hb
      omega

theorem reach_listed {ops : Array Oper} {D : Nat → Prop} (hcl : ∀ j o, D j → ops[j]? = some o → ∀ e ∈ o.after.toList, Region.binds .any e = true → D e.on) :
    ∀ (n i j : Nat), (∀ o, ops[i]? = some o → ∀ e ∈ o.after.toList, Region.binds .any e = true → D e.on) → reach ops n i j = true → D j := by
  intro n
  induction n with
  | zero => intro i j _ h; simp [reach] at h
  | succ n ih =>
    intro i j hdeps h
    simp only [reach] at h
    cases ho : ops[i]? with
    | none => simp [ho] at h
    | some o =>
      simp only [ho, Bool.or_eq_true] at h
      rcases h with h | h
      · simp only [edgeTo, List.any_eq_true, Bool.and_eq_true] at h
        obtain ⟨e, he, hb, hon⟩ := h
        have := hdeps o ho e he hb
        rwa [beq_iff.1 hon] at this
      · simp only [List.any_eq_true, Bool.and_eq_true] at h
        obtain ⟨e, he, hb, hr⟩ := h
        exact ih e.on j (fun o' ho' e' he' hb' => hcl e.on o' (hdeps o ho e he hb) ho' e' he' hb') hr

theorem Rel.purge {N : Nat} {w0 : World} {μ0 : Mu} {L : Lent} {μ : Mu} {loc : Nat → Value} {st : St} {a : Act} {w : World} (hR : Rel N w0 μ0 L μ loc st a w) (id : Nat) : Rel N w0 μ0 L μ loc (st.purge id) a w := by
  have hobs : ∀ j o, (st.purge id).ob j = some o → ∃ o', st.ob j = some o' ∧ o = o'.purge id := fun j o ho => by
    simp only [St.purge] at ho
    by_cases e : id = j
    · subst e; simp [put_same] at ho
    · simp only [put_other _ _ e] at ho
      cases h1 : st.ob j with
      | none => simp [h1] at ho
      | some o' => simp [h1] at ho; exact ⟨o', rfl, ho.symm⟩
  refine { hR with env := fun i sv he => ?_, obs := fun j o ho => ?_, apart := fun i j oi oj hi hj => ?_ }
  · simp only [St.purge] at he
    cases h1 : st.env i with
    | none => simp [h1] at he
    | some s =>
      simp [h1] at he; subst he
      obtain ⟨v, hv, hs⟩ := hR.env i s h1
      exact ⟨v, hv, repS_purge' hs⟩
  · obtain ⟨o', ho', rfl⟩ := hobs j o ho
    have := hR.obs j o' ho'
    cases o' with
    | row e sz xs => exact this
    | mp k e ks vs => exact this
    | mr k e s ks vs => exact this
    | it s n => exact this
    | box t cells =>
      obtain ⟨b, vs, h1, h2, h3, h4, h5, h6⟩ := this
      refine ⟨b, vs, h1, h2, h3, h4, ?_, h6⟩
      clear h3 h6 ho' ho
      induction cells generalizing vs with
      | nil => exact h5
      | cons c cs ih =>
        obtain ⟨u, us, rfl, k1, k2⟩ := h5
        exact ⟨u, us, rfl, repS_purge' k1, ih us k2⟩
  · obtain ⟨oi', hi', _⟩ := hobs i oi hi
    obtain ⟨oj', hj', _⟩ := hobs j oj hj
    exact hR.apart i j oi' oj' hi' hj'
theorem Rel.purgeAll {N : Nat} {w0 : World} {μ0 : Mu} {L : Lent} {μ : Mu} {loc : Nat → Value} {a : Act} {w : World} : ∀ (l : List Nat) (st : St), Rel N w0 μ0 L μ loc st a w → Rel N w0 μ0 L μ loc (AM.purgeAll l st) a w
  | [], _, hR => hR
  | p :: l, st, hR => Rel.purgeAll l (st.purge p) (hR.purge p)
end

section
variable {P : Program} {N : Nat} {w0 : World} {μ0 : Mu} {L : Lent} {h : Hint} {callF : CallF} {Q : Exit → Act → World → Prop}

theorem draw_sound (hcall : CallOK L.q μ0 P callF) {ops : Array Oper} {st stF : St} (hedges : edgesBack 0 ops.toList = true)
    (hrun : runDraw P h callF ops 0 ops.toList [] (purgeAll (allocsOf ops.toList) st) = some stF) (hd : ∀ o ∈ ops.toList, ∀ i, o.dst = some i → i < N)
    (hQ : ∀ a' w' μ' loc', Rel N w0 μ0 L μ' loc' stF a' w' → Q .normal a' w') {μ : Mu} {loc : Nat → Value} {a : Act} {w : World} (hR : Rel N w0 μ0 L μ loc st a w) {F : Fence} (hF : Wd F) :
    wpAnyIn F 0 P .any ops Q ops.size (Array.replicate ops.size false) a w := by
  obtain ⟨fs0, hl0, hm0, hs0, hr0, _, hp0⟩ := run_of ops.toList 0 [] _ _ (fun k o hk => by simpa using hk) hrun
  let D : Array Bool → Nat → Prop := fun listed j => listed.getD j false = true
  have main : ∀ (fuel : Nat) (listed : Array Bool) (a : Act) (w : World) (μ : Mu) (loc : Nat → Value) (fs : List (Nat × Foot)) (x : St), listed.size = ops.size → fs.length ≤ fuel →
      (∀ j o, D listed j → ops[j]? = some o → ∀ e ∈ o.after.toList, Region.binds .any e = true → D listed e.on) →
      (∀ j, j ∈ fs.map (·.1) ↔ j < ops.size ∧ ¬ D listed j) → fs.Pairwise (fun p q => p.1 < q.1) → Runs (opStep P h callF ops) fs x stF → fs.Pairwise (fun p q => p.2.conflict q.2 = true → reach ops 12 q.1 p.1 = true) → Rel N w0 μ0 L μ loc x a w →
      wpAnyIn F 0 P .any ops Q fuel listed a w := by
    intro fuel
    induction fuel with
    | zero =>
      intro listed a w μ loc fs x hsz hle hcl hmem _ hruns _ hRx
      have hnil : fs = [] := List.eq_nil_of_length_eq_zero (by omega)
      subst hnil
      have hx : x = stF := hruns
      subst hx
      refine ⟨?_, hQ _ _ _ _ hRx⟩
      unfold Region.ready
      apply List.filter_eq_nil_iff.2
      intro j hj
      have hj' : j < ops.size := by simpa using hj
      have hD : D listed j := Classical.byContradiction fun hn => by have := (hmem j).2 ⟨hj', hn⟩; simp at this
      have hlt : j < listed.size := by omega
      have ht : listed.getD j true = true := by simpa [D, Array.getD, hlt] using hD
      simp [ht]
    | succ fuel ih =>
      intro listed a w μ loc fs x hsz hle hcl hmem hsort hruns hpair hRx
      have hready : ∀ i, i ∈ Region.ready .any ops listed → ∃ o, ops[i]? = some o ∧ i < ops.size ∧ ¬ D listed i ∧ ∀ e ∈ o.after.toList, Region.binds .any e = true → D listed e.on := by
        intro i hi
        unfold Region.ready at hi
        simp only [List.mem_filter, List.mem_range, Bool.and_eq_true, Bool.not_eq_true'] at hi
        obtain ⟨hlt, hnl, hdeps⟩ := hi
        have ho : ops[i]? = some (ops[i]'hlt) := Array.getElem?_eq_getElem hlt
        refine ⟨_, ho, hlt, ?_, ?_⟩
        · have hl' : i < listed.size := by omega
          have : listed[i] = false := by simpa [Array.getD, hl'] using hnl
          simp [D, Array.getD, hl', this]
        · intro e he hb
          simp only [ho, Option.map_some, Option.getD_some] at hdeps
          have := Array.all_eq_true'.1 hdeps e (by simpa using he)
          simpa [hb, D] using this
      have hset : ∀ i, i < ops.size → ∀ j, D (listed.setIfInBounds i true) j ↔ (D listed j ∨ j = i) := by
        intro i hi j
        have hl' : i < listed.size := by omega
        by_cases hj : j < listed.size
        · by_cases e : i = j
          · subst e; simp [D, Array.getD, hj]
          · have e' : j ≠ i := fun h => e h.symm
            simp [D, Array.getD, hj, e, e', Array.getElem_setIfInBounds]
        · have e' : j ≠ i := fun h => by subst h; exact hj hl'
          have h1 : (listed.setIfInBounds i true).getD j false = false := by simp [Array.getD, hj]
          have h2 : listed.getD j false = false := by simp [Array.getD, hj]
          simp only [D, h1, h2, e', or_false]
      refine ⟨fun hnil => ?_, fun i hi => ?_⟩
      · -- something is ready as long as something is left
        cases fs with
        | nil => have hx : x = stF := hruns; subst hx; exact hQ _ _ _ _ hRx
        | cons p fs =>
          exfalso
          have hp := (hmem p.1).1 (by simp)
          have hlow : ∀ k, k < p.1 → D listed k := fun k hk => Classical.byContradiction fun hn => by
            have := (hmem k).2 ⟨by omega, hn⟩
            simp only [List.map_cons, List.mem_cons] at this
            rcases this with e | hk'
            · omega
            · obtain ⟨q, hq, rfl⟩ := List.mem_map.1 hk'
              have := (List.pairwise_cons.1 hsort).1 q hq
              omega
          have ho : ops[p.1]? = some (ops[p.1]'hp.1) := Array.getElem?_eq_getElem hp.1
          have hs2 := edges_get hedges p.1 (ops[p.1]'hp.1) (by rw [Array.getElem?_toList]; exact ho)
          have hl' : p.1 < listed.size := by omega
          have hmem' : p.1 ∈ Region.ready .any ops listed := by
            unfold Region.ready
            simp only [List.mem_filter, List.mem_range, Bool.and_eq_true, Bool.not_eq_true']
            refine ⟨hp.1, ?_, ?_⟩
            · have : ¬ (listed[p.1] = true) := by simpa [D, Array.getD, hl'] using hp.2
              simpa [Array.getD, hl'] using this
            · simp only [ho, Option.map_some, Option.getD_some]
              apply Array.all_eq_true'.2
              intro e he
              cases hb : Region.binds .any e with
              | false => rfl
              | true =>
                have := hlow e.on (by simpa using hs2 e (by simpa using he) hb)
                simpa [D] using this
          rw [hnil] at hmem'
          cases hmem'
      · obtain ⟨o, ho, hlt, hnD, hdeps⟩ := hready i hi
        obtain ⟨p, hpm, hpe⟩ := List.mem_map.1 ((hmem i).2 ⟨hlt, hnD⟩)
        obtain ⟨pre, post, rfl⟩ := List.append_of_mem hpm
        subst hpe
        have hpre : ∀ q ∈ pre, q.2.conflict p.2 = false := fun q hq => by
          cases hc : q.2.conflict p.2 with
          | false => rfl
          | true =>
            have hr := (List.pairwise_append.1 hpair).2.2 q hq p (by simp) hc
            have := reach_listed hcl 12 p.1 q.1 (fun o' ho' => by rw [ho] at ho'; injection ho' with ho'; subst ho'; exact hdeps) hr
            exact absurd this ((hmem q.1).1 (by simp only [List.map_append, List.mem_append]; exact .inl (List.mem_map.2 ⟨q, hq, rfl⟩))).2
        obtain ⟨s1, hs1, hruns', _⟩ := Runs.front (i := p.1) (f := p.2) pre x hruns hpre
        have hnext : ∀ a' w' μ' loc', Rel N w0 μ0 L μ' loc' s1 a' w' → wpAnyIn F 0 P .any ops Q fuel (listed.setIfInBounds p.1 true) a' w' := fun a' w' μ' loc' hR' => by
          have hnp : ∀ q ∈ pre ++ post, q.1 ≠ p.1 := fun q hq e => by
            rcases List.mem_append.1 hq with h1 | h1
            · have := (List.pairwise_append.1 hsort).2.2 q h1 p (by simp); omega
            · have := (List.pairwise_cons.1 (List.pairwise_append.1 hsort).2.1).1 q h1; omega
          refine ih _ a' w' μ' loc' (pre ++ post) s1 (by simp [hsz]) (by simp at hle ⊢; omega) (fun j oj hj hoj e he hb => ?_) (fun j => ?_) (hsort.sublist (by simp)) hruns' (hpair.sublist (by simp)) hR'
          · rw [hset _ hlt] at hj ⊢
            rcases hj with hj | rfl
            · exact .inl (hcl j oj hj hoj e he hb)
            · rw [ho] at hoj; injection hoj with hoj; subst hoj
              exact .inl (hdeps e he hb)
          · rw [hset _ hlt]
            have := hmem j
            simp only [List.map_append, List.map_cons, List.mem_append, List.mem_cons] at this ⊢
            constructor
            · intro hj
              obtain ⟨k1, k2⟩ := this.1 (hj.elim .inl fun h => .inr (.inr h))
              refine ⟨k1, fun h => h.elim k2 fun e => ?_⟩
              subst e
              rcases hj with hj | hj <;> obtain ⟨q, hq, e⟩ := List.mem_map.1 hj
              · exact hnp q (by simp [hq]) e
              · exact hnp q (by simp [hq]) e
            · rintro ⟨k1, k2⟩
              rcases this.2 ⟨k1, fun h => k2 (.inl h)⟩ with h1 | h1 | h1
              · exact .inl h1
              · exact absurd (.inr h1) k2
              · exact .inr h1
        have hdo : ∀ t, o.dst = some t → t < N := hd o (by
          have := List.mem_of_getElem? (show ops.toList[p.1]? = some o by simpa using ho); exact this)
        unfold wpOpIn
        simp only [ho]
        simp only [opStep, ho] at hs1
        split at hs1
        · rename_i hw
          rw [wanted_sound hRx hw]
          simp only [if_true]
          exact step_sound hRx hcall hdo hs1 hnext F hF
        · rename_i hw
          injection hs1 with hs1; subst hs1
          rw [wanted_sound hRx hw]
          simp only [Bool.false_eq_true, if_false]
          exact ⟨fun f _ => hF.fn f, hnext _ _ _ _ (hRx.set hdo (show repS μ loc .undef undef from rfl))⟩
        · cases hs1
  have hnone : ∀ j, ¬ D (Array.replicate ops.size false) j := fun j => by
    by_cases hj : j < ops.size <;> simp [D, Array.getD, hj]
  refine main ops.size _ a w μ loc fs0 _ (by simp) (by simp [hl0]) (fun j o hj => absurd hj (hnone j)) (fun j => ?_) hs0 hr0 hp0 (Rel.purgeAll _ _ hR)
  · rw [hm0]
    simp only [Array.length_toList]
    exact ⟨fun hj => ⟨by omega, hnone j⟩, fun hj => ⟨by omega, by omega⟩⟩

end
end Go.AM
