/-
  THE ABSTRACT MACHINE: a region whose order is open.
-/
import Derived.Test.YtneahmpmicoplaaGreatDoorAmRun
set_option linter.unusedVariables false
set_option linter.unusedSimpArgs false
namespace Go.AM
open Go.RowKit
section
variable {P : Program} {h : Hint} {callF : CallF}
theorem opnd_congr {st st' : St} {x : Operand} (hx : ∀ t, x = .tmp t → st.env t = st'.env t) (ty : TypeId) : opnd P ty st x = opnd P ty st' x := by
  cases x with
  | tmp t => exact hx t rfl
  | _ => rfl
/-- the objects that an operand speaks of are the same -/
def SameAt (P : Program) (st st' : St) (x : Operand) : Prop := ∀ ty sv, opnd P ty st x = some sv → ∀ id ∈ sv.ids, st.ob id = st'.ob id
theorem elems_congr {st st' : St} {v : SV} (hv : ∀ id ∈ v.ids, st.ob id = st'.ob id) : elems st v = elems st' v := by
  cases v with
  | row id => simp only [elems, hv id (by simp [SV.ids])]
  | pv x => cases x <;> rfl
  | _ => rfl
theorem maps_congr {st st' : St} {v : SV} (hv : ∀ id ∈ v.ids, st.ob id = st'.ob id) : maps st v = maps st' v := by
  cases v with
  | row id => simp only [maps, hv id (by simp [SV.ids])]
  | pv x => cases x <;> rfl
  | _ => rfl
theorem lend_congr {st st' : St} {v : SV} (hv : ∀ id ∈ v.ids, st.ob id = st'.ob id) : lend st v = lend st' v := by
  cases v with
  | row id => simp only [lend, hv id (by simp [SV.ids])]
  | _ => rfl
theorem lendAll_congr {st st' : St} {xs : List Operand} {ts : List TypeId} (hob : ∀ x ∈ xs, SameAt P st st' x) (hx : ∀ x ∈ xs, ∀ ty, opnd P ty st x = opnd P ty st' x) : lendAll P st xs ts = lendAll P st' xs ts := by
  induction xs generalizing ts with
  | nil => rfl
  | cons x xs ih =>
    have hl : (opnd P (ts.headD 0) st x).bind (lend st) = (opnd P (ts.headD 0) st' x).bind (lend st') := by
      rw [← hx x (by simp)]
      cases ho : opnd P (ts.headD 0) st x with
      | none => rfl
      | some sv => exact lend_congr (hob x (by simp) _ sv ho)
    simp only [lendAll]
    rw [hl, ih (fun y hy => hob y (by simp [hy])) (fun y hy => hx y (by simp [hy]))]
theorem partsOf_congr {st st' : St} {ty : Nat → TypeId} {l : List (Nat × Operand)} (hx : ∀ x ∈ l.map (·.2), ∀ t, opnd P t st x = opnd P t st' x) : partsOf P ty st l = partsOf P ty st' l := by
  induction l with
  | nil => rfl
  | cons p l ih =>
    obtain ⟨i, x⟩ := p
    simp only [partsOf]
    rw [hx x (by simp), ih (fun y hy => hx y (by simp only [List.map_cons, List.mem_cons]; exact .inr hy))]
theorem minMaxAll_congr {st st' : St} {b : Bool} {acc : AV} {l : List Operand} (hx : ∀ x ∈ l, ∀ t, opnd P t st x = opnd P t st' x) : minMaxAll P st b acc l = minMaxAll P st' b acc l := by
  induction l generalizing acc with
  | nil => rfl
  | cons x l ih =>
    simp only [minMaxAll]
    rw [hx x (by simp)]
    cases (opnd P 0 st' x).bind pure? with
    | none => rfl
    | some v =>
      simp only
      cases minMax b acc v with
      | none => rfl
      | some r => exact ih (fun y hy => hx y (by simp [hy]))
theorem pcall_congr {st st' : St} {c : Call} (hob : ∀ x ∈ c.args.toList, SameAt P st st' x) (hx : ∀ x ∈ c.args.toList, ∀ ty, opnd P ty st x = opnd P ty st' x) : pcall P c st = pcall P c st' := by
  obtain ⟨cal, ⟨args⟩, tys⟩ := c
  unfold pcall
  simp only at hx hob ⊢
  split
  · rename_i x
    have hxx := hx x (by simp)
    have hxo := hob x (by simp)
    split
    · rename_i t _
      rw [← hxx t]
      cases ho : opnd P t st x with
      | none =>
        rcases P.underlying t with _ | d
        · rfl
        · cases d <;> rfl
      | some sv =>
        have := elems_congr (hxo t sv ho)
        have this2 := maps_congr (hxo t sv ho)
        rcases P.underlying t with _ | d
        · rfl
        · cases d <;> first
            | rfl
            | (show Option.map _ (maps st sv) = Option.map _ (maps st' sv); rw [this2])
            | (cases sv with
               | pv v => cases v <;> rfl
               | _ => rfl)
            | (cases sv with
               | sub id sz lo hi => rfl
               | undef => show Option.map _ (elems st _) = Option.map _ (elems st' _); rw [this]
               | any => show Option.map _ (elems st _) = Option.map _ (elems st' _); rw [this]
               | pv v => show Option.map _ (elems st _) = Option.map _ (elems st' _); rw [this]
               | ptr id off => show Option.map _ (elems st _) = Option.map _ (elems st' _); rw [this]
               | row id => show Option.map _ (elems st _) = Option.map _ (elems st' _); rw [this]
               | rp id sz i off => show Option.map _ (elems st _) = Option.map _ (elems st' _); rw [this]
               | cp cs => show Option.map _ (elems st _) = Option.map _ (elems st' _); rw [this]
               | cl f caps => show Option.map _ (elems st _) = Option.map _ (elems st' _); rw [this]
               | two s b => show Option.map _ (elems st _) = Option.map _ (elems st' _); rw [this])
    · rfl
  · rename_i x l
    have hm : ∀ b acc, minMaxAll P st b acc l = minMaxAll P st' b acc l := fun b acc => minMaxAll_congr (fun y hy => hx y (by simp [hy]))
    rw [hx x (by simp)]
    simp only [hm]
  · rename_i x l
    have hm : ∀ b acc, minMaxAll P st b acc l = minMaxAll P st' b acc l := fun b acc => minMaxAll_congr (fun y hy => hx y (by simp [hy]))
    rw [hx x (by simp)]
    simp only [hm]
  · rfl
theorem optOpnd_congr {st st' : St} {x : Option Operand} (hx : ∀ y, x = some y → ∀ ty, opnd P ty st y = opnd P ty st' y) : optOpnd P st x = optOpnd P st' x := by
  cases x with
  | none => rfl
  | some y => simp [optOpnd, hx y rfl]
theorem pval_congr {st st' : St} {o : Oper} (hob : noObs o.op = false → ∀ x ∈ o.op.operands.toList, SameAt P st st' x) (hop : ∀ x ∈ o.op.operands.toList, ∀ ty, opnd P ty st x = opnd P ty st' x) : pval P o st = pval P o st' := by
  obtain ⟨dst, op, type, pos, after, guard⟩ := o
  simp only at hop
  cases op with
  | move x => have hx := hop x (by simp [Op.operands]); simp [pval, hx]
  | assign x => have hx := hop x (by simp [Op.operands]); simp [pval, hx]
  | pick c a b => have hx := hop c (by simp [Op.operands]); have hy := hop a (by simp [Op.operands]); have hz := hop b (by simp [Op.operands]); simp [pval, hx, hy, hz]
  | binOp op t x y t' => have hx := hop x (by simp [Op.operands]); have hy := hop y (by simp [Op.operands]); simp [pval, hx, hy]
  | unOp op t x => have hx := hop x (by simp [Op.operands]); simp [pval, hx]
  | convert s d x =>
    have hx := hop x (by simp [Op.operands])
    have ho := hob rfl x (by simp [Op.operands]) s
    have he : (opnd P s st x).bind (elems st) = (opnd P s st' x).bind (elems st') := by
      rw [← hx s]
      cases hv : opnd P s st x with
      | none => rfl
      | some sv => exact elems_congr (ho _ hv)
    simp only [pval, hx 0, he]
  | fieldAddr t x f => have hx := hop x (by simp [Op.operands]); simp [pval, hx]
  | field t x f => have hx := hop x (by simp [Op.operands]); simp [pval, hx]
  | indexAddr t x i =>
    have hx := hop x (by simp [Op.operands]); have hy := hop i (by simp [Op.operands])
    have ho := hob rfl x (by simp [Op.operands]) t
    have hsl : idxSl P st t x i = idxSl P st' t x i := by
     unfold idxSl
     rw [← hx t, ← hy 0]
     cases hv : opnd P t st x with
     | none => rcases isSlice P t with _ | ⟨e, s⟩ <;> simp only []
     | some sv =>
       have hsv := ho _ hv
       clear hv
       rcases isSlice P t with _ | ⟨e, s⟩
       · simp only []
       · cases sv with
         | row id =>
           rcases opnd P 0 st i with _ | b
           · rfl
           · cases b with
             | pv v => cases v <;> first | rfl | (simp only [hsv id (by simp [SV.ids])])
             | _ => rfl
         | pv v => cases v <;> first | rfl | (rcases opnd P 0 st i with _ | b <;> first | rfl | (cases b <;> first | rfl | (rename_i q; cases q <;> rfl)))
         | _ => first | rfl | (rcases opnd P 0 st i with _ | b <;> first | rfl | (cases b <;> first | rfl | (rename_i q; cases q <;> rfl)))
    have har : ∀ n e, idxArr P st n e x i = idxArr P st' n e x i := fun n e => by simp only [idxArr, hx 0, hy 0]
    simp only [pval, hsl, har]
  | index t x i => have hx := hop x (by simp [Op.operands]); have hy := hop i (by simp [Op.operands]); simp [pval, hx, hy]
  | load t x =>
    have hx := hop x (by simp [Op.operands])
    have ho := hob rfl x (by simp [Op.operands]) 0
    simp only [pval]
    rw [← hx 0]
    cases hv : opnd P 0 st x with
    | none => rfl
    | some sv =>
      have hsv := ho _ hv
      clear hv
      cases sv with
      | ptr id off => simp only [hsv id (by simp [SV.ids])]
      | rp id sz i off => simp only [hsv id (by simp [SV.ids])]
      | pv v => cases v <;> rfl
      | _ => rfl
  | lookup t x k ok =>
    have hx := hop x (by simp [Op.operands]); have hk := hop k (by simp [Op.operands])
    have ho := hob rfl x (by simp [Op.operands]) t
    have hm : (opnd P t st x).bind (maps st) = (opnd P t st' x).bind (maps st') := by
      rw [← hx t]
      cases hv : opnd P t st x with
      | none => rfl
      | some sv => exact maps_congr (ho _ hv)
    have hkr : (opnd P t st x).bind (keysR st) = (opnd P t st' x).bind (keysR st') := by
      rw [← hx t]
      cases hv : opnd P t st x with
      | none => rfl
      | some sv =>
        have := ho _ hv
        cases sv with
        | row id => simp only [Option.bind_some, keysR]; rw [this id (by simp [SV.ids])]
        | _ => rfl
    simp only [pval, hm, hk, hkr]
  | extract x i => have hx := hop x (by simp [Op.operands]); simp [pval, hx]
  | slice t x lo hi mx =>
    cases mx with
    | some m => simp [pval]
    | none =>
      have hx := hop x (by simp [Op.operands])
      have hl := optOpnd_congr (P := P) (st := st) (st' := st') (x := lo) (fun y e => by subst e; exact hop y (by simp [Op.operands]))
      have hh := optOpnd_congr (P := P) (st := st) (st' := st') (x := hi) (fun y e => by subst e; exact hop y (by cases lo <;> simp [Op.operands]))
      have ho := hob rfl x (by simp [Op.operands]) t
      simp only [pval]
      rw [← hx t, hl, hh]
      cases hv : opnd P t st x with
      | none => rcases P.underlying t with _ | d <;> first | rfl | (cases d <;> rfl)
      | some sv =>
        have hsv := ho _ hv
        clear hv
        rcases P.underlying t with _ | d
        · rfl
        · cases d <;> first
            | rfl
            | (rcases optOpnd P st' lo with _ | l
               · cases sv with
                 | pv v => cases v <;> rfl
                 | _ => rfl
               · rcases optOpnd P st' hi with _ | l2
                 · cases sv with
                   | pv v => cases v <;> rfl
                   | _ => rfl
                 · cases sv with
                   | row id => simp only [hsv id (by simp [SV.ids])]
                   | pv v => cases v <;> rfl
                   | _ => rfl)
  | build t parts =>
    have hp := partsOf_congr (P := P) (st := st) (st' := st') (ty := fieldTy P t) (l := parts.toList) (fun x hx => hop x (by simpa [Op.operands] using hx))
    simp [pval, hp]
  | call c =>
    have hin : ∀ x ∈ c.args.toList, x ∈ (Op.call c).operands.toList := fun x hx => by
      simp only [Op.operands, Call.operands, Array.toList_append, List.mem_append]; exact .inr hx
    have := pcall_congr (P := P) (st := st) (st' := st') (c := c) (fun x hx => hob rfl x (hin x hx)) (fun x hx => hop x (hin x hx))
    simp [pval, this]
  | _ => simp [pval]
theorem mem_idsIn {st : St} : ∀ {l : List Operand} {x : Operand} {ty : TypeId} {sv : SV} {id : Nat}, x ∈ l → opnd P ty st x = some sv → id ∈ sv.ids → id ∈ idsIn st l := by
  intro l
  induction l with
  | nil => intro x ty sv id hx; simp at hx
  | cons y l ih =>
    intro x ty sv id hx ho hid
    rcases List.mem_cons.1 hx with rfl | hx
    · cases x with
      | tmp t =>
        simp only [opnd] at ho
        simp only [idsIn, ho, List.mem_append]
        exact .inl hid
      | const v =>
        simp only [opnd] at ho
        cases hc : ofConst P ty v with
        | none => simp [hc] at ho
        | some y => simp [hc] at ho; subst ho; simp [SV.ids] at hid
      | func f => simp [opnd] at ho; subst ho; simp [SV.ids] at hid
      | global g => simp [opnd] at ho
    · have := ih hx ho hid
      cases y with
      | tmp t => simp only [idsIn, List.mem_append]; exact .inr this
      | _ => simpa [idsIn] using this
theorem fval_congr {st st' : St} {o : Oper} (hids : noObs o.op = false → ∀ id ∈ opIds st o, st.ob id = st'.ob id) (henv : ∀ t ∈ slotsOf o, st.env t = st'.env t) : fval P h callF o st = fval P h callF o st' := by
  have hob : noObs o.op = false → ∀ x ∈ o.op.operands.toList, SameAt P st st' x := fun hn x hx ty sv ho id hid => hids hn id (mem_idsIn hx ho hid)
  have hop : ∀ x ∈ o.op.operands.toList, ∀ ty, opnd P ty st x = opnd P ty st' x := fun x hx ty => opnd_congr (fun t e => henv t (by
    subst e
    exact List.mem_filterMap.2 ⟨.tmp t, hx, rfl⟩)) ty
  have hpv := pval_congr (P := P) (o := o) hob hop
  obtain ⟨dst, op, type, pos, after, guard⟩ := o
  simp only at hop
  cases op with
  | buildSlice t len parts =>
    have hp : ∀ ty, partsOf P ty st parts.toList = partsOf P ty st' parts.toList := fun ty => partsOf_congr (fun x hx => hop x (by simpa [Op.operands] using hx))
    simp [fval, litCells, hp]
  | call c =>
    obtain ⟨cal, ⟨args⟩, ⟨tys⟩⟩ := c
    cases cal with
    | value f =>
      have hargs : ∀ x ∈ args, x ∈ (Op.call { callee := Callee.value f, args := ⟨args⟩, argTypes := ⟨tys⟩ }).operands.toList := fun x hx => by
        simp only [Op.operands, Call.operands, Array.toList_append, List.mem_append]; exact .inr hx
      have hf := hop f (by simp [Op.operands, Call.operands])
      have ha := lendAll_congr (P := P) (st := st) (st' := st') (xs := args) (ts := tys) (fun x hx => hob rfl x (hargs x hx)) (fun x hx => hop x (hargs x hx))
      have hr : args.any (rowIn st) = args.any (rowIn st') := by
        have key : ∀ x ∈ args, rowIn st x = rowIn st' x := fun x hx => by
          cases x with
          | tmp t =>
            have := hop (.tmp t) (hargs _ hx) 0
            simp only [opnd] at this
            simp [rowIn, this]
          | _ => rfl
        clear ha hargs hop hpv henv hob hids
        induction args with
        | nil => rfl
        | cons x xs ih => simp only [List.any_cons]; rw [key x (by simp), ih (fun y hy => key y (by simp [hy]))]
      have href : args.any (fun x => (refIn h st x).isSome) = args.any (fun x => (refIn h st' x).isSome) := by
        have key : ∀ x ∈ args, refIn h st x = refIn h st' x := fun x hx => by
          cases x with
          | tmp t =>
            have := hop (.tmp t) (hargs _ hx) 0
            simp only [opnd] at this
            simp [refIn, this]
          | _ => rfl
        clear ha hargs hop hpv henv hr hob hids
        induction args with
        | nil => rfl
        | cons x xs ih => simp only [List.any_cons]; rw [key x (by simp), ih (fun y hy => key y (by simp [hy]))]
      have hwide : wide st { callee := Callee.value f, args := ⟨args⟩, argTypes := ⟨tys⟩ } f = wide st' { callee := Callee.value f, args := ⟨args⟩, argTypes := ⟨tys⟩ } f := by
        have kf : isCl st f = isCl st' f := by
          cases f with
          | tmp t =>
            have := hf 0
            simp only [opnd] at this
            simp [isCl, this]
          | _ => rfl
        have key : ∀ x ∈ args, isPtr st x = isPtr st' x := fun x hx => by
          cases x with
          | tmp t =>
            have := hop (.tmp t) (hargs _ hx) 0
            simp only [opnd] at this
            simp [isPtr, this]
          | _ => rfl
        have kk : args.any (isPtr st) = args.any (isPtr st') := by
          clear ha hargs hop hpv henv hr hob hids href
          induction args with
          | nil => rfl
          | cons x xs ih => simp only [List.any_cons]; rw [key x (by simp), ih (fun y hy => key y (by simp [hy]))]
        simp only [wide, kf, kk]
      simp [fval, hf, ha, hr, href, hwide]
    | _ => simpa [fval, pval] using hpv
  | makeFunc f first caps =>
    cases f with
    | func g =>
      have hc : capsOf st caps.toList = capsOf st' caps.toList := by
        have key : ∀ x ∈ caps.toList, ∀ ty, opnd P ty st x = opnd P ty st' x := fun x hx => hop x (by simp only [Op.operands, Array.toList_append, List.mem_append]; exact .inr hx)
        clear hop hpv henv hob hids
        generalize caps.toList = l at key
        induction l with
        | nil => rfl
        | cons x xs ih =>
          cases x with
          | tmp t =>
            have := key (.tmp t) (by simp) 0
            simp only [opnd] at this
            simp only [capsOf]
            rw [this, ih (fun y hy => key y (by simp [hy]))]
          | _ => rfl
      have hc2 : capsCl st caps.toList = capsCl st' caps.toList := by
        have key : ∀ x ∈ caps.toList, ∀ ty, opnd P ty st x = opnd P ty st' x := fun x hx => hop x (by simp only [Op.operands, Array.toList_append, List.mem_append]; exact .inr hx)
        clear hop hpv henv hob hids hc
        generalize caps.toList = l at key
        induction l with
        | nil => rfl
        | cons x xs ih =>
          cases x with
          | tmp t =>
            have := key (.tmp t) (by simp) 0
            simp only [opnd] at this
            simp only [capsCl]
            rw [this, ih (fun y hy => key y (by simp [hy]))]
          | _ => rfl
      simp [fval, hc, hc2]
    | _ => simpa [fval] using hpv
  | assign x => simp only [fval, hpv]
  | lookup t x k ok => simp only [fval, hpv]
  | _ => simpa [fval] using hpv
theorem wanted_congr {st st' : St} {ops : Array Oper} {o : Oper} (henv : ∀ t ∈ readsOf ops o, st.env t = st'.env t) : wantedA ops o st = wantedA ops o st' := by
  unfold wantedA
  cases hg : o.guard with
  | none => rfl
  | some p =>
    obtain ⟨j, want⟩ := p
    simp only
    cases hd : (ops[j]?).bind (·.dst) with
    | none => rfl
    | some d => simp only; rw [henv d (by simp [readsOf, hg, hd])]
/-! the run in the order of the text -/
def OpRun (P : Program) (h : Hint) (callF : CallF) (ops : Array Oper) (fresh : List (Nat × Nat)) (i : Nat) (o : Oper) (s : St) (f : Foot) (s' : St) : Prop :=
  (wantedA ops o s = some false ∧ s' = s.set o.dst .undef ∧ f = footSkip ops o) ∨
  (wantedA ops o s = some true ∧ ∃ v, fval P h callF o s = some v ∧ s' = s.set o.dst v ∧ f = footV ops o s ∧ mentionOk ops fresh i v = true) ∨
  (wantedA ops o s = some true ∧ ∃ t x y sa sv id, o.op = .store t x y ∧ o.dst = none ∧ opnd P 0 s x = some sa ∧ opnd P t s y = some sv ∧ targetId sa = some id ∧ storeAt P t s sa sv = some s' ∧ f = footStore ops o s id ∧ mentionOk ops fresh i sv = true) ∨
  (wantedA ops o s = some true ∧ ∃ t d z, o.op = .alloc t ∧ o.dst = some d ∧ h.rows.contains d = false ∧ zeroCells P t = some z ∧ s' = { env := put s.env d (some (.ptr d 0)), ob := put s.ob d (some (.box t (z.map .pv))) } ∧ f = footAlloc ops o d) ∨
  (wantedA ops o s = some true ∧ step P h callF o s = some s' ∧ f = footAll ∧ fresh.all (fun p => Nat.blt p.2 i) = true)
/-- the states and footprints of the run -/
structure Run (P : Program) (h : Hint) (callF : CallF) (ops : Array Oper) (fresh : List (Nat × Nat)) (S : Nat → St) (Fp : Nat → Foot) : Prop where
  op : ∀ i o, ops[i]? = some o → OpRun P h callF ops fresh i o (S i) (Fp i) (S (i + 1))
  ord : ∀ i j, j < i → i < ops.size → (Fp j).conflict (Fp i) = true → reach ops 12 i j = true
theorem run_of {ops : Array Oper} {fresh : List (Nat × Nat)} : ∀ (l : List Oper) (i : Nat) (prev : List (Nat × Foot)) (st s : St), runDraw P h callF ops fresh i l prev st = some s →
    ∃ (S : Nat → St) (Fp : Nat → Foot), S i = st ∧ S (i + l.length) = s ∧ (∀ k o, l[k]? = some o → OpRun P h callF ops fresh (i + k) o (S (i + k)) (Fp (i + k)) (S (i + k + 1))) ∧
      (∀ k, k < l.length → ∀ p ∈ prev, p.2.conflict (Fp (i + k)) = true → reach ops 12 (i + k) p.1 = true) ∧
      (∀ k q, q < k → k < l.length → (Fp (i + q)).conflict (Fp (i + k)) = true → reach ops 12 (i + k) (i + q) = true) := by
  intro l
  induction l with
  | nil =>
    intro i prev st s hr
    simp only [runDraw, Option.some.injEq] at hr
    subst hr
    exact ⟨fun _ => st, fun _ => footAll, rfl, rfl, by simp, by simp, by simp⟩
  | cons o l ih =>
    intro i prev st s hr
    -- one step, then the rest
    have cont : ∀ (f : Foot) (st1 : St), OpRun P h callF ops fresh i o st f st1 → footOk ops prev i f = true → runDraw P h callF ops fresh (i + 1) l ((i, f) :: prev) st1 = some s →
        ∃ (S : Nat → St) (Fp : Nat → Foot), S i = st ∧ S (i + (o :: l).length) = s ∧ (∀ k o', (o :: l)[k]? = some o' → OpRun P h callF ops fresh (i + k) o' (S (i + k)) (Fp (i + k)) (S (i + k + 1))) ∧
          (∀ k, k < (o :: l).length → ∀ p ∈ prev, p.2.conflict (Fp (i + k)) = true → reach ops 12 (i + k) p.1 = true) ∧
          (∀ k q, q < k → k < (o :: l).length → (Fp (i + q)).conflict (Fp (i + k)) = true → reach ops 12 (i + k) (i + q) = true) := by
      intro f st1 hop hfo hrest
      obtain ⟨S, Fp, h0, hn, hops, hprev, hpair⟩ := ih (i + 1) ((i, f) :: prev) st1 s hrest
      refine ⟨fun k => if k ≤ i then st else S k, fun k => if k ≤ i then f else Fp k, by simp, ?_, ?_, ?_, ?_⟩
      · have : ¬ (i + (o :: l).length ≤ i) := by simp
        simp only [this, if_false]
        rw [← hn]; congr 1; simp; omega
      · intro k o' hk
        cases k with
        | zero =>
          simp at hk; subst hk
          have : ¬ (i + 0 + 1 ≤ i) := by omega
          dsimp only
          simp only [Nat.add_zero, Nat.le_refl, if_true]
          rw [if_neg (by omega), h0]
          exact hop
        | succ k =>
          simp at hk
          have := hops k o' hk
          dsimp only
          rw [if_neg (by omega), if_neg (by omega), if_neg (by omega)]
          rwa [show i + 1 + k = i + (k + 1) from by omega] at this
      · intro k hk p hp hc
        cases k with
        | zero =>
          simp only [Nat.add_zero, Nat.le_refl, if_true] at hc ⊢
          have := List.all_eq_true.1 hfo p hp
          simpa [hc] using this
        | succ k =>
          dsimp only at hc
          rw [if_neg (by omega)] at hc
          have := hprev k (by simpa using hk) p (by simp [hp]) (by rwa [show i + 1 + k = i + (k + 1) from by omega])
          rwa [show i + 1 + k = i + (k + 1) from by omega] at this
      · intro k q hqk hk hc
        cases k with
        | zero => omega
        | succ k =>
          dsimp only at hc
          rw [if_neg (show ¬ (i + (k + 1) ≤ i) by omega)] at hc
          cases q with
          | zero =>
            simp only [Nat.add_zero, Nat.le_refl, if_true] at hc ⊢
            have := hprev k (by simpa using hk) (i, f) (by simp) (by rwa [show i + 1 + k = i + (k + 1) from by omega])
            rwa [show i + 1 + k = i + (k + 1) from by omega] at this
          | succ q =>
            rw [if_neg (show ¬ (i + (q + 1) ≤ i) by omega)] at hc
            have := hpair k q (by omega) (by simpa using hk) (by rwa [show i + 1 + k = i + (k + 1) from by omega, show i + 1 + q = i + (q + 1) from by omega])
            rwa [show i + 1 + k = i + (k + 1) from by omega, show i + 1 + q = i + (q + 1) from by omega] at this
    simp only [runDraw] at hr
    split at hr
    · cases hr
    · rename_i b hw
      cases b with
      | false =>
        simp only [cond_false] at hr
        cases hfo : footOk ops prev i (footSkip ops o) with
        | false => simp [hfo] at hr
        | true => simp only [hfo, cond_true] at hr; exact cont _ _ (.inl ⟨hw, rfl, rfl⟩) hfo hr
      | true =>
        simp only [cond_true] at hr
        cases hF : isF h st o with
        | true =>
          simp only [hF, cond_true] at hr
          cases hf : fval P h callF o st with
          | some v =>
            simp only [hf] at hr
            cases hc : (mentionOk ops fresh i v && footOk ops prev i (footV ops o st)) with
            | false => simp [hc] at hr
            | true =>
              simp only [hc, cond_true] at hr
              simp only [Bool.and_eq_true] at hc
              exact cont _ _ (.inr (.inl ⟨hw, v, hf, rfl, rfl, hc.1⟩)) hc.2 hr
          | none => simp [hf] at hr
        | false =>
          simp only [hF, cond_false] at hr
          have rest : (bif fresh.all (fun p => Nat.blt p.2 i) && footOk ops prev i footAll then
              match step P h callF o st with
              | some st' => runDraw P h callF ops fresh (i + 1) l ((i, footAll) :: prev) st'
              | none => none
            else none) = some s → _ := fun hr => by
            cases hc : (fresh.all (fun p => Nat.blt p.2 i) && footOk ops prev i footAll) with
            | false => simp [hc] at hr
            | true =>
              simp only [hc, cond_true] at hr
              simp only [Bool.and_eq_true] at hc
              cases hs : step P h callF o st with
              | none => simp [hs] at hr
              | some st1 => simp only [hs] at hr; exact cont _ _ (.inr (.inr (.inr (.inr ⟨hw, hs, rfl, hc.1⟩)))) hc.2 hr
          split at hr
          · rename_i t x y ho hd
            split at hr
            · rename_i sa sv hx hy
              split at hr
              · rename_i id st1 ht hst
                cases hc : (mentionOk ops fresh i sv && footOk ops prev i (footStore ops o st id)) with
                | false => simp [hc] at hr
                | true =>
                  simp only [hc, cond_true] at hr
                  simp only [Bool.and_eq_true] at hc
                  exact cont _ _ (.inr (.inr (.inl ⟨hw, t, x, y, sa, sv, id, ho, hd, hx, hy, ht, hst, rfl, hc.1⟩))) hc.2 hr
              · cases hr
            · cases hr
          · rename_i t d ho hd
            cases hrw : h.rows.contains d with
            | true => rw [hrw] at hr; cases hr
            | false =>
            rw [hrw] at hr
            simp only [cond_false] at hr
            split at hr
            · rename_i z hz
              cases hfo : footOk ops prev i (footAlloc ops o d) with
              | false => simp [hfo] at hr
              | true => simp only [hfo, cond_true] at hr; exact cont _ _ (.inr (.inr (.inr (.inl ⟨hw, t, d, z, ho, hd, hrw, hz, rfl, rfl⟩)))) hfo hr
            · cases hr
          · exact rest hr
          · exact rest hr
          · exact rest hr
          · exact rest hr
          · exact rest hr
          · exact rest hr
          · exact rest hr
          · exact rest hr
          · exact rest hr
          · exact rest hr
          · exact rest hr
          · cases hr
theorem meets_mem {a b : List Nat} {x : Nat} (ha : x ∈ a) (hb : x ∈ b) : meets a b = true := by
  simp only [meets, List.any_eq_true]
  exact ⟨x, ha, x, hb, Nat.beq_refl x⟩
/-- where a store goes, and what it leaves -/
theorem storeAt_local {t : TypeId} {s s' : St} {sa sv : SV} {id : Nat} (hst : storeAt P t s sa sv = some s') (ht : targetId sa = some id) :
    s'.env = s.env ∧ (∀ j, j ≠ id → s'.ob j = s.ob j) ∧ ∀ x : St, x.ob id = s.ob id → (∀ j ∈ sv.ids, x.ob j = s.ob j) → storeAt P t x sa sv = some { x with ob := put x.ob id (s'.ob id) } := by
  have hone : ∀ x : St, (∀ j ∈ sv.ids, x.ob j = s.ob j) → oneOK x sv = oneOK s sv := fun x hx => by
    cases sv with
    | row j => simp only [oneOK]; rw [hx j (by simp [SV.ids])]
    | pv v => cases v <;> rfl
    | _ => rfl
  cases sa with
  | ptr i off =>
    simp only [targetId, Option.some.injEq] at ht
    subst ht
    simp only [storeAt] at hst
    split at hst
    · rename_i bt cells n hob hsz
      split at hst
      · rename_i cs
        split at hst
        · rename_i hc
          injection hst with hst; subst hst
          refine ⟨rfl, fun j hj => put_other _ _ (fun e => hj e.symm), fun x hx _ => ?_⟩
          simp only [storeAt, hx, hob, hsz, hc, put_same]
          simp
        · cases hst
      · rename_i hno
        split at hst
        · rename_i hc
          injection hst with hst; subst hst
          refine ⟨rfl, fun j hj => put_other _ _ (fun e => hj e.symm), fun x hx hxs => ?_⟩
          have h1 := hone x hxs
          simp only [storeAt, hx, hob, hsz, put_same]
          cases sv with
          | pv v =>
            cases v with
            | agg cs => exact absurd rfl (hno cs)
            | _ => simp only [h1, hc, and_self, if_true]
          | _ => simp only [h1, hc, and_self, if_true]
        · cases hst
    · cases hst
  | rp i sz k off =>
    simp only [targetId, Option.some.injEq] at ht
    subst ht
    simp only [storeAt] at hst
    split at hst
    · rename_i e sz' xs n v hob hsz
      split at hst
      · rename_i c hc
        split at hst
        · rename_i hcond
          injection hst with hst; subst hst
          refine ⟨rfl, fun j hj => put_other _ _ (fun e => hj e.symm), fun x hx _ => ?_⟩
          simp only [storeAt, hx, hob, hsz, hc, put_same]
          rw [if_pos hcond]
        · cases hst
      · cases hst
    · cases hst
  | _ => simp [targetId] at ht
theorem op_frame {ops : Array Oper} {fresh : List (Nat × Nat)} {i : Nat} {o : Oper} {s s' : St} {f : Foot} (hr : OpRun P h callF ops fresh i o s f s') (hall : f.all = false) :
    (∀ t, t ∉ f.ws → s'.env t = s.env t) ∧ ∀ id, id ∉ f.wo → s'.ob id = s.ob id := by
  have hset : ∀ v : SV, (∀ t, t ∉ o.dst.toList → (s.set o.dst v).env t = s.env t) ∧ (s.set o.dst v).ob = s.ob := fun v => by
    cases hd : o.dst with
    | none => exact ⟨fun _ _ => rfl, rfl⟩
    | some d => exact ⟨fun t ht => put_other _ _ (fun e => ht (by simp [e])), rfl⟩
  rcases hr with ⟨_, rfl, rfl⟩ | ⟨_, v, _, rfl, rfl, _⟩ | ⟨_, t, x, y, sa, sv, id, _, _, _, _, htg, hst, rfl, _⟩ | ⟨_, t, d, z, _, _, _, _, rfl, rfl⟩ | ⟨_, _, rfl, _⟩
  · exact ⟨(hset _).1, fun id _ => by rw [(hset _).2]⟩
  · exact ⟨(hset _).1, fun id _ => by rw [(hset _).2]⟩
  · obtain ⟨h1, h2, _⟩ := storeAt_local hst htg
    exact ⟨fun t _ => by rw [h1], fun j hj => h2 j (fun e => hj (by simp [footStore, e]))⟩
  · exact ⟨fun t ht => put_other _ _ (fun e => ht (by simp [footAlloc, e])), fun j hj => put_other _ _ (fun e => hj (by simp [footAlloc, e]))⟩
  · simp [footAll] at hall
/-! who wrote last -/
section
variable {W : Nat → Prop} {D E : Nat → Prop}
open Classical in
noncomputable def last (W D : Nat → Prop) : Nat → Nat
  | 0 => 0
  | m + 1 => if D m ∧ W m then m + 1 else last W D m
theorem last_congr : ∀ {n : Nat}, (∀ m, m < n → W m → (D m ↔ E m)) → last W D n = last W E n := by
  intro n
  induction n with
  | zero => intro _; rfl
  | succ n ih =>
    intro hc
    simp only [last]
    have hi := ih (fun m hm => hc m (by omega))
    by_cases hw : W n
    · have := hc n (by omega) hw
      by_cases hd : D n
      · rw [if_pos ⟨hd, hw⟩, if_pos ⟨this.1 hd, hw⟩]
      · rw [if_neg (fun h => hd h.1), if_neg (fun h => hd (this.2 h.1)), hi]
    · rw [if_neg (fun h => hw h.2), if_neg (fun h => hw h.2), hi]
theorem last_top {i : Nat} (hW : W i) (hD : D i) : ∀ {n : Nat}, i < n → (∀ m, i < m → m < n → W m → ¬ D m) → last W D n = i + 1 := by
  intro n
  induction n with
  | zero => intro h; omega
  | succ n ih =>
    intro hin hno
    simp only [last]
    rcases Nat.lt_or_ge i n with hlt | hge
    · have : ¬ (D n ∧ W n) := fun h => hno n hlt (by omega) h.2 h.1
      rw [if_neg this]
      exact ih hlt (fun m h1 h2 => hno m h1 (by omega))
    · have : i = n := by omega
      subst this
      rw [if_pos ⟨hD, hW⟩]
theorem last_before {α : Type} {g : Nat → α} {i n : Nat} (hg : ∀ m, m < n → ¬ W m → g (m + 1) = g m) : ∀ {m : Nat}, m ≤ n → g (last W (· < i) m) = g (min m i) := by
  intro m
  induction m with
  | zero => intro _; simp [last]
  | succ m ih =>
    intro hm
    simp only [last]
    by_cases hc : m < i ∧ W m
    · rw [if_pos hc, Nat.min_eq_left (by omega)]
    · rw [if_neg hc, ih (by omega)]
      by_cases hlt : m < i
      · rw [Nat.min_eq_left (by omega), Nat.min_eq_left (by omega)]
        exact (hg m (by omega) (fun hw => hc ⟨hlt, hw⟩)).symm
      · rw [Nat.min_eq_right (by omega), Nat.min_eq_right (by omega)]
end
/-- nothing speaks of an object -/
def NoMen (x : St) (d : Nat) : Prop := (∀ t sv, x.env t = some sv → sv.purge d = sv) ∧ ∀ id o, x.ob id = some o → o.purge d = o
theorem purge_twice (a b : Nat) (v : SV) (hv : v.purge a = v) : (v.purge b).purge a = v.purge b := by
  unfold SV.purge at hv ⊢
  cases hb : v.mentions b with
  | true => simp [SV.mentions]
  | false => simp only [cond_false]; exact hv
theorem purge_self (a : Nat) (v : SV) : (v.purge a).purge a = v.purge a := by
  unfold SV.purge
  cases hb : v.mentions a with
  | true => simp [SV.mentions]
  | false => simp [hb]
theorem purgeAll_noMen : ∀ (l : List (Nat × Nat)) (st : St), (∀ p ∈ l, NoMen (purgeAll l st) p.1) ∧ ∀ d, NoMen st d → NoMen (purgeAll l st) d := by
  have keep : ∀ (st : St) (b d : Nat), NoMen st d → NoMen (st.purge b) d := by
    intro st b d hn
    refine ⟨fun t sv he => ?_, fun id o ho => ?_⟩
    · simp only [St.purge] at he
      cases h1 : st.env t with
      | none => simp [h1] at he
      | some s => simp [h1] at he; subst he; exact purge_twice d b s (hn.1 t s h1)
    · simp only [St.purge] at ho
      by_cases e : b = id
      · subst e; simp [put_same] at ho
      · simp only [put_other _ _ e] at ho
        cases h1 : st.ob id with
        | none => simp [h1] at ho
        | some q =>
          simp [h1] at ho; subst ho
          have := hn.2 id q h1
          cases q with
          | row e sz xs => rfl
          | mp k e ks vs => rfl
          | mr k e s ks vs => rfl
          | it s n => rfl
          | box t cells =>
            simp only [Ob.purge, Ob.box.injEq, true_and, List.map_map] at this ⊢
            rw [List.map_inj_left]
            intro c hc
            have hcp : c.purge d = c := by
              have := List.map_inj_left.1 (this.trans (List.map_id cells).symm) c hc
              simpa using this
            exact purge_twice d b c hcp
  have self : ∀ (st : St) (d : Nat), NoMen (st.purge d) d := by
    intro st d
    refine ⟨fun t sv he => ?_, fun id o ho => ?_⟩
    · simp only [St.purge] at he
      cases h1 : st.env t with
      | none => simp [h1] at he
      | some s => simp [h1] at he; subst he; exact purge_self d s
    · simp only [St.purge] at ho
      by_cases e : d = id
      · subst e; simp [put_same] at ho
      · simp only [put_other _ _ e] at ho
        cases h1 : st.ob id with
        | none => simp [h1] at ho
        | some q =>
          simp [h1] at ho; subst ho
          cases q with
          | row e sz xs => rfl
          | mp k e ks vs => rfl
          | mr k e s ks vs => rfl
          | it s n => rfl
          | box t cells =>
            simp only [Ob.purge, Ob.box.injEq, true_and, List.map_map]
            rw [List.map_inj_left]
            intro c hc
            exact purge_self d c
  intro l
  induction l with
  | nil => intro st; exact ⟨by simp, fun d h => h⟩
  | cons p l ih =>
    intro st
    obtain ⟨h1, h2⟩ := ih (st.purge p.1)
    refine ⟨fun q hq => ?_, fun d hd => h2 d (keep st p.1 d hd)⟩
    rcases List.mem_cons.1 hq with rfl | hq
    · exact h2 _ (self st _)
    · exact h1 q hq
theorem mention_false {d : Nat} {v : SV} (hm : v.mentions d = false) : v.purge d = v := by simp [SV.purge, hm]
theorem NoMen.set {x : St} {d : Nat} (hn : NoMen x d) {t : Option Nat} {v : SV} (hv : v.purge d = v) : NoMen (x.set t v) d := by
  cases t with
  | none => exact hn
  | some t =>
    refine ⟨fun u sv he => ?_, hn.2⟩
    simp only [St.set] at he
    by_cases e : t = u
    · subst e; simp only [put_same, Option.some.injEq] at he; subst he; exact hv
    · simp only [put_other _ _ e] at he; exact hn.1 u sv he
theorem NoMen.putOb {x : St} {d : Nat} (hn : NoMen x d) {id : Nat} {o : Ob} (ho : o.purge d = o) : NoMen { x with ob := put x.ob id (some o) } d := by
  refine ⟨hn.1, fun j o' he => ?_⟩
  by_cases e : id = j
  · subst e; simp only [put_same, Option.some.injEq] at he; subst he; exact ho
  · simp only [put_other _ _ e] at he; exact hn.2 j o' he
theorem purge_cells {d : Nat} {t : TypeId} {cells : List SV} (h : (Ob.box t cells).purge d = .box t cells) : ∀ c ∈ cells, c.purge d = c := fun c hc => by
  simp only [Ob.purge, Ob.box.injEq, true_and] at h
  have := List.map_inj_left.1 (h.trans (List.map_id cells).symm) c hc
  simpa using this
theorem cells_purge {d : Nat} {t : TypeId} {cells : List SV} (h : ∀ c ∈ cells, c.purge d = c) : (Ob.box t cells).purge d = .box t cells := by
  simp only [Ob.purge, Ob.box.injEq, true_and]
  have : cells.map (SV.purge d) = cells.map id := List.map_inj_left.2 (fun c hc => by simpa using h c hc)
  rw [this, List.map_id]
theorem storeAt_noMen {t : TypeId} {x x' : St} {sa sv : SV} {d : Nat} (hn : NoMen x d) (hv : sv.purge d = sv) (hst : storeAt P t x sa sv = some x') : NoMen x' d := by
  cases sa with
  | ptr i off =>
    simp only [storeAt] at hst
    split at hst
    · rename_i bt cells n hob hsz
      have hc := purge_cells (hn.2 i _ hob)
      split at hst
      · rename_i cs
        split at hst
        · injection hst with hst; subst hst
          refine hn.putOb (cells_purge fun c hc' => ?_)
          simp only [List.mem_append, List.mem_map] at hc'
          rcases hc' with (h1 | ⟨y, _, rfl⟩) | h1
          · exact hc c (List.mem_of_mem_take h1)
          · rfl
          · exact hc c (List.mem_of_mem_drop h1)
        · cases hst
      · split at hst
        · injection hst with hst; subst hst
          refine hn.putOb (cells_purge fun c hc' => ?_)
          rcases List.mem_or_eq_of_mem_set hc' with h1 | rfl
          · exact hc c h1
          · exact hv
        · cases hst
    · cases hst
  | rp i sz k off =>
    simp only [storeAt] at hst
    split at hst
    · split at hst
      · split at hst
        · injection hst with hst; subst hst
          exact hn.putOb rfl
        · cases hst
      · cases hst
    · cases hst
  | _ => simp [storeAt] at hst
theorem new_noMen {x : St} {d : Nat} (hn : NoMen x d) {o : Ob} {v : SV} : (x.new d o).set (some d) v = { env := put x.env d (some v), ob := put x.ob d (some o) } := by
  have he : (x.purge d).env = x.env := by
    funext t
    simp only [St.purge]
    cases h1 : x.env t with
    | none => rfl
    | some s => simp [hn.1 t s h1]
  have ho : ∀ j, d ≠ j → (x.purge d).ob j = x.ob j := fun j hj => by
    simp only [St.purge, put_other _ _ hj]
    cases h1 : x.ob j with
    | none => rfl
    | some s => simp [hn.2 j s h1]
  simp only [St.new, St.set, he, St.mk.injEq, true_and]
  funext j
  by_cases e : d = j
  · subst e; simp [put_same]
  · rw [put_other _ _ e, put_other _ _ e, ho j e]
theorem mem_allocs : ∀ {l : List Oper} {i k : Nat} {o : Oper} {t : TypeId} {d : Nat}, l[k]? = some o → o.op = .alloc t → o.dst = some d → (d, i + k) ∈ allocsOf i l := by
  intro l
  induction l with
  | nil => intro i k o t d hk; simp at hk
  | cons x l ih =>
    intro i k o t d hk ho hd
    cases k with
    | zero =>
      simp at hk; subst hk
      simp [allocsOf, ho, hd]
    | succ k =>
      simp at hk
      have := ih (i := i + 1) hk ho hd
      rw [show i + 1 + k = i + (k + 1) from by omega] at this
      simp only [allocsOf]
      split
      · exact List.mem_cons_of_mem _ this
      · exact this
theorem once_same : ∀ {l : List (Nat × Nat)} {p q : Nat × Nat}, onceEach l = true → p ∈ l → q ∈ l → p.1 = q.1 → p = q := by
  intro l
  induction l with
  | nil => intro p q _ hp; simp at hp
  | cons x l ih =>
    intro p q ho hp hq he
    simp only [onceEach, Bool.and_eq_true, Bool.not_eq_true'] at ho
    have no : ∀ y ∈ l, y.1 ≠ x.1 := fun y hy e => by
      have := List.any_eq_false.1 ho.1 y hy
      rw [e] at this; simp [Nat.beq_refl] at this
    rcases List.mem_cons.1 hp with rfl | hp' <;> rcases List.mem_cons.1 hq with rfl | hq'
    · rfl
    · exact absurd he.symm (no q hq')
    · exact absurd he (no p hp')
    · exact ih ho.2 hp' hq' he
theorem edges_get : ∀ {l : List Oper} {i : Nat}, edgesBack i l = true → ∀ (p : Nat) (o : Oper), l[p]? = some o → ∀ e ∈ o.after.toList, Region.binds .any e = true → e.on < i + p := by
  intro l
  induction l with
  | nil => intro i _ p o ho; simp at ho
  | cons x l ih =>
    intro i hs p o ho e he hb
    simp only [edgesBack, Bool.and_eq_true] at hs
    cases p with
    | zero =>
      simp at ho; subst ho
      have := List.all_eq_true.1 hs.1 e he
      simp only [hb, Bool.not_true, Bool.false_or, Nat.blt_eq] at this
      omega
    | succ p =>
      simp at ho
      have := ih hs.2 p o ho e he hb
      omega
theorem reach_listed {ops : Array Oper} {D : Nat → Prop} (hcl : ∀ j o, D j → ops[j]? = some o → ∀ e ∈ o.after.toList, Region.binds .any e = true → D e.on) :
    ∀ (n i j : Nat), (∀ o, ops[i]? = some o → ∀ e ∈ o.after.toList, Region.binds .any e = true → D e.on) → reach ops n i j = true → D j := by
  intro n
  induction n with
  | zero => intro i j _ h; simp [reach] at h
  | succ n ih =>
    intro i j hdeps h
    simp only [reach] at h
    cases ho : ops[i]? with
    | none => simp [ho] at h
    | some o =>
      simp only [ho, Bool.or_eq_true] at h
      rcases h with h | h
      · simp only [edgeTo, List.any_eq_true, Bool.and_eq_true] at h
        obtain ⟨e, he, hb, hon⟩ := h
        have := hdeps o ho e he hb
        rwa [beq_iff.1 hon] at this
      · simp only [List.any_eq_true, Bool.and_eq_true] at h
        obtain ⟨e, he, hb, hr⟩ := h
        exact ih e.on j (fun o' ho' e' he' hb' => hcl e.on o' (hdeps o ho e he hb) ho' e' he' hb') hr
theorem filter_lt {α : Type} {p q : α → Bool} {l : List α} {i : α} (hi : i ∈ l) (hp : p i = true) (hq : q i = false) (hpq : ∀ j, q j = true → p j = true) : (l.filter q).length < (l.filter p).length := by
  have le : ∀ l : List α, (l.filter q).length ≤ (l.filter p).length := by
    intro l
    induction l with
    | nil => simp
    | cons x l ih =>
      by_cases hx : q x = true
      · simp [List.filter_cons, hx, hpq x hx, ih]
      · have hx' : q x = false := by simpa using hx
        by_cases hy : p x = true
        · simp [List.filter_cons, hx', hy]; omega
        · have hy' : p x = false := by simpa using hy
          simpa [List.filter_cons, hx', hy'] using ih
  induction l with
  | nil => simp at hi
  | cons x l ih =>
    rcases List.mem_cons.1 hi with rfl | hi
    · simp only [List.filter_cons, hp, hq, if_true]
      have := le l
      simp; omega
    · have := ih hi
      by_cases hx : q x = true
      · simp [List.filter_cons, hx, hpq x hx, this]
      · have hx' : q x = false := by simpa using hx
        by_cases hy : p x = true
        · simp [List.filter_cons, hx', hy]; omega
        · have hy' : p x = false := by simpa using hy
          simpa [List.filter_cons, hx', hy'] using this
theorem Rel.purge {N : Nat} {w0 : World} {μ0 : Mu} {L : Lent} {μ : Mu} {loc : Nat → Value} {st : St} {a : Act} {w : World} (hR : Rel N w0 μ0 L μ loc st a w) (id : Nat) : Rel N w0 μ0 L μ loc (st.purge id) a w := by
  have hobs : ∀ j o, (st.purge id).ob j = some o → ∃ o', st.ob j = some o' ∧ o = o'.purge id := fun j o ho => by
    simp only [St.purge] at ho
    by_cases e : id = j
    · subst e; simp [put_same] at ho
    · simp only [put_other _ _ e] at ho
      cases h1 : st.ob j with
      | none => simp [h1] at ho
      | some o' => simp [h1] at ho; exact ⟨o', rfl, ho.symm⟩
  refine { hR with env := fun i sv he => ?_, obs := fun j o ho => ?_, apart := fun i j oi oj hi hj => ?_ }
  · simp only [St.purge] at he
    cases h1 : st.env i with
    | none => simp [h1] at he
    | some s =>
      simp [h1] at he; subst he
      obtain ⟨v, hv, hs⟩ := hR.env i s h1
      exact ⟨v, hv, repS_purge' hs⟩
  · obtain ⟨o', ho', rfl⟩ := hobs j o ho
    have := hR.obs j o' ho'
    cases o' with
    | row e sz xs => exact this
    | mp k e ks vs => exact this
    | mr k e s ks vs => exact this
    | it s n => exact this
    | box t cells =>
      obtain ⟨b, vs, h1, h2, h3, h4, h5, h6⟩ := this
      refine ⟨b, vs, h1, h2, h3, h4, ?_, h6⟩
      clear h3 h6 ho' ho
      induction cells generalizing vs with
      | nil => exact h5
      | cons c cs ih =>
        obtain ⟨u, us, rfl, k1, k2⟩ := h5
        exact ⟨u, us, rfl, repS_purge' k1, ih us k2⟩
  · obtain ⟨oi', hi', _⟩ := hobs i oi hi
    obtain ⟨oj', hj', _⟩ := hobs j oj hj
    exact hR.apart i j oi' oj' hi' hj'
theorem Rel.purgeAll {N : Nat} {w0 : World} {μ0 : Mu} {L : Lent} {μ : Mu} {loc : Nat → Value} {a : Act} {w : World} : ∀ (l : List (Nat × Nat)) (st : St), Rel N w0 μ0 L μ loc st a w → Rel N w0 μ0 L μ loc (AM.purgeAll l st) a w
  | [], _, hR => hR
  | p :: l, st, hR => Rel.purgeAll l (st.purge p.1) (hR.purge p.1)
end
section
variable {P : Program} {N : Nat} {w0 : World} {μ0 : Mu} {L : Lent} {h : Hint} {callF : CallF} {Q : Exit → Act → World → Prop}
/-- the states in which the operations of D have been done -/
structure Mid (S : Nat → St) (Fp : Nat → Foot) (fresh : List (Nat × Nat)) (n : Nat) (D : Nat → Prop) (x : St) : Prop where
  env : ∀ t, x.env t = (S (last (fun m => (Fp m).all = true ∨ t ∈ (Fp m).ws) D n)).env t
  ob : ∀ id, x.ob id = (S (last (fun m => (Fp m).all = true ∨ id ∈ (Fp m).wo) D n)).ob id
  men : ∀ p ∈ fresh, ¬ D p.2 → NoMen x p.1
theorem St.same {x y : St} (h1 : ∀ t, x.env t = y.env t) (h2 : ∀ t, x.ob t = y.ob t) : x = y := by
  obtain ⟨xe, xo⟩ := x
  obtain ⟨ye, yo⟩ := y
  have e1 : xe = ye := funext h1
  have e2 : xo = yo := funext h2
  rw [e1, e2]
/-- one operation that is ready, done in such a state -/
theorem mid_step {ops : Array Oper} {fresh : List (Nat × Nat)} {S : Nat → St} {Fp : Nat → Foot} {D E : Nat → Prop} {x : St} {i : Nat} {o : Oper} (hfresh : fresh = allocsOf 0 ops.toList) (honce : onceEach fresh = true)
    (hop : ∀ k o, ops[k]? = some o → OpRun P h callF ops fresh k o (S k) (Fp k) (S (k + 1)))
    (hpair : ∀ k q, q < k → k < ops.size → (Fp q).conflict (Fp k) = true → reach ops 12 k q = true)
    (hM : Mid S Fp fresh ops.size D x) (ho : ops[i]? = some o) (hi : i < ops.size) (hD : ¬ D i) (hE : ∀ j, E j ↔ (D j ∨ j = i))
    (hback : ∀ j, reach ops 12 i j = true → D j) (hfwd : ∀ m, D m → reach ops 12 m i = true → D i) :
    ∃ x', ((wantedA ops o x = some true ∧ step P h callF o x = some x') ∨ (wantedA ops o x = some false ∧ x' = x.set o.dst .undef)) ∧ Mid S Fp fresh ops.size E x' := by
  have hframe : ∀ m, m < ops.size → (Fp m).all = false → (∀ t, t ∉ (Fp m).ws → (S (m + 1)).env t = (S m).env t) ∧ ∀ id, id ∉ (Fp m).wo → (S (m + 1)).ob id = (S m).ob id := fun m hm hall =>
    op_frame (hop m _ (Array.getElem?_eq_getElem hm)) hall
  -- what conflicts lies on the right side of i
  have side : ∀ m, m < ops.size → m ≠ i → (Fp m).conflict (Fp i) = true → (Fp i).conflict (Fp m) = true → (D m ↔ m < i) := by
    intro m hm hne c1 c2
    rcases Nat.lt_or_gt_of_ne hne with hlt | hgt
    · exact ⟨fun _ => hlt, fun _ => hback m (hpair i m hlt hi c1)⟩
    · exact ⟨fun hd => absurd (hfwd m hd (hpair m i hgt hm c2)) hD, fun hl => by omega⟩
  have conE : ∀ t, ((Fp i).all = true ∨ t ∈ (Fp i).rs ∨ t ∈ (Fp i).ws) → ∀ m, ((Fp m).all = true ∨ t ∈ (Fp m).ws) → (Fp m).conflict (Fp i) = true ∧ (Fp i).conflict (Fp m) = true := by
    intro t ht m hm
    unfold Foot.conflict
    rcases ht with h1 | h1 | h1
    · simp [h1]
    · rcases hm with h2 | h2
      · simp [h2]
      · simp [meets_mem h2 h1, meets_mem h1 h2]
    · rcases hm with h2 | h2
      · simp [h2]
      · simp [meets_mem h2 h1, meets_mem h1 h2]
  have conO : ∀ t, ((Fp i).all = true ∨ t ∈ (Fp i).ro ∨ t ∈ (Fp i).wo) → ∀ m, ((Fp m).all = true ∨ t ∈ (Fp m).wo) → (Fp m).conflict (Fp i) = true ∧ (Fp i).conflict (Fp m) = true := by
    intro t ht m hm
    unfold Foot.conflict
    rcases ht with h1 | h1 | h1
    · simp [h1]
    · rcases hm with h2 | h2
      · simp [h2]
      · simp [meets_mem h2 h1, meets_mem h1 h2]
    · rcases hm with h2 | h2
      · simp [h2]
      · simp [meets_mem h2 h1, meets_mem h1 h2]
  have agE : ∀ t, ((Fp i).all = true ∨ t ∈ (Fp i).rs ∨ t ∈ (Fp i).ws) → x.env t = (S i).env t := by
    intro t ht
    rw [hM.env t, last_congr (E := (· < i)) (fun m hm hw => ?_)]
    · have := last_before (W := fun m => (Fp m).all = true ∨ t ∈ (Fp m).ws) (g := fun k => (S k).env t) (i := i) (n := ops.size) (fun m hm hnw => (hframe m hm (by
        cases hb : (Fp m).all with
        | true => exact absurd (.inl hb) hnw
        | false => rfl)).1 t (fun hin => hnw (.inr hin))) (Nat.le_refl _)
      rwa [Nat.min_eq_right (by omega)] at this
    · by_cases e : m = i
      · subst e; exact ⟨fun h => absurd h hD, fun h => by omega⟩
      · exact side m hm e (conE t ht m hw).1 (conE t ht m hw).2
  have agO : ∀ t, ((Fp i).all = true ∨ t ∈ (Fp i).ro ∨ t ∈ (Fp i).wo) → x.ob t = (S i).ob t := by
    intro t ht
    rw [hM.ob t, last_congr (E := (· < i)) (fun m hm hw => ?_)]
    · have := last_before (W := fun m => (Fp m).all = true ∨ t ∈ (Fp m).wo) (g := fun k => (S k).ob t) (i := i) (n := ops.size) (fun m hm hnw => (hframe m hm (by
        cases hb : (Fp m).all with
        | true => exact absurd (.inl hb) hnw
        | false => rfl)).2 t (fun hin => hnw (.inr hin))) (Nat.le_refl _)
      rwa [Nat.min_eq_right (by omega)] at this
    · by_cases e : m = i
      · subst e; exact ⟨fun h => absurd h hD, fun h => by omega⟩
      · exact side m hm e (conO t ht m hw).1 (conO t ht m hw).2
  -- the state after it
  have after : ∀ x' : St, (∀ t, ((Fp i).all = true ∨ t ∈ (Fp i).ws) → x'.env t = (S (i + 1)).env t) → (∀ t, ¬ ((Fp i).all = true ∨ t ∈ (Fp i).ws) → x'.env t = x.env t) →
      (∀ t, ((Fp i).all = true ∨ t ∈ (Fp i).wo) → x'.ob t = (S (i + 1)).ob t) → (∀ t, ¬ ((Fp i).all = true ∨ t ∈ (Fp i).wo) → x'.ob t = x.ob t) →
      (∀ p ∈ fresh, ¬ D p.2 → p.2 ≠ i → NoMen x' p.1) → Mid S Fp fresh ops.size E x' := by
    intro x' e1 e2 o1 o2 hj
    refine ⟨fun t => ?_, fun t => ?_, fun p hp hnE => hj p hp (fun hd => hnE ((hE _).2 (.inl hd))) (fun e => hnE ((hE _).2 (.inr e)))⟩
    · by_cases hw : (Fp i).all = true ∨ t ∈ (Fp i).ws
      · rw [e1 t hw, last_top (W := fun m => (Fp m).all = true ∨ t ∈ (Fp m).ws) (i := i) hw ((hE i).2 (.inr rfl)) hi (fun m h1 h2 hwm hEm => ?_)]
        have hc := conE t (hw.imp id .inr) m hwm
        rcases (hE m).1 hEm with hd | rfl
        · have := (side m h2 (by omega) hc.1 hc.2).1 hd; omega
        · omega
      · rw [e2 t hw, hM.env t, last_congr (E := E) (fun m hm hwm => ?_)]
        rw [hE m]
        exact ⟨.inl, fun hd => hd.elim id fun e => absurd (e ▸ hwm) hw⟩
    · by_cases hw : (Fp i).all = true ∨ t ∈ (Fp i).wo
      · rw [o1 t hw, last_top (W := fun m => (Fp m).all = true ∨ t ∈ (Fp m).wo) (i := i) hw ((hE i).2 (.inr rfl)) hi (fun m h1 h2 hwm hEm => ?_)]
        have hc := conO t (hw.imp id .inr) m hwm
        rcases (hE m).1 hEm with hd | rfl
        · have := (side m h2 (by omega) hc.1 hc.2).1 hd; omega
        · omega
      · rw [o2 t hw, hM.ob t, last_congr (E := E) (fun m hm hwm => ?_)]
        rw [hE m]
        exact ⟨.inl, fun hd => hd.elim id fun e => absurd (e ▸ hwm) hw⟩
  have menP : ∀ v, mentionOk ops fresh i v = true → ∀ p ∈ fresh, ¬ D p.2 → v.purge p.1 = v := fun v hv p hp hnd => by
    have := List.all_eq_true.1 hv p hp
    simp only [Bool.or_eq_true, Bool.not_eq_true'] at this
    rcases this with h1 | h1
    · exact mention_false h1
    · exact absurd (hback _ h1) hnd
  have setE : ∀ v : SV, (Fp i).ws = o.dst.toList → S (i + 1) = (S i).set o.dst v → (∀ t, t ∈ (Fp i).ws → (x.set o.dst v).env t = (S (i + 1)).env t) ∧ (∀ t, t ∉ (Fp i).ws → (x.set o.dst v).env t = x.env t) ∧ (x.set o.dst v).ob = x.ob := by
    intro v hws hS
    rw [hws, hS]
    cases hd : o.dst with
    | none => exact ⟨fun t ht => by simp at ht, fun _ _ => rfl, rfl⟩
    | some d =>
      refine ⟨fun t ht => ?_, fun t ht => put_other _ _ (fun e => ht (by simp [e])), rfl⟩
      have : t = d := by simpa using ht
      subst this
      simp [St.set, put_same]
  have hrun := hop i o ho
  rcases hrun with ⟨hw, hS, hf⟩ | ⟨hw, v, hv, hS, hf, hm⟩ | ⟨hw, t, ax, ay, sa, sv, id, hopq, hdn, hx, hy, htg, hst, hf, hm⟩ | ⟨hw, t, d, z, hopq, hdd, hrw, hz, hS, hf⟩ | ⟨hw, hst, hf, hlow⟩
  · -- not wanted
    have hall : (Fp i).all = false := by rw [hf]; rfl
    have hwo : (Fp i).wo = [] := by rw [hf]; rfl
    have hrd : ∀ t ∈ readsOf ops o, x.env t = (S i).env t := fun t ht => agE t (.inr (.inl (by rw [hf]; exact ht)))
    obtain ⟨s1, s2, s3⟩ := setE .undef (by rw [hf]; rfl) hS
    refine ⟨x.set o.dst .undef, .inr ⟨by rw [wanted_congr hrd]; exact hw, rfl⟩, after _ (fun t ht => s1 t (by simpa [hall] using ht)) (fun t ht => s2 t (by simpa [hall] using ht)) (fun t ht => by simp [hall, hwo] at ht) (fun t _ => by rw [s3]) (fun p hp hnd _ => (hM.men p hp hnd).set rfl)⟩
  · -- a value
    have hall : (Fp i).all = false := by rw [hf]; rfl
    have hwo : (Fp i).wo = [] := by rw [hf]; rfl
    have hrd : ∀ t ∈ readsOf ops o, x.env t = (S i).env t := fun t ht => agE t (.inr (.inl (by rw [hf]; exact ht)))
    obtain ⟨s1, s2, s3⟩ := setE v (by rw [hf]; rfl) hS
    have hfv : fval P h callF o x = some v := by
      rw [← hv]
      refine (fval_congr (st := S i) (st' := x) (fun hn id hid => (agO id (.inr (.inl ?_))).symm) (fun t ht => (hrd t (by simp [readsOf, ht])).symm)).symm
      rw [hf]; simp [footV, hn, hid]
    refine ⟨x.set o.dst v, .inl ⟨by rw [wanted_congr hrd]; exact hw, by unfold step; rw [hfv]⟩, after _ (fun t ht => s1 t (by simpa [hall] using ht)) (fun t ht => s2 t (by simpa [hall] using ht)) (fun t ht => by simp [hall, hwo] at ht) (fun t _ => by rw [s3]) (fun p hp hnd _ => (hM.men p hp hnd).set (menP v hm p hp hnd))⟩
  · -- a store
    have hall : (Fp i).all = false := by rw [hf]; rfl
    have hws : (Fp i).ws = [] := by rw [hf]; rfl
    have hwo : (Fp i).wo = [id] := by rw [hf]; rfl
    have hrd : ∀ t ∈ readsOf ops o, x.env t = (S i).env t := fun t ht => agE t (.inr (.inl (by rw [hf]; exact ht)))
    obtain ⟨l1, l2, l3⟩ := storeAt_local hst htg
    have hox : ∀ y ∈ o.op.operands.toList, ∀ ty, opnd P ty x y = opnd P ty (S i) y := fun y hy' ty => opnd_congr (fun u e => hrd u (by
      subst e
      exact List.mem_append_left _ (List.mem_filterMap.2 ⟨.tmp u, hy', rfl⟩))) ty
    have hxs : storeAt P t x sa sv = some { x with ob := put x.ob id ((S (i + 1)).ob id) } := by
      refine l3 x (agO id (.inr (.inl (by rw [hf]; simp [footStore])))) (fun j hj => agO j (.inr (.inl ?_)))
      rw [hf]
      simp only [footStore, List.mem_cons]
      exact .inr (mem_idsIn (P := P) (x := ay) (ty := t) (by rw [hopq]; simp [Op.operands]) hy hj)
    refine ⟨{ x with ob := put x.ob id ((S (i + 1)).ob id) }, .inl ⟨by rw [wanted_congr hrd]; exact hw, ?_⟩, after _ (fun t ht => by simp [hall, hws] at ht) (fun t _ => rfl) (fun t ht => ?_) (fun t ht => ?_) (fun p hp hnd _ => ?_)⟩
    · have k1 := hox ax (by rw [hopq]; simp [Op.operands]) 0
      have k2 := hox ay (by rw [hopq]; simp [Op.operands]) t
      have hfn : fval P h callF o x = none := by simp [fval, hopq, pval]
      unfold step
      rw [hfn]
      simp only [eff, hdn, hopq, k1, k2, hx, hy]
      exact hxs
    · have : t = id := by simpa [hall, hwo] using ht
      subst this
      exact put_same _ _ _
    · exact put_other _ _ (fun e => ht (.inr (by rw [hwo, e]; simp)))
    · exact storeAt_noMen (hM.men p hp hnd) (menP sv hm p hp hnd) hxs
  · -- a new box
    have hall : (Fp i).all = false := by rw [hf]; rfl
    have hws : (Fp i).ws = [d] := by rw [hf]; rfl
    have hwo : (Fp i).wo = [d] := by rw [hf]; rfl
    have hrd : ∀ t ∈ readsOf ops o, x.env t = (S i).env t := fun t ht => agE t (.inr (.inl (by rw [hf]; exact ht)))
    have hin : (d, i) ∈ fresh := by
      rw [hfresh]
      have := mem_allocs (l := ops.toList) (i := 0) (k := i) (by simpa using ho) hopq hdd
      simpa using this
    have hno := hM.men _ hin hD
    refine ⟨{ env := put x.env d (some (.ptr d 0)), ob := put x.ob d (some (.box t (z.map .pv))) }, .inl ⟨by rw [wanted_congr hrd]; exact hw, ?_⟩, after _ (fun u hu => ?_) (fun u hu => ?_) (fun u hu => ?_) (fun u hu => ?_) (fun p hp hnd hpi => ?_)⟩
    · have hfn : fval P h callF o x = none := by simp [fval, hopq, pval]
      unfold step
      rw [hfn]
      simp only [eff, hdd, hopq, hz, hrw, cond_false]
      rw [new_noMen hno]
    · have : u = d := by simpa [hall, hws] using hu
      subst this
      rw [hS]
      simp [put_same]
    · exact put_other _ _ (fun e => hu (.inr (by rw [hws, e]; simp)))
    · have : u = d := by simpa [hall, hwo] using hu
      subst this
      rw [hS]
      simp [put_same]
    · exact put_other _ _ (fun e => hu (.inr (by rw [hwo, e]; simp)))
    · have hne : p.1 ≠ d := fun e => hpi (by
        have := once_same honce hp hin e
        rw [this])
      have h1 : NoMen (x.set (some d) (.ptr d 0)) p.1 := (hM.men p hp hnd).set (mention_false (by simp [SV.mentions, beq_ne (fun e => hne e.symm)]))
      exact h1.putOb (id := d) (o := .box t (z.map .pv)) (cells_purge fun c hc => by
        obtain ⟨y, _, rfl⟩ := List.mem_map.1 hc
        rfl)
  · -- everything
    have hall : (Fp i).all = true := by rw [hf]; rfl
    have hx : x = S i := St.same (fun t => agE t (.inl hall)) (fun t => agO t (.inl hall))
    refine ⟨S (i + 1), .inl ⟨by rw [hx]; exact hw, by rw [hx]; exact hst⟩, after _ (fun _ _ => rfl) (fun t ht => absurd (.inl hall) ht) (fun _ _ => rfl) (fun t ht => absurd (.inl hall) ht) (fun p hp hnd _ => ?_)⟩
    have := List.all_eq_true.1 hlow p hp
    have hlt : p.2 < i := by simpa [Nat.blt_eq] using this
    exact absurd (hback _ (hpair i p.2 hlt hi (by unfold Foot.conflict; simp [hall]))) hnd
theorem draw_sound (hcall : CallOK L.q μ0 P callF) {ops : Array Oper} {st stF : St} (hedges : edgesBack 0 ops.toList = true) (honce : onceEach (allocsOf 0 ops.toList) = true)
    (hrun : runDraw P h callF ops (allocsOf 0 ops.toList) 0 ops.toList [] (purgeAll (allocsOf 0 ops.toList) st) = some stF) (hd : ∀ o ∈ ops.toList, ∀ i, o.dst = some i → i < N)
    (hQ : ∀ a' w' μ' loc', Rel N w0 μ0 L μ' loc' stF a' w' → Q .normal a' w') {μ : Mu} {loc : Nat → Value} {a : Act} {w : World} (hR : Rel N w0 μ0 L μ loc st a w) :
    wpAny P .any ops Q ops.size (Array.replicate ops.size false) a w := by
  obtain ⟨S, Fp, h0, hn, hops, _, hpairs⟩ := run_of _ _ _ _ _ hrun
  simp only [Nat.zero_add, Array.length_toList] at hn hops hpairs
  have hop : ∀ k o, ops[k]? = some o → OpRun P h callF ops (allocsOf 0 ops.toList) k o (S k) (Fp k) (S (k + 1)) := fun k o hk => hops k o (by simpa using hk)
  have hpair : ∀ k q, q < k → k < ops.size → (Fp q).conflict (Fp k) = true → reach ops 12 k q = true := fun k q => hpairs k q
  let D : Array Bool → Nat → Prop := fun listed j => listed.getD j false = true
  have allQ : ∀ (listed : Array Bool) (a : Act) (w : World) (μ : Mu) (loc : Nat → Value), (∀ j, j < ops.size → D listed j) → (∃ x, Mid S Fp (allocsOf 0 ops.toList) ops.size (D listed) x ∧ Rel N w0 μ0 L μ loc x a w) → Q .normal a w := by
    intro listed a w μ loc hall ⟨x, hM, hRx⟩
    have hframe : ∀ m, m < ops.size → (Fp m).all = false → (∀ t, t ∉ (Fp m).ws → (S (m + 1)).env t = (S m).env t) ∧ ∀ id, id ∉ (Fp m).wo → (S (m + 1)).ob id = (S m).ob id := fun m hm hall =>
      op_frame (hop m _ (Array.getElem?_eq_getElem hm)) hall
    have hx : x = stF := by
      rw [← hn]
      refine St.same (fun t => ?_) (fun t => ?_)
      · rw [hM.env t, last_congr (E := (· < ops.size)) (fun m hm _ => ⟨fun _ => hm, fun _ => hall m hm⟩)]
        have := last_before (W := fun m => (Fp m).all = true ∨ t ∈ (Fp m).ws) (g := fun k => (S k).env t) (i := ops.size) (n := ops.size) (fun m hm hnw => (hframe m hm (by
          cases hb : (Fp m).all with
          | true => exact absurd (.inl hb) hnw
          | false => rfl)).1 t (fun hin => hnw (.inr hin))) (Nat.le_refl _)
        rwa [Nat.min_self] at this
      · rw [hM.ob t, last_congr (E := (· < ops.size)) (fun m hm _ => ⟨fun _ => hm, fun _ => hall m hm⟩)]
        have := last_before (W := fun m => (Fp m).all = true ∨ t ∈ (Fp m).wo) (g := fun k => (S k).ob t) (i := ops.size) (n := ops.size) (fun m hm hnw => (hframe m hm (by
          cases hb : (Fp m).all with
          | true => exact absurd (.inl hb) hnw
          | false => rfl)).2 t (fun hin => hnw (.inr hin))) (Nat.le_refl _)
        rwa [Nat.min_self] at this
    subst hx
    exact hQ _ _ _ _ hRx
  have main : ∀ (fuel : Nat) (listed : Array Bool) (a : Act) (w : World) (μ : Mu) (loc : Nat → Value), listed.size = ops.size → ((List.range ops.size).filter fun j => !listed.getD j true).length ≤ fuel →
      (∀ j o, D listed j → ops[j]? = some o → ∀ e ∈ o.after.toList, Region.binds .any e = true → D listed e.on) →
      (∃ x, Mid S Fp (allocsOf 0 ops.toList) ops.size (D listed) x ∧ Rel N w0 μ0 L μ loc x a w) →
      wpAny P .any ops Q fuel listed a w := by
    intro fuel
    induction fuel with
    | zero =>
      intro listed a w μ loc hsz hleft hcl hinv
      have hall : ∀ j, j < ops.size → D listed j := fun j hj => by
        have h0 : ((List.range ops.size).filter fun j => !listed.getD j true) = [] := List.eq_nil_of_length_eq_zero (by omega)
        have := List.filter_eq_nil_iff.1 h0 j (by simpa using hj)
        have hlt : j < listed.size := by omega
        simpa [D, Array.getD, hlt] using this
      refine ⟨?_, ?_⟩
      · unfold Region.ready
        apply List.filter_eq_nil_iff.2
        intro j hj
        have hj' : j < ops.size := by simpa using hj
        have := hall j hj'
        have hlt : j < listed.size := by omega
        have ht : listed.getD j true = true := by simpa [D, Array.getD, hlt] using this
        simp [ht]
      · exact allQ listed a w μ loc hall hinv
    | succ fuel ih =>
      intro listed a w μ loc hsz hleft hcl hinv
      have hready : ∀ i, i ∈ Region.ready .any ops listed → ∃ o, ops[i]? = some o ∧ i < ops.size ∧ ¬ D listed i ∧ listed.getD i true = false ∧ ∀ e ∈ o.after.toList, Region.binds .any e = true → D listed e.on := by
        intro i hi
        unfold Region.ready at hi
        simp only [List.mem_filter, List.mem_range, Bool.and_eq_true, Bool.not_eq_true'] at hi
        obtain ⟨hlt, hnl, hdeps⟩ := hi
        have ho : ops[i]? = some (ops[i]'hlt) := Array.getElem?_eq_getElem hlt
        refine ⟨_, ho, hlt, ?_, hnl, ?_⟩
        · have hl' : i < listed.size := by omega
          have : listed[i] = false := by simpa [Array.getD, hl'] using hnl
          simp [D, Array.getD, hl', this]
        · intro e he hb
          simp only [ho, Option.map_some, Option.getD_some] at hdeps
          have := Array.all_eq_true'.1 hdeps e (by simpa using he)
          simpa [hb, D] using this
      have hset : ∀ i, i < ops.size → ∀ j, D (listed.setIfInBounds i true) j ↔ (D listed j ∨ j = i) := by
        intro i hi j
        have hl' : i < listed.size := by omega
        by_cases hj : j < listed.size
        · by_cases e : i = j
          · subst e; simp [D, Array.getD, hj]
          · have e' : j ≠ i := fun h => e h.symm
            simp [D, Array.getD, hj, e, e', Array.getElem_setIfInBounds]
        · have e' : j ≠ i := fun h => by subst h; exact hj hl'
          have h1 : (listed.setIfInBounds i true).getD j false = false := by simp [Array.getD, hj]
          have h2 : listed.getD j false = false := by simp [Array.getD, hj]
          simp only [D, h1, h2, e', or_false]
      have next : ∀ i o, ops[i]? = some o → i < ops.size → ¬ D listed i → listed.getD i true = false → (∀ e ∈ o.after.toList, Region.binds .any e = true → D listed e.on) →
          (listed.setIfInBounds i true).size = ops.size ∧ ((List.range ops.size).filter fun j => !(listed.setIfInBounds i true).getD j true).length ≤ fuel ∧
          (∀ j o, D (listed.setIfInBounds i true) j → ops[j]? = some o → ∀ e ∈ o.after.toList, Region.binds .any e = true → D (listed.setIfInBounds i true) e.on) := by
        intro i o ho hlt hnD hnl hdeps
        refine ⟨by simp [hsz], ?_, ?_⟩
        · have hl' : i < listed.size := by omega
          have := filter_lt (l := List.range ops.size) (p := fun j => !listed.getD j true) (q := fun j => !(listed.setIfInBounds i true).getD j true) (i := i) (by simpa using hlt) (by simp [hnl]) (by simp [Array.getD, hl'])
            (fun j hj => by
              by_cases hjl : j < listed.size
              · by_cases e : i = j
                · subst e; simp [Array.getD, hjl] at hj
                · simpa [Array.getD, hjl, Array.getElem_setIfInBounds, e] using hj
              · simp [Array.getD, hjl] at hj)
          omega
        · intro j oj hj hoj e he hb
          rw [hset i hlt] at hj ⊢
          rcases hj with hj | rfl
          · exact .inl (hcl j oj hj hoj e he hb)
          · rw [ho] at hoj; injection hoj with hoj; subst hoj
            exact .inl (hdeps e he hb)
      -- one operation
      have wrap : ∀ (i : Nat) (o : Oper) (x x' : St) (μ : Mu) (loc : Nat → Value), ops[i]? = some o → Rel N w0 μ0 L μ loc x a w →
          ((wantedA ops o x = some true ∧ step P h callF o x = some x') ∨ (wantedA ops o x = some false ∧ x' = x.set o.dst .undef)) →
          (∀ a' w' μ' loc', Rel N w0 μ0 L μ' loc' x' a' w' → wpAny P .any ops Q fuel (listed.setIfInBounds i true) a' w') → wpOp P ops Q i (wpAny P .any ops Q fuel (listed.setIfInBounds i true)) a w := by
        intro i o x x' μ loc ho hRx hstep hK
        have hdo : ∀ t, o.dst = some t → t < N := hd o (by
          have := List.mem_of_getElem? (show ops.toList[i]? = some o by simpa using ho); exact this)
        unfold wpOp
        simp only [ho]
        rcases hstep with ⟨hw, hstep⟩ | ⟨hw, rfl⟩
        · rw [wanted_sound hRx hw]
          simp only [if_true]
          exact .inl (step_sound hRx hcall hdo hstep hK)
        · rw [wanted_sound hRx hw]
          simp only [Bool.false_eq_true, if_false]
          exact hK _ _ _ _ (hRx.set hdo (show repS μ loc .undef undef from rfl))
      refine ⟨fun hnil => ?_, ?_⟩
      · -- something is ready as long as something is left
        by_cases hall : ∀ j, j < ops.size → D listed j
        · exact allQ listed a w μ loc hall hinv
        · exfalso
          have hex : ∃ j, j < ops.size ∧ ¬ D listed j := Classical.byContradiction fun hn => hall fun j hj => Classical.byContradiction fun hd => hn ⟨j, hj, hd⟩
          -- the least one that is left
          have least : ∀ n j, j < n → j < ops.size → ¬ D listed j → ∃ i, i < ops.size ∧ ¬ D listed i ∧ ∀ k, k < i → D listed k := by
            intro n
            induction n with
            | zero => intro j hj; omega
            | succ n ihn =>
              intro j hj hjs hjd
              by_cases hlow : ∃ k, k < j ∧ ¬ D listed k
              · obtain ⟨k, hk, hkd⟩ := hlow
                exact ihn k (by omega) (by omega) hkd
              · exact ⟨j, hjs, hjd, fun k hk => Classical.byContradiction fun hkd => hlow ⟨k, hk, hkd⟩⟩
          obtain ⟨j, hj, hjd⟩ := hex
          obtain ⟨i, hi, hid, hlow⟩ := least (j + 1) j (by omega) hj hjd
          have ho : ops[i]? = some (ops[i]'hi) := Array.getElem?_eq_getElem hi
          have hs2 := edges_get hedges i (ops[i]'hi) (by rw [Array.getElem?_toList]; exact ho)
          have hl' : i < listed.size := by omega
          have hmem : i ∈ Region.ready .any ops listed := by
            unfold Region.ready
            simp only [List.mem_filter, List.mem_range, Bool.and_eq_true, Bool.not_eq_true']
            refine ⟨hi, ?_, ?_⟩
            · have : ¬ (listed[i] = true) := by simpa [D, Array.getD, hl'] using hid
              simpa [Array.getD, hl'] using this
            · simp only [ho, Option.map_some, Option.getD_some]
              apply Array.all_eq_true'.2
              intro e he
              cases hb : Region.binds .any e with
              | false => rfl
              | true =>
                have := hlow e.on (by simpa using hs2 e (by simpa using he) hb)
                simpa [D] using this
          rw [hnil] at hmem
          cases hmem
      · obtain ⟨x, hM, hRx⟩ := hinv
        intro i hi
        obtain ⟨o, ho, hlt, hnD, hnl, hdeps⟩ := hready i hi
        obtain ⟨n1, n2, n3⟩ := next i o ho hlt hnD hnl hdeps
        obtain ⟨x', hst, hM'⟩ := mid_step rfl honce hop hpair hM ho hlt hnD (hset i hlt)
          (fun j hj => reach_listed hcl 12 i j (fun o' ho' => by rw [ho] at ho'; injection ho' with ho'; subst ho'; exact hdeps) hj)
          (fun m hm hr => reach_listed hcl 12 m i (fun o' ho' => hcl m o' hm ho') hr)
        exact wrap i o x x' μ loc ho hRx hst (fun a' w' μ' loc' hR' => ih _ a' w' μ' loc' n1 n2 n3 ⟨x', hM', hR'⟩)
  have hnone : ∀ j, ¬ D (Array.replicate ops.size false) j := fun j => by
    by_cases hj : j < ops.size <;> simp [D, Array.getD, hj]
  have hzero : ∀ (W : Nat → Prop) (m : Nat), last W (D (Array.replicate ops.size false)) m = 0 := fun W m => by
    induction m with
    | zero => rfl
    | succ m ih => simp only [last]; rw [if_neg (fun h => hnone m h.1), ih]
  refine main ops.size _ a w μ loc (by simp) ?_ (fun j o hj => absurd hj (hnone j)) ⟨purgeAll (allocsOf 0 ops.toList) st, ⟨fun t => by rw [hzero, h0], fun t => by rw [hzero, h0], fun p hp _ => (purgeAll_noMen _ st).1 p hp⟩, Rel.purgeAll _ _ hR⟩
  calc _ ≤ (List.range ops.size).length := List.length_filter_le _ _
    _ = ops.size := by simp
end
end Go.AM
