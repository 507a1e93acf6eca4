/-
  THE ABSTRACT MACHINE: operations that change nothing.
-/
import Derived.Test.YtneahmpmicoplaaGreatDoorAmRel
import Derived.Laws.Strings
set_option linter.unusedVariables false
set_option linter.unusedSimpArgs false
namespace Go.AM

section
variable {P : Program} {μ : Mu} {loc : Nat → Value} {w : World}

theorem ofConst_rep {t : TypeId} {v : Value} {x : AV} (h : ofConst P t v = some x) : rep μ x v := by
  unfold ofConst at h
  split at h
  · injection h with h; subst h; simp [rep]
  · injection h with h; subst h; simp [rep]
  · injection h with h; subst h; simp [rep]
  · cases hs : isSlice P t with
    | none => simp [hs] at h
    | some y => simp [hs] at h; subst h; rw [rep]; exact ⟨none, 0, rfl, Nat.le_refl _, Nat.zero_le _, .inl rfl⟩
  · split at h
    · injection h with h; subst h; rw [rep]; exact .inl ⟨rfl, rfl, rfl⟩
    · cases h
  · cases h

theorem aggT_run {t : TypeId} {b : Bool} (h : aggT P t = some b) (w : World) : (isAgg t).run P w = .ok b w := by
  unfold aggT at h
  unfold isAgg
  split at h
  · rename_i fs hu; injection h with h; subst h; simp [run_underlying hu]
  · rename_i n e hu; injection h with h; subst h; simp [run_underlying hu]
  · rename_i d h1 h2 hu
    injection h with h; subst h
    simp only [Sem.run_bind, run_underlying hu, Result.andThen_ok]
    cases d <;> first | rfl | (exfalso; exact h1 _ rfl) | (exfalso; exact h2 _ _ rfl) | (exfalso; simp_all)
  · cases h

theorem sizeT_run {t : TypeId} {n : Nat} (h : sizeT P t = some n) (w : World) : (sizeOf t).run P w = .ok n w := by
  unfold sizeT at h
  cases hi : P.info? t with
  | none => simp [hi] at h
  | some i => simp [hi] at h; subst h; simp [sizeOf, typeInfo, hi]

theorem isSlice_parts {t : TypeId} {e : TypeId} {s : Nat} (h : isSlice P t = some (e, s)) : P.underlying t = some (.slice e) ∧ ∃ i, P.info? e = some i ∧ i.size = s := by
  unfold isSlice at h
  split at h
  · rename_i e' hu
    cases hi : P.info? e' with
    | none => simp [hi] at h
    | some i => simp [hi] at h; obtain ⟨rfl, rfl⟩ := h; exact ⟨hu, i, hi, rfl⟩
  · cases h

theorem add_lit (b off j : Nat) : (⟨b, off, none⟩ : Addr).add j = ⟨b, off + j, none⟩ := by
  unfold Addr.add; split <;> simp_all

theorem add_zero' (p : Addr) : p.add 0 = p := by
  unfold Addr.add; split <;> simp_all

theorem run_loadVar_cells {t : TypeId} {ad : Addr} {cs : List AV} {vs : List Value} {x : AV} (hx : takeCells P t cs = some x) (hc : repC μ cs vs)
    (hcell : ∀ j v, vs[j]? = some v → w.cell? (ad.add j) = some v) : ∃ v, (loadVar t ad).run P w = .ok v w ∧ rep μ x v := by
  unfold takeCells at hx
  split at hx
  · rename_i n ha hs
    split at hx
    · rename_i hn
      injection hx with hx; subst hx
      have hl : (vs.take n).length = n := by rw [List.length_take, hc.length]; omega
      have hr := run_loadCells_list (P := P) w ad (vs.take n) (fun j v hv => hcell j v (by
        rw [List.getElem?_take] at hv; split at hv
        · exact hv
        · cases hv))
      rw [hl] at hr
      refine ⟨.agg (vs.take n).toArray, ?_, ?_⟩
      · simp [loadVar, aggT_run ha, sizeT_run hs, hr]
      · rw [rep]; exact ⟨_, rfl, (hc.take n).1, (hc.take n).2⟩
    · cases hx
  · rename_i n ha hs
    obtain ⟨v, hv, hr⟩ := repAll_get hc.1 hx
    have h0 := hcell 0 v hv
    have : ad.add 0 = ad := by simp [Addr.add]
    rw [this] at h0
    exact ⟨v, by simp [loadVar, aggT_run ha, h0], hr⟩
  · cases hx

theorem run_part {t : TypeId} {cs : List AV} {vs : List Value} {x : AV} (off : Nat) (hx : takeCells P t (cs.drop off) = some x) (hc : repC μ cs vs) :
    ∃ v, (part t vs.toArray off).run P w = .ok v w ∧ rep μ x v := by
  unfold takeCells at hx
  split at hx
  · rename_i n ha hs
    split at hx
    · rename_i hn
      injection hx with hx; subst hx
      refine ⟨.agg ((vs.drop off).take n).toArray, ?_, ?_⟩
      · simp [part, aggT_run ha, sizeT_run hs, List.extract_eq_take_drop]
      · rw [rep]; exact ⟨_, rfl, ((hc.drop off).take n).1, ((hc.drop off).take n).2⟩
    · cases hx
  · rename_i n ha hs
    obtain ⟨v, hv, hr⟩ := repAll_get (hc.drop off).1 hx
    rw [List.getElem?_drop, Nat.add_zero] at hv
    exact ⟨v, by simp [part, aggT_run ha, hv], hr⟩
  · cases hx

theorem repSs_get {xs : List SV} {vs : List Value} (h : repSs μ loc xs vs) {i : Nat} {x : SV} (hx : xs[i]? = some x) : ∃ v, vs[i]? = some v ∧ repS μ loc x v := by
  induction xs generalizing vs i with
  | nil => simp at hx
  | cons y xs ih =>
    obtain ⟨u, us, rfl, h1, h2⟩ := h
    cases i with
    | zero => simp at hx; subst hx; exact ⟨u, by simp, h1⟩
    | succ i => simp at hx; obtain ⟨v, hv, hr⟩ := ih h2 hx; exact ⟨v, by simpa using hv, hr⟩
theorem repSs_length {xs : List SV} {vs : List Value} (h : repSs μ loc xs vs) : vs.length = xs.length := by
  induction xs generalizing vs with
  | nil => exact congrArg List.length h
  | cons x xs ih => obtain ⟨u, us, rfl, _, h2⟩ := h; simp [ih h2]
theorem repSs_drop {xs : List SV} {vs : List Value} (h : repSs μ loc xs vs) (n : Nat) : repSs μ loc (xs.drop n) (vs.drop n) := by
  induction n generalizing xs vs with
  | zero => simpa using h
  | succ n ih =>
    cases xs with
    | nil => have : vs = [] := h; subst this; simp [repSs]
    | cons x xs => obtain ⟨u, us, rfl, _, h2⟩ := h; simpa using ih h2
theorem repSs_take {xs : List SV} {vs : List Value} (h : repSs μ loc xs vs) (n : Nat) : repSs μ loc (xs.take n) (vs.take n) := by
  induction n generalizing xs vs with
  | zero => simp [repSs]
  | succ n ih =>
    cases xs with
    | nil => have : vs = [] := h; subst this; simp [repSs]
    | cons x xs => obtain ⟨u, us, rfl, h1, h2⟩ := h; exact ⟨u, us.take n, by simp, h1, ih h2⟩
theorem repSs_append {xs ys : List SV} {vs us : List Value} (h : repSs μ loc xs vs) (k : repSs μ loc ys us) : repSs μ loc (xs ++ ys) (vs ++ us) := by
  induction xs generalizing vs with
  | nil => have : vs = [] := h; subst this; simpa using k
  | cons x xs ih => obtain ⟨u, vs', rfl, h1, h2⟩ := h; exact ⟨u, vs' ++ us, by simp, h1, ih h2⟩
theorem repSs_pv {cs : List AV} {vs : List Value} (h : repAll μ cs vs) : repSs μ loc (cs.map .pv) vs := by
  induction cs generalizing vs with
  | nil => rw [repAll] at h; exact h
  | cons x xs ih => rw [repAll] at h; obtain ⟨u, us, rfl, h1, h2⟩ := h; exact ⟨u, us, rfl, h1, ih h2⟩
theorem allPure_rep {xs : List SV} {cs : List AV} {vs : List Value} (h : allPure xs = some cs) (k : repSs μ loc xs vs) : repAll μ cs vs := by
  induction xs generalizing vs cs with
  | nil => simp [allPure] at h; subst h; have : vs = [] := k; subst this; exact repAll_nil
  | cons x xs ih =>
    cases x with
    | pv v =>
      simp only [allPure] at h
      cases h' : allPure xs with
      | none => simp [h'] at h
      | some ds => simp [h'] at h; subst h; obtain ⟨u, us, rfl, h1, h2⟩ := k; exact repAll_cons h1 (ih h' h2)
    | _ => simp [allPure] at h

/-! rows -/
theorem rowCells_length {sz : Nat} {xs : List (List AV)} {vs : List Value} (h : rowCells μ sz xs vs) : vs.length = xs.length * sz := by
  induction xs generalizing vs with
  | nil => have : vs = [] := h; subst this; simp
  | cons x xs ih => obtain ⟨us, ws, rfl, _, h2, h3⟩ := h; simp [ih h3, h2, Nat.add_mul]; omega
theorem rowCells_get {sz : Nat} {xs : List (List AV)} {vs : List Value} (h : rowCells μ sz xs vs) {i : Nat} {x : List AV} (hx : xs[i]? = some x) :
    ∃ us : List Value, repC μ x us ∧ us.length = sz ∧ ∀ j u, us[j]? = some u → vs[i * sz + j]? = some u := by
  induction xs generalizing vs i with
  | nil => simp at hx
  | cons y xs ih =>
    obtain ⟨us, ws, rfl, h1, h2, h3⟩ := h
    cases i with
    | zero =>
      simp at hx; subst hx
      refine ⟨us, h1, h2, fun j u hu => ?_⟩
      rw [List.getElem?_append_left (by simpa using (List.getElem?_eq_some_iff.1 hu).1)]
      simpa using hu
    | succ i =>
      simp at hx
      obtain ⟨us', k1, k2, k3⟩ := ih h3 hx
      refine ⟨us', k1, k2, fun j u hu => ?_⟩
      rw [List.getElem?_append_right (by rw [h2, Nat.add_mul]; omega), h2, show (i + 1) * sz + j - sz = i * sz + j from by rw [Nat.add_mul]; omega]
      exact k3 j u hu

end

section
variable {P : Program} {N : Nat} {w0 : World} {μ0 : Mu} {L : Lent} {μ : Mu} {loc : Nat → Value} {st : St} {a : Act} {w : World}

theorem opnd_sound (hR : Rel N w0 μ0 L μ loc st a w) {t : TypeId} {x : Operand} {sv : SV} (h : opnd P t st x = some sv) : repS μ loc sv (a.eval x) := by
  cases x with
  | tmp i =>
    obtain ⟨v, hv, hr⟩ := hR.env i sv h
    have : a.eval (.tmp i) = v := by simp [Act.eval, hv]
    rw [this]; exact hr
  | const v =>
    simp only [opnd] at h
    cases hc : ofConst P t v with
    | none => simp [hc] at h
    | some y => simp [hc] at h; subst h; exact ofConst_rep (P := P) hc
  | func f => simp [opnd] at h; subst h; show rep μ (.fn f []) _; rw [rep]; exact ⟨[], rfl, repAll_nil⟩
  | global g => simp [opnd] at h

theorem pure_sound (hR : Rel N w0 μ0 L μ loc st a w) {t : TypeId} {x : Operand} {v : AV} (h : (opnd P t st x).bind pure? = some v) : rep μ v (a.eval x) := by
  cases ho : opnd P t st x with
  | none => simp [ho] at h
  | some sv =>
    have := opnd_sound hR ho
    cases sv <;> simp [ho, pure?] at h
    subst h; exact this

theorem eqGuard_int (op : BinOp) (t : TypeId) (X Y : Operand) (k k' : IntKind) (n m : Int) (w : World) : (eqGuard op t X Y (.int k n) (.int k' m)).run P w = .ok () w := by
  unfold eqGuard; split <;> rfl
theorem eqGuard_str (op : BinOp) (t : TypeId) (X Y : Operand) (x y : ByteArray) (w : World) : (eqGuard op t X Y (.string x) (.string y)).run P w = .ok () w := by
  unfold eqGuard; split <;> rfl
theorem eqGuard_bool (op : BinOp) (t : TypeId) (X Y : Operand) (x y : Bool) (w : World) : (eqGuard op t X Y (.bool x) (.bool y)).run P w = .ok () w := by
  unfold eqGuard; split <;> rfl

theorem run_equalIn_bool (d : Nat) {t : TypeId} (hu : P.underlying t = some .bool) (x y : Bool) (w : World) : (Op.equalIn (d + 1) t (.bool x) (.bool y)).run P w = .ok (x == y) w := by
  simp [Op.equalIn, run_underlying hu]

theorem str_eq (a b : List UInt8) : ((⟨a.toArray⟩ : ByteArray) == ⟨b.toArray⟩) = (a == b) := by
  show (a.toArray == b.toArray) = (a == b)
  simp

theorem bin_sound {op : BinOp} {t : TypeId} {x y r : AV} {X Y : Operand} {u v : Value} (h : bin P op t x y = some r) (hx : rep μ x u) (hy : rep μ y v) :
    ∃ z, (do eqGuard op t X Y u v; binOp op t u v).run P w = .ok z w ∧ rep μ r z := by
  cases x with
  | int k n =>
    cases y with
    | int k' m =>
      rw [rep] at hx hy
      subst hx; subst hy
      simp only [Sem.run_bind, eqGuard_int, Result.andThen_ok]
      unfold bin at h
      cases op
      case shl =>
        simp only [shiftBin] at h
        split at h
        · cases h
        · injection h with h; subst h; rename_i hn; exact ⟨_, by simp [binOp, Op.shift, hn]; rfl, by simp [rep]⟩
      case shr =>
        simp only [shiftBin] at h
        split at h
        · cases h
        · injection h with h; subst h; rename_i hn; exact ⟨_, by simp [binOp, Op.shift, hn]; rfl, by simp [rep]⟩
      case quo =>
        simp only [] at h
        split at h
        · rename_i e; subst e
          simp only [intBin] at h
          split at h
          · cases h
          · injection h with h; subst h; rename_i hn; exact ⟨_, by simp [binOp, Op.intDiv, hn]; rfl, by simp [rep]⟩
        · cases h
      case rem =>
        simp only [] at h
        split at h
        · rename_i e; subst e
          simp only [intBin] at h
          split at h
          · cases h
          · injection h with h; subst h; rename_i hn; exact ⟨_, by simp [binOp, Op.intDiv, hn]; rfl, by simp [rep]⟩
        · cases h
      all_goals
        simp only [] at h
        split at h
        · rename_i e; subst e
          simp only [intBin, Option.some.injEq] at h
          subst h
          exact ⟨_, by simp [binOp, Op.intArith, Op.intBits, Op.intCmp]; rfl, by simp [rep]⟩
        · cases h
    | _ => simp [bin] at h
  | str s =>
    cases y with
    | str s' =>
      rw [rep] at hx hy
      subst hx; subst hy
      simp only [Sem.run_bind, eqGuard_str, Result.andThen_ok]
      unfold bin at h
      simp only [strBin] at h
      cases op
      case add =>
        simp only [] at h
        split at h
        · rename_i hl
          injection h with h; subst h
          refine ⟨.string ⟨(s ++ s').toArray⟩, ?_, by simp [rep]⟩
          have hn : ¬ ((((⟨s.toArray⟩ : ByteArray).size + (⟨s'.toArray⟩ : ByteArray).size : Nat) : Int) > IntKind.i64.max) := by
            simp [ByteArray.size, IntKind.max, IntKind.signed, IntKind.bits]; omega
          have e : (⟨s.toArray⟩ : ByteArray) ++ ⟨s'.toArray⟩ = ⟨(s ++ s').toArray⟩ := by
            apply ByteArray.ext; simp
          simp only [binOp, Op.stringOp, hn, if_false]
          rw [e]; rfl
        · cases h
      all_goals first
        | (simp at h; done)
        | (simp only [Option.some.injEq] at h; subst h; exact ⟨_, by simp [binOp, Op.stringOp]; rfl, by simp [rep]⟩)
    | _ => simp [bin] at h
  | bool b =>
    cases y with
    | bool c =>
      rw [rep] at hx hy
      subst hx; subst hy
      simp only [Sem.run_bind, eqGuard_bool, Result.andThen_ok]
      unfold bin at h
      simp only [] at h
      split at h
      · rename_i hu
        injection h with h; subst h
        exact ⟨.bool (b == c), by simp only [binOp]; simp [Op.equal, Op.maxDepth, run_equalIn_bool 9999 hu], by simp [rep]⟩
      · rename_i hu
        injection h with h; subst h
        exact ⟨.bool !(b == c), by simp only [binOp]; simp [Op.equal, Op.maxDepth, run_equalIn_bool 9999 hu], by simp [rep]⟩
      · cases h
    | _ => simp [bin] at h
  | _ => simp [bin] at h

theorem un_sound {op : UnOp} {x r : AV} {u : Value} (h : un op x = some r) (hx : rep μ x u) : ∃ z, (Op.unary op u).run P w = .ok z w ∧ rep μ r z := by
  unfold un at h
  split at h
  · injection h with h; subst h; rw [rep] at hx; subst hx; exact ⟨_, by simp [Op.unary, Op.intArith]; rfl, by simp [rep]⟩
  · injection h with h; subst h; rw [rep] at hx; subst hx; exact ⟨_, by simp [Op.unary]; rfl, by simp [rep]⟩
  · cases h

theorem base_row {n0 : Nat} {id : Nat} {e : TypeId} {sz : Nat} {xs : List (List AV)} (h : obOK n0 L μ loc w id (.row e sz xs)) : baseV (loc id) = loc id := by
  obtain ⟨vs, hown, _⟩ := h
  rcases hown.2 with ⟨e1, _⟩ | ⟨g, cap, cur, e1, _⟩ <;> rw [e1] <;> rfl
theorem base_mp {n0 : Nat} {id : Nat} {k e : TypeId} {ks es : List AV} (h : obOK n0 L μ loc w id (.mp k e ks es)) : baseV (loc id) = loc id := by
  obtain ⟨b, ents, clock, hl, _⟩ := h
  rw [hl]; rfl

theorem cells_of_repRow {sz b : Nat} {xs : List (List AV)} {off : Nat} (h : repRow μ sz b xs off) : ∃ vs, rowCells μ sz xs vs ∧ ∀ j u, vs[j]? = some u → μ b (off + j) = some u := by
  induction xs generalizing off with
  | nil => exact ⟨[], rfl, by simp⟩
  | cons x xs ih =>
    rw [repRow] at h
    obtain ⟨⟨us, h1, h2, h3, h4⟩, h5⟩ := h
    obtain ⟨ws, k1, k2⟩ := ih h5
    refine ⟨us ++ ws, ⟨us, ws, rfl, ⟨h1, h2⟩, h3, k1⟩, fun j u hu => ?_⟩
    by_cases hj : j < us.length
    · rw [List.getElem?_append_left hj] at hu; exact h4 j u hu
    · rw [List.getElem?_append_right (by omega), h3] at hu
      have := k2 _ u hu
      rwa [show off + sz + (j - sz) = off + j from by omega] at this

theorem rowCells_one {sz : Nat} {xs : List (List AV)} {vs : List Value} (h : rowCells μ sz xs vs) : ∀ u ∈ vs, u.oneCell' = true := by
  induction xs generalizing vs with
  | nil => have : vs = [] := h; subst this; simp
  | cons x xs ih =>
    obtain ⟨a, b, rfl, h1, h2, h3⟩ := h
    intro u hu
    rcases List.mem_append.1 hu with hu | hu
    · exact h1.2 u hu
    · exact ih h3 u hu

theorem elems_cells (hR : Rel N w0 μ0 L μ loc st a w) {v : SV} {u : Value} {sz : Nat} {xs : List (List AV)} (hel : elems st v = some (sz, xs)) (hv : repS μ loc v u) :
    ∃ A c, u = .slice A xs.length c ∧ ∃ us, rowCells μ sz xs us ∧ (xs.length = 0 ∨ ∃ ad : Addr, A = some ad ∧ ∀ j x, us[j]? = some x → w.cell? (ad.add j) = some x) := by
  cases v with
  | pv v =>
    cases v with
    | lst s' zs =>
      simp only [elems, Option.some.injEq, Prod.mk.injEq] at hel
      obtain ⟨rfl, rfl⟩ := hel
      simp only [repS, rep] at hv
      obtain ⟨A, c, e1, _, _, h3⟩ := hv
      rcases h3 with h0 | ⟨b, off, rfl, hrow⟩
      · have : zs = [] := List.eq_nil_of_length_eq_zero h0
        subst this
        exact ⟨A, c, e1, [], rfl, .inl rfl⟩
      · obtain ⟨us, k1, k2⟩ := cells_of_repRow hrow
        exact ⟨_, c, e1, us, k1, .inr ⟨_, rfl, fun j u hu => by rw [add_lit]; exact see_cell (hR.pub _ _ _ (k2 j u hu)) (rowCells_one k1 u (List.mem_of_getElem? hu))⟩⟩
    | _ => simp [elems] at hel
  | row id' =>
    simp only [elems] at hel
    split at hel
    · rename_i e' s' zs hob'
      simp only [Option.some.injEq, Prod.mk.injEq] at hel
      obtain ⟨rfl, rfl⟩ := hel
      have hok := hR.obs id' _ hob'
      have hb := base_row hok
      obtain ⟨us, hown', hrc', _⟩ := hok
      have hyv : u = baseV (loc id') := hv
      rw [hb] at hyv
      rcases hown'.2 with ⟨e1, e2⟩ | ⟨g, cap, cur, e1, _⟩
      · exact ⟨none, 0, by rw [hyv, e1, e2], us, hrc', .inl e2⟩
      · exact ⟨_, cap, by rw [hyv, e1], us, hrc', .inr ⟨_, rfl, hown'.cells (g := g) (by rw [e1]; rfl)⟩⟩
    · cases hel
  | _ => simp [elems] at hel

theorem elems_sound (hR : Rel N w0 μ0 L μ loc st a w) {v : SV} {u : Value} {sz : Nat} {xs : List (List AV)} (h : elems st v = some (sz, xs)) (hv : repS μ loc v u) :
    ∃ A c, u = .slice A xs.length c := by
  obtain ⟨A, c, e, _⟩ := elems_cells hR h hv
  exact ⟨A, c, e⟩

theorem run_getObj_mp {r : Nat} {es : Array MapEntry} {clock : Nat} (h : w.heap[r]? = some (.map es clock)) : (getObj r).run P w = .ok (.map es clock) w := by simp [getObj, Sem.run, h]

theorem maps_sound (hR : Rel N w0 μ0 L μ loc st a w) {v : SV} {u : Value} {ks vs : List AV} (h : maps st v = some (ks, vs)) (hv : repS μ loc v u) :
    (u = .map none ∧ ks = [] ∧ vs = []) ∨ ∃ b ents clock, u = .map (some b) ∧ w.heap[b]? = some (.map ents clock) ∧ repAll μ ks (ents.toList.map (·.key)) ∧ repAll μ vs (ents.toList.map (·.val)) := by
  unfold maps at h
  split at h
  · injection h with h; injection h with h1 h2; subst h1; subst h2
    simp only [repS, rep] at hv
    rcases hv with hv | ⟨b, kv, ev, rfl, h1, h2, h3⟩
    · exact .inl hv
    · obtain ⟨ents, clock, hh, rfl, rfl⟩ := see_map (hR.pub _ _ _ h3)
      exact .inr ⟨b, ents, clock, rfl, hh, h1, h2⟩
  · rename_i id
    cases ho : st.ob id with
    | none => simp [ho] at h
    | some o =>
      cases o with
      | box t cs => simp [ho] at h
      | row e s ys => simp [ho] at h
      | mr k e s ks' vs' => simp [ho] at h
      | it s n => simp [ho] at h
      | mp k e ks' vs' =>
        simp only [ho, Option.some.injEq, Prod.mk.injEq] at h
        obtain ⟨rfl, rfl⟩ := h
        have hb := base_mp (hR.obs id _ ho)
        obtain ⟨b, ents, clock, hl, _, hh, _, h1, h2⟩ := hR.obs id _ ho
        simp only [repS] at hv
        exact .inr ⟨b, ents, clock, by rw [hv, hb, hl], hh, h1, h2⟩
  · cases h

/-- the value of an operation: what the slot then holds -/
def Gives (P : Program) (μ : Mu) (loc : Nat → Value) (o : Oper) (sv : SV) (a : Act) (w : World) : Prop :=
  ∃ v, (execOp a.eval o).run P w = .ok (.value v) w ∧ repS μ loc sv v

theorem gives_of {o : Oper} {s : Sem Value} {sv : SV} (he : execOp a.eval o = (do pure (.value (← s)))) {v : Value} (hr : s.run P w = .ok v w) (hs : repS μ loc sv v) : Gives P μ loc o sv a w :=
  ⟨v, by rw [he]; simp [hr], hs⟩

section
variable (hR : Rel N w0 μ0 L μ loc st a w)
include hR

theorem gives_move {o : Oper} {x : Operand} {sv : SV} (ho : o.op = .move x ∨ o.op = .assign x) (h : opnd P o.type st x = some sv) : Gives P μ loc o sv a w := by
  refine ⟨a.eval x, ?_, opnd_sound hR h⟩
  rcases ho with ho | ho <;> · unfold execOp; rw [ho]; rfl

theorem gives_pick {o : Oper} {c x y : Operand} {sv : SV} (ho : o.op = .pick c x y) (h : pval P o st = some sv) : Gives P μ loc o sv a w := by
  unfold pval at h
  rw [ho] at h
  simp only [] at h
  split at h
  · rename_i t hc
    have hcv := opnd_sound hR hc
    simp only [repS, rep] at hcv
    cases t with
    | true =>
      refine ⟨a.eval x, ?_, opnd_sound hR h⟩
      unfold execOp; rw [ho]; simp [hcv, asBool]
    | false =>
      refine ⟨a.eval y, ?_, opnd_sound hR h⟩
      unfold execOp; rw [ho]; simp [hcv, asBool]
  · cases h

theorem gives_bin {o : Oper} {op : BinOp} {t t' : TypeId} {x y : Operand} {sv : SV} (ho : o.op = .binOp op t x y t') (h : pval P o st = some sv) : Gives P μ loc o sv a w := by
  unfold pval at h
  rw [ho] at h
  simp only [] at h
  split at h
  · rename_i u v hu hv
    cases hb : bin P op t u v with
    | none => simp [hb] at h
    | some r =>
      simp [hb] at h; subst h
      obtain ⟨z, hz, hr⟩ := bin_sound (w := w) (X := x) (Y := y) hb (pure_sound hR hu) (pure_sound hR hv)
      exact gives_of (by unfold execOp; rw [ho]) hz hr
  · cases h

theorem gives_un {o : Oper} {op : UnOp} {t : TypeId} {x : Operand} {sv : SV} (ho : o.op = .unOp op t x) (h : pval P o st = some sv) : Gives P μ loc o sv a w := by
  unfold pval at h
  rw [ho] at h
  simp only [] at h
  split at h
  · rename_i u hu
    cases hb : un op u with
    | none => simp [hb] at h
    | some r =>
      simp [hb] at h; subst h
      obtain ⟨z, hz, hr⟩ := un_sound (P := P) (w := w) hb (pure_sound hR hu)
      exact gives_of (by unfold execOp; rw [ho]) hz hr
  · cases h

omit hR in
theorem bytes_cells {xs : List (List AV)} {bs : List UInt8} {us : List Value} (h : bytesOf xs = some bs) (hrc : rowCells μ 1 xs us) : ∃ ns : List Int, us = ns.map (Value.int .u8) ∧ bs = ns.map fun n => UInt8.ofNat n.toNat := by
  induction xs generalizing bs us with
  | nil => simp only [bytesOf, Option.some.injEq] at h; subst h; have : us = [] := hrc; subst this; exact ⟨[], rfl, rfl⟩
  | cons x xs ih =>
    obtain ⟨u1, ws, rfl, h1, h2, h3⟩ := hrc
    unfold bytesOf at h
    split at h
    · rename_i h0; cases h0
    · rename_i n l h0
      injection h0 with e1 e2; subst e1; subst e2
      cases hb : bytesOf xs with
      | none => simp [hb] at h
      | some bs' =>
        simp [hb] at h; subst h
        obtain ⟨ns, rfl, rfl⟩ := ih hb h3
        have h11 := h1.1
        rw [repAll] at h11
        obtain ⟨y, ys, rfl, hy, hys⟩ := h11
        rw [repAll] at hys; subst hys
        rw [rep] at hy; subst hy
        exact ⟨n :: ns, by simp, by simp⟩
    · cases h
omit hR in
theorem foldl_push (ns : List Int) : ns.foldl (fun (r : ByteArray) n => r.push (UInt8.ofNat n.toNat)) ByteArray.empty = ⟨(ns.map fun n => UInt8.ofNat n.toNat).toArray⟩ := by
  have key : ∀ (ns : List Int) (s : ByteArray), ns.foldl (fun (r : ByteArray) n => r.push (UInt8.ofNat n.toNat)) s = ⟨s.data ++ (ns.map fun n => UInt8.ofNat n.toNat).toArray⟩ := by
    intro ns
    induction ns with
    | nil => intro s; simp
    | cons n ns ih => intro s; simp only [List.foldl_cons, ih]; simp [ByteArray.push]
  rw [key]; simp

theorem gives_convert {o : Oper} {t t' : TypeId} {x : Operand} {sv : SV} (ho : o.op = .convert t t' x) (h : pval P o st = some sv) : Gives P μ loc o sv a w := by
  unfold pval at h
  rw [ho] at h
  simp only [] at h
  split at h
  · rename_i e hu hd
    split at h
    · rename_i xs he hsz hx
      cases hb : bytesOf xs with
      | none => simp [hb] at h
      | some bs =>
        simp [hb] at h; subst h
        obtain ⟨sx, hsx, hel⟩ := Option.bind_eq_some_iff.1 hx
        obtain ⟨A, c, hxv, us, hrc, hsrc⟩ := elems_cells hR hel (opnd_sound hR hsx)
        obtain ⟨ns, hns, hbs⟩ := bytes_cells hb hrc
        have hul := rowCells_length hrc
        refine gives_of (s := convert t t' (a.eval x)) (by unfold execOp; rw [ho]) (v := .string ⟨bs.toArray⟩) ?_ (by simp [repS, rep])
        have e1 : ∀ v : Value, (∃ A n c, v = .slice A n c) → (convert t t' v).run P w = (Conv.bytesToString v).run P w := by
          rintro v ⟨A, n, c, rfl⟩
          cases A <;> simp [convert, run_underlying hu, run_underlying hd, run_underlying he]
        rw [hxv, e1 _ ⟨_, _, _, rfl⟩]
        rcases hsrc with h0 | ⟨ad, rfl, hc⟩
        · have : us = [] := List.eq_nil_of_length_eq_zero (by rw [hul, h0])
          subst this
          have hn0 : ns = [] := by cases ns with
            | nil => rfl
            | cons => simp at hns
          subst hn0
          have hbs : bs = [] := hbs
          subst hbs
          rw [h0]
          cases A with
          | none => rfl
          | some ad =>
            have := run_bytesToString (P := P) w ad 0 c [] (by simpa using run_loadCells_list (P := P) w ad [] (by simp))
            rw [this]; rfl
        · have hl := run_loadCells_list (P := P) w ad us hc
          have hlen : us.length = xs.length := by rw [hul]; simp
          rw [hlen, hns] at hl
          rw [run_bytesToString w ad xs.length c ns hl, hbs, foldl_push]
    · cases h
  · rename_i d k hu hd
    split at h
    · rename_i k' n hx
      injection h with h; subst h
      have hv := pure_sound hR hx
      rw [rep] at hv
      refine gives_of (s := convert t t' (a.eval x)) (by unfold execOp; rw [ho]) (v := .int k (k.wrap n)) ?_ (by simp [repS, rep])
      rw [hv]
      simp [convert, run_underlying hu, run_underlying hd, Conv.intToInt]
    · cases h
  · rename_i d hne hu hd
    split at h
    · rename_i s hx
      injection h with h; subst h
      have hv := pure_sound hR hx
      rw [rep] at hv
      refine gives_of (s := convert t t' (a.eval x)) (by unfold execOp; rw [ho]) (v := .string ⟨s.toArray⟩) ?_ (by simp [repS, rep])
      rw [hv]
      simp [convert, run_underlying hu, run_underlying hd]
    · cases h
  · cases h

theorem minMaxAll_sound {b : Bool} {acc r : AV} {l : List Operand} {u : Value} (h : minMaxAll P st b acc l = some r) (hu : rep μ acc u) :
    ∃ v, ((l.map a.eval).foldlM (if b then Builtin.max2 else Builtin.min2) u).run P w = .ok v w ∧ rep μ r v := by
  induction l generalizing acc u with
  | nil => simp only [minMaxAll, Option.some.injEq] at h; subst h; exact ⟨u, rfl, hu⟩
  | cons x l ih =>
    simp only [minMaxAll] at h
    split at h
    · rename_i v hv
      split at h
      · rename_i r' hr'
        have hx := pure_sound hR hv
        unfold minMax at hr'
        split at hr'
        · rename_i k n k' m
          split at hr'
          · rename_i e; subst e
            injection hr' with hr'; subst hr'
            rw [rep] at hu hx
            subst hu
            obtain ⟨z, hz, hrz⟩ := ih h (u := .int k (if b = true then if m > n then m else n else if m < n then m else n)) (by simp [rep])
            refine ⟨z, ?_, hrz⟩
            rw [← hz]
            simp only [List.map_cons, List.foldlM_cons, Sem.run_bind, hx]
            cases b <;> simp [Builtin.max2, Builtin.min2]
          · cases hr'
        · rename_i s1 s2
          injection hr' with hr'; subst hr'
          rw [rep] at hu hx
          subst hu
          obtain ⟨z, hz, hrz⟩ := ih h (u := .string ⟨(bif b then (bif !(Op.bytesLess s1 s2) then s1 else s2) else (bif Op.bytesLess s1 s2 || s1 == s2 then s1 else s2)).toArray⟩) (by simp [rep])
          refine ⟨z, ?_, hrz⟩
          rw [← hz]
          simp only [List.map_cons, List.foldlM_cons, Sem.run_bind, hx]
          cases b with
          | true =>
            cases hc : Op.bytesLess s1 s2 <;> simp [Builtin.max2, Op.stringOp, asBool, hc]
          | false =>
            cases hc : Op.bytesLess s1 s2 <;> cases hq : s1 == s2 <;> simp_all [Builtin.min2, Op.stringOp, asBool, str_eq]
        · cases hr'
      · cases h
    · cases h

theorem gives_pcall {o : Oper} {c : Call} {sv : SV} (ho : o.op = .call c) (h : pcall P c st = some sv) : Gives P μ loc o sv a w := by
  obtain ⟨callee, ⟨args⟩, ⟨argTypes⟩⟩ := c
  unfold pcall at h
  simp only [] at h
  split at h
  · rename_i x
    split at h
    · rename_i t
      split at h
      · rename_i s hu hx
        injection h with h; subst h
        have hv := opnd_sound hR hx
        simp only [repS, rep] at hv
        refine ⟨.int .i64 s.length, ?_, by simp [repS, rep]⟩
        have hsz : (⟨s.toArray⟩ : ByteArray).size = s.length := by simp [ByteArray.size]
        unfold execOp; rw [ho]
        simp [resolve, invoke, builtin, Builtin.len_, run_underlying hu, hv, goInt, hsz]
      · rename_i e id sz lo hi hu hx
        injection h with h; subst h
        obtain ⟨A, n, c, A', c', _, hlo, hhi, _, hv, _⟩ := opnd_sound hR hx
        refine ⟨.int .i64 ((hi - lo : Nat) : Int), ?_, by simp [repS, rep]⟩
        unfold execOp; rw [ho]
        simp [resolve, invoke, builtin, Builtin.len_, run_underlying hu, hv, goInt]
      · rename_i e v _ hu hx
        cases he : elems st v with
        | none => simp [he] at h
        | some y =>
          obtain ⟨sz, xs⟩ := y
          simp [he] at h; subst h
          obtain ⟨A, c, hv⟩ := elems_sound hR he (opnd_sound hR hx)
          refine ⟨.int .i64 xs.length, ?_, by simp [repS, rep]⟩
          unfold execOp; rw [ho]
          simp [resolve, invoke, builtin, Builtin.len_, run_underlying hu, hv, goInt]
      · rename_i kt et v hu hx
        cases he : maps st v with
        | none => simp [he] at h
        | some y =>
          obtain ⟨ks, vs⟩ := y
          simp [he] at h; subst h
          refine ⟨.int .i64 ks.length, ?_, by simp [repS, rep]⟩
          unfold execOp; rw [ho]
          rcases maps_sound hR he (opnd_sound hR hx) with ⟨hv, rfl, rfl⟩ | ⟨b, ents, clock, hv, hh, h1, h2⟩
          · simp [resolve, invoke, builtin, Builtin.len_, run_underlying hu, hv, goInt]
          · have hlen : ents.size = ks.length := by simpa using repAll_length h1
            simp [resolve, invoke, builtin, Builtin.len_, run_underlying hu, hv, goInt, run_getObj_mp hh, hlen]
      · cases h
    · cases h
  · rename_i x l
    split at h
    · rename_i v hv
      cases hm : minMaxAll P st true v l with
      | none => simp [hm] at h
      | some r =>
        simp [hm] at h; subst h
        obtain ⟨z, hz, hrz⟩ := minMaxAll_sound hR hm (pure_sound hR hv)
        refine ⟨z, ?_, hrz⟩
        unfold execOp; rw [ho]
        simp only [if_true] at hz
        simp [resolve, invoke, builtin, Builtin.max_, hz]
    · cases h
  · rename_i x l
    split at h
    · rename_i v hv
      cases hm : minMaxAll P st false v l with
      | none => simp [hm] at h
      | some r =>
        simp [hm] at h; subst h
        obtain ⟨z, hz, hrz⟩ := minMaxAll_sound hR hm (pure_sound hR hv)
        refine ⟨z, ?_, hrz⟩
        unfold execOp; rw [ho]
        simp at hz
        simp [resolve, invoke, builtin, Builtin.min_, hz]
    · cases h
  · cases h

omit hR in
theorem fieldOf_run {t : TypeId} {f : Nat} {fd : Field} (h : fieldOf P t f = some fd) : ∃ fs, P.underlying t = some (.struct fs) ∧ fs[f]? = some fd := by
  unfold fieldOf at h
  split at h
  · rename_i fs hu; exact ⟨fs, hu, h⟩
  · cases h

theorem gives_fieldAddr {o : Oper} {t : TypeId} {x : Operand} {f : Nat} {sv : SV} (ho : o.op = .fieldAddr t x f) (h : pval P o st = some sv) : Gives P μ loc o sv a w := by
  unfold pval at h
  rw [ho] at h
  simp only [] at h
  split at h
  · rename_i fd hf
    obtain ⟨fs, hu, hfs⟩ := fieldOf_run hf
    split at h
    · cases h
    · rename_i n hn0 hs
      have hn : n ≠ 0 := fun e => hn0 e
      have run : ∀ ad : Addr, (Instr.fieldAt t (.pointer (some ad)) f).run P w = .ok (.pointer (some (ad.add fd.offset))) w := fun ad => by
        simp [Instr.fieldAt, run_underlying hu, hfs, Instr.sureAddr, fieldPlace, sizeT_run hs, hn]
      split at h
      · rename_i id off hx
        injection h with h; subst h
        obtain ⟨b, hl, hv⟩ := opnd_sound hR hx
        refine gives_of (s := Instr.fieldAt t (a.eval x) f) (by unfold execOp; rw [ho]) (by rw [hv]; exact run _) ?_
        exact ⟨b, hl, by rw [add_lit]⟩
      · rename_i cs hx
        injection h with h; subst h
        obtain ⟨b, off, vs, hv, hc, hm⟩ := opnd_sound hR hx
        refine gives_of (s := Instr.fieldAt t (a.eval x) f) (by unfold execOp; rw [ho]) (by rw [hv]; exact run _) ?_
        refine ⟨b, off + fd.offset, vs.drop fd.offset, by rw [add_lit], hc.drop _, fun j v hj => ?_⟩
        rw [List.getElem?_drop] at hj
        rw [Nat.add_assoc]; exact hm _ _ hj
      · rename_i cs hx
        injection h with h; subst h
        have hx' := opnd_sound hR hx
        simp only [repS, rep] at hx'
        obtain ⟨b, off, vs, hv, hc1, hc2, hm⟩ := hx'
        have hc : repC μ cs vs := ⟨hc1, hc2⟩
        refine gives_of (s := Instr.fieldAt t (a.eval x) f) (by unfold execOp; rw [ho]) (by rw [hv]; exact run _) ?_
        refine ⟨b, off + fd.offset, vs.drop fd.offset, by rw [add_lit], hc.drop _, fun j v hj => ?_⟩
        rw [List.getElem?_drop] at hj
        rw [Nat.add_assoc]; exact hm _ _ hj
      · rename_i id sz i off hx
        injection h with h; subst h
        obtain ⟨g, n', c, hl, hv⟩ := opnd_sound hR hx
        refine gives_of (s := Instr.fieldAt t (a.eval x) f) (by unfold execOp; rw [ho]) (by rw [hv]; exact run _) ?_
        exact ⟨g, n', c, hl, by rw [add_lit, Nat.add_assoc]⟩
      · cases h
    · cases h
  · cases h

theorem gives_field {o : Oper} {t : TypeId} {x : Operand} {f : Nat} {sv : SV} (ho : o.op = .field t x f) (h : pval P o st = some sv) : Gives P μ loc o sv a w := by
  unfold pval at h
  rw [ho] at h
  simp only [] at h
  split at h
  · rename_i fd cs hf hx
    obtain ⟨fs, hu, hfs⟩ := fieldOf_run hf
    cases hT : takeCells P fd.type (cs.drop fd.offset) with
    | none => simp [hT] at h
    | some y =>
      simp [hT] at h; subst h
      have hv := pure_sound hR hx
      rw [rep] at hv
      obtain ⟨vs, hv, h1, h2⟩ := hv
      obtain ⟨v, hr, hrep⟩ := run_part (w := w) fd.offset hT ⟨h1, h2⟩
      refine gives_of (s := Instr.field t (a.eval x) f) (by unfold execOp; rw [ho]) (v := v) ?_ hrep
      rw [hv]
      simp [Instr.field, run_underlying hu, hfs, asAgg, hr]
  · cases h

theorem gives_indexAddr {o : Oper} {t : TypeId} {x ix : Operand} {sv : SV} (ho : o.op = .indexAddr t x ix) (h : pval P o st = some sv) : Gives P μ loc o sv a w := by
  unfold pval at h
  rw [ho] at h
  simp only [] at h
  split at h
  · rename_i n e hu
    unfold idxArr at h
    split at h
    · rename_i s id off k i hsz hx hi
      split at h
      · rename_i hc
        obtain ⟨h0, hlt, hpos⟩ := hc
        injection h with h; subst h
        have hiv := opnd_sound hR hi
        simp only [repS, rep] at hiv
        obtain ⟨b, hl, hv⟩ := opnd_sound hR hx
        refine gives_of (s := Instr.indexAt t (a.eval x) (a.eval ix)) (by unfold execOp; rw [ho]) (v := .pointer (some ((⟨b, off, none⟩ : Addr).add (i.toNat * s)))) ?_ ?_
        · rw [hv, hiv]
          have := sizeT_run hsz w
          simp [Instr.indexAt, asIntOf, run_underlying hu, Instr.sureAddr, h0, hlt, this]
        · exact ⟨b, hl, by rw [add_lit]⟩
      · cases h
    · cases h
  unfold idxSl at h
  split at h
  · rename_i e s sz xs k i hs hx hi
    obtain ⟨hu, inf, hinf, hsz⟩ := isSlice_parts hs
    split at h
    · rename_i hc
      obtain ⟨rfl, h0⟩ := hc
      cases hg : xs[i.toNat]? with
      | none => simp [hg] at h
      | some y =>
        simp [hg] at h; subst h
        have hlt : i.toNat < xs.length := (List.getElem?_eq_some_iff.1 hg).1
        have hv := opnd_sound hR hx
        have hiv := opnd_sound hR hi
        simp only [repS, rep] at hv hiv
        obtain ⟨A, c, hv, hlc, hcm, hrow⟩ := hv
        rcases hrow with hz | ⟨b, off, rfl, hrow⟩
        · omega
        · obtain ⟨vs, hc1, hc2, hc3⟩ := repRow_get hrow hg
          refine gives_of (s := Instr.indexAt t (a.eval x) (a.eval ix)) (by unfold execOp; rw [ho]) (v := .pointer (some ((⟨b, off, none⟩ : Addr).add (i.toNat * s)))) ?_ ?_
          · rw [hv, hiv]
            have hlt' : i < (xs.length : Int) := by omega
            simp [Instr.indexAt, asIntOf, run_underlying hu, h0, hlt', sizeOf, typeInfo, hinf, hsz]
          · refine ⟨b, off + i.toNat * s, vs, by rw [add_lit], hc1, hc3⟩
    · cases h
  · rename_i e s id k i hs hx hi
    obtain ⟨hu, inf, hinf, hsz⟩ := isSlice_parts hs
    split at h
    · rename_i e' sz xs hob
      split at h
      · rename_i hc
        obtain ⟨rfl, h0, hlt⟩ := hc
        injection h with h; subst h
        have hv := opnd_sound hR hx
        have hiv := opnd_sound hR hi
        simp only [repS, rep] at hv hiv
        rw [base_row (hR.obs id _ hob)] at hv
        obtain ⟨vs, hown, hrc, _⟩ := hR.obs id _ hob
        obtain ⟨g, cap, hloc, _⟩ : ∃ g cap, loc id = .slice (some ⟨g, 0, none⟩) xs.length cap ∧ True := by
          rcases hown.2 with ⟨_, e2⟩ | ⟨g, cap, cur, e1, _⟩
          · omega
          · exact ⟨g, cap, e1, trivial⟩
        refine gives_of (s := Instr.indexAt t (a.eval x) (a.eval ix)) (by unfold execOp; rw [ho]) (v := .pointer (some ((⟨g, 0, none⟩ : Addr).add (i.toNat * s)))) ?_ ?_
        · rw [hv, hiv, hloc]
          have hlt' : i < (xs.length : Int) := by omega
          simp [Instr.indexAt, asIntOf, run_underlying hu, h0, hlt', sizeOf, typeInfo, hinf, hsz]
        · exact ⟨g, _, cap, hloc, by rw [add_lit]; simp⟩
      · cases h
    · cases h
  · rename_i e s id sz lo hi' k i hs hx hi
    obtain ⟨hu, inf, hinf, hsz⟩ := isSlice_parts hs
    split at h
    · rename_i hc
      obtain ⟨rfl, h0, hlt⟩ := hc
      injection h with h; subst h
      have hiv := opnd_sound hR hi
      simp only [repS, rep] at hiv
      obtain ⟨A, n, c, A', c', hloc, hlo, hhi, hc', hv, _, hg⟩ := opnd_sound hR hx
      obtain ⟨g, rfl, rfl⟩ := hg (by omega)
      refine gives_of (s := Instr.indexAt t (a.eval x) (a.eval ix)) (by unfold execOp; rw [ho]) (v := .pointer (some ((⟨g, lo * s, none⟩ : Addr).add (i.toNat * s)))) ?_ ?_
      · rw [hv, hiv]
        have hlt' : i < ((hi' - lo : Nat) : Int) := by omega
        simp only [Instr.indexAt, asIntOf, Sem.run_bind, run_underlying hu, Sem.run_pure, Result.andThen_ok]
        simp [h0, hlt', sizeOf, typeInfo, hinf, hsz]
      · exact ⟨g, _, c, hloc, by rw [add_lit]; simp [Nat.add_mul]⟩
    · cases h
  · cases h

theorem gives_index {o : Oper} {t : TypeId} {x ix : Operand} {sv : SV} (ho : o.op = .index t x ix) (h : pval P o st = some sv) : Gives P μ loc o sv a w := by
  unfold pval at h
  rw [ho] at h
  simp only [] at h
  split at h
  · rename_i s k i hu hx hi
    split at h
    · rename_i h0
      cases hg : s[i.toNat]? with
      | none => simp [hg] at h
      | some b =>
        simp [hg] at h; subst h
        have hv := opnd_sound hR hx
        have hiv := opnd_sound hR hi
        simp only [repS, rep] at hv hiv
        refine gives_of (s := Instr.index t (a.eval x) (a.eval ix)) (by unfold execOp; rw [ho]) (v := .int .u8 b.toNat) ?_ (by simp [repS, rep])
        rw [hv, hiv]
        have hlt := (List.getElem?_eq_some_iff.1 hg)
        obtain ⟨hl, hb⟩ := hlt
        have : (⟨s.toArray⟩ : ByteArray)[i.toNat]? = some b := by
          have hl' : i.toNat < (⟨s.toArray⟩ : ByteArray).size := by simpa [ByteArray.size] using hl
          rw [getElem?_pos (⟨s.toArray⟩ : ByteArray) i.toNat hl']
          show some s.toArray[i.toNat] = some b
          simp [hb]
        simp [Instr.index, asIntOf, run_underlying hu, h0, this]
    · cases h
  · cases h

theorem gives_load {o : Oper} {t : TypeId} {x : Operand} {sv : SV} (ho : o.op = .load t x) (h : pval P o st = some sv) : Gives P μ loc o sv a w := by
  have start : ∀ (ad : Addr), a.eval x = .pointer (some ad) → ∀ v, (loadVar t ad).run P w = .ok v w → ∀ sv, repS μ loc sv v → Gives P μ loc o sv a w := fun ad hv v hr sv hs =>
    gives_of (s := Instr.loadAt t (a.eval x)) (by unfold execOp; rw [ho]) (v := v) (by rw [hv]; simp [Instr.loadAt, Instr.sureAddr, hr]) hs
  unfold pval at h
  rw [ho] at h
  simp only [] at h
  split at h
  · rename_i cs hx
    cases hT : takeCells P t cs with
    | none => simp [hT] at h
    | some y =>
      simp [hT] at h; subst h
      obtain ⟨b, off, vs, hv, hc, hm⟩ := opnd_sound hR hx
      obtain ⟨v, hr, hrep⟩ := run_loadVar_cells (w := w) (ad := ⟨b, off, none⟩) hT hc (fun j u hu => by rw [add_lit]; exact see_cell (hR.pub _ _ _ (hm j u hu)) (hc.2 u (List.mem_of_getElem? hu)))
      exact start _ hv v hr _ hrep
  · rename_i cs hx
    cases hT : takeCells P t cs with
    | none => simp [hT] at h
    | some y =>
      simp [hT] at h; subst h
      have hx' := opnd_sound hR hx
      simp only [repS, rep] at hx'
      obtain ⟨b, off, vs, hv, hc1, hc2, hm⟩ := hx'
      have hc : repC μ cs vs := ⟨hc1, hc2⟩
      obtain ⟨v, hr, hrep⟩ := run_loadVar_cells (w := w) (ad := ⟨b, off, none⟩) hT hc (fun j u hu => by rw [add_lit]; exact see_cell (hR.pub _ _ _ (hm j u hu)) (hc.2 u (List.mem_of_getElem? hu)))
      exact start _ hv v hr _ hrep
  · rename_i id sz i off hx
    split at h
    · rename_i e sz' xs hob
      split at h
      · rename_i hsz; subst hsz
        cases hg : xs[i]? with
        | none => simp [hg] at h
        | some c =>
          cases hT : takeCells P t (c.drop off) with
          | none => simp [hg, hT] at h
          | some y =>
            simp [hg, hT] at h; subst h
            obtain ⟨g, n, cp, hl, hv⟩ := opnd_sound hR hx
            obtain ⟨vs, hown, hrc, _⟩ := hR.obs id _ hob
            obtain ⟨us, hc1, hc2, hc3⟩ := rowCells_get hrc hg
            have hcells := hown.cells (g := g) (by rw [hl]; rfl)
            obtain ⟨v, hr, hrep⟩ := run_loadVar_cells (w := w) (ad := ⟨g, i * sz + off, none⟩) hT (hc1.drop off) (fun j u hu => by
              rw [List.getElem?_drop] at hu
              have := hcells _ _ (hc3 _ _ hu)
              rw [add_lit] at this ⊢
              rwa [show 0 + (i * sz + (off + j)) = i * sz + off + j from by omega] at this)
            exact start _ hv v hr _ hrep
      · cases h
    · cases h
  · rename_i id off hx
    obtain ⟨b, hl, hv⟩ := opnd_sound hR hx
    split at h
    · rename_i bt cells hob
      obtain ⟨b', vs, hl', hnF, hheap, hmu, hss, h1⟩ := hR.obs id _ hob
      rw [hl] at hl'
      simp only [Value.pointer.injEq, Option.some.injEq, Addr.mk.injEq, and_true] at hl'
      subst hl'
      have hcell : ∀ j, w.cell? ⟨b, j, none⟩ = vs[j]? := fun j => by rw [cell_of_row w b j vs.toArray bt (0, 0) hheap]; simp
      split at h
      · rename_i hagg
        split at h
        · obtain ⟨v, hv', hr⟩ := repSs_get hss h
          refine start _ hv v ?_ _ hr
          simp [loadVar, aggT_run hagg, hcell, hv']
        · cases h
      · rename_i hagg
        split at h
        · rename_i n hsz
          split at h
          · rename_i hle
            cases hp : allPure ((cells.drop off).take n) with
            | none => simp [hp] at h
            | some cs =>
              simp [hp] at h; subst h
              have hss' := repSs_take (repSs_drop hss off) n
              have hlen := repSs_length hss
              have hl2 : ((vs.drop off).take n).length = n := by simp; omega
              have hr := run_loadCells_list (P := P) w ⟨b, off, none⟩ ((vs.drop off).take n) (fun j v hj => by
                rw [add_lit, hcell]
                rw [List.getElem?_take] at hj
                split at hj
                · rwa [List.getElem?_drop] at hj
                · cases hj)
              rw [hl2] at hr
              refine start _ hv (.agg ((vs.drop off).take n).toArray) ?_ _ ?_
              · simp [loadVar, aggT_run hagg, sizeT_run hsz, hr]
              · show rep μ (.agg cs) _
                rw [rep]
                exact ⟨_, rfl, allPure_rep hp hss', fun u hu => h1 u (List.mem_of_mem_drop (List.mem_of_mem_take hu))⟩
          · cases h
        · cases h
      · cases h
    · cases h
  · cases h

theorem boundOf_run {lo : Option Operand} {lv : Option SV} {d y r : Nat} (hl : optOpnd P st lo = some lv) (h : boundOf lv d y = some r) (code : BoundsCode) :
    (lo = none ∧ r = d) ∨ ∃ x, lo = some x ∧ (Instr.sliceBound (a.eval x) y code).run P w = .ok r w ∧ r ≤ y := by
  cases lo with
  | none =>
    simp only [optOpnd, Option.some.injEq] at hl; subst hl
    simp only [boundOf, Option.some.injEq] at h
    exact .inl ⟨rfl, h.symm⟩
  | some x =>
    simp only [optOpnd] at hl
    cases hx : opnd P 0 st x with
    | none => simp [hx] at hl
    | some sv =>
      simp [hx] at hl; subst hl
      have hv := opnd_sound hR hx
      cases sv with
      | pv v =>
        cases v with
        | int k i =>
          simp only [boundOf] at h
          split at h
          · rename_i hc
            injection h with h; subst h
            simp only [repS, rep] at hv
            refine .inr ⟨x, rfl, ?_, by omega⟩
            rw [hv]
            simp [Instr.sliceBound, asIntOf, hc]
          · cases h
        | _ => simp [boundOf] at h
      | _ => simp [boundOf] at h

omit hR in
theorem extract_take_drop (s : List UInt8) (l h : Nat) (hl : l ≤ h) (hh : h ≤ s.length) : (⟨s.toArray⟩ : ByteArray).extract l h = ⟨((s.take h).drop l).toArray⟩ := by
  apply ByteArray.ext
  simp [ByteArray.data_extract, List.extract_eq_take_drop, List.drop_take]

/-- cutting a slice -/
theorem run_cut {t e : TypeId} {s : Nat} {x : Operand} {lo hi : Option Operand} {lv hv : Option SV} {A : Option Addr} {m c hh l : Nat} (hu : P.underlying t = some (.slice e)) (hsz : sizeT P e = some s) (hxv : a.eval x = .slice A m c) (hlc : m ≤ c)
    (hlo : optOpnd P st lo = some lv) (hhi : optOpnd P st hi = some hv) (hbh : boundOf hv m m = some hh) (hbl : boundOf lv 0 hh = some l) :
    (Instr.sliceAt t (a.eval x) (lo.map a.eval) (hi.map a.eval) none).run P w = .ok (.slice (if c = l then A else A.map (·.add (l * s))) (hh - l) (c - l)) w := by
  obtain ⟨inf, hinf, hs⟩ : ∃ i, P.info? e = some i ∧ i.size = s := by
    unfold sizeT at hsz
    cases hi : P.info? e with
    | none => simp [hi] at hsz
    | some i => exact ⟨i, rfl, by simpa [hi] using hsz⟩
  have hcap : hh ≤ m := by
    rcases boundOf_run hR hhi hbh .sliceAcap with ⟨_, e⟩ | ⟨_, _, _, e⟩ <;> omega
  have hlh : l ≤ hh := by
    rcases boundOf_run hR hlo hbl .sliceB with ⟨_, e⟩ | ⟨_, _, _, e⟩ <;> omega
  have hhi' : hi = none ∧ hh = m ∨ ∃ y, hi = some y ∧ (Instr.sliceBound (a.eval y) c .sliceAcap).run P w = .ok hh w := by
    cases hi with
    | none =>
      rcases boundOf_run hR hhi hbh .sliceAcap with ⟨_, e⟩ | ⟨_, e, _⟩
      · exact .inl ⟨rfl, e⟩
      · cases e
    | some y =>
      refine .inr ⟨y, rfl, ?_⟩
      simp only [optOpnd] at hhi
      cases hy : opnd P 0 st y with
      | none => simp [hy] at hhi
      | some sv' =>
        simp [hy] at hhi; subst hhi
        have hyv := opnd_sound hR hy
        cases sv' with
        | pv v =>
          cases v with
          | int k i =>
            simp only [boundOf] at hbh
            split at hbh
            · rename_i hc
              injection hbh with hbh; subst hbh
              simp only [repS, rep] at hyv
              rw [hyv]
              have : i ≤ (c : Int) := by omega
              simp [Instr.sliceBound, asIntOf, hc.1, this]
            · cases hbh
          | _ => simp [boundOf] at hbh
        | _ => simp [boundOf] at hbh
  rw [hxv]
  rcases hhi' with ⟨rfl, rfl⟩ | ⟨xh, rfl, rh⟩ <;>
  rcases boundOf_run hR hlo hbl .sliceB with ⟨rfl, rfl⟩ | ⟨xl, rfl, rl, _⟩ <;>
  simp [Instr.sliceAt, Instr.slice, run_underlying hu, Instr.sliceBounds, sizeOf, typeInfo, hinf, *]

theorem bounds_le {lo hi : Option Operand} {lv hv : Option SV} {m hh l : Nat} (hlo : optOpnd P st lo = some lv) (hhi : optOpnd P st hi = some hv) (hbh : boundOf hv m m = some hh) (hbl : boundOf lv 0 hh = some l) : hh ≤ m ∧ l ≤ hh := by
  constructor
  · rcases boundOf_run hR hhi hbh .sliceAcap with ⟨_, e⟩ | ⟨_, _, _, e⟩ <;> omega
  · rcases boundOf_run hR hlo hbl .sliceB with ⟨_, e⟩ | ⟨_, _, _, e⟩ <;> omega

theorem gives_slice {o : Oper} {t : TypeId} {x : Operand} {lo hi : Option Operand} {sv : SV} (ho : o.op = .slice t x lo hi none) (h : pval P o st = some sv) : Gives P μ loc o sv a w := by
  unfold pval at h
  rw [ho] at h
  simp only [] at h
  split at h
  · rename_i s lv hv hu hx hlo hhi
    split at h
    · rename_i hh hbh
      cases hbl : boundOf lv 0 hh with
      | none => simp [hbl] at h
      | some l =>
        simp [hbl] at h; subst h
        have hxv := opnd_sound hR hx
        simp only [repS, rep] at hxv
        have hcap : hh ≤ s.length := by
          rcases boundOf_run hR hhi hbh .sliceAlen with ⟨_, e⟩ | ⟨_, _, _, e⟩ <;> omega
        have hlh : l ≤ hh := by
          rcases boundOf_run hR hlo hbl .sliceB with ⟨_, e⟩ | ⟨_, _, _, e⟩ <;> omega
        refine gives_of (s := Instr.sliceAt t (a.eval x) (lo.map a.eval) (hi.map a.eval) none) (by unfold execOp; rw [ho]; rfl) (v := .string ⟨((s.take hh).drop l).toArray⟩) ?_ (by simp [repS, rep])
        rw [hxv]
        have hsz : (⟨s.toArray⟩ : ByteArray).size = s.length := by simp [ByteArray.size]
        have hex := extract_take_drop s l hh hlh hcap
        rcases boundOf_run hR hhi hbh .sliceAlen with ⟨rfl, rfl⟩ | ⟨xh, rfl, rh, _⟩ <;>
        rcases boundOf_run hR hlo hbl .sliceB with ⟨rfl, rfl⟩ | ⟨xl, rfl, rl, _⟩ <;>
        simp_all [Instr.sliceAt, Instr.slice, run_underlying hu, Instr.sliceBounds]
    · cases h
  · rename_i e sz xs lv hv hu hx hlo hhi
    split at h
    · rename_i e' s hh hs hbh
      obtain ⟨hu', inf, hinf, hsz⟩ := isSlice_parts hs
      rw [hu] at hu'
      injection hu' with hu'; injection hu' with hu'; subst hu'
      split at h
      · rename_i e; subst e
        cases hbl : boundOf lv 0 hh with
        | none => simp [hbl] at h
        | some l =>
          simp [hbl] at h; subst h
          have hxv := opnd_sound hR hx
          simp only [repS, rep] at hxv
          obtain ⟨A, c, hxv, hlc, hcm, hrow⟩ := hxv
          have hcap : hh ≤ xs.length := by
            rcases boundOf_run hR hhi hbh .sliceAcap with ⟨_, e⟩ | ⟨_, _, _, e⟩ <;> omega
          have hlh : l ≤ hh := by
            rcases boundOf_run hR hlo hbl .sliceB with ⟨_, e⟩ | ⟨_, _, _, e⟩ <;> omega
          refine gives_of (s := Instr.sliceAt t (a.eval x) (lo.map a.eval) (hi.map a.eval) none) (by unfold execOp; rw [ho]; rfl)
            (v := .slice (if c = l then A else A.map (·.add (l * s))) (hh - l) (c - l)) ?_ ?_
          · exact run_cut hR hu (by rw [sizeT, hinf]; simp [hsz]) hxv hlc hlo hhi hbh hbl
          · show rep μ (.lst s ((xs.take hh).drop l)) _
            rw [rep]
            have hlen : ((xs.take hh).drop l).length = hh - l := by simp; omega
            refine ⟨_, _, by rw [hlen], by omega, by omega, ?_⟩
            rcases hrow with hz | ⟨b, off, rfl, hrow⟩
            · exact .inl (by omega)
            · by_cases hc : c = l
              · exact .inl (by omega)
              · refine .inr ⟨b, off + l * s, by rw [if_neg hc]; simp [add_lit], ?_⟩
                exact repRow_drop (repRow_take hrow hh) l (by simp; omega)
      · cases h
    · cases h
  · rename_i e id lv hv hu hx hlo hhi
    split at h
    · rename_i e' s e2 sz xs hs hob
      obtain ⟨hu', inf, hinf, hsz⟩ := isSlice_parts hs
      rw [hu] at hu'
      injection hu' with hu'; injection hu' with hu'; subst hu'
      split at h
      · rename_i hh hbh
        split at h
        · rename_i e; subst e
          cases hbl : boundOf lv 0 hh with
          | none => simp [hbl] at h
          | some l =>
            simp [hbl] at h; subst h
            have hxv : a.eval x = loc id := (opnd_sound hR hx : a.eval x = baseV (loc id)).trans (base_row (hR.obs id _ hob))
            obtain ⟨hcap, hlh⟩ := bounds_le hR hlo hhi hbh hbl
            obtain ⟨vs, hown, hrc, _⟩ := hR.obs id _ hob
            obtain ⟨A, c, hloc, hlc, hA⟩ : ∃ A c, loc id = .slice A xs.length c ∧ xs.length ≤ c ∧ (0 < xs.length → ∃ g, A = some ⟨g, 0, none⟩) := by
              rcases hown.2 with ⟨e1, e2⟩ | ⟨g, cap, cur, e1, h2, h3, h4⟩
              · exact ⟨none, 0, by rw [e1, e2], by omega, by omega⟩
              · exact ⟨_, cap, e1, h4.1, fun _ => ⟨g, rfl⟩⟩
            refine gives_of (s := Instr.sliceAt t (a.eval x) (lo.map a.eval) (hi.map a.eval) none) (by unfold execOp; rw [ho]; rfl)
              (v := .slice (if c = l then A else A.map (·.add (l * s))) (hh - l) (c - l)) (run_cut hR hu (by rw [sizeT, hinf]; simp [hsz]) (hxv.trans hloc) hlc hlo hhi hbh hbl) ?_
            refine ⟨A, _, c, _, _, hloc, hlh, hcap, by omega, rfl, fun e => ?_, fun hlt => ?_⟩
            · subst e
              refine ⟨?_, by omega⟩
              cases A <;> simp [add_zero']
            · obtain ⟨g, rfl⟩ := hA (by omega)
              refine ⟨g, rfl, ?_⟩
              rw [if_neg (by omega)]
              simp [add_lit]
        · cases h
      · cases h
    · cases h
  · rename_i e id sz a' b' lv hv hu hx hlo hhi
    split at h
    · rename_i e' s hh hs hbh
      obtain ⟨hu', inf, hinf, hsz⟩ := isSlice_parts hs
      rw [hu] at hu'
      injection hu' with hu'; injection hu' with hu'; subst hu'
      split at h
      · rename_i e; subst e
        cases hbl : boundOf lv 0 hh with
        | none => simp [hbl] at h
        | some l =>
          simp [hbl] at h; subst h
          obtain ⟨A, n, c, A', c', hloc, hl1, hl2, hc', hxv, hz, hg⟩ := opnd_sound hR hx
          obtain ⟨hcap, hlh⟩ := bounds_le hR hlo hhi hbh hbl
          refine gives_of (s := Instr.sliceAt t (a.eval x) (lo.map a.eval) (hi.map a.eval) none) (by unfold execOp; rw [ho]; rfl)
            (v := .slice (if c' = l then A' else A'.map (·.add (l * s))) (hh - l) (c' - l)) (run_cut hR hu (by rw [sizeT, hinf]; simp [hsz]) hxv hc' hlo hhi hbh hbl) ?_
          refine ⟨A, _, c, (if c' = l then A' else A'.map (·.add (l * s))), c' - l, hloc, by omega, by omega, by omega, by rw [show a' + hh - (a' + l) = hh - l from by omega], fun e => ?_, fun hlt => ?_⟩
          · obtain ⟨rfl, rfl⟩ : a' = 0 ∧ l = 0 := by omega
            obtain ⟨rfl, rfl⟩ := hz rfl
            refine ⟨?_, by omega⟩
            cases A' <;> simp [add_zero']
          · obtain ⟨g, rfl, rfl⟩ := hg (by omega)
            refine ⟨g, rfl, ?_⟩
            rw [if_neg (by omega)]
            simp [add_lit, Nat.add_mul]
      · cases h
    · cases h
  · cases h

theorem gives_extract {o : Oper} {x : Operand} {i : Nat} {sv : SV} (ho : o.op = .extract x i) (h : pval P o st = some sv) : Gives P μ loc o sv a w := by
  unfold pval at h
  rw [ho] at h
  simp only [] at h
  split at h
  · rename_i vs hx
    cases hg : vs[i]? with
    | none => simp [hg] at h
    | some y =>
      simp [hg] at h; subst h
      have hv := opnd_sound hR hx
      simp only [repS, rep] at hv
      obtain ⟨us, hv, hall⟩ := hv
      obtain ⟨u, hu, hr⟩ := repAll_get hall hg
      refine gives_of (s := Instr.extract (a.eval x) i) (by unfold execOp; rw [ho]) (v := u) ?_ hr
      rw [hv]
      simp [Instr.extract, hu]
  · rename_i v b hx
    obtain ⟨u, hv, hr⟩ := opnd_sound hR hx
    split at h
    · injection h with h; subst h
      refine gives_of (s := Instr.extract (a.eval x) 0) (by unfold execOp; rw [ho]) (v := u) ?_ hr
      rw [hv]; simp [Instr.extract]
    · injection h with h; subst h
      refine gives_of (s := Instr.extract (a.eval x) 1) (by unfold execOp; rw [ho]) (v := .bool b) ?_ (by simp [repS, rep])
      rw [hv]; simp [Instr.extract]
    · cases h
  · cases h

omit hR in
theorem zeroAll_rep {ts : List TypeId} {vs : List Value} {cs : List AV} (h : zeroAll P ts vs = some cs) : repC μ cs vs := by
  induction ts generalizing vs cs with
  | nil =>
    cases vs with
    | nil => simp [zeroAll] at h; subst h; exact ⟨repAll_nil, by simp⟩
    | cons v vs => simp [zeroAll] at h
  | cons t ts ih =>
    cases vs with
    | nil => simp [zeroAll] at h
    | cons v vs =>
      simp only [zeroAll] at h
      split at h
      · rename_i x xs hx hxs
        injection h with h; subst h
        have hr := ofConst_rep (P := P) (μ := μ) hx
        have k := ih hxs
        refine ⟨repAll_cons hr k.1, fun u hu => ?_⟩
        rcases List.mem_cons.1 hu with rfl | hu
        · unfold ofConst at hx
          split at hx <;> first | rfl | (cases hx)
        · exact k.2 u hu
      · cases h

omit hR in
theorem zeroCells_run {t : TypeId} {z : List AV} (h : zeroCells P t = some z) : ∃ i v, P.info? t = some i ∧ i.zero = some v ∧ repC μ z v.cells.toList := by
  unfold zeroCells at h
  split at h
  · rename_i i hi
    split at h
    · rename_i v hv
      exact ⟨i, v, hi, hv, zeroAll_rep h⟩
    · cases h
  · cases h

theorem partsOf_sound {ty : Nat → TypeId} {parts : List (Nat × Operand)} {ps : List (Nat × AV)} (h : partsOf P ty st parts = some ps) :
    ps.map (·.1) = parts.map (·.1) ∧ repAll μ (ps.map (·.2)) (parts.map fun p => a.eval p.2) := by
  induction parts generalizing ps with
  | nil => simp [partsOf] at h; subst h; exact ⟨rfl, repAll_nil⟩
  | cons p parts ih =>
    obtain ⟨i, x⟩ := p
    simp only [partsOf] at h
    split at h
    · rename_i v vs hv hvs
      injection h with h; subst h
      obtain ⟨h1, h2⟩ := ih hvs
      exact ⟨by simp [h1], by simpa using repAll_cons (pure_sound hR hv) h2⟩
    · cases h

omit hR in
theorem splice_list (cur : List Value) : ∀ (news : List Value) (off k : Nat), off + k + news.length ≤ cur.length →
    ((news.zipIdx k).foldl (fun (cs : Array Value) (p : Value × Nat) => cs.setIfInBounds (off + p.2) p.1) cur.toArray) = (cur.take (off + k) ++ news ++ cur.drop (off + k + news.length)).toArray := by
  intro news
  induction news generalizing cur with
  | nil => intro off k h; simp
  | cons v news ih =>
    intro off k h
    simp only [List.zipIdx_cons, List.foldl_cons]
    simp only [List.length_cons] at h
    have h1 : cur.toArray.setIfInBounds (off + k) v = (cur.set (off + k) v).toArray := by simp
    rw [h1, ih (cur.set (off + k) v) off (k + 1) (by simp; omega)]
    congr 1
    rw [← Nat.add_assoc, List.take_succ_eq_append_getElem (by simp; omega)]
    simp only [List.getElem_set_self, List.take_set_of_le (Nat.le_refl _), List.length_cons]
    rw [List.drop_set_of_lt (by omega)]
    simp only [List.append_assoc, List.cons_append, List.nil_append]
    congr 4
    omega

omit hR in
theorem fill_sound {place : Nat → Option (Nat × Nat)} {cells cs : List AV} {vs : List Value} {ps : List (Nat × AV)} {us : List (Nat × Value)}
    (h : fillC place cells ps = some cs) (hc : repC μ cells vs) (h1 : ps.map (·.1) = us.map (·.1)) (h2 : repAll μ (ps.map (·.2)) (us.map (·.2))) (h3 : ∀ p ∈ ps, ∀ x, p.2 ≠ .tup x) :
    ∃ ws : List Value, Instr.fill place vs.toArray us = some ws.toArray ∧ repC μ cs ws := by
  induction ps generalizing cells vs us with
  | nil =>
    cases us with
    | nil => simp [fillC] at h; subst h; exact ⟨vs, by simp [Instr.fill], hc⟩
    | cons u us => simp at h1
  | cons p ps ih =>
    cases us with
    | nil => simp at h1
    | cons u us =>
      obtain ⟨i, x⟩ := p
      obtain ⟨i', y⟩ := u
      simp only [List.map_cons, List.cons.injEq] at h1
      obtain ⟨rfl, h1⟩ := h1
      simp only [List.map_cons, repAll] at h2
      obtain ⟨u', us', e, hx, h2⟩ := h2
      simp only [List.cons.injEq] at e
      obtain ⟨rfl, rfl⟩ := e
      simp only [fillC] at h
      split at h
      · cases h
      · rename_i off size hpl
        split at h
        · rename_i hcond
          have hxc := rep_cells hx (fun z => h3 (i, x) (by simp) z)
          have hlen : y.cells.size = size := by
            have := hxc.length; simpa [hcond.1] using this
          have hvl := hc.length
          have hnews := ((hc.take off).append hxc).append (hc.drop (off + size))
          obtain ⟨ws, hw, hr⟩ := ih h hnews h1 h2 (fun p hp => h3 p (by simp [hp]))
          refine ⟨ws, ?_, hr⟩
          simp only [Instr.fill, hpl]
          have hle : ¬ (off + y.cells.size > vs.toArray.size) := by simp; omega
          rw [if_neg (by simp [hlen]; omega)]
          rw [← hw]
          congr 1
          have hsp := splice_list vs y.cells.toList off 0 (by simp; omega)
          simp only [Nat.add_zero, Array.length_toList, hlen] at hsp
          rw [← hsp, ← Array.foldl_toList, Array.toList_zipIdx]
        · cases h

omit hR in
theorem run_places (l : List Field) (hl : l.all (fun f => (sizeT P f.type).isSome) = true) :
    (l.mapM (fun f => Functor.map (Prod.mk f.offset) (sizeOf f.type)) : Sem (List (Nat × Nat))).run P w = .ok (l.map fun f => (f.offset, (sizeT P f.type).getD 0)) w := by
  induction l with
  | nil => rfl
  | cons f l ih =>
    simp only [List.all_cons, Bool.and_eq_true] at hl
    obtain ⟨n, hn⟩ := Option.isSome_iff_exists.1 hl.1
    simp [List.mapM_cons, sizeT_run hn, hn, ih hl.2]

theorem gives_build {o : Oper} {t : TypeId} {parts : Array (Nat × Operand)} {sv : SV} (ho : o.op = .build t parts) (h : pval P o st = some sv) : Gives P μ loc o sv a w := by
  unfold pval at h
  rw [ho] at h
  simp only [] at h
  split at h
  · rename_i fs hu
    split at h
    · rename_i z ps hz hps
      split at h
      · rename_i hnt
        obtain ⟨hnt, hfs⟩ := hnt
        cases hf : fillC (structPlace P t) z ps with
        | none => simp [hf] at h
        | some cs =>
          simp [hf] at h; subst h
          obtain ⟨i, v, hi, hv, hc⟩ := zeroCells_run (μ := μ) hz
          obtain ⟨h1, h2⟩ := partsOf_sound hR hps
          obtain ⟨ws, hw, hr⟩ := fill_sound (us := parts.toList.map fun p => (p.1, a.eval p.2)) hf hc (by simpa [List.map_map, Function.comp_def] using h1) (by simpa [List.map_map, Function.comp_def] using h2) (fun p hp x e => by
            have := List.all_eq_true.1 hnt p hp
            rw [e] at this; cases this)
          refine gives_of (s := Instr.build t (parts.map fun p => (p.1, a.eval p.2))) (by unfold execOp; rw [ho]) (v := .agg ws.toArray) ?_ ?_
          · obtain ⟨fl⟩ := fs
            have hpl := run_places (w := w) fl hfs
            have hpe : (fun x => Option.map (fun f : Field => (f.offset, (sizeT P f.type).getD 0)) fl[x]?) = structPlace P t := by
              funext x
              simp only [structPlace, fieldOf, hu, List.getElem?_toArray]
              cases hx : fl[x]? with
              | none => rfl
              | some fd =>
                obtain ⟨n, hn⟩ := Option.isSome_iff_exists.1 (List.all_eq_true.1 hfs fd (List.mem_of_getElem? hx))
                simp [hn]
            simp only [Array.toArray_toList] at hw
            simp [Instr.build, zeroValue, typeInfo, hi, hv, run_underlying hu, hpl, hpe, hw]
          · show rep μ (.agg cs) _
            rw [rep]; exact ⟨ws, rfl, hr.1, hr.2⟩
      · cases h
    · cases h
  · cases h

/-! maps -/
omit hR in
theorem findNow_sound {desc : TypeDesc} {kt : TypeId} (hd : P.underlying kt = some desc) {key : AV} {kv : Value} (hk : rep μ key kv) (hok : keyOk P kt key = true) : ∀ {ks : List AV} {ents : List MapEntry} {r : Option Nat} (i : Nat), repAll μ ks (ents.map (·.key)) → mfind key ks = some r →
    (match r with
    | some j => ∃ e, ents[j]? = some e ∧ Instr.findNow desc kv ents i = some (some (i + j, e.val)) ∧ ∃ x, ks[j]? = some x ∧ keyIs key x = some true
    | none => Instr.findNow desc kv ents i = some none) := by
  intro ks
  induction ks with
  | nil =>
    intro ents r i h hf
    simp only [mfind, Option.some.injEq] at hf; subst hf
    rw [repAll] at h
    have : ents = [] := by simpa using h
    subst this
    rfl
  | cons x ks ih =>
    intro ents r i h hf
    rw [repAll] at h
    obtain ⟨u, us, e, hx, hrest⟩ := h
    cases ents with
    | nil => simp at e
    | cons en ents =>
      simp only [List.map_cons, List.cons.injEq] at e
      obtain ⟨rfl, rfl⟩ := e
      have same : ∀ b, keyIs key x = some b → Instr.sameNow desc kv en.key = some b := by
        intro b hb
        unfold keyIs at hb
        split at hb
        · rename_i s t
          rw [rep] at hk hx
          rw [hk, hx]
          simp only [keyOk, hd] at hok
          cases desc <;> simp at hok
          simp only [Instr.sameNow, str_eq]; exact hb
        · rename_i k s k' t
          rw [rep] at hk hx
          rw [hk, hx]
          simp only [keyOk, hd] at hok
          cases desc <;> simp at hok
          simp only [Instr.sameNow]; exact hb
        · rename_i s t
          rw [rep] at hk hx
          rw [hk, hx]
          simp only [keyOk, hd] at hok
          cases desc <;> simp at hok
          simp only [Instr.sameNow]; exact hb
        · cases hb
      simp only [mfind] at hf
      split at hf
      · rename_i hs
        injection hf with hf; subst hf
        have hs' := same _ hs
        exact ⟨en, rfl, by simp only [Instr.findNow, hs']; simp, x, rfl, hs⟩
      · rename_i hs
        have hs' := same _ hs
        cases hm : mfind key ks with
        | none => simp [hm] at hf
        | some r' =>
          simp [hm] at hf; subst hf
          have h2 := ih (i + 1) hrest hm
          cases r' with
          | none => simp only [Option.map_none, Instr.findNow, hs']; exact h2
          | some j =>
            obtain ⟨e, he, hf, hx⟩ := h2
            exact ⟨e, by simpa using he, by simp only [Instr.findNow, hs', hf]; congr 3; omega, by simpa using hx⟩
      · cases hf

omit hR in
theorem checkKey_run {kt : TypeId} {key : AV} {kv : Value} (hk : rep μ key kv) (hok : keyOk P kt key = true) (b : Bool) (w : World) : (Instr.checkKey b 10000 kt kv).run P w = .ok () w := by
  have key : ∀ n, (Instr.checkKey b (n + 1) kt kv).run P w = .ok () w := by
    intro n
    unfold keyOk at hok
    split at hok
    · rename_i hu; rw [rep] at hk; subst hk; simp [Instr.checkKey, run_underlying hu]
    · rename_i hu; rw [rep] at hk; subst hk; simp [Instr.checkKey, run_underlying hu]
    · rename_i hu; rw [rep] at hk; subst hk; simp [Instr.checkKey, run_underlying hu]
    · cases hok
  exact key 9999
omit hR in
theorem keyOk_desc {kt : TypeId} {key : AV} (hok : keyOk P kt key = true) : ∃ desc, P.underlying kt = some desc := by
  unfold keyOk at hok
  split at hok
  · exact ⟨_, ‹_›⟩
  · exact ⟨_, ‹_›⟩
  · exact ⟨_, ‹_›⟩
  · cases hok
omit hR in
theorem findKey_run {kt : TypeId} {key : AV} {kv : Value} (hk : rep μ key kv) (hok : keyOk P kt key = true) {ks : List AV} {ents : List MapEntry} {r : Option Nat} (h : repAll μ ks (ents.map (·.key))) (hf : mfind key ks = some r) (w : World) :
    match r with
    | some j => ∃ e, ents[j]? = some e ∧ (Instr.findKey kt kv ents).run P w = .ok (some (j, e.val)) w ∧ ∃ x, ks[j]? = some x ∧ keyIs key x = some true
    | none => (Instr.findKey kt kv ents).run P w = .ok none w := by
  obtain ⟨desc, hd⟩ := keyOk_desc hok
  have h1 := findNow_sound hd hk hok 0 h hf
  cases r with
  | none => simp only [] at h1 ⊢; simp [Instr.findKey, run_underlying hd, h1]
  | some j =>
    obtain ⟨e, he, hn, hx⟩ := h1
    exact ⟨e, he, by simp [Instr.findKey, run_underlying hd, hn], hx⟩
omit hR in
theorem zeroVal_run {t : TypeId} {z : AV} (h : zeroVal P t = some z) (w : World) : ∃ v, (zeroValue t).run P w = .ok v w ∧ rep μ z v := by
  unfold zeroVal at h
  split at h
  · rename_i i hi
    have hrun : ∀ v, i.zero = some v → (zeroValue t).run P w = .ok v w := fun v hv => by simp [zeroValue, typeInfo, hi, hv]
    split at h
    · rename_i cs hz
      cases hc : zeroAll P (cellTys P 8 t) cs.toList with
      | none => simp [hc] at h
      | some zs =>
        simp [hc] at h; subst h
        have hr := zeroAll_rep (μ := μ) hc
        refine ⟨_, hrun _ hz, ?_⟩
        rw [rep]
        exact ⟨cs.toList, by simp, hr.1, hr.2⟩
    · rename_i v _ hz
      exact ⟨v, hrun v hz, ofConst_rep h⟩
    · cases h
  · cases h
theorem gives_lookup {o : Oper} {t : TypeId} {x k : Operand} {ok : Bool} {sv : SV} (ho : o.op = .lookup t x k ok) (h : pval P o st = some sv) : Gives P μ loc o sv a w := by
  unfold pval at h
  rw [ho] at h
  simp only [] at h
  split at h
  · rename_i kt et hu
    split at h
    · rename_i ks key hx hk
      cases hok : (ok && keyOk P kt key && (zeroVal P et).isSome) with
      | false => rw [hok] at h; cases h
      | true =>
        simp only [hok, cond_true, Option.map_eq_some_iff] at h
        obtain ⟨r, hf, rfl⟩ := h
        simp only [Bool.and_eq_true] at hok
        obtain ⟨⟨hok1, hok⟩, hzz⟩ := hok
        subst hok1
        have hkr := pure_sound hR hk
        obtain ⟨sx, hsx, hmx⟩ := Option.bind_eq_some_iff.1 hx
        unfold keysR at hmx
        split at hmx
        · rename_i id
          split at hmx
          · rename_i k' e' sz' ks' vs' hob
            injection hmx with hmx; subst hmx
            have hv : a.eval x = baseV (loc id) := opnd_sound hR hsx
            obtain ⟨b, ents, clock, us, hl, _, hh, _, h1, h2, h3, h4, h5, _⟩ := hR.obs id _ hob
            have hv : a.eval x = .map (some b) := by rw [hv, hl]; rfl
            have hfk := findKey_run hkr hok h1 hf w
            have fin : ∀ y, (Instr.lookup t (a.eval x) (a.eval k) true).run P w = .ok (.tuple #[y, .bool r.isSome]) w → Gives P μ loc o (.two .any r.isSome) a w := fun y hr =>
              gives_of (s := Instr.lookup t (a.eval x) (a.eval k) true) (by unfold execOp; rw [ho]) hr ⟨y, rfl, trivial⟩
            cases r with
            | none =>
              simp only [] at hfk
              obtain ⟨z, hz⟩ := Option.isSome_iff_exists.1 hzz
              obtain ⟨zv, hzr, _⟩ := zeroVal_run (μ := μ) hz w
              refine fin zv ?_
              rw [hv]
              simp [Instr.lookup, run_underlying hu, run_getObj_mp hh, checkKey_run hkr hok, hfk, hzr]
            | some j =>
              obtain ⟨e, he, hrun, _⟩ := hfk
              refine fin e.val ?_
              rw [hv]
              simp [Instr.lookup, run_underlying hu, run_getObj_mp hh, checkKey_run hkr hok, hrun]
          · cases hmx
        · cases hmx
    split at h
    · rename_i ks vs key hx hk
      cases hok : keyOk P kt key with
      | false => simp [hok] at h
      | true =>
        simp only [hok, cond_true] at h
        have hkr := pure_sound hR hk
        obtain ⟨sx, hsx, hmx⟩ := Option.bind_eq_some_iff.1 hx
        have hm := maps_sound hR hmx (opnd_sound hR hsx)
        have fin : ∀ (y : AV) (b : Bool) (yv : Value), rep μ y yv → rep μ (found ok y b) (if ok = true then .tuple #[yv, .bool b] else yv) := fun y b yv hy => by
          cases ok with
          | false => exact hy
          | true => simp only [found, cond_true, if_true]; rw [rep]; exact ⟨[yv, .bool b], rfl, repAll_cons hy (repAll_cons (by simp [rep]) repAll_nil)⟩
        have run : ∀ (y : AV) (b : Bool) (yv : Value), rep μ y yv → (Instr.lookup t (a.eval x) (a.eval k) ok).run P w = .ok (if ok = true then .tuple #[yv, .bool b] else yv) w → Gives P μ loc o (.pv (found ok y b)) a w := fun y b yv hy hr =>
          gives_of (s := Instr.lookup t (a.eval x) (a.eval k) ok) (by unfold execOp; rw [ho]) hr (fin y b yv hy)
        unfold mget at h
        rcases hm with ⟨hv, rfl, rfl⟩ | ⟨b, ents, clock, hv, hh, h1, h2⟩
        · simp only [mfind] at h
          cases hz : zeroVal P et with
          | none => simp [hz] at h
          | some z =>
            simp [hz] at h; subst h
            obtain ⟨zv, hzr, hzrep⟩ := zeroVal_run (μ := μ) hz w
            refine run z false zv hzrep ?_
            have hfk := findKey_run hkr hok (ks := []) (ents := []) (r := none) (by simp [repAll]) rfl w
            simp only [] at hfk
            rw [hv]
            simp [Instr.lookup, run_underlying hu, checkKey_run hkr hok, hfk, hzr]
        · cases hf : mfind key ks with
          | none => simp [hf] at h
          | some r =>
            have hfk := findKey_run hkr hok h1 hf w
            cases r with
            | none =>
              simp only [hf] at h
              cases hz : zeroVal P et with
              | none => simp [hz] at h
              | some z =>
                simp [hz] at h; subst h
                obtain ⟨zv, hzr, hzrep⟩ := zeroVal_run (μ := μ) hz w
                refine run z false zv hzrep ?_
                simp only [] at hfk
                rw [hv]
                simp [Instr.lookup, run_underlying hu, run_getObj_mp hh, checkKey_run hkr hok, hfk, hzr]
            | some j =>
              simp only [hf] at h
              cases hg : vs[j]? with
              | none => simp [hg] at h
              | some y =>
                simp [hg] at h; subst h
                obtain ⟨e, he, hrun, _⟩ := hfk
                obtain ⟨yv, hyv, hyr⟩ := repAll_get h2 hg
                have : yv = e.val := by
                  simp [List.getElem?_map] at hyv
                  have he' : ents[j]? = some e := by simpa using he
                  simp [he'] at hyv
                  exact hyv.symm
                subst this
                refine run y true e.val hyr ?_
                rw [hv]
                simp [Instr.lookup, run_underlying hu, run_getObj_mp hh, checkKey_run hkr hok, hrun]
    · cases h
  · cases h

theorem pval_sound {o : Oper} {sv : SV} (h : pval P o st = some sv) : Gives P μ loc o sv a w := by
  have h' := h
  unfold pval at h'
  split at h'
  · rename_i x ho; exact gives_move hR (.inl ho) h'
  · rename_i x ho; exact gives_move hR (.inr ho) h'
  · rename_i ho; exact gives_pick hR ho h
  · rename_i ho; exact gives_bin hR ho h
  · rename_i ho; exact gives_un hR ho h
  · rename_i ho; exact gives_convert hR ho h
  · rename_i ho; exact gives_pcall hR ho h'
  · rename_i ho; exact gives_fieldAddr hR ho h
  · rename_i ho; exact gives_field hR ho h
  · rename_i ho; exact gives_indexAddr hR ho h
  · rename_i ho; exact gives_index hR ho h
  · rename_i ho; exact gives_load hR ho h
  · rename_i ho; exact gives_slice hR ho h
  · rename_i ho; exact gives_extract hR ho h
  · rename_i ho; exact gives_lookup hR ho h
  · rename_i ho; exact gives_build hR ho h
  · cases h'

end

end
end Go.AM
