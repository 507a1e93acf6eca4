/-
  READING: arguments that a claim reads are data of the abstract machine; what a call that returns true leaves.
-/
import Derived.Test.YtfoddgpndoeeaaaGreatDoorAmL
import Derived.Deep.Slices
import Derived.OpenShut
import Derived.Carry
import Derived.ProofKit
set_option linter.unusedVariables false
set_option linter.unusedSimpArgs false
namespace Go.AM
open Go.RowKit Go.ChangeShapes Go.WideShapes Go.ChangeAt

mutual
def AV.bulk : AV → Nat
  | .str s => s.length + 1
  | .lst _ xs => bulkR xs + 1
  | .agg cs => bulkC cs
  | .bool _ => 1
  | .int _ _ => 1
  | .fn _ _ => 1
  | .tup cs => bulkC cs
  | .ref _ => 1
  | .mp _ _ => 1
  | .self _ => 1
  | .nilp => 1
  | .nils => 1
def bulkC : List AV → Nat
  | [] => 0
  | a :: l => AV.bulk a + bulkC l
def bulkR : List (List AV) → Nat
  | [] => 0
  | c :: l => bulkC c + bulkR l
end
mutual
def AV.wf : AV → Prop
  | .str s => s.length ≤ maxLen
  | .lst _ xs => wfR xs
  | .agg cs => wfC cs
  | .bool _ => True
  | .int k n => (Lit.int k n).wf = true
  | .fn _ _ => True
  | .tup cs => wfC cs
  | .ref _ => True
  | .mp _ _ => True
  | .self _ => True
  | .nilp => True
  | .nils => True
def wfC : List AV → Prop
  | [] => True
  | a :: l => AV.wf a ∧ wfC l
def wfR : List (List AV) → Prop
  | [] => True
  | c :: l => wfC c ∧ wfR l
end
theorem bulkC_append (a b : List AV) : bulkC (a ++ b) = bulkC a + bulkC b := by
  induction a with
  | nil => simp [bulkC]
  | cons x a ih => simp only [List.cons_append, bulkC, ih]; omega
theorem wfC_append {a b : List AV} : wfC (a ++ b) ↔ wfC a ∧ wfC b := by
  induction a with
  | nil => simp [wfC]
  | cons x a ih => simp only [List.cons_append, wfC, ih, and_assoc]
theorem wfR_all {l : List (List AV)} (h : ∀ c ∈ l, wfC c) : wfR l := by
  induction l with
  | nil => trivial
  | cons c l ih => exact ⟨h c (by simp), ih fun x hx => h x (by simp [hx])⟩
theorem wfR_mem {l : List (List AV)} (h : wfR l) {c : List AV} (hc : c ∈ l) : wfC c := by
  induction l with
  | nil => cases hc
  | cons x l ih =>
    rcases List.mem_cons.1 hc with rfl | hc
    · exact h.1
    · exact ih h.2 hc
theorem bulkR_mem {l : List (List AV)} {c : List AV} (hc : c ∈ l) : bulkC c ≤ bulkR l := by
  induction l with
  | nil => cases hc
  | cons x l ih =>
    simp only [bulkR]
    rcases List.mem_cons.1 hc with rfl | hc
    · omega
    · have := ih hc; omega
theorem bulk_pos (a : AV) (h : ∀ cs, a ≠ .agg cs) (h2 : ∀ cs, a ≠ .tup cs) : 1 ≤ a.bulk := by
  cases a <;> simp_all [AV.bulk]

structure BulkLike {H : Type} (bk : DataW H → Nat) (bkA : List (DataW H) → Nat) : Prop where
  str : ∀ l, bk (.lit (.string l)) = l.length + 1
  lit : ∀ l, 1 ≤ bk (.lit l)
  nil : 1 ≤ bk .nil
  slice : ∀ e s, bk (.slice e s) = bkA e + bkA s + 1
  agg : ∀ p, bk (.agg p) = bkA p + 1
  nilA : bkA [] = 0
  consA : ∀ d r, bkA (d :: r) = bk d + bkA r

def muW (w : World) : Mu := fun b j => see w b j
theorem pub_muW (w : World) : Pub (muW w) w := fun _ _ _ h => h

section
variable {H : Type} {enc : TypeId × Value → H} {P : Program} {w : World} {bk : DataW H → Nat} {bkA : List (DataW H) → Nat}

/-- what is read at a type, is of a form -/
def RdA (enc : TypeId × Value → H) (P : Program) (w : World) (bk : DataW H → Nat) (n : Nat) (t : TypeId) (Q : List AV → Prop) : Prop :=
  ∀ cs d ps, DataW.trod enc P w 0 (fun _ => true) true n t cs = some (d, ps) → ∃ avs, Q avs ∧ repC (muW w) avs cs ∧ bulkC avs ≤ bk d ∧ wfC avs

theorem RdA.zero {t : TypeId} {Q : List AV → Prop} : RdA enc P w bk 0 t Q := fun cs d ps h => by simp [DataW.trod] at h
theorem RdA.mono {n : Nat} {t : TypeId} {Q Q' : List AV → Prop} (h : RdA enc P w bk n t Q) (hq : ∀ a, Q a → Q' a) : RdA enc P w bk n t Q' := fun cs d ps hd =>
  let ⟨a, h1, h2⟩ := h cs d ps hd; ⟨a, hq a h1, h2⟩

theorem rd_int (hB : BulkLike bk bkA) {n : Nat} {t : TypeId} {k : IntKind} (ht : P.underlying t = some (.int k)) : RdA enc P w bk n t fun avs => ∃ x, avs = eInt k x := by
  intro cs d ps h
  obtain ⟨x, rfl, hx, hw⟩ := DataW.trod_int ht h
  simp only [Prod.mk.injEq] at hx
  obtain ⟨rfl, rfl⟩ := hx
  refine ⟨eInt k x, ⟨x, rfl⟩, ⟨repAll_cons (by simp [rep]) repAll_nil, by simp [Value.oneCell']⟩, ?_, ?_⟩
  · simp only [eInt, bulkC, AV.bulk]; exact hB.lit _
  · exact ⟨hw, trivial⟩
theorem rd_bool (hB : BulkLike bk bkA) {n : Nat} {t : TypeId} (ht : P.underlying t = some .bool) : RdA enc P w bk n t fun avs => ∃ x, avs = eBool x := by
  intro cs d ps h
  obtain ⟨x, rfl, hx⟩ := DataW.trod_bool ht h
  simp only [Prod.mk.injEq] at hx
  obtain ⟨rfl, rfl⟩ := hx
  refine ⟨eBool x, ⟨x, rfl⟩, ⟨repAll_cons (by simp [rep]) repAll_nil, by simp [Value.oneCell']⟩, ?_, ?_⟩
  · simp only [eBool, bulkC, AV.bulk]; exact hB.lit _
  · exact ⟨trivial, trivial⟩
theorem rd_str (hB : BulkLike bk bkA) {n : Nat} {t : TypeId} (ht : P.underlying t = some .string) : RdA enc P w bk n t fun avs => ∃ x, avs = eStr x := by
  intro cs d ps h
  obtain ⟨s, rfl, hx, hs⟩ := DataW.trod_string ht h
  simp only [Prod.mk.injEq] at hx
  obtain ⟨rfl, rfl⟩ := hx
  refine ⟨eStr s.data.toList, ⟨_, rfl⟩, ⟨repAll_cons (by simp [rep]) repAll_nil, by simp [Value.oneCell']⟩, ?_, ?_⟩
  · simp only [eStr, bulkC, AV.bulk, hB.str]; omega
  · refine ⟨?_, trivial⟩
    have : s.data.toList.length = s.size := by rw [Array.length_toList]; rfl
    simp only [AV.wf]; omega

theorem repRow_of_get {μ : Mu} {sz b : Nat} : ∀ {xs : List (List AV)} {off : Nat}, (∀ i x, xs[i]? = some x → ∃ vs, repC μ x vs ∧ vs.length = sz ∧ ∀ j u, vs[j]? = some u → μ b (off + i * sz + j) = some u) → repRow μ sz b xs off := by
  intro xs
  induction xs with
  | nil => intro off _; simp [repRow]
  | cons x xs ih =>
    intro off h
    rw [repRow]
    obtain ⟨vs, h1, h2, h3⟩ := h 0 x rfl
    refine ⟨⟨vs, h1.1, h1.2, h2, fun j u hu => by have := h3 j u hu; simpa using this⟩, ih fun i y hy => ?_⟩
    obtain ⟨us, k1, k2, k3⟩ := h (i + 1) y (by simpa using hy)
    refine ⟨us, k1, k2, fun j u hu => ?_⟩
    have := k3 j u hu
    rwa [show off + (i + 1) * sz + j = off + sz + i * sz + j from by rw [Nat.add_mul]; omega] at this

theorem bulkR_le (hB : BulkLike bk bkA) : ∀ (xs : List (List AV)) (ds : List (DataW H)), xs.length = ds.length → (∀ (i : Nat) (x : List AV) (d : DataW H), xs[i]? = some x → ds[i]? = some d → bulkC x ≤ bk d) → bulkR xs ≤ bkA ds := by
  intro xs
  induction xs with
  | nil => intro ds _ _; simp [bulkR]
  | cons x xs ih =>
    intro ds hl h
    cases ds with
    | nil => simp at hl
    | cons d ds =>
      rw [hB.consA]
      have h0 := h 0 x d rfl rfl
      have := ih ds (by simpa using hl) fun i y e hy he => h (i + 1) y e (by simpa using hy) (by simpa using he)
      simp only [bulkR]; omega

theorem rd_slice (hB : BulkLike bk bkA) {n : Nat} {t e : TypeId} {sz : Nat} (ht : P.underlying t = some (.slice e)) (hc : P.cellsOf e = sz) (hpos : 0 < sz) {Q : List AV → Prop} (he : RdA enc P w bk n e Q) :
    RdA enc P w bk (n + 1) t fun avs => ∃ xs, avs = [.lst sz xs] ∧ ∀ x ∈ xs, Q x := by
  intro cs d ps h
  rcases DataW.trod_slice ht h with ⟨rfl, hx⟩ | ⟨a, len, cap, elems, rest, n', hn, rfl, hx, hb, hl, hm, hlen, hel, _, _⟩
  · simp only [Prod.mk.injEq] at hx
    obtain ⟨rfl, rfl⟩ := hx
    refine ⟨[.lst sz []], ⟨[], rfl, by simp⟩, ⟨repAll_cons ?_ repAll_nil, by simp [Value.oneCell']⟩, ?_, ?_⟩
    · rw [rep]; exact ⟨none, 0, rfl, Nat.le_refl _, by simp [maxLen], .inl rfl⟩
    · simp only [bulkC, AV.bulk, bulkR]; exact hB.nil
    · simp [wfC, AV.wf, wfR]
  · obtain rfl : n = n' := by omega
    simp only [Prod.mk.injEq] at hx
    obtain ⟨rfl, rfl⟩ := hx
    have each : ∀ i, i < len → ∃ av : List AV, Q av ∧ ∃ cs', w.cells? 0 (a.add (i * sz)) sz = some cs' ∧ repC (muW w) av cs' ∧ (∀ x, elems[i]? = some x → bulkC av ≤ bk x.1) ∧ wfC av := by
      intro i hi
      have h1 := hel i hi
      rw [hc] at h1
      obtain ⟨x, hx⟩ : ∃ x, elems[i]? = some x := ⟨elems[i]'(by omega), List.getElem?_eq_getElem (by omega)⟩
      rw [hx] at h1
      obtain ⟨cs', h2, h3⟩ := Option.bind_eq_some_iff.1 h1
      obtain ⟨av, k1, k2, k3, k4⟩ := he cs' x.1 x.2 h3
      exact ⟨av, k1, cs', h2, k2, fun y hy => by rw [hx] at hy; injection hy with hy; subst hy; exact k3, k4⟩
    obtain ⟨f, hf⟩ := Deep.choose_lt each
    have hget : ∀ i x, ((List.range len).map f)[i]? = some x → i < len ∧ x = f i := by
      intro i x hx
      simp only [List.getElem?_map, Option.map_eq_some_iff] at hx
      obtain ⟨j, hj, rfl⟩ := hx
      obtain ⟨h1, h2⟩ := List.getElem?_eq_some_iff.1 hj
      simp at h1 h2
      subst h2
      exact ⟨h1, rfl⟩
    have hmem : ∀ x ∈ (List.range len).map f, ∃ i, i < len ∧ x = f i := by
      intro x hx
      simp only [List.mem_map, List.mem_range] at hx
      obtain ⟨i, hi, rfl⟩ := hx
      exact ⟨i, hi, rfl⟩
    refine ⟨[.lst sz ((List.range len).map f)], ⟨_, rfl, fun x hx => ?_⟩, ⟨repAll_cons ?_ repAll_nil, by simp [Value.oneCell']⟩, ?_, ?_⟩
    · obtain ⟨i, hi, rfl⟩ := hmem x hx; exact (hf i hi).1
    · rw [rep]
      refine ⟨some a, cap, by simp, by simpa using hl, hm, ?_⟩
      cases len with
      | zero => exact .inl (by simp)
      | succ len =>
        right
        have hspot : a.spot = none := by
          obtain ⟨_, cs', h2, _⟩ := hf 0 (by omega)
          simp only [World.cells?, Nat.zero_le, if_true] at h2
          have h3 := mapM_some_get h2 0 0 (by simp [hpos])
          have h4 : cs'[0]? ≠ none := by
            have := mapM_some_length h2
            simp at this
            intro hnone
            rw [List.getElem?_eq_none_iff] at hnone
            omega
          rw [← h3] at h4
          simp only [Addr.add, Nat.zero_mul, if_true] at h4
          cases hsp : a.spot with
          | none => rfl
          | some q =>
            exfalso; apply h4
            simp only [World.cell?, hsp]
            split <;> simp
        obtain ⟨b, off, sp⟩ := a
        simp only at hspot
        subst hspot
        refine ⟨b, off, rfl, repRow_of_get fun i x hx => ?_⟩
        obtain ⟨hi, rfl⟩ := hget i x hx
        obtain ⟨_, cs', h2, k2, _⟩ := hf i hi
        simp only [World.cells?, Nat.zero_le, if_true] at h2
        refine ⟨cs', k2, by simpa using mapM_some_length h2, fun j u hu => ?_⟩
        have hj : j < sz := by
          have := mapM_some_length h2
          simp at this
          have := (List.getElem?_eq_some_iff.1 hu).1
          omega
        have h3 := mapM_some_get h2 j j (by simp [hj])
        rw [hu, Deep.add_add] at h3
        unfold muW
        have e : (⟨b, off, none⟩ : Addr).add (i * sz + j) = ⟨b, off + i * sz + j, none⟩ := by
          unfold Addr.add
          split
          · rename_i h0; rw [Nat.add_assoc, h0]; rfl
          · simp [Nat.add_assoc]
        rw [e] at h3
        exact see_of_cell h3 (k2.2 u (List.mem_of_getElem? hu))
    · simp only [bulkC, AV.bulk, hB.slice]
      have := bulkR_le hB ((List.range len).map f) (elems.map (·.1)) (by simp [hlen]) fun i x d hx hd => by
        obtain ⟨hi, rfl⟩ := hget i x hx
        simp only [List.getElem?_map, Option.map_eq_some_iff] at hd
        obtain ⟨y, hy, rfl⟩ := hd
        obtain ⟨_, _, _, _, k, _⟩ := hf i hi
        exact k y hy
      omega
    · refine ⟨wfR_all fun x hx => ?_, trivial⟩
      obtain ⟨i, hi, rfl⟩ := hmem x hx
      obtain ⟨_, _, _, _, _, k⟩ := hf i hi
      exact k

/-! structs -/
def Cat : List (List AV → Prop) → List AV → Prop
  | [], avs => avs = []
  | Q :: Qs, avs => ∃ a b, avs = a ++ b ∧ Q a ∧ Cat Qs b
def offsOk (P : Program) : Nat → List Field → Bool
  | _, [] => true
  | off, f :: l => Nat.beq f.offset off && offsOk P (off + P.cellsOf f.type) l
def sumC (P : Program) : List Field → Nat
  | [] => 0
  | f :: l => P.cellsOf f.type + sumC P l
def AllRd (enc : TypeId × Value → H) (P : Program) (w : World) (bk : DataW H → Nat) (n : Nat) : List Field → List (List AV → Prop) → Prop
  | [], [] => True
  | f :: l, Q :: Qs => RdA enc P w bk n f.type Q ∧ AllRd enc P w bk n l Qs
  | _, _ => False

theorem rd_fields (hB : BulkLike bk bkA) {n : Nat} {cs : List Value} : ∀ (fl : List Field) (Qs : List (List AV → Prop)) (xs : List (DataW H × List MemPlace)) (off : Nat), AllRd enc P w bk n fl Qs → offsOk P off fl = true → xs.length = fl.length → off + sumC P fl ≤ cs.length →
    (∀ (i : Nat) (f : Field), fl[i]? = some f → DataW.trod enc P w 0 (fun _ => true) true n f.type ((cs.drop f.offset).take (P.cellsOf f.type)) = xs[i]?) →
    ∃ avs, Cat Qs avs ∧ repC (muW w) avs ((cs.drop off).take (sumC P fl)) ∧ bulkC avs ≤ bkA (xs.map (·.1)) ∧ wfC avs := by
  intro fl
  induction fl with
  | nil =>
    intro Qs xs off hQ _ hl _ _
    cases Qs with
    | nil => exact ⟨[], rfl, ⟨by simp [sumC, repAll], by simp [sumC]⟩, by simp [bulkC], trivial⟩
    | cons Q Qs => exact hQ.elim
  | cons f fl ih =>
    intro Qs xs off hQ ho hl hle hx
    cases Qs with
    | nil => exact hQ.elim
    | cons Q Qs =>
      cases xs with
      | nil => simp at hl
      | cons x xs =>
        simp only [offsOk, Bool.and_eq_true] at ho
        have hoff := beq_iff.1 ho.1
        simp only [sumC] at hle ⊢
        have h0 := hx 0 f rfl
        rw [hoff] at h0
        obtain ⟨a0, q0, r0, b0, w0⟩ := hQ.1 _ x.1 x.2 h0
        obtain ⟨a1, q1, r1, b1, w1⟩ := ih Qs xs (off + P.cellsOf f.type) hQ.2 ho.2 (by simpa using hl) (by omega) fun i g hg => hx (i + 1) g (by simpa using hg)
        refine ⟨a0 ++ a1, ⟨a0, a1, rfl, q0, q1⟩, ?_, ?_, wfC_append.2 ⟨w0, w1⟩⟩
        · rw [List.take_add, List.drop_drop]
          exact r0.append r1
        · rw [bulkC_append, List.map_cons, hB.consA]; omega

theorem rd_struct (hB : BulkLike bk bkA) {n : Nat} {t : TypeId} {fs : Array Field} {Qs : List (List AV → Prop)} (ht : P.underlying t = some (.struct fs)) (ho : offsOk P 0 fs.toList = true) (hs : sumC P fs.toList = P.cellsOf t)
    (hQ : AllRd enc P w bk n fs.toList Qs) : RdA enc P w bk (n + 1) t (Cat Qs) := by
  intro cs d ps h
  obtain ⟨xs, n', hn, hx, hl, hxl, hall⟩ := DataW.trod_struct ht h
  obtain rfl : n = n' := by omega
  simp only [Prod.mk.injEq] at hx
  obtain ⟨rfl, rfl⟩ := hx
  obtain ⟨avs, q, r, b, wf⟩ := rd_fields hB fs.toList Qs xs 0 hQ ho (by simpa using hxl) (by omega) fun i f hf => hall i f (by simpa using hf)
  refine ⟨avs, q, ?_, by rw [hB.agg]; omega, wf⟩
  rw [hs, ← hl] at r
  simpa using r

/-! arguments -/
theorem arg_agg {t : TypeId} {fs : Array Field} {v : Value} {d : DataW H} {ps : List MemPlace} {Q : List AV → Prop} {rch : Reach} {base : Nat} (ht : P.underlying t = some (.struct fs)) (hok : Value.okWide P w rch base t v)
    (hd : DataW.Trod enc P w 0 (fun _ => true) true t v d ps) (hR : ∀ n, RdA enc P w bk n t Q) : ∃ avs, Q avs ∧ rep (muW w) (.agg avs) v ∧ bulkC avs ≤ bk d ∧ wfC avs := by
  obtain ⟨cs, rfl, _⟩ := WideShapes.okWide_struct ht hok
  obtain ⟨n, hn⟩ := hd
  obtain ⟨avs, q, r, b, wf⟩ := hR n _ _ _ hn
  refine ⟨avs, q, ?_, b, wf⟩
  rw [rep]
  exact ⟨cs.toList, by simp, by simpa [Value.cells] using r.1, by simpa [Value.cells] using r.2⟩
theorem arg_one {t : TypeId} {v : Value} {d : DataW H} {ps : List MemPlace} {Q : List AV → Prop} (hv : v.cells = #[v]) (hd : DataW.Trod enc P w 0 (fun _ => true) true t v d ps) (hR : ∀ n, RdA enc P w bk n t Q) :
    ∃ a, Q [a] ∧ rep (muW w) a v ∧ a.bulk ≤ bk d ∧ a.wf := by
  obtain ⟨n, hn⟩ := hd
  obtain ⟨avs, q, r, b, wf⟩ := hR n _ _ _ hn
  rw [hv] at r
  have hl := r.length
  cases avs with
  | nil => simp at hl
  | cons a l =>
    cases l with
    | nil =>
      refine ⟨a, q, ?_, by simpa [bulkC] using b, wf.1⟩
      have := r.1
      rw [repAll] at this
      obtain ⟨u, us, e, h1, _⟩ := this
      simp at e
      rw [e.1]; exact h1
    | cons b l => simp at hl
end

/-! what a call that returns true leaves -/
theorem law_calls {P : Program} {H : Nat → Hint} {prim : CallF} {q : Prop} {B : Mu} (hok : progOk P = true) (hblk : ∀ f fn c, P.funcs[f]? = some fn → fn.body = some c → BlkOK q B P (H f) fn.ntmps c) (hprim : CallOK q B P prim) {f : Nat} {avs : List AV} {us : List Value} {W : World} (hB : B.le (muW W)) (hrep : repAll (muW W) avs us)
    (hrun : run P H prim f (avs.map .pv) [] = some (.bool true, [])) : Calls P f us.toArray W fun e W' => e = .returned (.bool true) ∧ Below W.heap.size W W' := by
  have hs : ∀ {avs : List AV} {us : List Value}, repAll (muW W) avs us → repSs (muW W) (fun _ => .bool false) (avs.map .pv) us := by
    intro avs
    induction avs with
    | nil => intro us h; rw [repAll] at h; subst h; rfl
    | cons a l ih => intro us h; rw [repAll] at h; obtain ⟨u, us', rfl, h1, h2⟩ := h; exact ⟨u, us', rfl, h1, ih h2⟩
  have := (run_sound hok hblk hprim f _ [] _ [] hrun W (muW W) (fun _ => .bool false) us hB (pub_muW W) (fun id o h => by cases h) (fun i j oi oj h => by cases h) (hs hrep)).2
  refine this.mono ?_
  rintro e W' ⟨v, μ', loc', rfl, hp⟩
  have hv := hp.pure rfl
  rw [rep] at hv
  subst hv
  exact ⟨rfl, below_of hp⟩

theorem trodAll_below {Hh : Type} {enc : TypeId × Value → Hh} {P : Program} (hl : laidOutB P = true) {W W' : World} (hb : Below W.heap.size W W') : ∀ {ts : List TypeId} {vs : List Value} {ds : List (DataW Hh)} {ps : List MemPlace}, (∀ t ∈ ts, P.readableRec t = true ∧ t < P.types.size) →
    (∀ x ∈ ps, x.block < W.heap.size) → DataW.TrodAll enc P W 0 (fun _ => true) true ts vs ds ps → DataW.TrodAll enc P W' 0 (fun b => decide (b < W.heap.size)) true ts vs ds ps
  | [], [], [], _, _, _, h => h
  | [], [], _ :: _, _, _, _, h => h.elim
  | [], _ :: _, _, _, _, _, h => by cases h
  | _ :: _, [], _, _, _, _, h => by cases h
  | _ :: _, _ :: _, [], _, _, _, h => h.elim
  | t :: ts, v :: vs, d :: ds, ps, hr, hlt, h => by
    obtain ⟨p, q, h1, h2, rfl⟩ := h
    exact ⟨p, q, Below.trod hl (hr t (by simp)).1 (hr t (by simp)).2 h1 hb (fun x hx => hlt x (by simp [hx])), trodAll_below hl hb (fun t ht => hr t (by simp [ht])) (fun x hx => hlt x (by simp [hx])) h2, rfl⟩

theorem trodAll_length {Hh : Type} {enc : TypeId × Value → Hh} {P : Program} {W : World} : ∀ {ts : List TypeId} {vs : List Value} {ds : List (DataW Hh)} {ps : List MemPlace}, DataW.TrodAll enc P W 0 (fun _ => true) true ts vs ds ps → ds.length = ts.length
  | [], [], [], _, _ => rfl
  | [], [], _ :: _, _, h => h.elim
  | [], _ :: _, _, _, h => by cases h
  | _ :: _, [], _, _, h => by cases h
  | _ :: _, _ :: _, [], _, h => h.elim
  | t :: ts, v :: vs, d :: ds, ps, h => by
    obtain ⟨p, q, h1, h2, rfl⟩ := h
    simp [trodAll_length h2]

/-- THE ROW's 'post', of a law that has returned true -/
theorem post_true {Hh : Type} {enc : TypeId × Value → Hh} {P : Program} {fn : Func} {s : ChangeSpec} {tb : TypeId} {W W' : World} {args : Array Value} {ds gs : List (DataW Hh)} {before : List MemPlace} {apart fresh handsOn : Bool}
    (hl : laidOutB P = true) (hpar : fn.params.toList.all (fun t => P.readableRec t && decide (t < P.types.size)) = true) (hvars : s.vars = []) (hres : fn.resultTypes = #[tb]) (htb : P.underlying tb = some .bool)
    (hfn : ∀ ds : List (DataW Hh), ds.length = fn.params.size → s.fn Hh ds = { results := [.lit (.bool true)], args := ds })
    (hW : DataW.Whole enc P fn.params.toList s.vars apart W args.toList ds gs before) (hb : Below W.heap.size W W') :
    s.post enc P fn apart fresh handsOn false W args (.bool true) W' := by
  have hlt := hW.lt
  have hW' := hW
  obtain ⟨p, q, hA, hV, rfl, _, _⟩ := hW
  rw [hvars] at hV
  obtain ⟨rfl, rfl⟩ : gs = [] ∧ q = [] := by
    cases gs with
    | nil => exact ⟨rfl, hV⟩
    | cons g gs => exact hV.elim
  have hlen := trodAll_length hA
  have e := hfn ds (by rw [hlen, Array.length_toList])
  refine ⟨ds, [], p ++ [], [], p, [], hW', ?_, ?_, ?_, hb.frame _, fun h => by cases h⟩
  · rw [List.append_nil, e, hres]
    exact trodAll_cons_mk (shut_bool htb _) trodAll_mk0
  · rw [List.append_nil, e]
    refine trodAll_below hl hb (fun t ht => ?_) (fun x hx => hlt x (by simp [hx])) hA
    have := List.all_eq_true.1 hpar t ht
    simp only [Bool.and_eq_true, decide_eq_true_eq] at this
    exact this
  · rw [List.append_nil, e, hvars]
    rfl
end Go.AM
