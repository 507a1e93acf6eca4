/-
  THE ABSTRACT MACHINE: when memory represents its state, and how that is kept.
-/
import Derived.Test.YtfoddgpndoeeaaaGreatDoorAmDefs
set_option linter.unusedVariables false
namespace Go.AM

abbrev Mu := Nat → Nat → Option Value

/-- a map's entries in one value -/
def mapTuple (ks vs : List Value) : Value := .tuple #[.tuple ks.toArray, .tuple vs.toArray]
/-- what is seen at a place of memory: a cell, or a map's entries -/
def see (w : World) (b j : Nat) : Option Value :=
  match w.heap[b]? with
  | some (.cells c _ _) => (c[j]?).bind fun v => if v.oneCell' = true then some v else none
  | some (.map es _) => if j = 0 then some (mapTuple (es.toList.map (·.key)) (es.toList.map (·.val))) else none
  | _ => none
theorem see_cell {w : World} {b j : Nat} {v : Value} (h : see w b j = some v) (h1 : v.oneCell' = true) : w.cell? ⟨b, j, none⟩ = some v := by
  unfold see at h
  unfold World.cell?
  split at h
  · rename_i c t q hc
    simp only [hc]
    obtain ⟨u, hu, h⟩ := Option.bind_eq_some_iff.1 h
    split at h
    · injection h with h; subst h; simpa using hu
    · cases h
  · split at h
    · injection h with h; subst h; simp [mapTuple, Value.oneCell'] at h1
    · cases h
  · cases h
theorem see_of_cell {w : World} {b j : Nat} {v : Value} (h : w.cell? ⟨b, j, none⟩ = some v) (h1 : v.oneCell' = true) : see w b j = some v := by
  unfold World.cell? at h
  unfold see
  split at h
  · rename_i c t q hc
    simp only [hc]
    have h' : c[j]? = some v := by simpa using h
    simp [h', h1]
  · cases h
theorem see_map {w : World} {b : Nat} {kv ev : List Value} (h : see w b 0 = some (mapTuple kv ev)) : ∃ ents clock, w.heap[b]? = some (.map ents clock) ∧ kv = ents.toList.map (·.key) ∧ ev = ents.toList.map (·.val) := by
  unfold see at h
  split at h
  · obtain ⟨u, hu, h⟩ := Option.bind_eq_some_iff.1 h
    split at h
    · rename_i h1; injection h with h; subst h; simp [mapTuple, Value.oneCell'] at h1
    · cases h
  · rename_i es clock hc
    simp only [if_true, Option.some.injEq, mapTuple, Value.tuple.injEq] at h
    have h1 := congrArg Array.toList h
    simp only [List.cons.injEq, Value.tuple.injEq, and_true] at h1
    have e1 := congrArg Array.toList h1.1
    have e2 := congrArg Array.toList h1.2
    exact ⟨es, clock, hc, by simpa using e1.symm, by simpa using e2.symm⟩
  · cases h
theorem see_map_of {w : World} {b : Nat} {ents : Array MapEntry} {clock : Nat} (h : w.heap[b]? = some (.map ents clock)) : see w b 0 = some (mapTuple (ents.toList.map (·.key)) (ents.toList.map (·.val))) := by
  unfold see; rw [h]; simp
theorem see_lt {w : World} {b j : Nat} {v : Value} (h : see w b j = some v) : b < w.heap.size := by
  unfold see at h
  split at h
  · rename_i c t q hc; exact (Array.getElem?_eq_some_iff.1 hc).1
  · rename_i es cl hc; exact (Array.getElem?_eq_some_iff.1 hc).1
  · cases h
theorem see_of_block {w w' : World} {b : Nat} (h : w'.heap[b]? = w.heap[b]?) (j : Nat) : see w' b j = see w b j := by
  unfold see; rw [h]

mutual
def rep (μ : Mu) : AV → Value → Prop
  | .bool b, v => v = .bool b
  | .int k n, v => v = .int k n
  | .str s, v => v = .string ⟨s.toArray⟩
  | .lst sz xs, v => ∃ A c, v = .slice A xs.length c ∧ xs.length ≤ c ∧ c ≤ maxLen ∧ (xs.length = 0 ∨ ∃ b off, A = some ⟨b, off, none⟩ ∧ repRow μ sz b xs off)
  | .agg cs, v => ∃ vs : List Value, v = .agg vs.toArray ∧ repAll μ cs vs ∧ ∀ u ∈ vs, u.oneCell' = true
  | .fn f caps, v => ∃ vs : List Value, v = .func (.func f) #[] vs.toArray ∧ repAll μ caps vs
  | .tup cs, v => ∃ vs : List Value, v = .tuple vs.toArray ∧ repAll μ cs vs
  | .ref cs, v => ∃ (b off : Nat) (vs : List Value), v = .pointer (some ⟨b, off, none⟩) ∧ repAll μ cs vs ∧ (∀ u ∈ vs, u.oneCell' = true) ∧ ∀ j u, vs[j]? = some u → μ b (off + j) = some u
  | .self _, _ => False
  | .nilp, v => v = .pointer none
  | .nils, v => v = .slice none 0 0
  | .mp ks es, v => (v = .map none ∧ ks = [] ∧ es = []) ∨ ∃ (b : Nat) (kv ev : List Value), v = .map (some b) ∧ repAll μ ks kv ∧ repAll μ es ev ∧ μ b 0 = some (mapTuple kv ev)
def repAll (μ : Mu) : List AV → List Value → Prop
  | [], vs => vs = []
  | x :: xs, vs => ∃ u us, vs = u :: us ∧ rep μ x u ∧ repAll μ xs us
def repRow (μ : Mu) (sz b : Nat) : List (List AV) → Nat → Prop
  | [], _ => True
  | x :: xs, off => (∃ vs : List Value, repAll μ x vs ∧ (∀ u ∈ vs, u.oneCell' = true) ∧ vs.length = sz ∧ ∀ j u, vs[j]? = some u → μ b (off + j) = some u) ∧ repRow μ sz b xs (off + sz)
end

/-- cells -/
def repC (μ : Mu) (cs : List AV) (vs : List Value) : Prop := repAll μ cs vs ∧ ∀ u ∈ vs, u.oneCell' = true

def Mu.le (μ μ' : Mu) : Prop := ∀ b j v, μ b j = some v → μ' b j = some v

theorem Mu.le.refl (μ : Mu) : μ.le μ := fun _ _ _ h => h
theorem Mu.le.trans {a b c : Mu} (h : a.le b) (k : b.le c) : a.le c := fun x y v hv => k _ _ _ (h _ _ _ hv)

mutual
theorem rep_mono {μ μ' : Mu} (h : μ.le μ') : ∀ (x : AV) (v : Value), rep μ x v → rep μ' x v
  | .bool b, v => fun hv => by simpa [rep] using hv
  | .int k n, v => fun hv => by simpa [rep] using hv
  | .str s, v => fun hv => by simpa [rep] using hv
  | .lst sz xs, v => fun hv => by
    rw [rep] at hv ⊢
    obtain ⟨A, c, e, h1, h2, h3⟩ := hv
    exact ⟨A, c, e, h1, h2, h3.imp id fun ⟨b, off, ea, hr⟩ => ⟨b, off, ea, repRow_mono h sz b xs off hr⟩⟩
  | .agg cs, v => fun hv => by
    rw [rep] at hv ⊢
    obtain ⟨vs, e, h1, h2⟩ := hv
    exact ⟨vs, e, repAll_mono h cs vs h1, h2⟩
  | .fn f caps, v => fun hv => by
    rw [rep] at hv ⊢
    obtain ⟨vs, e, h1⟩ := hv
    exact ⟨vs, e, repAll_mono h caps vs h1⟩
  | .tup cs, v => fun hv => by
    rw [rep] at hv ⊢
    obtain ⟨vs, e, h1⟩ := hv
    exact ⟨vs, e, repAll_mono h cs vs h1⟩
  | .ref cs, v => fun hv => by
    rw [rep] at hv ⊢
    obtain ⟨b, off, vs, e, h1, h2, h3⟩ := hv
    exact ⟨b, off, vs, e, repAll_mono h cs vs h1, h2, fun j u hu => h _ _ _ (h3 j u hu)⟩
  | .self n, v => fun hv => by rw [rep] at hv; exact hv.elim
  | .nilp, v => fun hv => by simpa [rep] using hv
  | .nils, v => fun hv => by simpa [rep] using hv
  | .mp ks es, v => fun hv => by
    rw [rep] at hv ⊢
    rcases hv with hv | ⟨b, kv, ev, e, h1, h2, h3⟩
    · exact .inl hv
    · exact .inr ⟨b, kv, ev, e, repAll_mono h ks kv h1, repAll_mono h es ev h2, h _ _ _ h3⟩
theorem repAll_mono {μ μ' : Mu} (h : μ.le μ') : ∀ (xs : List AV) (vs : List Value), repAll μ xs vs → repAll μ' xs vs
  | [], vs => fun hv => by simpa [repAll] using hv
  | x :: xs, vs => fun hv => by
    rw [repAll] at hv ⊢
    obtain ⟨u, us, e, h1, h2⟩ := hv
    exact ⟨u, us, e, rep_mono h x u h1, repAll_mono h xs us h2⟩
theorem repRow_mono {μ μ' : Mu} (h : μ.le μ') (sz b : Nat) : ∀ (xs : List (List AV)) (off : Nat), repRow μ sz b xs off → repRow μ' sz b xs off
  | [], off => fun _ => by simp [repRow]
  | x :: xs, off => fun hv => by
    rw [repRow] at hv ⊢
    obtain ⟨⟨vs, h1, h2, h3, h4⟩, h5⟩ := hv
    exact ⟨⟨vs, repAll_mono h x vs h1, h2, h3, fun j u hu => h _ _ _ (h4 j u hu)⟩, repRow_mono h sz b xs _ h5⟩
end

theorem repC.mono {μ μ' : Mu} (h : μ.le μ') {cs : List AV} {vs : List Value} (k : repC μ cs vs) : repC μ' cs vs := ⟨repAll_mono h _ _ k.1, k.2⟩

section
variable {μ : Mu}

theorem repAll_nil : repAll μ [] [] := by simp [repAll]
theorem repAll_cons {x : AV} {xs : List AV} {v : Value} {vs : List Value} (h : rep μ x v) (k : repAll μ xs vs) : repAll μ (x :: xs) (v :: vs) := by
  rw [repAll]; exact ⟨v, vs, rfl, h, k⟩
theorem repAll_length {xs : List AV} {vs : List Value} (h : repAll μ xs vs) : vs.length = xs.length := by
  induction xs generalizing vs with
  | nil => rw [repAll] at h; subst h; rfl
  | cons x xs ih => rw [repAll] at h; obtain ⟨u, us, rfl, _, h2⟩ := h; simp [ih h2]
theorem repAll_get {xs : List AV} {vs : List Value} (h : repAll μ xs vs) {i : Nat} {x : AV} (hx : xs[i]? = some x) : ∃ v, vs[i]? = some v ∧ rep μ x v := by
  induction xs generalizing vs i with
  | nil => simp at hx
  | cons y xs ih =>
    rw [repAll] at h
    obtain ⟨u, us, rfl, h1, h2⟩ := h
    cases i with
    | zero => simp at hx; subst hx; exact ⟨u, by simp, h1⟩
    | succ i => simp at hx; obtain ⟨v, hv, hr⟩ := ih h2 hx; exact ⟨v, by simpa using hv, hr⟩
theorem repAll_append {xs ys : List AV} {vs us : List Value} (h : repAll μ xs vs) (k : repAll μ ys us) : repAll μ (xs ++ ys) (vs ++ us) := by
  induction xs generalizing vs with
  | nil => rw [repAll] at h; subst h; simpa using k
  | cons x xs ih =>
    rw [repAll] at h
    obtain ⟨u, vs', rfl, h1, h2⟩ := h
    exact repAll_cons h1 (ih h2)
theorem repAll_drop {xs : List AV} {vs : List Value} (h : repAll μ xs vs) (n : Nat) : repAll μ (xs.drop n) (vs.drop n) := by
  induction n generalizing xs vs with
  | zero => simpa using h
  | succ n ih =>
    cases xs with
    | nil => rw [repAll] at h; subst h; simp [repAll]
    | cons x xs => rw [repAll] at h; obtain ⟨u, us, rfl, _, h2⟩ := h; simpa using ih h2
theorem repAll_take {xs : List AV} {vs : List Value} (h : repAll μ xs vs) (n : Nat) : repAll μ (xs.take n) (vs.take n) := by
  induction n generalizing xs vs with
  | zero => simp [repAll]
  | succ n ih =>
    cases xs with
    | nil => rw [repAll] at h; subst h; simp [repAll]
    | cons x xs => rw [repAll] at h; obtain ⟨u, us, rfl, h1, h2⟩ := h; simpa using repAll_cons h1 (ih h2)

theorem repC.drop {cs : List AV} {vs : List Value} (h : repC μ cs vs) (n : Nat) : repC μ (cs.drop n) (vs.drop n) :=
  ⟨repAll_drop h.1 n, fun u hu => h.2 u (List.mem_of_mem_drop hu)⟩
theorem repC.take {cs : List AV} {vs : List Value} (h : repC μ cs vs) (n : Nat) : repC μ (cs.take n) (vs.take n) :=
  ⟨repAll_take h.1 n, fun u hu => h.2 u (List.mem_of_mem_take hu)⟩
theorem repC.append {cs ds : List AV} {vs us : List Value} (h : repC μ cs vs) (k : repC μ ds us) : repC μ (cs ++ ds) (vs ++ us) :=
  ⟨repAll_append h.1 k.1, fun u hu => (List.mem_append.1 hu).elim (h.2 u) (k.2 u)⟩
theorem repC.length {cs : List AV} {vs : List Value} (h : repC μ cs vs) : vs.length = cs.length := repAll_length h.1

/-- a value that is no tuple: its cells -/
theorem rep_cells {x : AV} {v : Value} (h : rep μ x v) (ht : ∀ vs, x ≠ .tup vs) : repC μ x.cells v.cells.toList := by
  cases x with
  | agg cs =>
    rw [rep] at h
    obtain ⟨vs, rfl, h1, h2⟩ := h
    exact ⟨by simpa [AV.cells, Value.cells] using h1, by simpa [Value.cells] using h2⟩
  | tup vs => exact absurd rfl (ht vs)
  | lst sz xs =>
    have h' := h
    rw [rep] at h'
    obtain ⟨A, c, rfl, _⟩ := h'
    exact ⟨repAll_cons h repAll_nil, by simp [Value.cells, Value.oneCell']⟩
  | fn f caps =>
    have h' := h
    rw [rep] at h'
    obtain ⟨vs, rfl, _⟩ := h'
    exact ⟨repAll_cons h repAll_nil, by simp [Value.cells, Value.oneCell']⟩
  | ref cs =>
    have h' := h
    rw [rep] at h'
    obtain ⟨b, off, vs, rfl, _⟩ := h'
    exact ⟨repAll_cons h repAll_nil, by simp [Value.cells, Value.oneCell']⟩
  | self n => rw [rep] at h; exact h.elim
  | nilp => have h' := h; rw [rep] at h'; subst h'; exact ⟨repAll_cons h repAll_nil, by simp [Value.cells, Value.oneCell']⟩
  | nils => have h' := h; rw [rep] at h'; subst h'; exact ⟨repAll_cons h repAll_nil, by simp [Value.cells, Value.oneCell']⟩
  | mp ks es =>
    have h' := h
    rw [rep] at h'
    rcases h' with ⟨rfl, _⟩ | ⟨b, kv, ev, rfl, _⟩
    · exact ⟨repAll_cons h repAll_nil, by simp [Value.cells, Value.oneCell']⟩
    · exact ⟨repAll_cons h repAll_nil, by simp [Value.cells, Value.oneCell']⟩
  | bool b => have h' := h; rw [rep] at h'; subst h'; exact ⟨repAll_cons h repAll_nil, by simp [Value.cells, Value.oneCell']⟩
  | int k n => have h' := h; rw [rep] at h'; subst h'; exact ⟨repAll_cons h repAll_nil, by simp [Value.cells, Value.oneCell']⟩
  | str s => have h' := h; rw [rep] at h'; subst h'; exact ⟨repAll_cons h repAll_nil, by simp [Value.cells, Value.oneCell']⟩

theorem repRow_get {sz b : Nat} {xs : List (List AV)} {off : Nat} (h : repRow μ sz b xs off) {i : Nat} {x : List AV} (hx : xs[i]? = some x) :
    ∃ vs : List Value, repC μ x vs ∧ vs.length = sz ∧ ∀ j u, vs[j]? = some u → μ b (off + (i * sz) + j) = some u := by
  induction xs generalizing off i with
  | nil => simp at hx
  | cons y xs ih =>
    rw [repRow] at h
    obtain ⟨⟨vs, h1, h2, h3, h4⟩, h5⟩ := h
    cases i with
    | zero => simp at hx; subst hx; exact ⟨vs, ⟨h1, h2⟩, h3, by simpa using h4⟩
    | succ i =>
      simp at hx
      obtain ⟨vs', k1, k2, k3⟩ := ih h5 hx
      refine ⟨vs', k1, k2, fun j u hu => ?_⟩
      have := k3 j u hu
      rwa [show off + sz + i * sz + j = off + (i + 1) * sz + j from by rw [Nat.add_mul]; omega] at this
theorem repRow_drop {sz b : Nat} {xs : List (List AV)} {off : Nat} (h : repRow μ sz b xs off) (n : Nat) (hn : n ≤ xs.length) : repRow μ sz b (xs.drop n) (off + n * sz) := by
  induction n generalizing xs off with
  | zero => simpa using h
  | succ n ih =>
    cases xs with
    | nil => simp at hn
    | cons x xs =>
      rw [repRow] at h
      have := ih h.2 (by simpa using hn)
      rw [List.drop_succ_cons]
      rwa [show off + (n + 1) * sz = off + sz + n * sz from by rw [Nat.add_mul]; omega]
theorem repRow_take {sz b : Nat} {xs : List (List AV)} {off : Nat} (h : repRow μ sz b xs off) (n : Nat) : repRow μ sz b (xs.take n) off := by
  induction n generalizing xs off with
  | zero => simp [repRow]
  | succ n ih =>
    cases xs with
    | nil => simp [repRow]
    | cons x xs => rw [List.take_succ_cons]; rw [repRow] at h ⊢; exact ⟨h.1, ih h.2⟩
end

/-! slots -/
/-- what a slot holds of an object -/
def baseV : Value → Value
  | .tuple us => us.getD 0 undef
  | v => v

def repCap (μ : Mu) (loc : Nat → Value) : Cap → Value → Prop
  | .v a, u => rep μ a u
  | .p id, u => ∃ b, loc id = .pointer (some ⟨b, 0, none⟩) ∧ u = .pointer (some ⟨b, 0, none⟩)
  | .r id, u => u = baseV (loc id)

def repCaps (μ : Mu) (loc : Nat → Value) : List Cap → List Value → Prop
  | [], vs => vs = []
  | c :: cs, vs => ∃ u us, vs = u :: us ∧ repCap μ loc c u ∧ repCaps μ loc cs us

def repS (μ : Mu) (loc : Nat → Value) : SV → Value → Prop
  | .undef, u => u = undef
  | .any, _ => True
  | .pv v, u => rep μ v u
  | .ptr id off, u => ∃ b, loc id = .pointer (some ⟨b, 0, none⟩) ∧ u = .pointer (some ⟨b, off, none⟩)
  | .row id, u => u = baseV (loc id)
  | .rp id sz i off, u => ∃ g n c, loc id = .slice (some ⟨g, 0, none⟩) n c ∧ u = .pointer (some ⟨g, i * sz + off, none⟩)
  | .sub id sz lo hi, u => ∃ A n c A' c', loc id = .slice A n c ∧ lo ≤ hi ∧ hi ≤ n ∧ hi - lo ≤ c' ∧ u = .slice A' (hi - lo) c' ∧ (lo = 0 → A' = A ∧ c' = c) ∧ (lo < hi → ∃ g, A = some ⟨g, 0, none⟩ ∧ A' = some ⟨g, lo * sz, none⟩)
  | .cp cs, u => ∃ b off vs, u = .pointer (some ⟨b, off, none⟩) ∧ repC μ cs vs ∧ ∀ j v, vs[j]? = some v → μ b (off + j) = some v
  | .cl f caps, u => ∃ vs : List Value, u = .func (.func f) #[] vs.toArray ∧ repCaps μ loc caps vs
  | .two s b, u => ∃ x, u = .tuple #[x, .bool b] ∧ repS μ loc s x
  | .ag caps, u => ∃ vs : List Value, u = .agg vs.toArray ∧ repCaps μ loc caps vs ∧ ∀ x ∈ vs, x.oneCell' = true

def repSs (μ : Mu) (loc : Nat → Value) : List SV → List Value → Prop
  | [], vs => vs = []
  | x :: xs, vs => ∃ u us, vs = u :: us ∧ repS μ loc x u ∧ repSs μ loc xs us

/-- the cells of a row's elements, one behind the other -/
def rowCells (μ : Mu) (sz : Nat) : List (List AV) → List Value → Prop
  | [], vs => vs = []
  | x :: xs, vs => ∃ us ws, vs = us ++ ws ∧ repC μ x us ∧ us.length = sz ∧ rowCells μ sz xs ws

def blockOf : Value → Option Nat
  | .pointer (some a) => some a.block
  | .slice (some a) _ _ => some a.block
  | .map (some b) => some b
  | _ => none

/-- the blocks of a place: a map of rows has many -/
def inB (v : Value) (b : Nat) : Prop := blockOf v = some b ∨ ∃ us : List Value, v = .tuple us.toArray ∧ ∃ u ∈ us, blockOf u = some b
/-- what was lent: the places of lent objects, by their names -/
structure Lent where
  f : Nat → Option Value
  q : Prop
instance : CoeFun Lent (fun _ => Nat → Option Value) := ⟨Lent.f⟩
def lentB (L : Lent) (b : Nat) : Prop := ∃ id v, L id = some v ∧ inB v b

/-- a block that the frame may write: made since it began, or lent to it -/
def ownB (n0 : Nat) (L : Lent) (id b : Nat) : Prop := n0 ≤ b ∨ ∃ v, L id = some v ∧ inB v b

/-- the stamps of a map's entries -/
def Born (ents : Array MapEntry) (clock : Nat) : Prop := (∀ x ∈ ents.toList, x.born < clock) ∧ (ents.toList.map (·.born)).Nodup
/-- an object lies in memory -/
def obOK (n0 : Nat) (L : Lent) (μ : Mu) (loc : Nat → Value) (w : World) (id : Nat) : Ob → Prop
  | .box t cells => ∃ (b : Nat) (vs : List Value), loc id = .pointer (some ⟨b, 0, none⟩) ∧ ownB n0 L id b ∧ w.heap[b]? = some (.cells vs.toArray t (0, 0)) ∧ (∀ j, μ b j = none) ∧ repSs μ loc cells vs ∧ ∀ u ∈ vs, u.oneCell' = true
  | .row e sz xs => ∃ vs : List Value, w.ownsRow 0 e sz (loc id) xs.length vs ∧ rowCells μ sz xs vs ∧ ∀ g, inB (loc id) g → ownB n0 L id g ∧ ∀ j, μ g j = none
  | .mp k e ks es => ∃ (b : Nat) (ents : Array MapEntry) (clock : Nat), loc id = .map (some b) ∧ ownB n0 L id b ∧ w.heap[b]? = some (.map ents clock) ∧ (∀ j, μ b j = none) ∧ repAll μ ks (ents.toList.map (·.key)) ∧ repAll μ es (ents.toList.map (·.val)) ∧ Born ents clock
  | .mr k e sz ks vs => ∃ (b : Nat) (ents : Array MapEntry) (clock : Nat) (us : List Value), loc id = .tuple (.map (some b) :: us).toArray ∧ n0 ≤ b ∧ w.heap[b]? = some (.map ents clock) ∧ (∀ j, μ b j = none) ∧
      repAll μ ks (ents.toList.map (·.key)) ∧ us.length = vs.length ∧ ents.size = vs.length ∧
      (∀ (i : Nat) xs, vs[i]? = some (some xs) → ∃ (u : Value) (cells : List Value), us[i]? = some u ∧ (ents.toList.map (·.val))[i]? = some u ∧ w.ownsRow 0 e sz u xs.length cells ∧ rowCells μ sz xs cells ∧ ∀ g, blockOf u = some g → n0 ≤ g ∧ ∀ j, μ g j = none) ∧
      (∀ i : Nat, vs[i]? = some none → us[i]? = some undef) ∧
      (∀ (i j : Nat) (u v : Value), us[i]? = some u → us[j]? = some v → i ≠ j → ∀ g, blockOf u = some g → blockOf v ≠ some g)
  | .it s pos => ∃ b, loc id = .pointer (some ⟨b, 0, none⟩) ∧ ownB n0 L id b ∧ w.heap[b]? = some (.stringIter ⟨s.toArray⟩ pos) ∧ ∀ j, μ b j = none

/-- more is public: new cells lie in blocks from n on -/
def Mu.ext (n : Nat) (μ μ' : Mu) : Prop := μ.le μ' ∧ ∀ b j v, μ' b j = some v → μ b j = some v ∨ n ≤ b

/-- the frame: w0 is the world when the call began, μ0 what was public then, L the blocks that were lent -/
structure Rel (N : Nat) (w0 : World) (μ0 : Mu) (L : Lent) (μ : Mu) (loc : Nat → Value) (st : St) (a : Act) (w : World) : Prop where
  small : N ≤ 10000
  names : ∀ id, id < 10000 → L id = none
  fix : ∀ id v, L id = some v → id < 20000 → loc id = v
  size : a.tmps.size = N
  defers : a.defers = []
  env : ∀ i sv, st.env i = some sv → ∃ v, a.tmps[i]? = some v ∧ repS μ loc sv v
  pub : ∀ b j v, μ b j = some v → see w b j = some v
  base : μ0.ext w0.heap.size μ
  obs : ∀ id o, st.ob id = some o → obOK w0.heap.size L μ loc w id o
  apart : ∀ i j oi oj, st.ob i = some oi → st.ob j = some oj → i ≠ j → ∀ g, inB (loc i) g → ¬ inB (loc j) g
  keep : ∀ b, b < w0.heap.size → ¬ lentB L b → w.heap[b]? = w0.heap[b]?
  os : w.os = w0.os
  tape : w.tape = w0.tape
  output : w.output = w0.output
  grown : w0.heap.size ≤ w.heap.size
  drawn : L.q → w0.drawn ≤ w.drawn

end Go.AM
