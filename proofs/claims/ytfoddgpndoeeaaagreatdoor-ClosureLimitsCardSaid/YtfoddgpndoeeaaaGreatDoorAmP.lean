/-
  THE ABSTRACT MACHINE: trees of plain values. What a function gives is taken apart once, so that its body reads as a plain program.
-/
import Derived.Test.YtfoddgpndoeeaaaGreatDoorAmS
set_option linter.unusedVariables false
namespace Go.AM
abbrev Out : Type := AV × List (Nat × Ob)
/-- what a call gives, typed -/
noncomputable def dec {T : Type} (E : T → Out) (c : Option Out) : Option T :=
  match c with
  | some r => open Classical in if h : ∃ x, E x = r then some h.choose else none
  | none => none
/-- where t has a value, c has it -/
def Imp {T : Type} (E : T → Out) (c : Option Out) (t : Option T) : Prop := ∀ x, t = some x → c = some (E x)
theorem dec_imp {T : Type} (E : T → Out) (c : Option Out) : Imp E c (dec E c) := by
  intro x hx
  cases c with
  | none => simp [dec] at hx
  | some r =>
    simp only [dec] at hx
    split at hx
    · rename_i h
      have := h.choose_spec
      simp only [Option.some.injEq] at hx
      rw [← hx, this]
    · simp at hx
theorem dec_some {T : Type} {E : T → Out} [Inj E] {c : Option Out} {x : T} (h : c = some (E x)) : dec E c = some x := by
  subst h
  have hx : ∃ y, E y = E x := ⟨x, rfl⟩
  simp only [dec, dif_pos hx]
  rw [Inj.inj _ _ hx.choose_spec]
theorem lift {T : Type} {E : T → Out} [Inj E] {raw c : Option Out} {t : Option T} {r : T} (h : ∀ {r : Out}, raw = some r → c = some r) (ht : t = some r) (hi : Imp E raw t) : dec E c = some r :=
  dec_some (h (hi _ ht))
section
variable {T : Type} {E : T → Out}
theorem I_none {c : Option Out} : Imp E c none := fun _ h => by simp at h
theorem I_some {c : Out} {x : T} (h : c = E x) : Imp E (some c) (some x) := by
  intro y hy; simp only [Option.some.injEq] at hy; subst hy; rw [h]
theorem I_cond {c c' : Bool} {a b : Option Out} {a' b' : Option T} (hc : c = c') (h1 : Imp E a a') (h2 : Imp E b b') : Imp E (bif c then a else b) (bif c' then a' else b') := by
  subst hc; cases c
  · exact h2
  · exact h1
theorem check_some2 {R : Type} {p : Prop} [Decidable p] {a : Option R} {x : R} (h : check p a = some x) : p ∧ a = some x := by
  unfold check at h
  split at h
  · exact ⟨by assumption, h⟩
  · simp at h
theorem check_pos' {R : Type} {p : Prop} [Decidable p] {a : Option R} (h : p) : check p a = a := by
  unfold check; rw [if_pos h]
theorem I_check {p p' : Prop} [Decidable p] [Decidable p'] {a : Option Out} {a' : Option T} (hp : p' → p) (h : Imp E a a') : Imp E (check p a) (check p' a') := by
  intro x hx
  have := check_some2 hx
  rw [check_pos' (hp this.1)]; exact h _ this.2
theorem I_getK {α β : Type} {enc : α → β} [Inj enc] {L : List β} {l : List α} {i : Int} {k : α → Option Out} {k' : α → Option T} (hl : L = l.map enc) (h : ∀ x, Imp E (k x) (k' x)) :
    Imp E (getK L i fun c => asE enc c k) (getK l i k') := by
  subst hl
  intro x hx
  unfold getK at hx ⊢
  split at hx
  · rename_i h0
    rw [List.getElem?_map]
    cases e : l[i.toNat]? with
    | none => rw [e] at hx; simp at hx
    | some y =>
      rw [e] at hx
      simp only [Option.map_some, if_pos h0]
      rw [asE_enc]; exact h _ _ hx
  · simp at hx
theorem I_getN {α β : Type} {enc : α → β} [Inj enc] {L : List β} {l : List α} {i : Nat} {k : α → Option Out} {k' : α → Option T} (hl : L = l.map enc) (h : ∀ x, Imp E (k x) (k' x)) :
    Imp E (getN L i fun c => asE enc c k) (getN l i k') := by
  subst hl
  intro x hx
  unfold getN at hx ⊢
  rw [List.getElem?_map]
  cases e : l[i]? with
  | none => rw [e] at hx; simp at hx
  | some y =>
    rw [e] at hx
    simp only [Option.map_some]
    rw [asE_enc]; exact h _ _ hx
theorem I_getKx {α β : Type} {enc : α → β} [Inj enc] {L : List β} {l : List α} {i i' : Int} {k : α → Option Out} {k' : α → Option T} (hl : L = l.map enc) (hi : i = i') (h : ∀ x, Imp E (k x) (k' x)) :
    Imp E (getK L i fun c => asE enc c k) (getK l i' k') := by
  subst hi; exact I_getK hl h
theorem I_getNx {α β : Type} {enc : α → β} [Inj enc] {L : List β} {l : List α} {i i' : Nat} {k : α → Option Out} {k' : α → Option T} (hl : L = l.map enc) (hi : i = i') (h : ∀ x, Imp E (k x) (k' x)) :
    Imp E (getN L i fun c => asE enc c k) (getN l i' k') := by
  subst hi; exact I_getN hl h
theorem I_getb {α : Type} {l : List α} {i : Int} {k : α → Option Out} {k' : α → Option T} (h : ∀ x, Imp E (k x) (k' x)) : Imp E (getK l i k) (getK l i k') := by
  intro x hx
  unfold getK at hx ⊢
  split at hx
  · rename_i h0
    rw [if_pos h0]
    cases e : l[i.toNat]? with
    | none => rw [e] at hx; simp at hx
    | some y => rw [e] at hx; exact h _ _ hx
  · simp at hx
theorem bind_some {α β : Type} {f : Option α} {k : α → Option β} {x : β} (h : Option.bind f k = some x) : ∃ y, f = some y ∧ k y = some x := by
  cases f with
  | none => simp at h
  | some y => exact ⟨y, rfl, h⟩
theorem I_call {U : Type} {enc : U → AV} [Inj enc] {E' : U → Out} {c : Option Out} {f : Option U} {k : U → Option Out} {k' : U → Option T} (hf : Imp E' c f) (h : ∀ y, Imp E (k y) (k' y)) (hE : ∀ y, E' y = (enc y, []) := by intro _; rfl) :
    Imp E (callE c fun r => asE enc r k) (Option.bind f k') := by
  intro x hx
  obtain ⟨y, h1, h2⟩ := bind_some hx
  rw [hf _ h1, hE, callE_some', asE_enc]
  exact h _ _ h2
def bind2 {U V R : Type} (f : Option (U × V)) (k : U → V → Option R) : Option R := f.bind fun p => k p.1 p.2
def bind3 {U V W R : Type} (f : Option (U × V × W)) (k : U → V → W → Option R) : Option R := f.bind fun p => k p.1 p.2.1 p.2.2
def ptrT {U R : Type} (o : Option U) (k : U → Option R) : Option R := match o with
  | some x => k x
  | none => none
theorem ptrT_some {U R : Type} (x : U) (k : U → Option R) : ptrT (some x) k = k x := rfl
def bind4 {U0 U1 U2 U3 R : Type} (f : Option (U0 × U1 × U2 × U3)) (k : U0 → U1 → U2 → U3 → Option R) : Option R := f.bind fun p => k p.1 p.2.1 p.2.2.1 p.2.2.2
theorem bind4_some {U0 U1 U2 U3 R : Type} (a0 : U0) (a1 : U1) (a2 : U2) (a3 : U3) (k : U0 → U1 → U2 → U3 → Option R) : bind4 (some (a0, a1, a2, a3)) k = k a0 a1 a2 a3 := rfl
def bind5 {U0 U1 U2 U3 U4 R : Type} (f : Option (U0 × U1 × U2 × U3 × U4)) (k : U0 → U1 → U2 → U3 → U4 → Option R) : Option R := f.bind fun p => k p.1 p.2.1 p.2.2.1 p.2.2.2.1 p.2.2.2.2
theorem bind5_some {U0 U1 U2 U3 U4 R : Type} (a0 : U0) (a1 : U1) (a2 : U2) (a3 : U3) (a4 : U4) (k : U0 → U1 → U2 → U3 → U4 → Option R) : bind5 (some (a0, a1, a2, a3, a4)) k = k a0 a1 a2 a3 a4 := rfl
def bind6 {U0 U1 U2 U3 U4 U5 R : Type} (f : Option (U0 × U1 × U2 × U3 × U4 × U5)) (k : U0 → U1 → U2 → U3 → U4 → U5 → Option R) : Option R := f.bind fun p => k p.1 p.2.1 p.2.2.1 p.2.2.2.1 p.2.2.2.2.1 p.2.2.2.2.2
theorem bind6_some {U0 U1 U2 U3 U4 U5 R : Type} (a0 : U0) (a1 : U1) (a2 : U2) (a3 : U3) (a4 : U4) (a5 : U5) (k : U0 → U1 → U2 → U3 → U4 → U5 → Option R) : bind6 (some (a0, a1, a2, a3, a4, a5)) k = k a0 a1 a2 a3 a4 a5 := rfl
def bind7 {U0 U1 U2 U3 U4 U5 U6 R : Type} (f : Option (U0 × U1 × U2 × U3 × U4 × U5 × U6)) (k : U0 → U1 → U2 → U3 → U4 → U5 → U6 → Option R) : Option R := f.bind fun p => k p.1 p.2.1 p.2.2.1 p.2.2.2.1 p.2.2.2.2.1 p.2.2.2.2.2.1 p.2.2.2.2.2.2
theorem bind7_some {U0 U1 U2 U3 U4 U5 U6 R : Type} (a0 : U0) (a1 : U1) (a2 : U2) (a3 : U3) (a4 : U4) (a5 : U5) (a6 : U6) (k : U0 → U1 → U2 → U3 → U4 → U5 → U6 → Option R) : bind7 (some (a0, a1, a2, a3, a4, a5, a6)) k = k a0 a1 a2 a3 a4 a5 a6 := rfl
def bind8 {U0 U1 U2 U3 U4 U5 U6 U7 R : Type} (f : Option (U0 × U1 × U2 × U3 × U4 × U5 × U6 × U7)) (k : U0 → U1 → U2 → U3 → U4 → U5 → U6 → U7 → Option R) : Option R := f.bind fun p => k p.1 p.2.1 p.2.2.1 p.2.2.2.1 p.2.2.2.2.1 p.2.2.2.2.2.1 p.2.2.2.2.2.2.1 p.2.2.2.2.2.2.2
theorem bind8_some {U0 U1 U2 U3 U4 U5 U6 U7 R : Type} (a0 : U0) (a1 : U1) (a2 : U2) (a3 : U3) (a4 : U4) (a5 : U5) (a6 : U6) (a7 : U7) (k : U0 → U1 → U2 → U3 → U4 → U5 → U6 → U7 → Option R) : bind8 (some (a0, a1, a2, a3, a4, a5, a6, a7)) k = k a0 a1 a2 a3 a4 a5 a6 a7 := rfl
def bind9 {U0 U1 U2 U3 U4 U5 U6 U7 U8 R : Type} (f : Option (U0 × U1 × U2 × U3 × U4 × U5 × U6 × U7 × U8)) (k : U0 → U1 → U2 → U3 → U4 → U5 → U6 → U7 → U8 → Option R) : Option R := f.bind fun p => k p.1 p.2.1 p.2.2.1 p.2.2.2.1 p.2.2.2.2.1 p.2.2.2.2.2.1 p.2.2.2.2.2.2.1 p.2.2.2.2.2.2.2.1 p.2.2.2.2.2.2.2.2
theorem bind9_some {U0 U1 U2 U3 U4 U5 U6 U7 U8 R : Type} (a0 : U0) (a1 : U1) (a2 : U2) (a3 : U3) (a4 : U4) (a5 : U5) (a6 : U6) (a7 : U7) (a8 : U8) (k : U0 → U1 → U2 → U3 → U4 → U5 → U6 → U7 → U8 → Option R) : bind9 (some (a0, a1, a2, a3, a4, a5, a6, a7, a8)) k = k a0 a1 a2 a3 a4 a5 a6 a7 a8 := rfl
theorem bind2_some {U V R : Type} (a : U) (b : V) (k : U → V → Option R) : bind2 (some (a, b)) k = k a b := rfl
theorem bind3_some {U V W R : Type} (a : U) (b : V) (c : W) (k : U → V → W → Option R) : bind3 (some (a, b, c)) k = k a b c := rfl
theorem I_callR {U V : Type} {enc : U → AV} [Inj enc] {ee : V → List AV} [Inj ee] {nm e sz : Nat} {E' : U × List V → Out} {c : Option Out} {f : Option (U × List V)} {k : U → List V → Option Out} {k' : U → List V → Option T}
    (hf : Imp E' c f) (h : ∀ y xs, Imp E (k y xs) (k' y xs)) (hE : ∀ y, E' y = (enc y.1, [(nm, .row e sz (y.2.map ee))]) := by intro _; rfl) :
    Imp E (callR c nm e sz fun r c2 => asE enc r fun y => asE (List.map ee) c2 fun xs => k y xs) (bind2 f k') := by
  intro x hx
  obtain ⟨y, h1, h2⟩ := bind_some hx
  rw [hf _ h1, hE, callR_some', asE_enc, asE_enc]
  exact h _ _ _ h2
end

/-! walking along a list -/
section
variable {α R : Type}
theorem drop_lt {l : List α} {i : Nat} {x : α} {xs : List α} (h : l.drop i = x :: xs) : i < l.length := by
  have := congrArg List.length h
  simp only [List.length_drop, List.length_cons] at this; omega
theorem drop_ge {l : List α} {i : Nat} (h : l.drop i = []) : l.length ≤ i := by
  have := congrArg List.length h
  simp only [List.length_drop, List.length_nil] at this; omega
theorem drop_get {l : List α} {i : Nat} {x : α} {xs : List α} (h : l.drop i = x :: xs) : l[i]? = some x := by
  have := congrArg (fun m => m[0]?) h
  simpa using this
theorem drop_next {l : List α} {i : Nat} {x : α} {xs : List α} (h : l.drop i = x :: xs) : l.drop (i + 1) = xs := by
  have := congrArg (List.drop 1) h
  simpa [List.drop_drop, Nat.add_comm] using this
theorem in_drop {l : List α} {i : Nat} {x : α} {xs : List α} (h : l.drop i = x :: xs) : decide ((i : Int) < (l.length : Int)) = true := by
  have := drop_lt h; simp; omega
theorem end_drop {l : List α} {i : Nat} (h : l.drop i = []) : decide ((i : Int) < (l.length : Int)) = false := by
  have := drop_ge h; simp; omega
theorem at_drop {l : List α} {i : Nat} {x : α} {xs : List α} (h : l.drop i = x :: xs) (k : α → Option R) : getK l (i : Int) k = k x := getK_nat (drop_get h) k
theorem atN_drop {l : List α} {i : Nat} {x : α} {xs : List α} (h : l.drop i = x :: xs) (k : α → Option R) : getN l (Int.toNat (i : Int)) k = k x := by
  rw [Int.toNat_natCast]; exact getN_pos (drop_get h) k
theorem chk_drop {l : List α} {i : Nat} {x : α} {xs : List α} (h : l.drop i = x :: xs) (a : Option R) : check (0 ≤ (i : Int) ∧ Int.toNat (i : Int) < l.length) a = a :=
  check_pos ⟨by omega, by rw [Int.toNat_natCast]; exact drop_lt h⟩ a
theorem wrap_drop {l : List α} {i : Nat} {x : α} {xs : List α} (h : l.drop i = x :: xs) (hl : l.length ≤ 1073741824) : IntKind.wrap .i64 ((i : Int) + 1) = ((i + 1 : Nat) : Int) :=
  wrap_succ (by have := drop_lt h; omega)
theorem chk_app {n m c : Nat} (a : Option R) (h : n ≤ 1073741824) (hm : m ≤ 1073741824) (hc : c ≤ 1024) : check ((n + m) * c ≤ 140737488355328 ∧ n + m ≤ 4611686018427387904) a = a := by
  refine check_pos ⟨?_, by omega⟩ a
  have h1 : (n + m) * c ≤ (n + m) * 1024 := Nat.mul_le_mul_left _ hc
  omega
theorem chk_cut {l : List α} {i : Nat} (h : i ≤ l.length) (a : Option R) : check (0 ≤ (i : Int) ∧ (i : Int) ≤ ((l.length : Nat) : Int)) a = a := check_pos ⟨by omega, by omega⟩ a
theorem wrap_pred {n : Nat} (h : n ≤ 1073741824) : IntKind.wrap .i64 (((n + 1 : Nat) : Int) - 1) = (n : Int) := by
  rw [wrap64_id (by omega) (by omega)]; omega
theorem drop_zero' (l : List α) : l.drop 0 = l := rfl
/-- the index of the first one -/
def ixFrom (p : α → Bool) : List α → Nat → Int
  | [], _ => -1
  | x :: xs, i => if p x then (i : Int) else ixFrom p xs (i + 1)
theorem bind_some' {α β : Type} (a : α) (k : α → Option β) : Option.bind (some a) k = k a := rfl
theorem getK_at {l : List α} {i : Nat} (h : i < l.length) (k : α → Option R) : getK l (i : Int) k = k l[i] := getK_nat (List.getElem?_eq_getElem h) k
theorem getN_at {l : List α} {i : Nat} (h : i < l.length) (k : α → Option R) : getN l i k = k l[i] := getN_pos (List.getElem?_eq_getElem h) k
theorem chk_at {l : List α} {i : Nat} (h : i < l.length) (a : Option R) : check (0 ≤ (i : Int) ∧ Int.toNat (i : Int) < l.length) a = a :=
  check_pos ⟨by omega, by rw [Int.toNat_natCast]; exact h⟩ a
end

/-! short names, for what a program prints -/
/-- a result, nothing lent -/
def EN {U : Type} (enc : U → AV) : U → Out := fun x => (enc x, [])
instance {U : Type} {enc : U → AV} [Inj enc] : Inj (EN enc) := ⟨fun a b h => Inj.inj _ _ (congrArg Prod.fst h)⟩
section
variable {T : Type} {E : T → Out}
theorem Is {x : T} : Imp E (some (E x)) (some x) := I_some rfl
theorem Iz {c : Option Out} : Imp E c (dec E c) := dec_imp _ _
theorem Ic {c : Bool} {a b : Option Out} {a' b' : Option T} (h1 : Imp E a a') (h2 : Imp E b b') : Imp E (bif c then a else b) (bif c then a' else b') := I_cond rfl h1 h2
theorem Ih {p : Prop} [Decidable p] {a : Option Out} {a' : Option T} (h : Imp E a a') : Imp E (check p a) (check p a') := I_check id h
theorem Ig {α β : Type} (enc : α → β) [Inj enc] {l : List α} {i : Int} {k : α → Option Out} {k' : α → Option T} (h : ∀ x, Imp E (k x) (k' x)) : Imp E (getK (l.map enc) i fun c => asE enc c k) (getK l i k') := I_getK rfl h
theorem In {α β : Type} (enc : α → β) [Inj enc] {l : List α} {i : Nat} {k : α → Option Out} {k' : α → Option T} (h : ∀ x, Imp E (k x) (k' x)) : Imp E (getN (l.map enc) i fun c => asE enc c k) (getN l i k') := I_getN rfl h
theorem Ik {U : Type} {enc : U → AV} [Inj enc] {c : Option Out} {k : U → Option Out} {k' : U → Option T} (h : ∀ y, Imp E (k y) (k' y)) : Imp E (callE c fun r => asE enc r k) (Option.bind (dec (EN enc) c) k') := I_call (dec_imp _ _) h
end

/-! a tree without its raw side: the raw side is read off the proof -/
theorem lift2 {T : Type} {E : T → Out} [Inj E] {raw body c : Option Out} {t : Option T} {r : T} (ht : t = some r) (hi : Imp E raw t) (hk : body = raw) (h : ∀ {r : Out}, body = some r → c = some r) : dec E c = some r :=
  dec_some (h (hk.trans (hi _ ht)))

/-! maps -/
/-- keys that are compared -/
class KeyC (K : CodR) : Prop where
  is : ∀ a b : K.T, ∃ (inst : Decidable (a = b)), keyIs (K.enc a) (K.enc b) = some (decide (a = b))
section
variable {R : Type}
/-- the place of a key -/
noncomputable def posM {K V : Type} (l : List (K × V)) (key : K) : Option Nat := open Classical in l.findIdx? fun p => decide (key = p.1)
noncomputable def putM {K V : Type} (l : List (K × V)) (key : K) (v : V) : List (K × V) := match posM l key with
  | some i => l.set i (key, v)
  | none => l ++ [(key, v)]
noncomputable def delM {K V : Type} (l : List (K × V)) (key : K) : List (K × V) := match posM l key with
  | some i => l.eraseIdx i
  | none => l
noncomputable def getM {K V : Type} (l : List (K × V)) (key : K) : Option V := (posM l key).bind fun i => (l[i]?).map (·.2)
noncomputable def lookT {K V : Type} (l : List (K × V)) (key : K) (k : V → Option R) (z : Option R) : Option R := match getM l key with
  | some v => k v
  | none => z
noncomputable def hasT {K V : Type} (l : List (K × V)) (key : K) (k : Bool → Option R) : Option R := k (posM l key).isSome
def letT {α : Type} (x : α) (k : α → Option R) : Option R := k x
noncomputable def takeT {K V : Type} (l : List (K × Option (List V))) (key : K) (k : List V → List (K × Option (List V)) → Option R) : Option R := match posM l key with
  | some i => match l[i]? with
    | some (q, some xs) => k xs (l.set i (q, none))
    | _ => none
  | none => k [] l
def allM {K V : Type} : List (K × Option V) → Option (List (K × V))
  | [] => some []
  | (k, some v) :: l => (allM l).map ((k, v) :: ·)
  | (_, none) :: _ => none
def allT {K V : Type} (l : List (K × Option V)) (k : List (K × V) → Option R) : Option R := match allM l with
  | some m => k m
  | none => none
def bytesT (l : List Int) (k : List UInt8 → Option R) : Option R := bytesK (bytesOf (l.map (eInt .u8))) k
end
theorem mfind_enc {K : CodR} [KeyC K] {V : Type} (key : K.T) : ∀ l : List (K.T × V), mfind (K.enc key) (l.map fun p => K.enc p.1) = some (posM l key) := by
  intro l
  induction l with
  | nil => rfl
  | cons p l ih =>
    obtain ⟨inst, h⟩ := KeyC.is (K := K) key p.1
    rw [List.map_cons, mfind, h]
    unfold posM
    rw [List.findIdx?_cons]
    by_cases e : key = p.1
    · simp [e]
    · have : decide (key = p.1) = false := by simpa using e
      rw [this]
      simp only [ih, Option.map_some, e, decide_false, Bool.false_eq_true, if_false]
      rfl
theorem posM_lt {K V : Type} {l : List (K × V)} {key : K} {i : Nat} (h : posM l key = some i) : ∃ hi : i < l.length, (l[i]'hi).1 = key := by
  unfold posM at h
  rw [List.findIdx?_eq_some_iff_getElem] at h
  obtain ⟨hi, h1, _⟩ := h
  simp only [decide_eq_true_eq] at h1
  exact ⟨hi, h1.symm⟩
theorem encMap_inj {K V : CodR} [Inj K.enc] [Inj V.enc] : ∀ {a b : List (K.T × V.T)}, (encMap K V a).1 = (encMap K V b).1 → (encMap K V a).2 = (encMap K V b).2 → a = b := by
  intro a
  induction a with
  | nil => intro b h _; cases b with
    | nil => rfl
    | cons x b => simp [encMap] at h
  | cons x a ih => intro b h h2; cases b with
    | nil => simp [encMap] at h
    | cons y b =>
      simp only [encMap, List.map_cons, List.cons.injEq] at h h2
      obtain ⟨x1, x2⟩ := x
      obtain ⟨y1, y2⟩ := y
      have e1 : x1 = y1 := Inj.inj _ _ h.1
      have e2 : x2 = y2 := Inj.inj _ _ h2.1
      rw [e1, e2, ih h.2 h2.2]
instance {K V : CodR} [Inj K.enc] [Inj V.enc] : Inj (encMap K V) := ⟨fun a b h => encMap_inj (congrArg Prod.fst h) (congrArg Prod.snd h)⟩
instance {U : Type} {enc : U → List AV} [Inj enc] : Inj (encP enc) := ⟨fun a b h => by
  cases a <;> cases b <;> simp only [encP, AV.ref.injEq, reduceCtorEq] at h
  · rfl
  · rw [Inj.inj _ _ h]⟩
instance {K : CodR} {E : Cod} [Inj K.enc] [Inj E.enc] : Inj (encMr K E) := ⟨fun a b => by
  induction a generalizing b with
  | nil => intro h; cases b with
    | nil => rfl
    | cons y b => simp [encMr] at h
  | cons x a ih => intro h; cases b with
    | nil => simp [encMr] at h
    | cons y b =>
      simp only [encMr, List.map_cons, Prod.mk.injEq, List.cons.injEq] at h
      obtain ⟨⟨h1, h2⟩, h3, h4⟩ := h
      obtain ⟨x1, x2⟩ := x
      obtain ⟨y1, y2⟩ := y
      have e2 : x2 = y2 := by
        cases x2 <;> cases y2 <;> simp only [Option.map_some, Option.map_none, Option.some.injEq, reduceCtorEq] at h3
        · rfl
        · rw [map_inj Inj.inj _ _ h3]
      have e1 : x1 = y1 := Inj.inj _ _ h1
      rw [e1, e2, ih b (by simp only [encMr]; rw [h2, h4])]⟩
theorem mget_enc {K V : CodR} [KeyC K] (key : K.T) (l : List (K.T × V.T)) : mget (K.enc key) (encMap K V l).1 (encMap K V l).2 = some ((getM l key).map V.enc) := by
  unfold mget encMap getM
  rw [mfind_enc]
  cases h : posM l key with
  | none => rfl
  | some i =>
    obtain ⟨hi, _⟩ := posM_lt h
    simp [List.getElem?_eq_getElem hi]
theorem set_map_key {K V : CodR} {l : List (K.T × V.T)} {key : K.T} {v : V.T} {i : Nat} (h : posM l key = some i) : encMap K V (l.set i (key, v)) = ((encMap K V l).1, (encMap K V l).2.set i (V.enc v)) := by
  obtain ⟨hi, e⟩ := posM_lt h
  unfold encMap
  rw [Prod.mk.injEq]
  constructor
  · rw [List.map_set]
    apply List.ext_getElem
    · simp
    · intro j h1 h2
      rw [List.getElem_set]
      split
      · rename_i hj; subst hj; simp [e]
      · rfl
  · rw [List.map_set]
theorem mput_enc {K V : CodR} [KeyC K] (key : K.T) (v : V.T) (l : List (K.T × V.T)) : mput (K.enc key) (V.enc v) (encMap K V l).1 (encMap K V l).2 = some (encMap K V (putM l key v)) := by
  have hf : mfind (K.enc key) (encMap K V l).1 = some (posM l key) := mfind_enc key l
  unfold mput putM
  rw [hf]
  cases h : posM l key with
  | none => simp [encMap]
  | some i => simp only [set_map_key h]
theorem mdel_enc {K V : CodR} [KeyC K] (key : K.T) (l : List (K.T × V.T)) : mdel (K.enc key) (encMap K V l).1 (encMap K V l).2 = some (encMap K V (delM l key)) := by
  have hf : mfind (K.enc key) (encMap K V l).1 = some (posM l key) := mfind_enc key l
  unfold mdel delM
  rw [hf]
  cases h : posM l key with
  | none => simp [encMap]
  | some i => simp only [encMap, map_erase]
theorem set_mr_key {K : CodR} {E : Cod} {l : List (K.T × Option (List E.T))} {i : Nat} {key : K.T} {v : Option (List E.T)} (hi : i < l.length) (e : (l[i]'hi).1 = key) : encMr K E (l.set i (key, v)) = ((encMr K E l).1, (encMr K E l).2.set i (v.map (List.map E.enc))) := by
  unfold encMr
  rw [Prod.mk.injEq]
  constructor
  · rw [List.map_set]
    apply List.ext_getElem
    · simp
    · intro j h1 h2
      rw [List.getElem_set]
      split
      · rename_i hj; subst hj; simp [e]
      · rfl
  · rw [List.map_set]
theorem mputR_enc {K : CodR} {E : Cod} [KeyC K] (key : K.T) (xs : List E.T) (l : List (K.T × Option (List E.T))) : mput (K.enc key) (some (xs.map E.enc)) (encMr K E l).1 (encMr K E l).2 = some (encMr K E (putM l key (some xs))) := by
  have hf : mfind (K.enc key) (encMr K E l).1 = some (posM l key) := mfind_enc key l
  unfold mput putM
  rw [hf]
  cases h : posM l key with
  | none => simp [encMr]
  | some i =>
    obtain ⟨hi, e⟩ := posM_lt h
    simp only [set_mr_key (v := some xs) hi e, Option.map_some]
section
variable {T : Type} {E : T → Out}
theorem I_bytes {L : List (List AV)} {l : List Int} {k : List UInt8 → Option Out} {k' : List UInt8 → Option T} (hl : L = l.map (eInt .u8)) (h : ∀ b, Imp E (k b) (k' b)) : Imp E (bytesK (bytesOf L) k) (bytesT l k') := by
  subst hl
  intro x hx
  unfold bytesT at hx
  cases e : bytesOf (l.map (eInt .u8)) with
  | none => rw [e] at hx; unfold bytesK at hx; cases hx
  | some b => rw [e] at hx; unfold bytesK at hx ⊢; exact h _ _ hx
theorem I_has {K : CodR} {C : Cod} [KeyC K] {l : List (K.T × Option (List C.T))} {key : K.T} {k : Bool → Option Out} {k' : Bool → Option T} (h : ∀ b, Imp E (k b) (k' b)) : Imp E (hasK (mfind (K.enc key) (encMr K C l).1) k) (hasT l key k') := by
  intro x hx
  have hf : mfind (K.enc key) (encMr K C l).1 = some (posM l key) := mfind_enc key l
  unfold hasK
  rw [hf]
  exact h _ _ hx
theorem I_look {K V : CodR} [KeyC K] [Inj V.enc] {l : List (K.T × V.T)} {key : K.T} {k : V.T → Option Out} {k' : V.T → Option T} {z : Option Out} {z' : Option T} (h : ∀ y, Imp E (k y) (k' y)) (hz : Imp E z z') :
    Imp E (lookK (mget (K.enc key) (encMap K V l).1 (encMap K V l).2) (fun v => asE V.enc v k) z) (lookT l key k' z') := by
  intro x hx
  unfold lookT at hx
  unfold lookK
  rw [mget_enc]
  cases e : getM l key with
  | none => rw [e] at hx; exact hz _ hx
  | some v => rw [e] at hx; simp only [Option.map_some]; rw [asE_enc]; exact h _ _ hx
theorem I_put {K V : CodR} [KeyC K] [Inj K.enc] [Inj V.enc] {l : List (K.T × V.T)} {key : K.T} {a : AV} {v : V.T} {k : List (K.T × V.T) → Option Out} {k' : List (K.T × V.T) → Option T} (ha : a = V.enc v) (h : ∀ m, Imp E (k m) (k' m)) :
    Imp E (putK (mput (K.enc key) a (encMap K V l).1 (encMap K V l).2) fun p => asE (encMap K V) p k) (letT (putM l key v) k') := by
  subst ha
  intro x hx
  unfold putK
  rw [mput_enc]
  simp only [asE_enc]
  exact h _ _ hx
theorem I_putR {K : CodR} {C : Cod} [KeyC K] [Inj K.enc] [Inj C.enc] {l : List (K.T × Option (List C.T))} {key : K.T} {L : List (List AV)} {xs : List C.T} {k : List (K.T × Option (List C.T)) → Option Out} {k' : List (K.T × Option (List C.T)) → Option T} (ha : L = xs.map C.enc) (h : ∀ m, Imp E (k m) (k' m)) :
    Imp E (putRK (mput (K.enc key) (some L) (encMr K C l).1 (encMr K C l).2) fun p => asE (encMr K C) p k) (letT (putM l key (some xs)) k') := by
  subst ha
  intro x hx
  unfold putRK
  rw [mputR_enc]
  simp only [asE_enc]
  exact h _ _ hx
theorem I_take {K : CodR} {C : Cod} [KeyC K] [Inj K.enc] [Inj C.enc] {l : List (K.T × Option (List C.T))} {key : K.T} {k : List C.T → List (K.T × Option (List C.T)) → Option Out} {k' : List C.T → List (K.T × Option (List C.T)) → Option T} (h : ∀ xs m, Imp E (k xs m) (k' xs m)) :
    Imp E (takeK (mrTake (K.enc key) (encMr K C l).1 (encMr K C l).2) fun c c2 => asE (List.map C.enc) c fun xs => asE (encMr K C) ((encMr K C l).1, c2) fun m => k xs m) (takeT l key k') := by
  intro x hx
  have hf : mfind (K.enc key) (encMr K C l).1 = some (posM l key) := mfind_enc key l
  unfold takeT at hx
  unfold takeK mrTake
  rw [hf]
  cases e : posM l key with
  | none =>
    rw [e] at hx
    have e0 : ([] : List (List AV)) = List.map C.enc [] := rfl
    have e1 : ((encMr K C l).1, (encMr K C l).2) = encMr K C l := rfl
    simp only
    rw [e0, asE_enc, e1, asE_enc]
    exact h _ _ _ hx
  | some i =>
    rw [e] at hx
    obtain ⟨hi, hk⟩ := posM_lt e
    simp only at hx ⊢
    rw [List.getElem?_eq_getElem hi] at hx
    have hv : (encMr K C l).2[i]? = some ((l[i]'hi).2.map (List.map C.enc)) := by simp [encMr, List.getElem?_eq_getElem hi]
    rw [hv]
    cases e2 : (l[i]'hi) with
    | mk q v =>
      rw [e2] at hx hk
      cases v with
      | none => simp at hx
      | some xs =>
        simp only at hx
        simp only [Option.map_some]
        rw [asE_enc]
        have e3 := set_mr_key (K := K) (E := C) (l := l) (key := q) (v := none) hi (by rw [e2])
        simp only [Option.map_none] at e3
        rw [← e3, asE_enc]
        exact h _ _ _ hx
theorem allM_enc {K : CodR} {C : Cod} {V : CodR} {sz : Nat} (en : List C.T → AV) (dc : List C.T → V.T) (hd : ∀ xs, V.enc (dc xs) = en xs) (hen : ∀ xs, en xs = .lst sz (xs.map C.enc)) : ∀ (l : List (K.T × Option (List C.T))) {m : List (K.T × List C.T)}, allM l = some m →
    ∃ c, allSome (encMr K C l).2 = some c ∧ ((encMr K C l).1, c.map (AV.lst sz)) = encMap K V (m.map fun p => (p.1, dc p.2)) := by
  intro l
  induction l with
  | nil => intro m h; simp only [allM, Option.some.injEq] at h; subst h; exact ⟨[], rfl, rfl⟩
  | cons p l ih =>
    intro m h
    obtain ⟨q, v⟩ := p
    cases v with
    | none => simp [allM] at h
    | some xs =>
      simp only [allM, Option.map_eq_some_iff] at h
      obtain ⟨m', hm', rfl⟩ := h
      obtain ⟨c, hc, he⟩ := ih hm'
      refine ⟨xs.map C.enc :: c, ?_, ?_⟩
      · simp only [encMr, List.map_cons, Option.map_some, allSome] at hc ⊢
        rw [hc]; rfl
      · simp only [encMr, encMap, List.map_cons, Prod.mk.injEq, List.cons.injEq] at he ⊢
        exact ⟨⟨trivial, he.1⟩, by rw [hd, hen], he.2⟩
theorem I_all {K : CodR} {C : Cod} {sz : Nat} [Inj K.enc] [Inj C.enc] {l : List (K.T × Option (List C.T))} {k : List (K.T × List C.T) → Option Out} {k' : List (K.T × List C.T) → Option T} (h : ∀ m, Imp E (k m) (k' m)) :
    Imp E (allK (allSome (encMr K C l).2) fun c => asE (encMap K ⟨List C.T, fun x => .lst sz (x.map C.enc)⟩) ((encMr K C l).1, c.map (AV.lst sz)) k) (allT l k') := by
  intro x hx
  unfold allT at hx
  split at hx
  · rename_i m hm
    obtain ⟨c, hc, he⟩ := allM_enc (K := K) (C := C) (V := ⟨List C.T, fun x => .lst sz (x.map C.enc)⟩) (sz := sz) (fun xs => .lst sz (xs.map C.enc)) (fun xs => xs) (fun _ => rfl) (fun _ => rfl) l hm
    unfold allK
    rw [hc]
    simp only
    have em : (m.map fun p => (p.1, p.2)) = m := by simp
    rw [em] at he
    have inj : Inj (encMap K ⟨List C.T, fun x => .lst sz (x.map C.enc)⟩) := by
      have : Inj (CodR.mk (List C.T) fun x => AV.lst sz (x.map C.enc)).enc := ⟨fun a b h => by injection h with _ h; exact map_inj Inj.inj _ _ h⟩
      exact ⟨fun a b h => @encMap_inj K ⟨List C.T, fun x => .lst sz (x.map C.enc)⟩ _ this a b (congrArg Prod.fst h) (congrArg Prod.snd h)⟩
    rw [he, asE_enc]
    exact h _ _ hx
  · cases hx
theorem I_callM {U : Type} {E' : U → Out} {c : Option Out} {f : Option U} {kk : AV → List (Nat × Ob) → Option Out} {k' : U → Option T} (hf : Imp E' c f) (h : ∀ y, Imp E (kk (E' y).1 (E' y).2) (k' y)) : Imp E (callM c kk) (Option.bind f k') := by
  intro x hx
  obtain ⟨y, h1, h2⟩ := bind_some hx
  rw [hf _ h1]
  unfold callM
  exact h _ _ h2
theorem I_callM2 {U V : Type} {E' : U × V → Out} {c : Option Out} {f : Option (U × V)} {kk : AV → List (Nat × Ob) → Option Out} {k' : U → V → Option T} (hf : Imp E' c f) (h : ∀ y v, Imp E (kk (E' (y, v)).1 (E' (y, v)).2) (k' y v)) : Imp E (callM c kk) (bind2 f k') :=
  I_callM hf fun p => h p.1 p.2
theorem I_callM3 {U V W : Type} {E' : U × V × W → Out} {c : Option Out} {f : Option (U × V × W)} {kk : AV → List (Nat × Ob) → Option Out} {k' : U → V → W → Option T} (hf : Imp E' c f) (h : ∀ y v w, Imp E (kk (E' (y, v, w)).1 (E' (y, v, w)).2) (k' y v w)) : Imp E (callM c kk) (bind3 f k') :=
  I_callM hf fun p => h p.1 p.2.1 p.2.2
theorem I_deref {U : Type} {enc : U → List AV} [Inj enc] {o : Option U} {k : U → Option Out} {k' : U → Option T} (h : ∀ x, Imp E (k x) (k' x)) : Imp E (ptrK (encP enc o) fun cs => asE enc cs k) (ptrT o k') := by
  intro x hx
  cases o with
  | none => simp [ptrT] at hx
  | some y =>
    unfold ptrK encP
    simp only
    rw [asE_enc]; exact h _ _ hx
theorem I_del {K V : CodR} [KeyC K] [Inj K.enc] [Inj V.enc] {l : List (K.T × V.T)} {key : K.T} {k : List (K.T × V.T) → Option Out} {k' : List (K.T × V.T) → Option T} (h : ∀ m, Imp E (k m) (k' m)) :
    Imp E (putK (mdel (K.enc key) (encMap K V l).1 (encMap K V l).2) fun p => asE (encMap K V) p k) (letT (delM l key) k') := by
  intro x hx
  unfold putK
  rw [mdel_enc]
  simp only [asE_enc]
  exact h _ _ hx
theorem I_callM4 {U0 U1 U2 U3 : Type} {E' : U0 × U1 × U2 × U3 → Out} {c : Option Out} {f : Option (U0 × U1 × U2 × U3)} {kk : AV → List (Nat × Ob) → Option Out} {k' : U0 → U1 → U2 → U3 → Option T} (hf : Imp E' c f) (h : ∀ a0 a1 a2 a3, Imp E (kk (E' (a0, a1, a2, a3)).1 (E' (a0, a1, a2, a3)).2) (k' a0 a1 a2 a3)) : Imp E (callM c kk) (bind4 f k') :=
  I_callM hf fun p => h p.1 p.2.1 p.2.2.1 p.2.2.2
theorem I_callM5 {U0 U1 U2 U3 U4 : Type} {E' : U0 × U1 × U2 × U3 × U4 → Out} {c : Option Out} {f : Option (U0 × U1 × U2 × U3 × U4)} {kk : AV → List (Nat × Ob) → Option Out} {k' : U0 → U1 → U2 → U3 → U4 → Option T} (hf : Imp E' c f) (h : ∀ a0 a1 a2 a3 a4, Imp E (kk (E' (a0, a1, a2, a3, a4)).1 (E' (a0, a1, a2, a3, a4)).2) (k' a0 a1 a2 a3 a4)) : Imp E (callM c kk) (bind5 f k') :=
  I_callM hf fun p => h p.1 p.2.1 p.2.2.1 p.2.2.2.1 p.2.2.2.2
theorem I_callM6 {U0 U1 U2 U3 U4 U5 : Type} {E' : U0 × U1 × U2 × U3 × U4 × U5 → Out} {c : Option Out} {f : Option (U0 × U1 × U2 × U3 × U4 × U5)} {kk : AV → List (Nat × Ob) → Option Out} {k' : U0 → U1 → U2 → U3 → U4 → U5 → Option T} (hf : Imp E' c f) (h : ∀ a0 a1 a2 a3 a4 a5, Imp E (kk (E' (a0, a1, a2, a3, a4, a5)).1 (E' (a0, a1, a2, a3, a4, a5)).2) (k' a0 a1 a2 a3 a4 a5)) : Imp E (callM c kk) (bind6 f k') :=
  I_callM hf fun p => h p.1 p.2.1 p.2.2.1 p.2.2.2.1 p.2.2.2.2.1 p.2.2.2.2.2
theorem I_callM7 {U0 U1 U2 U3 U4 U5 U6 : Type} {E' : U0 × U1 × U2 × U3 × U4 × U5 × U6 → Out} {c : Option Out} {f : Option (U0 × U1 × U2 × U3 × U4 × U5 × U6)} {kk : AV → List (Nat × Ob) → Option Out} {k' : U0 → U1 → U2 → U3 → U4 → U5 → U6 → Option T} (hf : Imp E' c f) (h : ∀ a0 a1 a2 a3 a4 a5 a6, Imp E (kk (E' (a0, a1, a2, a3, a4, a5, a6)).1 (E' (a0, a1, a2, a3, a4, a5, a6)).2) (k' a0 a1 a2 a3 a4 a5 a6)) : Imp E (callM c kk) (bind7 f k') :=
  I_callM hf fun p => h p.1 p.2.1 p.2.2.1 p.2.2.2.1 p.2.2.2.2.1 p.2.2.2.2.2.1 p.2.2.2.2.2.2
theorem I_callM8 {U0 U1 U2 U3 U4 U5 U6 U7 : Type} {E' : U0 × U1 × U2 × U3 × U4 × U5 × U6 × U7 → Out} {c : Option Out} {f : Option (U0 × U1 × U2 × U3 × U4 × U5 × U6 × U7)} {kk : AV → List (Nat × Ob) → Option Out} {k' : U0 → U1 → U2 → U3 → U4 → U5 → U6 → U7 → Option T} (hf : Imp E' c f) (h : ∀ a0 a1 a2 a3 a4 a5 a6 a7, Imp E (kk (E' (a0, a1, a2, a3, a4, a5, a6, a7)).1 (E' (a0, a1, a2, a3, a4, a5, a6, a7)).2) (k' a0 a1 a2 a3 a4 a5 a6 a7)) : Imp E (callM c kk) (bind8 f k') :=
  I_callM hf fun p => h p.1 p.2.1 p.2.2.1 p.2.2.2.1 p.2.2.2.2.1 p.2.2.2.2.2.1 p.2.2.2.2.2.2.1 p.2.2.2.2.2.2.2
theorem I_callM9 {U0 U1 U2 U3 U4 U5 U6 U7 U8 : Type} {E' : U0 × U1 × U2 × U3 × U4 × U5 × U6 × U7 × U8 → Out} {c : Option Out} {f : Option (U0 × U1 × U2 × U3 × U4 × U5 × U6 × U7 × U8)} {kk : AV → List (Nat × Ob) → Option Out} {k' : U0 → U1 → U2 → U3 → U4 → U5 → U6 → U7 → U8 → Option T} (hf : Imp E' c f) (h : ∀ a0 a1 a2 a3 a4 a5 a6 a7 a8, Imp E (kk (E' (a0, a1, a2, a3, a4, a5, a6, a7, a8)).1 (E' (a0, a1, a2, a3, a4, a5, a6, a7, a8)).2) (k' a0 a1 a2 a3 a4 a5 a6 a7 a8)) : Imp E (callM c kk) (bind9 f k') :=
  I_callM hf fun p => h p.1 p.2.1 p.2.2.1 p.2.2.2.1 p.2.2.2.2.1 p.2.2.2.2.2.1 p.2.2.2.2.2.2.1 p.2.2.2.2.2.2.2.1 p.2.2.2.2.2.2.2.2
theorem I_uncons {nm : Nat} {o : Ob} {l : List (Nat × Ob)} {k : Ob → List (Nat × Ob) → Option Out} {t : Option T} (h : Imp E (k o l) t) : Imp E (unconsK nm ((nm, o) :: l) k) t := by
  have : unconsK nm ((nm, o) :: l) k = k o l := by
    unfold unconsK
    simp only [Nat.beq_refl, cond_true]
  rw [this]; exact h
theorem I_asRow {α : Type} {enc : α → List AV} [Inj enc] {e sz : Nat} {xs : List α} {k : List α → Option Out} {t : Option T} (h : Imp E (k xs) t) : Imp E (asRow e sz (.row e sz (xs.map enc)) fun c => asE (List.map enc) c k) t := by
  have : (asRow e sz (.row e sz (xs.map enc)) fun c => asE (List.map enc) c k) = asE (List.map enc) (List.map enc xs) k := by
    unfold asRow
    simp only [Nat.beq_refl, Bool.and_self, cond_true]
  rw [this, asE_enc]; exact h
theorem I_asMap {K V : CodR} [Inj K.enc] [Inj V.enc] {kt et : Nat} {l : List (K.T × V.T)} {k : List (K.T × V.T) → Option Out} {t : Option T} (h : Imp E (k l) t) : Imp E (asMap kt et (.mp kt et (encMap K V l).1 (encMap K V l).2) fun c => asE (encMap K V) c k) t := by
  have : (asMap kt et (.mp kt et (encMap K V l).1 (encMap K V l).2) fun c => asE (encMap K V) c k) = asE (encMap K V) (encMap K V l) k := by
    unfold asMap
    simp only [Nat.beq_refl, Bool.and_self, cond_true]
  rw [this, asE_enc]; exact h
theorem I_same {o : Ob} {k : Option Out} {t : Option T} (h : Imp E k t) : Imp E (sameK o o k) t := by
  unfold sameK; rw [if_pos rfl]; exact h
theorem I_nil {k : Option Out} {t : Option T} (h : Imp E k t) : Imp E (nilK [] k) t := by
  unfold nilK; exact h
theorem I_res {U : Type} {enc : U → AV} [Inj enc] {y : U} {k : U → Option Out} {t : Option T} (h : Imp E (k y) t) : Imp E (asE enc (enc y) k) t := by rw [asE_enc]; exact h
end
end Go.AM
