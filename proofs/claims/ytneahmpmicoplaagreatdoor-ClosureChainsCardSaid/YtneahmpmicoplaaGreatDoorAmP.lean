/-
  THE ABSTRACT MACHINE: trees of plain values. What a function gives is taken apart once, so that its body reads as a plain program.
-/
import Derived.Test.YtneahmpmicoplaaGreatDoorAmS
set_option linter.unusedVariables false
namespace Go.AM
abbrev Out : Type := AV × List (Nat × Ob)
/-- what a call gives, typed -/
noncomputable def dec {T : Type} (E : T → Out) (c : Option Out) : Option T :=
  match c with
  | some r => open Classical in if h : ∃ x, E x = r then some h.choose else none
  | none => none
/-- where t has a value, c has it -/
def Imp {T : Type} (E : T → Out) (c : Option Out) (t : Option T) : Prop := ∀ x, t = some x → c = some (E x)
theorem dec_imp {T : Type} (E : T → Out) (c : Option Out) : Imp E c (dec E c) := by
  intro x hx
  cases c with
  | none => simp [dec] at hx
  | some r =>
    simp only [dec] at hx
    split at hx
    · rename_i h
      have := h.choose_spec
      simp only [Option.some.injEq] at hx
      rw [← hx, this]
    · simp at hx
theorem dec_some {T : Type} {E : T → Out} [Inj E] {c : Option Out} {x : T} (h : c = some (E x)) : dec E c = some x := by
  subst h
  have hx : ∃ y, E y = E x := ⟨x, rfl⟩
  simp only [dec, dif_pos hx]
  rw [Inj.inj _ _ hx.choose_spec]
theorem lift {T : Type} {E : T → Out} [Inj E] {raw c : Option Out} {t : Option T} {r : T} (h : ∀ {r : Out}, raw = some r → c = some r) (ht : t = some r) (hi : Imp E raw t) : dec E c = some r :=
  dec_some (h (hi _ ht))
section
variable {T : Type} {E : T → Out}
theorem I_none {c : Option Out} : Imp E c none := fun _ h => by simp at h
theorem I_some {c : Out} {x : T} (h : c = E x) : Imp E (some c) (some x) := by
  intro y hy; simp only [Option.some.injEq] at hy; subst hy; rw [h]
theorem I_cond {c c' : Bool} {a b : Option Out} {a' b' : Option T} (hc : c = c') (h1 : Imp E a a') (h2 : Imp E b b') : Imp E (bif c then a else b) (bif c' then a' else b') := by
  subst hc; cases c
  · exact h2
  · exact h1
theorem check_some2 {R : Type} {p : Prop} [Decidable p] {a : Option R} {x : R} (h : check p a = some x) : p ∧ a = some x := by
  unfold check at h
  split at h
  · exact ⟨by assumption, h⟩
  · simp at h
theorem check_pos' {R : Type} {p : Prop} [Decidable p] {a : Option R} (h : p) : check p a = a := by
  unfold check; rw [if_pos h]
theorem I_check {p p' : Prop} [Decidable p] [Decidable p'] {a : Option Out} {a' : Option T} (hp : p' → p) (h : Imp E a a') : Imp E (check p a) (check p' a') := by
  intro x hx
  have := check_some2 hx
  rw [check_pos' (hp this.1)]; exact h _ this.2
theorem I_getK {α β : Type} {enc : α → β} [Inj enc] {L : List β} {l : List α} {i : Int} {k : α → Option Out} {k' : α → Option T} (hl : L = l.map enc) (h : ∀ x, Imp E (k x) (k' x)) :
    Imp E (getK L i fun c => asE enc c k) (getK l i k') := by
  subst hl
  intro x hx
  unfold getK at hx ⊢
  split at hx
  · rename_i h0
    rw [List.getElem?_map]
    cases e : l[i.toNat]? with
    | none => rw [e] at hx; simp at hx
    | some y =>
      rw [e] at hx
      simp only [Option.map_some, if_pos h0]
      rw [asE_enc]; exact h _ _ hx
  · simp at hx
theorem I_getN {α β : Type} {enc : α → β} [Inj enc] {L : List β} {l : List α} {i : Nat} {k : α → Option Out} {k' : α → Option T} (hl : L = l.map enc) (h : ∀ x, Imp E (k x) (k' x)) :
    Imp E (getN L i fun c => asE enc c k) (getN l i k') := by
  subst hl
  intro x hx
  unfold getN at hx ⊢
  rw [List.getElem?_map]
  cases e : l[i]? with
  | none => rw [e] at hx; simp at hx
  | some y =>
    rw [e] at hx
    simp only [Option.map_some]
    rw [asE_enc]; exact h _ _ hx
theorem I_getb {α : Type} {l : List α} {i : Int} {k : α → Option Out} {k' : α → Option T} (h : ∀ x, Imp E (k x) (k' x)) : Imp E (getK l i k) (getK l i k') := by
  intro x hx
  unfold getK at hx ⊢
  split at hx
  · rename_i h0
    rw [if_pos h0]
    cases e : l[i.toNat]? with
    | none => rw [e] at hx; simp at hx
    | some y => rw [e] at hx; exact h _ _ hx
  · simp at hx
theorem bind_some {α β : Type} {f : Option α} {k : α → Option β} {x : β} (h : Option.bind f k = some x) : ∃ y, f = some y ∧ k y = some x := by
  cases f with
  | none => simp at h
  | some y => exact ⟨y, rfl, h⟩
theorem I_call {U : Type} {enc : U → AV} [Inj enc] {E' : U → Out} {c : Option Out} {f : Option U} {k : U → Option Out} {k' : U → Option T} (hf : Imp E' c f) (h : ∀ y, Imp E (k y) (k' y)) (hE : ∀ y, E' y = (enc y, []) := by intro _; rfl) :
    Imp E (callE c fun r => asE enc r k) (Option.bind f k') := by
  intro x hx
  obtain ⟨y, h1, h2⟩ := bind_some hx
  rw [hf _ h1, hE, callE_some', asE_enc]
  exact h _ _ h2
theorem I_callR {U V : Type} {enc : U → AV} [Inj enc] {ee : V → List AV} [Inj ee] {nm e sz : Nat} {E' : U × List V → Out} {c : Option Out} {f : Option (U × List V)} {k : U → List V → Option Out} {k' : U → List V → Option T}
    (hf : Imp E' c f) (h : ∀ y xs, Imp E (k y xs) (k' y xs)) (hE : ∀ y, E' y = (enc y.1, [(nm, .row e sz (y.2.map ee))]) := by intro _; rfl) :
    Imp E (callR c nm e sz fun r c2 => asE enc r fun y => asE (List.map ee) c2 fun xs => k y xs) (Option.bind f fun p => k' p.1 p.2) := by
  intro x hx
  obtain ⟨y, h1, h2⟩ := bind_some hx
  rw [hf _ h1, hE, callR_some', asE_enc, asE_enc]
  exact h _ _ _ h2
end

/-! walking along a list -/
section
variable {α R : Type}
theorem drop_lt {l : List α} {i : Nat} {x : α} {xs : List α} (h : l.drop i = x :: xs) : i < l.length := by
  have := congrArg List.length h
  simp only [List.length_drop, List.length_cons] at this; omega
theorem drop_ge {l : List α} {i : Nat} (h : l.drop i = []) : l.length ≤ i := by
  have := congrArg List.length h
  simp only [List.length_drop, List.length_nil] at this; omega
theorem drop_get {l : List α} {i : Nat} {x : α} {xs : List α} (h : l.drop i = x :: xs) : l[i]? = some x := by
  have := congrArg (fun m => m[0]?) h
  simpa using this
theorem drop_next {l : List α} {i : Nat} {x : α} {xs : List α} (h : l.drop i = x :: xs) : l.drop (i + 1) = xs := by
  have := congrArg (List.drop 1) h
  simpa [List.drop_drop, Nat.add_comm] using this
theorem in_drop {l : List α} {i : Nat} {x : α} {xs : List α} (h : l.drop i = x :: xs) : decide ((i : Int) < (l.length : Int)) = true := by
  have := drop_lt h; simp; omega
theorem end_drop {l : List α} {i : Nat} (h : l.drop i = []) : decide ((i : Int) < (l.length : Int)) = false := by
  have := drop_ge h; simp; omega
theorem at_drop {l : List α} {i : Nat} {x : α} {xs : List α} (h : l.drop i = x :: xs) (k : α → Option R) : getK l (i : Int) k = k x := getK_nat (drop_get h) k
theorem atN_drop {l : List α} {i : Nat} {x : α} {xs : List α} (h : l.drop i = x :: xs) (k : α → Option R) : getN l (Int.toNat (i : Int)) k = k x := by
  rw [Int.toNat_natCast]; exact getN_pos (drop_get h) k
theorem chk_drop {l : List α} {i : Nat} {x : α} {xs : List α} (h : l.drop i = x :: xs) (a : Option R) : check (0 ≤ (i : Int) ∧ Int.toNat (i : Int) < l.length) a = a :=
  check_pos ⟨by omega, by rw [Int.toNat_natCast]; exact drop_lt h⟩ a
theorem wrap_drop {l : List α} {i : Nat} {x : α} {xs : List α} (h : l.drop i = x :: xs) (hl : l.length ≤ 1073741824) : IntKind.wrap .i64 ((i : Int) + 1) = ((i + 1 : Nat) : Int) :=
  wrap_succ (by have := drop_lt h; omega)
theorem chk_app {n m c : Nat} (a : Option R) (h : n ≤ 1073741824) (hm : m ≤ 1073741824) (hc : c ≤ 1024) : check ((n + m) * c ≤ 140737488355328 ∧ n + m ≤ 4611686018427387904) a = a := by
  refine check_pos ⟨?_, by omega⟩ a
  have h1 : (n + m) * c ≤ (n + m) * 1024 := Nat.mul_le_mul_left _ hc
  omega
theorem chk_cut {l : List α} {i : Nat} (h : i ≤ l.length) (a : Option R) : check (0 ≤ (i : Int) ∧ (i : Int) ≤ ((l.length : Nat) : Int)) a = a := check_pos ⟨by omega, by omega⟩ a
theorem wrap_pred {n : Nat} (h : n ≤ 1073741824) : IntKind.wrap .i64 (((n + 1 : Nat) : Int) - 1) = (n : Int) := by
  rw [wrap64_id (by omega) (by omega)]; omega
theorem drop_zero' (l : List α) : l.drop 0 = l := rfl
/-- the index of the first one -/
def ixFrom (p : α → Bool) : List α → Nat → Int
  | [], _ => -1
  | x :: xs, i => if p x then (i : Int) else ixFrom p xs (i + 1)
theorem bind_some' {α β : Type} (a : α) (k : α → Option β) : Option.bind (some a) k = k a := rfl
theorem getK_at {l : List α} {i : Nat} (h : i < l.length) (k : α → Option R) : getK l (i : Int) k = k l[i] := getK_nat (List.getElem?_eq_getElem h) k
theorem getN_at {l : List α} {i : Nat} (h : i < l.length) (k : α → Option R) : getN l i k = k l[i] := getN_pos (List.getElem?_eq_getElem h) k
theorem chk_at {l : List α} {i : Nat} (h : i < l.length) (a : Option R) : check (0 ≤ (i : Int) ∧ Int.toNat (i : Int) < l.length) a = a :=
  check_pos ⟨by omega, by rw [Int.toNat_natCast]; exact h⟩ a
end
end Go.AM
