/-
  THE ABSTRACT MACHINE: rules for trees with symbols.
-/
import Derived.Test.YtfoddgpndoeeaaaGreatDoorAmT
set_option linter.unusedVariables false
namespace Go.AM

/-- an encoder tells its values apart -/
class Inj {T α : Type} (enc : T → α) : Prop where
  inj : ∀ a b, enc a = enc b → a = b

def eInt (k : IntKind) (a : Int) : List AV := [.int k a]
def eStr (s : List UInt8) : List AV := [.str s]
def eBool (b : Bool) : List AV := [.bool b]
def eLst {T : Type} (sz : Nat) (enc : T → List AV) (l : List T) : List AV := [.lst sz (l.map enc)]

theorem map_inj {T α : Type} {enc : T → α} (h : ∀ a b, enc a = enc b → a = b) : ∀ (l m : List T), l.map enc = m.map enc → l = m := by
  intro l
  induction l with
  | nil => intro m hm; cases m with
    | nil => rfl
    | cons x m => simp at hm
  | cons x l ih => intro m hm; cases m with
    | nil => simp at hm
    | cons y m =>
      simp only [List.map_cons, List.cons.injEq] at hm
      rw [h _ _ hm.1, ih _ hm.2]

instance {k : IntKind} : Inj (eInt k) := ⟨fun a b h => by simpa [eInt] using h⟩
instance : Inj eStr := ⟨fun a b h => by simpa [eStr] using h⟩
instance : Inj eBool := ⟨fun a b h => by simpa [eBool] using h⟩
instance {T α : Type} {enc : T → α} [Inj enc] : Inj (List.map enc) := ⟨map_inj Inj.inj⟩
instance {T : Type} {sz : Nat} {enc : T → List AV} [Inj enc] : Inj (eLst sz enc) := ⟨fun a b h => by
  simp only [eLst, List.cons.injEq, AV.lst.injEq, and_true, true_and] at h
  exact map_inj Inj.inj _ _ h⟩

section
variable {R : Type}
theorem asE_enc {α T : Type} {enc : T → α} [Inj enc] (d : T) (k : T → Option R) : asE enc (enc d) k = k d := asE_pos Inj.inj d k
theorem callE_some' (r : AV) (k : AV → Option R) : callE (some (r, [])) k = k r := callE_pos rfl k
theorem callR_some' (nm e sz : Nat) (r : AV) (xs : List (List AV)) (k : AV → List (List AV) → Option R) : callR (some (r, [(nm, .row e sz xs)])) nm e sz k = k r xs := callR_pos rfl k
theorem getK_lt {α : Type} [Inhabited α] {l : List α} {i : Nat} (h : i < l.length) (k : α → Option R) : getK l (i : Int) k = k (l.getD i default) :=
  getK_nat (by rw [List.getElem?_eq_getElem h, List.getD_eq_getElem?_getD, List.getElem?_eq_getElem h]; rfl) k
theorem getK_int {α : Type} [Inhabited α] {l : List α} {i : Int} (h0 : 0 ≤ i) (h : i < l.length) (k : α → Option R) : getK l i k = k (l.getD i.toNat default) := by
  obtain ⟨n, rfl⟩ := Int.eq_ofNat_of_zero_le h0
  exact getK_lt (by omega) k
theorem getN_lt {α : Type} [Inhabited α] {l : List α} {i : Nat} (h : i < l.length) (k : α → Option R) : getN l i k = k (l.getD i default) :=
  getN_pos (by rw [List.getElem?_eq_getElem h, List.getD_eq_getElem?_getD, List.getElem?_eq_getElem h]; rfl) k
end

theorem drop_getD {α : Type} [Inhabited α] {l : List α} {i : Nat} (h : i < l.length) : l.drop i = l.getD i default :: l.drop (i + 1) := by
  rw [List.drop_eq_getElem_cons h, List.getD_eq_getElem?_getD, List.getElem?_eq_getElem h]; rfl
theorem getD_mem {α : Type} [Inhabited α] {l : List α} {i : Nat} (h : i < l.length) : l.getD i default ∈ l := by
  rw [List.getD_eq_getElem?_getD, List.getElem?_eq_getElem h]; exact List.getElem_mem h

theorem wrap64_eq (n : Int) : IntKind.wrap .i64 n = if 9223372036854775808 ≤ n % 18446744073709551616 then n % 18446744073709551616 - 18446744073709551616 else n % 18446744073709551616 := by
  show (if (true && decide (n % 18446744073709551616 ≥ 9223372036854775808)) = true then n % 18446744073709551616 - 18446744073709551616 else n % 18446744073709551616) = _
  simp only [Bool.true_and, decide_eq_true_eq, ge_iff_le]
theorem wrap64_id {n : Int} (h0 : -9223372036854775808 ≤ n) (h1 : n ≤ 9223372036854775807) : IntKind.wrap .i64 n = n := by
  rw [wrap64_eq]; split <;> omega
theorem wrapU64_eq (n : Int) : IntKind.wrap .u64 n = n % 18446744073709551616 := by
  show (if (false && decide (n % 18446744073709551616 ≥ 9223372036854775808)) = true then n % 18446744073709551616 - 18446744073709551616 else n % 18446744073709551616) = _
  simp
theorem wrapU64_id {n : Int} (h0 : 0 ≤ n) (h1 : n ≤ 18446744073709551615) : IntKind.wrap .u64 n = n := by
  rw [wrapU64_eq]; omega
theorem wrapU8_eq (n : Int) : IntKind.wrap .u8 n = n % 256 := by
  show (if (false && decide (n % 256 ≥ 128)) = true then n % 256 - 256 else n % 256) = _
  simp
theorem wrapU8_id {n : Int} (h0 : 0 ≤ n) (h1 : n ≤ 255) : IntKind.wrap .u8 n = n := by
  rw [wrapU8_eq]; omega
theorem wrap_succ {i : Nat} (h : i < 4611686018427387904) : IntKind.wrap .i64 ((i : Int) + 1) = ((i + 1 : Nat) : Int) := by
  rw [wrap64_id (by omega) (by omega)]; omega
theorem cond_pos {α : Type} {b : Bool} (h : b = true) (x y : α) : cond b x y = x := by subst h; rfl
theorem cond_neg {α : Type} {b : Bool} (h : b = false) (x y : α) : cond b x y = y := by subst h; rfl
end Go.AM
