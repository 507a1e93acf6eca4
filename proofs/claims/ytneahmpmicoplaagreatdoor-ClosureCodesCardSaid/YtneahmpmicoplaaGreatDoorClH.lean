/-
  The Closure laws, plain: codes as words, a completed hierarchy of codes, its meets, joins and direct supertypes.
-/
import Derived.Test.YtneahmpmicoplaaGreatDoorAmL
set_option linter.unusedVariables false
set_option linter.unusedSimpArgs false
namespace Go.Proofs.YtneahmpmicoplaaGreatDoor.cl
/-- is a word in another? -/
def sub (a b : Nat) : Bool := a &&& b == a
theorem sub_iff {a b : Nat} : sub a b = true ↔ a &&& b = a := by simp [sub]
theorem sub_bit {a b : Nat} : sub a b = true ↔ ∀ i, a.testBit i = true → b.testBit i = true := by
  rw [sub_iff]
  constructor
  · intro h i hi
    have := congrArg (fun x => x.testBit i) h
    simp only [Nat.testBit_and, hi, Bool.true_and] at this
    exact this
  · intro h
    apply Nat.eq_of_testBit_eq
    intro i
    rw [Nat.testBit_and]
    cases hi : a.testBit i with
    | false => rfl
    | true => rw [h i hi]; rfl
theorem sub_refl (a : Nat) : sub a a = true := sub_bit.2 fun _ h => h
theorem sub_antisymm {a b : Nat} (h1 : sub a b = true) (h2 : sub b a = true) : a = b := by
  apply Nat.eq_of_testBit_eq
  intro i
  rw [Bool.eq_iff_iff]
  exact ⟨sub_bit.1 h1 i, sub_bit.1 h2 i⟩
theorem sub_zero {a : Nat} (h : sub a 0 = true) : a = 0 := by
  rw [sub_iff] at h; simpa using h.symm
/-- the index of a code, or -1 -/
def fnd (cs : List Nat) (w : Nat) : Int := match cs.findIdx? (· == w) with
  | some i => (i : Int)
  | none => -1
theorem getD_mem0 {cs : List Nat} {i : Nat} (h : i < cs.length) : cs.getD i 0 ∈ cs := by
  rw [List.getD_eq_getElem?_getD, List.getElem?_eq_getElem h]; exact List.getElem_mem h
/-- a completed hierarchy -/
structure Hier (cs : List Nat) : Prop where
  nd : cs.Nodup
  nz : ∀ c ∈ cs, c ≠ 0
  cl : ∀ a ∈ cs, ∀ b ∈ cs, a &&& b ≠ 0 → a &&& b ∈ cs
  top : ∀ c ∈ cs, sub c (cs.getD 0 0) = true
  pos : 0 < cs.length
  srt : ∀ i j, i < cs.length → j < cs.length → sub (cs.getD j 0) (cs.getD i 0) = true → i ≤ j
def joinw (u : Nat) : List Nat → Nat → Nat
  | [], b => b
  | c :: cs, b => joinw u cs (if sub u c = true then b &&& c else b)
def join (cs : List Nat) (a b : Nat) : Nat := joinw (a ||| b) cs (cs.getD 0 0)
/-! direct supertypes -/
def aboves (cs : List Nat) (i : Nat) : List Nat := (List.range cs.length).filter fun k => k != i && sub (cs.getD i 0) (cs.getD k 0)
def sups (cs : List Nat) (i : Nat) : List Nat := (aboves cs i).filter fun k => !(aboves cs i).any fun m => m != k && sub (cs.getD m 0) (cs.getD k 0)
end Go.Proofs.YtneahmpmicoplaaGreatDoor.cl
