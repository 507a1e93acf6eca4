/-
  How many bits: two facts more.
-/
import Derived.Test.YtfoddgpndoeeaaaGreatDoorClPc
set_option linter.unusedVariables false
set_option linter.unusedSimpArgs false
namespace Go.Proofs.YtfoddgpndoeeaaaGreatDoor.cl
open Go Go.AM

namespace pop
theorem cntN_le : ∀ (n w : Nat), cntN n w ≤ n := by
  intro n
  induction n with
  | zero => intro w; exact Nat.le_refl _
  | succ n ih => intro w; have := ih (w / 2); simp only [cntN]; omega
theorem t48 {x : Nat} (h : x + x / 256 < 18446744073709551616) : IntKind.wrap .u64 ((x : Int) + (Int.fdiv (x : Int) (2 ^ min (Int.toNat 8) (IntKind.bits .u64)))) = ((x + x / 256 : Nat) : Int) := t4 (k := 8) rfl (by omega) h
theorem t416 {x : Nat} (h : x + x / 65536 < 18446744073709551616) : IntKind.wrap .u64 ((x : Int) + (Int.fdiv (x : Int) (2 ^ min (Int.toNat 16) (IntKind.bits .u64)))) = ((x + x / 65536 : Nat) : Int) := t4 (k := 16) rfl (by omega) h
theorem t432 {x : Nat} (h : x + x / 4294967296 < 18446744073709551616) : IntKind.wrap .u64 ((x : Int) + (Int.fdiv (x : Int) (2 ^ min (Int.toNat 32) (IntKind.bits .u64)))) = ((x + x / 4294967296 : Nat) : Int) := t4 (k := 32) rfl (by omega) h
theorem fold_parts {x : Nat} (h : fold x < 9223372036854775808) : x + x / 256 < 18446744073709551616 ∧ x + x / 256 + (x + x / 256) / 65536 < 18446744073709551616 ∧ fold x = x + x / 256 + (x + x / 256) / 65536 + (x + x / 256 + (x + x / 256) / 65536) / 4294967296 := by
  have e : fold x = x + x / 256 + (x + x / 256) / 65536 + (x + x / 256 + (x + x / 256) / 65536) / 4294967296 := rfl
  rw [e] at h
  refine ⟨?_, ?_, e⟩
  · generalize x + x / 256 = a at h ⊢
    generalize a / 65536 = b at h
    generalize (a + b) / 4294967296 = c at h
    omega
  · generalize x + x / 256 + (x + x / 256) / 65536 = a at h ⊢
    generalize a / 4294967296 = c at h
    omega
end pop
end Go.Proofs.YtfoddgpndoeeaaaGreatDoor.cl
