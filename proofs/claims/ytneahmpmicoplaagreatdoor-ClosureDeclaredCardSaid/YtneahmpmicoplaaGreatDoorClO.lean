/-
 The Closure laws: the bodies of the plain functions and loops, by program (decomp2.py).
-/
import Derived.Test.YtneahmpmicoplaaGreatDoorClD
set_option linter.unusedVariables false
set_option linter.unusedSimpArgs false
set_option maxRecDepth 100000
namespace Go.Proofs.YtneahmpmicoplaaGreatDoor.cl
open Go Go.AM
theorem e65 (a0 : List Int) (b1 : List Int) {r : Bool}
 (h : (
 Option.bind (f108 a0 b1) fun y201 =>
 some ((List.length y201 : Int) == 0) : Option Bool) = some r) :
 f65 a0 b1 = some r :=
 lift2 (E := E65) h (
 I_call (enc := R108.enc) s108 fun y201 =>
 I_some (c := ((.bool ((List.length (List.map (eInt .u64) y201) : Int) == 0)), [])) (by simp only [E65, R65.enc, List.length_map]))
 (by kernel_rfl) (fun h => run_body (C := cods) rfl h)
theorem e68 (b0 : List Int) {r : (List Int)}
 (h : (
 t68_2 b0 (List.length b0 : Int) : Option (List Int)) = some r) :
 f68 b0 = some r :=
 lift2 (E := E68) h (
 (show Imp E68 (headT P cods H prim 68 2 [] [(0, (.pv (.lst 1 (List.map (eInt .u64) b0)))), (3, (.pv (.int .i64 (List.length (List.map (eInt .u64) b0) : Int))))] []) (t68_2 b0 (List.length b0 : Int)) from fun _ h => by simpa only [h68_2, List.length_map] using q68_2 _ h))
 (by kernel_rfl) (fun h => run_body (C := cods) rfl h)
theorem k68_2 (b0 : List Int) (n3 : Int) {r : (List Int)}
 (h : (
 bif (decide (n3 > 0)) then (
 getK b0 (IntKind.wrap .i64 (n3 - 1)) fun x201 =>
 bif (x201 == 0) then (
 t68_2 b0 (IntKind.wrap .i64 (n3 - 1)))
 else (
 check (0 ≤ n3 ∧ n3 ≤ (List.length b0 : Nat)) (
 some ((b0.take (Int.toNat n3)).drop 0))))
 else (
 check (0 ≤ n3 ∧ n3 ≤ (List.length b0 : Nat)) (
 some ((b0.take (Int.toNat n3)).drop 0))) : Option (List Int)) = some r) :
 t68_2 b0 n3 = some r :=
 lift2 (E := E68) h (
 I_cond rfl (
 I_getK (enc := (eInt .u64)) rfl fun x201 =>
 I_cond rfl (
 q68_2) (
 I_check (p := 0 ≤ n3 ∧ n3 ≤ (List.length (List.map (eInt .u64) b0) : Nat)) (by simp only [List.length_map]; exact id) (
 I_some (c := ((.lst 1 (((List.map (eInt .u64) b0).take (Int.toNat n3)).drop 0)), [])) (by simp only [E68, R68.enc, List.map_take, List.map_drop])))) (
 I_check (p := 0 ≤ n3 ∧ n3 ≤ (List.length (List.map (eInt .u64) b0) : Nat)) (by simp only [List.length_map]; exact id) (
 I_some (c := ((.lst 1 (((List.map (eInt .u64) b0).take (Int.toNat n3)).drop 0)), [])) (by simp only [E68, R68.enc, List.map_take, List.map_drop]))))
 (by kernel_rfl) (fun h => head_round h)
theorem e69 (x0 : Int) {r : Int}
 (h : (
 check (0 ≤ 1) (
 check (0 ≤ 2) (
 check (0 ≤ 4) (
 check (0 ≤ 8) (
 check (0 ≤ 16) (
 check (0 ≤ 32) (
 some (IntKind.wrap .i64 ((BitVec.ofInt (IntKind.bits .i64) (IntKind.wrap .i64 ((IntKind.wrap .u64 ((IntKind.wrap .u64 ((IntKind.wrap .u64 ((IntKind.wrap .u64 ((BitVec.ofInt (IntKind.bits .u64) (IntKind.wrap .u64 ((Int.fdiv (IntKind.wrap .u64 ((IntKind.wrap .u64 ((BitVec.ofInt (IntKind.bits .u64) (Int.fdiv (IntKind.wrap .u64 ((IntKind.wrap .u64 ((BitVec.ofInt (IntKind.bits .u64) (Int.fdiv x0 (2 ^ min (Int.toNat 1) (IntKind.bits .u64))) &&& BitVec.ofInt (IntKind.bits .u64) 6148914691236517205).toNat : Int)) + (IntKind.wrap .u64 ((BitVec.ofInt (IntKind.bits .u64) x0 &&& BitVec.ofInt (IntKind.bits .u64) 6148914691236517205).toNat : Int)))) (2 ^ min (Int.toNat 2) (IntKind.bits .u64))) &&& BitVec.ofInt (IntKind.bits .u64) 3689348814741910323).toNat : Int)) + (IntKind.wrap .u64 ((BitVec.ofInt (IntKind.bits .u64) (IntKind.wrap .u64 ((IntKind.wrap .u64 ((BitVec.ofInt (IntKind.bits .u64) (Int.fdiv x0 (2 ^ min (Int.toNat 1) (IntKind.bits .u64))) &&& BitVec.ofInt (IntKind.bits .u64) 6148914691236517205).toNat : Int)) + (IntKind.wrap .u64 ((BitVec.ofInt (IntKind.bits .u64) x0 &&& BitVec.ofInt (IntKind.bits .u64) 6148914691236517205).toNat : Int)))) &&& BitVec.ofInt (IntKind.bits .u64) 3689348814741910323).toNat : Int)))) (2 ^ min (Int.toNat 4) (IntKind.bits .u64))) + (IntKind.wrap .u64 ((IntKind.wrap .u64 ((BitVec.ofInt (IntKind.bits .u64) (Int.fdiv (IntKind.wrap .u64 ((IntKind.wrap .u64 ((BitVec.ofInt (IntKind.bits .u64) (Int.fdiv x0 (2 ^ min (Int.toNat 1) (IntKind.bits .u64))) &&& BitVec.ofInt (IntKind.bits .u64) 6148914691236517205).toNat : Int)) + (IntKind.wrap .u64 ((BitVec.ofInt (IntKind.bits .u64) x0 &&& BitVec.ofInt (IntKind.bits .u64) 6148914691236517205).toNat : Int)))) (2 ^ min (Int.toNat 2) (IntKind.bits .u64))) &&& BitVec.ofInt (IntKind.bits .u64) 3689348814741910323).toNat : Int)) + (IntKind.wrap .u64 ((BitVec.ofInt (IntKind.bits .u64) (IntKind.wrap .u64 ((IntKind.wrap .u64 ((BitVec.ofInt (IntKind.bits .u64) (Int.fdiv x0 (2 ^ min (Int.toNat 1) (IntKind.bits .u64))) &&& BitVec.ofInt (IntKind.bits .u64) 6148914691236517205).toNat : Int)) + (IntKind.wrap .u64 ((BitVec.ofInt (IntKind.bits .u64) x0 &&& BitVec.ofInt (IntKind.bits .u64) 6148914691236517205).toNat : Int)))) &&& BitVec.ofInt (IntKind.bits .u64) 3689348814741910323).toNat : Int)))))) &&& BitVec.ofInt (IntKind.bits .u64) 1085102592571150095).toNat : Int)) + (Int.fdiv (IntKind.wrap .u64 ((BitVec.ofInt (IntKind.bits .u64) (IntKind.wrap .u64 ((Int.fdiv (IntKind.wrap .u64 ((IntKind.wrap .u64 ((BitVec.ofInt (IntKind.bits .u64) (Int.fdiv (IntKind.wrap .u64 ((IntKind.wrap .u64 ((BitVec.ofInt (IntKind.bits .u64) (Int.fdiv x0 (2 ^ min (Int.toNat 1) (IntKind.bits .u64))) &&& BitVec.ofInt (IntKind.bits .u64) 6148914691236517205).toNat : Int)) + (IntKind.wrap .u64 ((BitVec.ofInt (IntKind.bits .u64) x0 &&& BitVec.ofInt (IntKind.bits .u64) 6148914691236517205).toNat : Int)))) (2 ^ min (Int.toNat 2) (IntKind.bits .u64))) &&& BitVec.ofInt (IntKind.bits .u64) 3689348814741910323).toNat : Int)) + (IntKind.wrap .u64 ((BitVec.ofInt (IntKind.bits .u64) (IntKind.wrap .u64 ((IntKind.wrap .u64 ((BitVec.ofInt (IntKind.bits .u64) (Int.fdiv x0 (2 ^ min (Int.toNat 1) (IntKind.bits .u64))) &&& BitVec.ofInt (IntKind.bits .u64) 6148914691236517205).toNat : Int)) + (IntKind.wrap .u64 ((BitVec.ofInt (IntKind.bits .u64) x0 &&& BitVec.ofInt (IntKind.bits .u64) 6148914691236517205).toNat : Int)))) &&& BitVec.ofInt (IntKind.bits .u64) 3689348814741910323).toNat : Int)))) (2 ^ min (Int.toNat 4) (IntKind.bits .u64))) + (IntKind.wrap .u64 ((IntKind.wrap .u64 ((BitVec.ofInt (IntKind.bits .u64) (Int.fdiv (IntKind.wrap .u64 ((IntKind.wrap .u64 ((BitVec.ofInt (IntKind.bits .u64) (Int.fdiv x0 (2 ^ min (Int.toNat 1) (IntKind.bits .u64))) &&& BitVec.ofInt (IntKind.bits .u64) 6148914691236517205).toNat : Int)) + (IntKind.wrap .u64 ((BitVec.ofInt (IntKind.bits .u64) x0 &&& BitVec.ofInt (IntKind.bits .u64) 6148914691236517205).toNat : Int)))) (2 ^ min (Int.toNat 2) (IntKind.bits .u64))) &&& BitVec.ofInt (IntKind.bits .u64) 3689348814741910323).toNat : Int)) + (IntKind.wrap .u64 ((BitVec.ofInt (IntKind.bits .u64) (IntKind.wrap .u64 ((IntKind.wrap .u64 ((BitVec.ofInt (IntKind.bits .u64) (Int.fdiv x0 (2 ^ min (Int.toNat 1) (IntKind.bits .u64))) &&& BitVec.ofInt (IntKind.bits .u64) 6148914691236517205).toNat : Int)) + (IntKind.wrap .u64 ((BitVec.ofInt (IntKind.bits .u64) x0 &&& BitVec.ofInt (IntKind.bits .u64) 6148914691236517205).toNat : Int)))) &&& BitVec.ofInt (IntKind.bits .u64) 3689348814741910323).toNat : Int)))))) &&& BitVec.ofInt (IntKind.bits .u64) 1085102592571150095).toNat : Int)) (2 ^ min (Int.toNat 8) (IntKind.bits .u64))))) + (Int.fdiv (IntKind.wrap .u64 ((IntKind.wrap .u64 ((BitVec.ofInt (IntKind.bits .u64) (IntKind.wrap .u64 ((Int.fdiv (IntKind.wrap .u64 ((IntKind.wrap .u64 ((BitVec.ofInt (IntKind.bits .u64) (Int.fdiv (IntKind.wrap .u64 ((IntKind.wrap .u64 ((BitVec.ofInt (IntKind.bits .u64) (Int.fdiv x0 (2 ^ min (Int.toNat 1) (IntKind.bits .u64))) &&& BitVec.ofInt (IntKind.bits .u64) 6148914691236517205).toNat : Int)) + (IntKind.wrap .u64 ((BitVec.ofInt (IntKind.bits .u64) x0 &&& BitVec.ofInt (IntKind.bits .u64) 6148914691236517205).toNat : Int)))) (2 ^ min (Int.toNat 2) (IntKind.bits .u64))) &&& BitVec.ofInt (IntKind.bits .u64) 3689348814741910323).toNat : Int)) + (IntKind.wrap .u64 ((BitVec.ofInt (IntKind.bits .u64) (IntKind.wrap .u64 ((IntKind.wrap .u64 ((BitVec.ofInt (IntKind.bits .u64) (Int.fdiv x0 (2 ^ min (Int.toNat 1) (IntKind.bits .u64))) &&& BitVec.ofInt (IntKind.bits .u64) 6148914691236517205).toNat : Int)) + (IntKind.wrap .u64 ((BitVec.ofInt (IntKind.bits .u64) x0 &&& BitVec.ofInt (IntKind.bits .u64) 6148914691236517205).toNat : Int)))) &&& BitVec.ofInt (IntKind.bits .u64) 3689348814741910323).toNat : Int)))) (2 ^ min (Int.toNat 4) (IntKind.bits .u64))) + (IntKind.wrap .u64 ((IntKind.wrap .u64 ((BitVec.ofInt (IntKind.bits .u64) (Int.fdiv (IntKind.wrap .u64 ((IntKind.wrap .u64 ((BitVec.ofInt (IntKind.bits .u64) (Int.fdiv x0 (2 ^ min (Int.toNat 1) (IntKind.bits .u64))) &&& BitVec.ofInt (IntKind.bits .u64) 6148914691236517205).toNat : Int)) + (IntKind.wrap .u64 ((BitVec.ofInt (IntKind.bits .u64) x0 &&& BitVec.ofInt (IntKind.bits .u64) 6148914691236517205).toNat : Int)))) (2 ^ min (Int.toNat 2) (IntKind.bits .u64))) &&& BitVec.ofInt (IntKind.bits .u64) 3689348814741910323).toNat : Int)) + (IntKind.wrap .u64 ((BitVec.ofInt (IntKind.bits .u64) (IntKind.wrap .u64 ((IntKind.wrap .u64 ((BitVec.ofInt (IntKind.bits .u64) (Int.fdiv x0 (2 ^ min (Int.toNat 1) (IntKind.bits .u64))) &&& BitVec.ofInt (IntKind.bits .u64) 6148914691236517205).toNat : Int)) + (IntKind.wrap .u64 ((BitVec.ofInt (IntKind.bits .u64) x0 &&& BitVec.ofInt (IntKind.bits .u64) 6148914691236517205).toNat : Int)))) &&& BitVec.ofInt (IntKind.bits .u64) 3689348814741910323).toNat : Int)))))) &&& BitVec.ofInt (IntKind.bits .u64) 1085102592571150095).toNat : Int)) + (Int.fdiv (IntKind.wrap .u64 ((BitVec.ofInt (IntKind.bits .u64) (IntKind.wrap .u64 ((Int.fdiv (IntKind.wrap .u64 ((IntKind.wrap .u64 ((BitVec.ofInt (IntKind.bits .u64) (Int.fdiv (IntKind.wrap .u64 ((IntKind.wrap .u64 ((BitVec.ofInt (IntKind.bits .u64) (Int.fdiv x0 (2 ^ min (Int.toNat 1) (IntKind.bits .u64))) &&& BitVec.ofInt (IntKind.bits .u64) 6148914691236517205).toNat : Int)) + (IntKind.wrap .u64 ((BitVec.ofInt (IntKind.bits .u64) x0 &&& BitVec.ofInt (IntKind.bits .u64) 6148914691236517205).toNat : Int)))) (2 ^ min (Int.toNat 2) (IntKind.bits .u64))) &&& BitVec.ofInt (IntKind.bits .u64) 3689348814741910323).toNat : Int)) + (IntKind.wrap .u64 ((BitVec.ofInt (IntKind.bits .u64) (IntKind.wrap .u64 ((IntKind.wrap .u64 ((BitVec.ofInt (IntKind.bits .u64) (Int.fdiv x0 (2 ^ min (Int.toNat 1) (IntKind.bits .u64))) &&& BitVec.ofInt (IntKind.bits .u64) 6148914691236517205).toNat : Int)) + (IntKind.wrap .u64 ((BitVec.ofInt (IntKind.bits .u64) x0 &&& BitVec.ofInt (IntKind.bits .u64) 6148914691236517205).toNat : Int)))) &&& BitVec.ofInt (IntKind.bits .u64) 3689348814741910323).toNat : Int)))) (2 ^ min (Int.toNat 4) (IntKind.bits .u64))) + (IntKind.wrap .u64 ((IntKind.wrap .u64 ((BitVec.ofInt (IntKind.bits .u64) (Int.fdiv (IntKind.wrap .u64 ((IntKind.wrap .u64 ((BitVec.ofInt (IntKind.bits .u64) (Int.fdiv x0 (2 ^ min (Int.toNat 1) (IntKind.bits .u64))) &&& BitVec.ofInt (IntKind.bits .u64) 6148914691236517205).toNat : Int)) + (IntKind.wrap .u64 ((BitVec.ofInt (IntKind.bits .u64) x0 &&& BitVec.ofInt (IntKind.bits .u64) 6148914691236517205).toNat : Int)))) (2 ^ min (Int.toNat 2) (IntKind.bits .u64))) &&& BitVec.ofInt (IntKind.bits .u64) 3689348814741910323).toNat : Int)) + (IntKind.wrap .u64 ((BitVec.ofInt (IntKind.bits .u64) (IntKind.wrap .u64 ((IntKind.wrap .u64 ((BitVec.ofInt (IntKind.bits .u64) (Int.fdiv x0 (2 ^ min (Int.toNat 1) (IntKind.bits .u64))) &&& BitVec.ofInt (IntKind.bits .u64) 6148914691236517205).toNat : Int)) + (IntKind.wrap .u64 ((BitVec.ofInt (IntKind.bits .u64) x0 &&& BitVec.ofInt (IntKind.bits .u64) 6148914691236517205).toNat : Int)))) &&& BitVec.ofInt (IntKind.bits .u64) 3689348814741910323).toNat : Int)))))) &&& BitVec.ofInt (IntKind.bits .u64) 1085102592571150095).toNat : Int)) (2 ^ min (Int.toNat 8) (IntKind.bits .u64))))) (2 ^ min (Int.toNat 16) (IntKind.bits .u64))))) + (Int.fdiv (IntKind.wrap .u64 ((IntKind.wrap .u64 ((IntKind.wrap .u64 ((BitVec.ofInt (IntKind.bits .u64) (IntKind.wrap .u64 ((Int.fdiv (IntKind.wrap .u64 ((IntKind.wrap .u64 ((BitVec.ofInt (IntKind.bits .u64) (Int.fdiv (IntKind.wrap .u64 ((IntKind.wrap .u64 ((BitVec.ofInt (IntKind.bits .u64) (Int.fdiv x0 (2 ^ min (Int.toNat 1) (IntKind.bits .u64))) &&& BitVec.ofInt (IntKind.bits .u64) 6148914691236517205).toNat : Int)) + (IntKind.wrap .u64 ((BitVec.ofInt (IntKind.bits .u64) x0 &&& BitVec.ofInt (IntKind.bits .u64) 6148914691236517205).toNat : Int)))) (2 ^ min (Int.toNat 2) (IntKind.bits .u64))) &&& BitVec.ofInt (IntKind.bits .u64) 3689348814741910323).toNat : Int)) + (IntKind.wrap .u64 ((BitVec.ofInt (IntKind.bits .u64) (IntKind.wrap .u64 ((IntKind.wrap .u64 ((BitVec.ofInt (IntKind.bits .u64) (Int.fdiv x0 (2 ^ min (Int.toNat 1) (IntKind.bits .u64))) &&& BitVec.ofInt (IntKind.bits .u64) 6148914691236517205).toNat : Int)) + (IntKind.wrap .u64 ((BitVec.ofInt (IntKind.bits .u64) x0 &&& BitVec.ofInt (IntKind.bits .u64) 6148914691236517205).toNat : Int)))) &&& BitVec.ofInt (IntKind.bits .u64) 3689348814741910323).toNat : Int)))) (2 ^ min (Int.toNat 4) (IntKind.bits .u64))) + (IntKind.wrap .u64 ((IntKind.wrap .u64 ((BitVec.ofInt (IntKind.bits .u64) (Int.fdiv (IntKind.wrap .u64 ((IntKind.wrap .u64 ((BitVec.ofInt (IntKind.bits .u64) (Int.fdiv x0 (2 ^ min (Int.toNat 1) (IntKind.bits .u64))) &&& BitVec.ofInt (IntKind.bits .u64) 6148914691236517205).toNat : Int)) + (IntKind.wrap .u64 ((BitVec.ofInt (IntKind.bits .u64) x0 &&& BitVec.ofInt (IntKind.bits .u64) 6148914691236517205).toNat : Int)))) (2 ^ min (Int.toNat 2) (IntKind.bits .u64))) &&& BitVec.ofInt (IntKind.bits .u64) 3689348814741910323).toNat : Int)) + (IntKind.wrap .u64 ((BitVec.ofInt (IntKind.bits .u64) (IntKind.wrap .u64 ((IntKind.wrap .u64 ((BitVec.ofInt (IntKind.bits .u64) (Int.fdiv x0 (2 ^ min (Int.toNat 1) (IntKind.bits .u64))) &&& BitVec.ofInt (IntKind.bits .u64) 6148914691236517205).toNat : Int)) + (IntKind.wrap .u64 ((BitVec.ofInt (IntKind.bits .u64) x0 &&& BitVec.ofInt (IntKind.bits .u64) 6148914691236517205).toNat : Int)))) &&& BitVec.ofInt (IntKind.bits .u64) 3689348814741910323).toNat : Int)))))) &&& BitVec.ofInt (IntKind.bits .u64) 1085102592571150095).toNat : Int)) + (Int.fdiv (IntKind.wrap .u64 ((BitVec.ofInt (IntKind.bits .u64) (IntKind.wrap .u64 ((Int.fdiv (IntKind.wrap .u64 ((IntKind.wrap .u64 ((BitVec.ofInt (IntKind.bits .u64) (Int.fdiv (IntKind.wrap .u64 ((IntKind.wrap .u64 ((BitVec.ofInt (IntKind.bits .u64) (Int.fdiv x0 (2 ^ min (Int.toNat 1) (IntKind.bits .u64))) &&& BitVec.ofInt (IntKind.bits .u64) 6148914691236517205).toNat : Int)) + (IntKind.wrap .u64 ((BitVec.ofInt (IntKind.bits .u64) x0 &&& BitVec.ofInt (IntKind.bits .u64) 6148914691236517205).toNat : Int)))) (2 ^ min (Int.toNat 2) (IntKind.bits .u64))) &&& BitVec.ofInt (IntKind.bits .u64) 3689348814741910323).toNat : Int)) + (IntKind.wrap .u64 ((BitVec.ofInt (IntKind.bits .u64) (IntKind.wrap .u64 ((IntKind.wrap .u64 ((BitVec.ofInt (IntKind.bits .u64) (Int.fdiv x0 (2 ^ min (Int.toNat 1) (IntKind.bits .u64))) &&& BitVec.ofInt (IntKind.bits .u64) 6148914691236517205).toNat : Int)) + (IntKind.wrap .u64 ((BitVec.ofInt (IntKind.bits .u64) x0 &&& BitVec.ofInt (IntKind.bits .u64) 6148914691236517205).toNat : Int)))) &&& BitVec.ofInt (IntKind.bits .u64) 3689348814741910323).toNat : Int)))) (2 ^ min (Int.toNat 4) (IntKind.bits .u64))) + (IntKind.wrap .u64 ((IntKind.wrap .u64 ((BitVec.ofInt (IntKind.bits .u64) (Int.fdiv (IntKind.wrap .u64 ((IntKind.wrap .u64 ((BitVec.ofInt (IntKind.bits .u64) (Int.fdiv x0 (2 ^ min (Int.toNat 1) (IntKind.bits .u64))) &&& BitVec.ofInt (IntKind.bits .u64) 6148914691236517205).toNat : Int)) + (IntKind.wrap .u64 ((BitVec.ofInt (IntKind.bits .u64) x0 &&& BitVec.ofInt (IntKind.bits .u64) 6148914691236517205).toNat : Int)))) (2 ^ min (Int.toNat 2) (IntKind.bits .u64))) &&& BitVec.ofInt (IntKind.bits .u64) 3689348814741910323).toNat : Int)) + (IntKind.wrap .u64 ((BitVec.ofInt (IntKind.bits .u64) (IntKind.wrap .u64 ((IntKind.wrap .u64 ((BitVec.ofInt (IntKind.bits .u64) (Int.fdiv x0 (2 ^ min (Int.toNat 1) (IntKind.bits .u64))) &&& BitVec.ofInt (IntKind.bits .u64) 6148914691236517205).toNat : Int)) + (IntKind.wrap .u64 ((BitVec.ofInt (IntKind.bits .u64) x0 &&& BitVec.ofInt (IntKind.bits .u64) 6148914691236517205).toNat : Int)))) &&& BitVec.ofInt (IntKind.bits .u64) 3689348814741910323).toNat : Int)))))) &&& BitVec.ofInt (IntKind.bits .u64) 1085102592571150095).toNat : Int)) (2 ^ min (Int.toNat 8) (IntKind.bits .u64))))) + (Int.fdiv (IntKind.wrap .u64 ((IntKind.wrap .u64 ((BitVec.ofInt (IntKind.bits .u64) (IntKind.wrap .u64 ((Int.fdiv (IntKind.wrap .u64 ((IntKind.wrap .u64 ((BitVec.ofInt (IntKind.bits .u64) (Int.fdiv (IntKind.wrap .u64 ((IntKind.wrap .u64 ((BitVec.ofInt (IntKind.bits .u64) (Int.fdiv x0 (2 ^ min (Int.toNat 1) (IntKind.bits .u64))) &&& BitVec.ofInt (IntKind.bits .u64) 6148914691236517205).toNat : Int)) + (IntKind.wrap .u64 ((BitVec.ofInt (IntKind.bits .u64) x0 &&& BitVec.ofInt (IntKind.bits .u64) 6148914691236517205).toNat : Int)))) (2 ^ min (Int.toNat 2) (IntKind.bits .u64))) &&& BitVec.ofInt (IntKind.bits .u64) 3689348814741910323).toNat : Int)) + (IntKind.wrap .u64 ((BitVec.ofInt (IntKind.bits .u64) (IntKind.wrap .u64 ((IntKind.wrap .u64 ((BitVec.ofInt (IntKind.bits .u64) (Int.fdiv x0 (2 ^ min (Int.toNat 1) (IntKind.bits .u64))) &&& BitVec.ofInt (IntKind.bits .u64) 6148914691236517205).toNat : Int)) + (IntKind.wrap .u64 ((BitVec.ofInt (IntKind.bits .u64) x0 &&& BitVec.ofInt (IntKind.bits .u64) 6148914691236517205).toNat : Int)))) &&& BitVec.ofInt (IntKind.bits .u64) 3689348814741910323).toNat : Int)))) (2 ^ min (Int.toNat 4) (IntKind.bits .u64))) + (IntKind.wrap .u64 ((IntKind.wrap .u64 ((BitVec.ofInt (IntKind.bits .u64) (Int.fdiv (IntKind.wrap .u64 ((IntKind.wrap .u64 ((BitVec.ofInt (IntKind.bits .u64) (Int.fdiv x0 (2 ^ min (Int.toNat 1) (IntKind.bits .u64))) &&& BitVec.ofInt (IntKind.bits .u64) 6148914691236517205).toNat : Int)) + (IntKind.wrap .u64 ((BitVec.ofInt (IntKind.bits .u64) x0 &&& BitVec.ofInt (IntKind.bits .u64) 6148914691236517205).toNat : Int)))) (2 ^ min (Int.toNat 2) (IntKind.bits .u64))) &&& BitVec.ofInt (IntKind.bits .u64) 3689348814741910323).toNat : Int)) + (IntKind.wrap .u64 ((BitVec.ofInt (IntKind.bits .u64) (IntKind.wrap .u64 ((IntKind.wrap .u64 ((BitVec.ofInt (IntKind.bits .u64) (Int.fdiv x0 (2 ^ min (Int.toNat 1) (IntKind.bits .u64))) &&& BitVec.ofInt (IntKind.bits .u64) 6148914691236517205).toNat : Int)) + (IntKind.wrap .u64 ((BitVec.ofInt (IntKind.bits .u64) x0 &&& BitVec.ofInt (IntKind.bits .u64) 6148914691236517205).toNat : Int)))) &&& BitVec.ofInt (IntKind.bits .u64) 3689348814741910323).toNat : Int)))))) &&& BitVec.ofInt (IntKind.bits .u64) 1085102592571150095).toNat : Int)) + (Int.fdiv (IntKind.wrap .u64 ((BitVec.ofInt (IntKind.bits .u64) (IntKind.wrap .u64 ((Int.fdiv (IntKind.wrap .u64 ((IntKind.wrap .u64 ((BitVec.ofInt (IntKind.bits .u64) (Int.fdiv (IntKind.wrap .u64 ((IntKind.wrap .u64 ((BitVec.ofInt (IntKind.bits .u64) (Int.fdiv x0 (2 ^ min (Int.toNat 1) (IntKind.bits .u64))) &&& BitVec.ofInt (IntKind.bits .u64) 6148914691236517205).toNat : Int)) + (IntKind.wrap .u64 ((BitVec.ofInt (IntKind.bits .u64) x0 &&& BitVec.ofInt (IntKind.bits .u64) 6148914691236517205).toNat : Int)))) (2 ^ min (Int.toNat 2) (IntKind.bits .u64))) &&& BitVec.ofInt (IntKind.bits .u64) 3689348814741910323).toNat : Int)) + (IntKind.wrap .u64 ((BitVec.ofInt (IntKind.bits .u64) (IntKind.wrap .u64 ((IntKind.wrap .u64 ((BitVec.ofInt (IntKind.bits .u64) (Int.fdiv x0 (2 ^ min (Int.toNat 1) (IntKind.bits .u64))) &&& BitVec.ofInt (IntKind.bits .u64) 6148914691236517205).toNat : Int)) + (IntKind.wrap .u64 ((BitVec.ofInt (IntKind.bits .u64) x0 &&& BitVec.ofInt (IntKind.bits .u64) 6148914691236517205).toNat : Int)))) &&& BitVec.ofInt (IntKind.bits .u64) 3689348814741910323).toNat : Int)))) (2 ^ min (Int.toNat 4) (IntKind.bits .u64))) + (IntKind.wrap .u64 ((IntKind.wrap .u64 ((BitVec.ofInt (IntKind.bits .u64) (Int.fdiv (IntKind.wrap .u64 ((IntKind.wrap .u64 ((BitVec.ofInt (IntKind.bits .u64) (Int.fdiv x0 (2 ^ min (Int.toNat 1) (IntKind.bits .u64))) &&& BitVec.ofInt (IntKind.bits .u64) 6148914691236517205).toNat : Int)) + (IntKind.wrap .u64 ((BitVec.ofInt (IntKind.bits .u64) x0 &&& BitVec.ofInt (IntKind.bits .u64) 6148914691236517205).toNat : Int)))) (2 ^ min (Int.toNat 2) (IntKind.bits .u64))) &&& BitVec.ofInt (IntKind.bits .u64) 3689348814741910323).toNat : Int)) + (IntKind.wrap .u64 ((BitVec.ofInt (IntKind.bits .u64) (IntKind.wrap .u64 ((IntKind.wrap .u64 ((BitVec.ofInt (IntKind.bits .u64) (Int.fdiv x0 (2 ^ min (Int.toNat 1) (IntKind.bits .u64))) &&& BitVec.ofInt (IntKind.bits .u64) 6148914691236517205).toNat : Int)) + (IntKind.wrap .u64 ((BitVec.ofInt (IntKind.bits .u64) x0 &&& BitVec.ofInt (IntKind.bits .u64) 6148914691236517205).toNat : Int)))) &&& BitVec.ofInt (IntKind.bits .u64) 3689348814741910323).toNat : Int)))))) &&& BitVec.ofInt (IntKind.bits .u64) 1085102592571150095).toNat : Int)) (2 ^ min (Int.toNat 8) (IntKind.bits .u64))))) (2 ^ min (Int.toNat 16) (IntKind.bits .u64))))) (2 ^ min (Int.toNat 32) (IntKind.bits .u64))))))) &&& BitVec.ofInt (IntKind.bits .i64) 127).toNat : Int)))))))) : Option Int) = some r) :
 f69 x0 = some r :=
 lift2 (E := E69) h (
 I_check id (
 I_check id (
 I_check id (
 I_check id (
 I_check id (
 I_check id (
 I_some rfl)))))))
 (by kernel_rfl) (fun h => run_body (C := cods) rfl h)
theorem e70 (d0 : List TypeDecl) {r : Int}
 (h : (
 bif (decide ((List.length d0 : Int) > 256)) then (
 some 7)
 else (
 t70_4 d0 0) : Option Int) = some r) :
 f70 d0 = some r :=
 lift2 (E := E70) h (
 I_cond (c := (decide ((List.length (List.map TypeDecl.enc d0) : Int) > 256))) (by simp only [List.length_map]) (
 I_some rfl) (
 q70_4))
 (by kernel_rfl) (fun h => run_body (C := cods) rfl h)
theorem k70_4 (d0 : List TypeDecl) (i3 : Int) {r : Int}
 (h : (
 bif (decide (i3 < (List.length d0 : Int))) then (
 getK d0 i3 fun x201 =>
 bif (decide ((List.length x201.Supers : Int) > 256)) then (
 some 7)
 else (
 getK d0 i3 fun x203 =>
 bif (decide ((List.length x203.Feats : Int) > 256)) then (
 some 7)
 else (
 t70_4 d0 (IntKind.wrap .i64 (i3 + 1)))))
 else (
 some 0) : Option Int) = some r) :
 t70_4 d0 i3 = some r :=
 lift2 (E := E70) h (
 I_cond (c := (decide (i3 < (List.length (List.map TypeDecl.enc d0) : Int)))) (by simp only [List.length_map]) (
 I_getK (enc := TypeDecl.enc) rfl fun x201 =>
 I_cond (c := (decide ((List.length (List.map eStr x201.Supers) : Int) > 256))) (by simp only [List.length_map]) (
 I_some rfl) (
 I_getK (enc := TypeDecl.enc) rfl fun x203 =>
 I_cond (c := (decide ((List.length (List.map FeatDecl.enc x203.Feats) : Int) > 256))) (by simp only [List.length_map]) (
 I_some rfl) (
 q70_4))) (
 I_some rfl))
 (by kernel_rfl) (fun h => head_round h)
theorem e71 (d0 : List TypeDecl) {r : Int}
 (h : (
 t71_2 d0 0 : Option Int) = some r) :
 f71 d0 = some r :=
 lift2 (E := E71) h (
 q71_2)
 (by kernel_rfl) (fun h => run_body (C := cods) rfl h)
theorem k71_2 (d0 : List TypeDecl) (i3 : Int) {r : Int}
 (h : (
 bif (decide (i3 < (List.length d0 : Int))) then (
 getK d0 i3 fun x201 =>
 Option.bind (f110 x201.Name) fun y203 =>
 bif (!y203) then (
 some 1)
 else (
 getK d0 i3 fun x205 =>
 Option.bind (f111 d0 x205.Name) fun y207 =>
 bif (decide (y207 < i3)) then (
 some 4)
 else (
 t71_2 d0 (IntKind.wrap .i64 (i3 + 1)))))
 else (
 some 0) : Option Int) = some r) :
 t71_2 d0 i3 = some r :=
 lift2 (E := E71) h (
 I_cond (c := (decide (i3 < (List.length (List.map TypeDecl.enc d0) : Int)))) (by simp only [List.length_map]) (
 I_getK (enc := TypeDecl.enc) rfl fun x201 =>
 I_call (enc := R110.enc) s110 fun y203 =>
 I_cond rfl (
 I_some rfl) (
 I_getK (enc := TypeDecl.enc) rfl fun x205 =>
 I_call (enc := R111.enc) s111 fun y207 =>
 I_cond rfl (
 I_some rfl) (
 q71_2))) (
 I_some rfl))
 (by kernel_rfl) (fun h => head_round h)
theorem e72 (d0 : List TypeDecl) {r : Int}
 (h : (
 t72_2 d0 0 : Option Int) = some r) :
 f72 d0 = some r :=
 lift2 (E := E72) h (
 q72_2)
 (by kernel_rfl) (fun h => run_body (C := cods) rfl h)
theorem k72_2 (d0 : List TypeDecl) (i3 : Int) {r : Int}
 (h : (
 bif (decide (i3 < (List.length d0 : Int))) then (
 getK d0 i3 fun x201 =>
 t72_6 d0 i3 x201.Supers 0)
 else (
 some 0) : Option Int) = some r) :
 t72_2 d0 i3 = some r :=
 lift2 (E := E72) h (
 I_cond (c := (decide (i3 < (List.length (List.map TypeDecl.enc d0) : Int)))) (by simp only [List.length_map]) (
 I_getK (enc := TypeDecl.enc) rfl fun x201 =>
 q72_6) (
 I_some rfl))
 (by kernel_rfl) (fun h => head_round h)
theorem k72_6 (d0 : List TypeDecl) (i3 : Int) (l4 : List (List UInt8)) (k5 : Int) {r : Int}
 (h : (
 bif (decide (k5 < (List.length l4 : Int))) then (
 getK l4 k5 fun x201 =>
 Option.bind (f111 d0 x201) fun y203 =>
 bif (decide (y203 < 0)) then (
 some 5)
 else (
 check (0 ≤ k5 ∧ k5 ≤ (List.length l4 : Nat)) (
 getK l4 k5 fun x205 =>
 Option.bind (f37 ((l4.take (Int.toNat k5)).drop 0) x205) fun y207 =>
 bif y207 then (
 some 4)
 else (
 t72_6 d0 i3 l4 (IntKind.wrap .i64 (k5 + 1))))))
 else (
 t72_2 d0 (IntKind.wrap .i64 (i3 + 1))) : Option Int) = some r) :
 t72_6 d0 i3 l4 k5 = some r :=
 lift2 (E := E72) h (
 I_cond (c := (decide (k5 < (List.length (List.map eStr l4) : Int)))) (by simp only [List.length_map]) (
 I_getK (enc := eStr) rfl fun x201 =>
 I_call (enc := R111.enc) s111 fun y203 =>
 I_cond rfl (
 I_some rfl) (
 I_check (p := 0 ≤ k5 ∧ k5 ≤ (List.length (List.map eStr l4) : Nat)) (by simp only [List.length_map]; exact id) (
 I_getK (enc := eStr) rfl fun x205 =>
 I_call (enc := R37.enc) (show Imp E37 (Rn 37 [(.pv (.lst 1 (((List.map eStr l4).take (Int.toNat k5)).drop 0))), (.pv (.str x205))] []) (f37 ((l4.take (Int.toNat k5)).drop 0) x205) from fun _ h => by simpa only [r37, List.map_take, List.map_drop] using s37 _ h) fun y207 =>
 I_cond rfl (
 I_some rfl) (
 q72_6)))) (
 q72_2))
 (by kernel_rfl) (fun h => head_round h)
theorem e73 (d0 : List TypeDecl) {r : (List (List UInt8))}
 (h : (
 t73_3 d0 true ([] : List (List UInt8)) : Option (List (List UInt8))) = some r) :
 f73 d0 = some r :=
 lift2 (E := E73) h (
 q73_3)
 (by kernel_rfl) (fun h => run_body (C := cods) rfl h)
theorem k73_3 (d0 : List TypeDecl) (more4 : Bool) (o3 : List (List UInt8)) {r : (List (List UInt8))}
 (h : (
 bif more4 then (
 t73_7 d0 false [] 0 o3)
 else (
 some o3) : Option (List (List UInt8))) = some r) :
 t73_3 d0 more4 o3 = some r :=
 lift2 (E := E73) h (
 I_cond rfl (
 q73_7) (
 I_some rfl))
 (by kernel_rfl) (fun h => head_round h)
theorem k73_7 (d0 : List TypeDecl) (more4 : Bool) (next5 : List UInt8) (i6 : Int) (o3 : List (List UInt8)) {r : (List (List UInt8))}
 (h : (
 bif (decide (i6 < (List.length d0 : Int))) then (
 getK d0 i6 fun x201 =>
 Option.bind (f37 o3 x201.Name) fun y203 =>
 bif y203 then (
 t73_7 d0 more4 next5 (IntKind.wrap .i64 (i6 + 1)) o3)
 else (
 getK d0 i6 fun x205 =>
 Option.bind (f112 x205 o3) fun y207 =>
 bif (!y207) then (
 t73_7 d0 more4 next5 (IntKind.wrap .i64 (i6 + 1)) o3)
 else (
 bif (!more4) then (
 getK d0 i6 fun x209 =>
 t73_7 d0 true x209.Name (IntKind.wrap .i64 (i6 + 1)) o3)
 else (
 getK d0 i6 fun x211 =>
 bif (Op.bytesLess x211.Name next5) then (
 getK d0 i6 fun x213 =>
 t73_7 d0 true x213.Name (IntKind.wrap .i64 (i6 + 1)) o3)
 else (
 t73_7 d0 true next5 (IntKind.wrap .i64 (i6 + 1)) o3)))))
 else (
 bif more4 then (
 check ((List.length o3 + List.length [next5]) * 16 ≤ 140737488355328 ∧ List.length o3 + List.length [next5] ≤ 4611686018427387904) (
 t73_3 d0 more4 (o3 ++ [next5])))
 else (
 t73_3 d0 more4 o3)) : Option (List (List UInt8))) = some r) :
 t73_7 d0 more4 next5 i6 o3 = some r :=
 lift2 (E := E73) h (
 I_cond (c := (decide (i6 < (List.length (List.map TypeDecl.enc d0) : Int)))) (by simp only [List.length_map]) (
 I_getK (enc := TypeDecl.enc) rfl fun x201 =>
 I_call (enc := R37.enc) s37 fun y203 =>
 I_cond rfl (
 q73_7) (
 I_getK (enc := TypeDecl.enc) rfl fun x205 =>
 I_call (enc := R112.enc) s112 fun y207 =>
 I_cond rfl (
 q73_7) (
 I_cond rfl (
 I_getK (enc := TypeDecl.enc) rfl fun x209 =>
 q73_7) (
 I_getK (enc := TypeDecl.enc) rfl fun x211 =>
 I_cond rfl (
 I_getK (enc := TypeDecl.enc) rfl fun x213 =>
 q73_7) (
 q73_7))))) (
 I_cond rfl (
 I_check (p := (List.length (List.map eStr o3) + List.length (List.map eStr [next5])) * 16 ≤ 140737488355328 ∧ List.length (List.map eStr o3) + List.length (List.map eStr [next5]) ≤ 4611686018427387904) (by simp only [List.length_map]; exact id) (
 (show Imp E73 (headT P cods H prim 73 3 [] [(0, (.pv (.lst 3 (List.map TypeDecl.enc d0)))), (3, (.row 3)), (4, (.pv (.bool more4)))] [(3, (.row 9 1 ((List.map eStr o3) ++ (List.map eStr [next5]))))]) (t73_3 d0 more4 (o3 ++ [next5])) from fun _ h => by simpa only [h73_3, List.map_append] using q73_3 _ h))) (
 q73_3)))
 (by kernel_rfl) (fun h => head_round h)
theorem e74 (to0 : List ((List UInt8) × (List (List UInt8)))) (name1 : List UInt8) {r : (List (List UInt8))}
 (h : (
 lookT to0 name1 (fun y202 =>
 letT (putM ([] : List ((List UInt8) × Bool)) name1 true) fun m204 =>
 t74_7 to0 0 m204 [name1]) (
 some ([] : List (List UInt8))) : Option (List (List UInt8))) = some r) :
 f74 to0 name1 = some r :=
 lift2 (E := E74) h (
 I_look (K := V9) (V := V54) (fun y202 =>
 I_put (K := V9) (V := V4) rfl fun m204 =>
 q74_7) (
 I_some rfl))
 (by kernel_rfl) (fun h => run_body (C := cods) rfl h)
theorem k74_7 (to0 : List ((List UInt8) × (List (List UInt8)))) (i9 : Int) (o20 : List ((List UInt8) × Bool)) (o24 : List (List UInt8)) {r : (List (List UInt8))}
 (h : (
 bif (decide (i9 < (List.length o24 : Int))) then (
 check (0 ≤ i9 ∧ Int.toNat i9 < List.length o24) (
 getN o24 (Int.toNat i9) fun x201 =>
 lookT to0 x201 (fun y204 =>
 t74_10 to0 i9 y204 (List.length y204 : Int) 0 o20 o24) (
 t74_10 to0 i9 ([] : List (List UInt8)) (List.length ([] : List (List UInt8)) : Int) 0 o20 o24)))
 else (
 bind2 (f80 o24) fun y205 l207 =>
 some l207) : Option (List (List UInt8))) = some r) :
 t74_7 to0 i9 o20 o24 = some r :=
 lift2 (E := E74) h (
 I_cond (c := (decide (i9 < (List.length (List.map eStr o24) : Int)))) (by simp only [List.length_map]) (
 I_check (p := 0 ≤ i9 ∧ Int.toNat i9 < List.length (List.map eStr o24)) (by simp only [List.length_map]; exact id) (
 I_getN (enc := eStr) rfl fun x201 =>
 I_look (K := V9) (V := V54) (fun y204 =>
 (show Imp E74 (headT P cods H prim 74 10 [] [(0, (.pv (.mp (encMap V9 V54 to0).1 (encMap V9 V54 to0).2))), (7, (.row 20)), (8, (.row 24)), (9, (.pv (.int .i64 i9))), (36, (.pv (.lst 1 (List.map eStr y204)))), (37, (.pv (.int .i64 (List.length (List.map eStr y204) : Int)))), (38, (.pv (.int .i64 0)))] [(20, (.mp 9 4 (encMap V9 V4 o20).1 (encMap V9 V4 o20).2)), (24, (.row 9 1 (List.map eStr o24)))]) (t74_10 to0 i9 y204 (List.length y204 : Int) 0 o20 o24) from fun _ h => by simpa only [h74_10, List.length_map] using q74_10 _ h)) (
 (show Imp E74 (headT P cods H prim 74 10 [] [(0, (.pv (.mp (encMap V9 V54 to0).1 (encMap V9 V54 to0).2))), (7, (.row 20)), (8, (.row 24)), (9, (.pv (.int .i64 i9))), (36, (.pv (.lst 1 (List.map eStr [])))), (37, (.pv (.int .i64 (List.length (List.map eStr []) : Int)))), (38, (.pv (.int .i64 0)))] [(20, (.mp 9 4 (encMap V9 V4 o20).1 (encMap V9 V4 o20).2)), (24, (.row 9 1 (List.map eStr o24)))]) (t74_10 to0 i9 ([] : List (List UInt8)) (List.length ([] : List (List UInt8)) : Int) 0 o20 o24) from fun _ h => by simpa only [h74_10, List.length_map] using q74_10 _ h)))) (
 I_callR (enc := R80.enc) (ee := eStr) (nm := 10000) (e := 9) (sz := 1) s80 fun y205 l207 =>
 I_some rfl))
 (by kernel_rfl) (fun h => head_round h)
theorem k74_10 (to0 : List ((List UInt8) × (List (List UInt8)))) (i9 : Int) (v36 : List (List UInt8)) (v37 : Int) (v38 : Int) (o20 : List ((List UInt8) × Bool)) (o24 : List (List UInt8)) {r : (List (List UInt8))}
 (h : (
 bif (decide (v38 < v37)) then (
 getK v36 v38 fun x201 =>
 lookT o20 x201 (fun y204 =>
 bif (!y204) then (
 letT (putM o20 x201 true) fun m206 =>
 check ((List.length o24 + List.length [x201]) * 16 ≤ 140737488355328 ∧ List.length o24 + List.length [x201] ≤ 4611686018427387904) (
 t74_10 to0 i9 v36 v37 (IntKind.wrap .i64 (v38 + 1)) m206 (o24 ++ [x201])))
 else (
 t74_10 to0 i9 v36 v37 (IntKind.wrap .i64 (v38 + 1)) o20 o24)) (
 letT (putM o20 x201 true) fun m208 =>
 check ((List.length o24 + List.length [x201]) * 16 ≤ 140737488355328 ∧ List.length o24 + List.length [x201] ≤ 4611686018427387904) (
 t74_10 to0 i9 v36 v37 (IntKind.wrap .i64 (v38 + 1)) m208 (o24 ++ [x201]))))
 else (
 t74_7 to0 (IntKind.wrap .i64 (i9 + 1)) o20 o24) : Option (List (List UInt8))) = some r) :
 t74_10 to0 i9 v36 v37 v38 o20 o24 = some r :=
 lift2 (E := E74) h (
 I_cond rfl (
 I_getK (enc := eStr) rfl fun x201 =>
 I_look (K := V9) (V := V4) (fun y204 =>
 I_cond rfl (
 I_put (K := V9) (V := V4) rfl fun m206 =>
 I_check (p := (List.length (List.map eStr o24) + List.length (List.map eStr [x201])) * 16 ≤ 140737488355328 ∧ List.length (List.map eStr o24) + List.length (List.map eStr [x201]) ≤ 4611686018427387904) (by simp only [List.length_map]; exact id) (
 (show Imp E74 (headT P cods H prim 74 10 [] [(0, (.pv (.mp (encMap V9 V54 to0).1 (encMap V9 V54 to0).2))), (7, (.row 20)), (8, (.row 24)), (9, (.pv (.int .i64 i9))), (36, (.pv (.lst 1 (List.map eStr v36)))), (37, (.pv (.int .i64 v37))), (38, (.pv (.int .i64 (IntKind.wrap .i64 (v38 + 1)))))] [(20, (.mp 9 4 (encMap V9 V4 m206).1 (encMap V9 V4 m206).2)), (24, (.row 9 1 ((List.map eStr o24) ++ (List.map eStr [x201]))))]) (t74_10 to0 i9 v36 v37 (IntKind.wrap .i64 (v38 + 1)) m206 (o24 ++ [x201])) from fun _ h => by simpa only [h74_10, List.map_append] using q74_10 _ h))) (
 q74_10)) (
 I_put (K := V9) (V := V4) rfl fun m208 =>
 I_check (p := (List.length (List.map eStr o24) + List.length (List.map eStr [x201])) * 16 ≤ 140737488355328 ∧ List.length (List.map eStr o24) + List.length (List.map eStr [x201]) ≤ 4611686018427387904) (by simp only [List.length_map]; exact id) (
 (show Imp E74 (headT P cods H prim 74 10 [] [(0, (.pv (.mp (encMap V9 V54 to0).1 (encMap V9 V54 to0).2))), (7, (.row 20)), (8, (.row 24)), (9, (.pv (.int .i64 i9))), (36, (.pv (.lst 1 (List.map eStr v36)))), (37, (.pv (.int .i64 v37))), (38, (.pv (.int .i64 (IntKind.wrap .i64 (v38 + 1)))))] [(20, (.mp 9 4 (encMap V9 V4 m208).1 (encMap V9 V4 m208).2)), (24, (.row 9 1 ((List.map eStr o24) ++ (List.map eStr [x201]))))]) (t74_10 to0 i9 v36 v37 (IntKind.wrap .i64 (v38 + 1)) m208 (o24 ++ [x201])) from fun _ h => by simpa only [h74_10, List.map_append] using q74_10 _ h)))) (
 q74_7))
 (by kernel_rfl) (fun h => head_round h)
theorem e75 (d0 : List TypeDecl) {r : (List ((List UInt8) × (List (List UInt8))))}
 (h : (
 t75_3 d0 (List.length d0 : Int) 0 ([] : List ((List UInt8) × (List (List UInt8)))) : Option (List ((List UInt8) × (List (List UInt8))))) = some r) :
 f75 d0 = some r :=
 lift2 (E := E75) h (
 (show Imp E75 (headT P cods H prim 75 3 [] [(3, (.row 8)), (9, (.pv (.lst 3 (List.map TypeDecl.enc d0)))), (10, (.pv (.int .i64 (List.length (List.map TypeDecl.enc d0) : Int)))), (11, (.pv (.int .i64 0)))] [(8, (.mp 9 54 (encMap V9 V54 ([] : List ((List UInt8) × (List (List UInt8))))).1 (encMap V9 V54 ([] : List ((List UInt8) × (List (List UInt8))))).2))]) (t75_3 d0 (List.length d0 : Int) 0 ([] : List ((List UInt8) × (List (List UInt8))))) from fun _ h => by simpa only [h75_3, List.length_map] using q75_3 _ h))
 (by kernel_rfl) (fun h => run_body (C := cods) rfl h)
theorem k75_3 (v9 : List TypeDecl) (v10 : Int) (v11 : Int) (o8 : List ((List UInt8) × (List (List UInt8)))) {r : (List ((List UInt8) × (List (List UInt8))))}
 (h : (
 bif (decide (v11 < v10)) then (
 getK v9 v11 fun x201 =>
 letT (putM o8 x201.Name x201.Supers) fun m204 =>
 t75_3 v9 v10 (IntKind.wrap .i64 (v11 + 1)) m204)
 else (
 some o8) : Option (List ((List UInt8) × (List (List UInt8))))) = some r) :
 t75_3 v9 v10 v11 o8 = some r :=
 lift2 (E := E75) h (
 I_cond rfl (
 I_getK (enc := TypeDecl.enc) rfl fun x201 =>
 I_put (K := V9) (V := V54) rfl fun m204 =>
 q75_3) (
 I_some rfl))
 (by kernel_rfl) (fun h => head_round h)
theorem e76 (d0 : List TypeDecl) {r : Bool}
 (h : (
 bif (decide ((List.length d0 : Int) > 256)) then (
 some true)
 else (
 Option.bind (f113 d0) fun y201 =>
 some y201) : Option Bool) = some r) :
 f76 d0 = some r :=
 lift2 (E := E76) h (
 I_cond (c := (decide ((List.length (List.map TypeDecl.enc d0) : Int) > 256))) (by simp only [List.length_map]) (
 I_some rfl) (
 I_call (enc := R113.enc) s113 fun y201 =>
 I_some rfl))
 (by kernel_rfl) (fun h => run_body (C := cods) rfl h)
theorem e77 (d0 : List TypeDecl) {r : Int}
 (h : (
 t77_3 d0 (List.length d0 : Int) 0 ([] : List ((List UInt8) × Bool)) : Option Int) = some r) :
 f77 d0 = some r :=
 lift2 (E := E77) h (
 (show Imp E77 (headT P cods H prim 77 3 [] [(3, (.row 8)), (9, (.pv (.lst 3 (List.map TypeDecl.enc d0)))), (10, (.pv (.int .i64 (List.length (List.map TypeDecl.enc d0) : Int)))), (11, (.pv (.int .i64 0)))] [(8, (.mp 9 4 (encMap V9 V4 ([] : List ((List UInt8) × Bool))).1 (encMap V9 V4 ([] : List ((List UInt8) × Bool))).2))]) (t77_3 d0 (List.length d0 : Int) 0 ([] : List ((List UInt8) × Bool))) from fun _ h => by simpa only [h77_3, List.length_map] using q77_3 _ h))
 (by kernel_rfl) (fun h => run_body (C := cods) rfl h)
theorem k77_3 (v9 : List TypeDecl) (v10 : Int) (v11 : Int) (o8 : List ((List UInt8) × Bool)) {r : Int}
 (h : (
 bif (decide (v11 < v10)) then (
 getK v9 v11 fun x201 =>
 Option.bind (f115 x201.Name) fun y203 =>
 bif (!y203) then (
 some 1)
 else (
 lookT o8 x201.Name (fun y206 =>
 bif y206 then (
 some 4)
 else (
 letT (putM o8 x201.Name true) fun m208 =>
 t77_3 v9 v10 (IntKind.wrap .i64 (v11 + 1)) m208)) (
 letT (putM o8 x201.Name true) fun m210 =>
 t77_3 v9 v10 (IntKind.wrap .i64 (v11 + 1)) m210)))
 else (
 some 0) : Option Int) = some r) :
 t77_3 v9 v10 v11 o8 = some r :=
 lift2 (E := E77) h (
 I_cond rfl (
 I_getK (enc := TypeDecl.enc) rfl fun x201 =>
 I_call (enc := R115.enc) s115 fun y203 =>
 I_cond rfl (
 I_some rfl) (
 I_look (K := V9) (V := V4) (fun y206 =>
 I_cond rfl (
 I_some rfl) (
 I_put (K := V9) (V := V4) rfl fun m208 =>
 q77_3)) (
 I_put (K := V9) (V := V4) rfl fun m210 =>
 q77_3))) (
 I_some rfl))
 (by kernel_rfl) (fun h => head_round h)
theorem e78 (d0 : List TypeDecl) {r : Int}
 (h : (
 Option.bind (f75 d0) fun y201 =>
 t78_3 y201 d0 (List.length d0 : Int) 0 : Option Int) = some r) :
 f78 d0 = some r :=
 lift2 (E := E78) h (
 I_call (enc := R75.enc) s75 fun y201 =>
 (show Imp E78 (headT P cods H prim 78 3 [] [(3, (.pv (.mp (encMap V9 V54 y201).1 (encMap V9 V54 y201).2))), (12, (.pv (.lst 3 (List.map TypeDecl.enc d0)))), (13, (.pv (.int .i64 (List.length (List.map TypeDecl.enc d0) : Int)))), (14, (.pv (.int .i64 0)))] []) (t78_3 y201 d0 (List.length d0 : Int) 0) from fun _ h => by simpa only [h78_3, List.length_map] using q78_3 _ h))
 (by kernel_rfl) (fun h => run_body (C := cods) rfl h)
theorem k78_3 (declared3 : List ((List UInt8) × (List (List UInt8)))) (v12 : List TypeDecl) (v13 : Int) (v14 : Int) {r : Int}
 (h : (
 bif (decide (v14 < v13)) then (
 getK v12 v14 fun x201 =>
 t78_6 declared3 v12 v13 v14 x201.Supers (List.length x201.Supers : Int) 0 x201)
 else (
 some 0) : Option Int) = some r) :
 t78_3 declared3 v12 v13 v14 = some r :=
 lift2 (E := E78) h (
 I_cond rfl (
 I_getK (enc := TypeDecl.enc) rfl fun x201 =>
 (show Imp E78 (headT P cods H prim 78 6 [] [(3, (.pv (.mp (encMap V9 V54 declared3).1 (encMap V9 V54 declared3).2))), (5, (.ptr 5 0)), (12, (.pv (.lst 3 (List.map TypeDecl.enc v12)))), (13, (.pv (.int .i64 v13))), (14, (.pv (.int .i64 v14))), (19, (.pv (.lst 1 (List.map eStr x201.Supers)))), (20, (.pv (.int .i64 (List.length (List.map eStr x201.Supers) : Int)))), (21, (.pv (.int .i64 0)))] [(5, (.box 57 (List.map .pv (TypeDecl.enc x201))))]) (t78_6 declared3 v12 v13 v14 x201.Supers (List.length x201.Supers : Int) 0 x201) from fun _ h => by simpa only [h78_6, List.length_map] using q78_6 _ h)) (
 I_some rfl))
 (by kernel_rfl) (fun h => head_round h)
theorem k78_6 (declared3 : List ((List UInt8) × (List (List UInt8)))) (v12 : List TypeDecl) (v13 : Int) (v14 : Int) (v19 : List (List UInt8)) (v20 : Int) (v21 : Int) (o5 : TypeDecl) {r : Int}
 (h : (
 bif (decide (v21 < v20)) then (
 getK v19 v21 fun x201 =>
 lookT declared3 x201 (fun y204 =>
 check (0 ≤ v21 ∧ v21 ≤ (List.length o5.Supers : Nat)) (
 Option.bind (f92 ((o5.Supers.take (Int.toNat v21)).drop 0) x201) fun y205 =>
 bif y205 then (
 some 4)
 else (
 t78_6 declared3 v12 v13 v14 v19 v20 (IntKind.wrap .i64 (v21 + 1)) o5))) (
 some 5))
 else (
 t78_3 declared3 v12 v13 (IntKind.wrap .i64 (v14 + 1))) : Option Int) = some r) :
 t78_6 declared3 v12 v13 v14 v19 v20 v21 o5 = some r :=
 lift2 (E := E78) h (
 I_cond rfl (
 I_getK (enc := eStr) rfl fun x201 =>
 I_look (K := V9) (V := V54) (fun y204 =>
 I_check (p := 0 ≤ v21 ∧ v21 ≤ (List.length (List.map eStr o5.Supers) : Nat)) (by simp only [List.length_map]; exact id) (
 I_call (enc := R92.enc) (show Imp E92 (Rn 92 [(.pv (.lst 1 (((List.map eStr o5.Supers).take (Int.toNat v21)).drop 0))), (.pv (.str x201))] []) (f92 ((o5.Supers.take (Int.toNat v21)).drop 0) x201) from fun _ h => by simpa only [r92, List.map_take, List.map_drop] using s92 _ h) fun y205 =>
 I_cond rfl (
 I_some rfl) (
 q78_6))) (
 I_some rfl)) (
 q78_3))
 (by kernel_rfl) (fun h => head_round h)
theorem e79 (d0 : List TypeDecl) {r : (List (List UInt8))}
 (h : (
 t79_5 d0 (List.length d0 : Int) 0 ([] : List (List UInt8)) ([] : List ((List UInt8) × Int)) ([] : List ((List UInt8) × Option (List (List UInt8)))) : Option (List (List UInt8))) = some r) :
 f79 d0 = some r :=
 lift2 (E := E79) h (
 (show Imp E79 (headT P cods H prim 79 5 [] [(3, (.row 16)), (4, (.row 17)), (5, (.row 5)), (18, (.pv (.lst 3 (List.map TypeDecl.enc d0)))), (19, (.pv (.int .i64 (List.length (List.map TypeDecl.enc d0) : Int)))), (20, (.pv (.int .i64 0)))] [(5, (.row 9 1 (List.map eStr []))), (16, (.mp 9 3 (encMap V9 V3 ([] : List ((List UInt8) × Int))).1 (encMap V9 V3 ([] : List ((List UInt8) × Int))).2)), (17, (.mr 9 9 1 (encMr V9 C9 ([] : List ((List UInt8) × Option (List (List UInt8))))).1 (encMr V9 C9 ([] : List ((List UInt8) × Option (List (List UInt8))))).2))]) (t79_5 d0 (List.length d0 : Int) 0 ([] : List (List UInt8)) ([] : List ((List UInt8) × Int)) ([] : List ((List UInt8) × Option (List (List UInt8))))) from fun _ h => by simpa only [h79_5, List.length_map] using q79_5 _ h))
 (by kernel_rfl) (fun h => run_body (C := cods) rfl h)
theorem k79_5 (v18 : List TypeDecl) (v19 : Int) (v20 : Int) (o5 : List (List UInt8)) (o16 : List ((List UInt8) × Int)) (o17 : List ((List UInt8) × Option (List (List UInt8)))) {r : (List (List UInt8))}
 (h : (
 bif (decide (v20 < v19)) then (
 getK v18 v20 fun x201 =>
 letT (putM o16 x201.Name (List.length x201.Supers : Int)) fun m204 =>
 bif ((List.length x201.Supers : Int) == 0) then (
 check ((List.length o5 + List.length [x201.Name]) * 16 ≤ 140737488355328 ∧ List.length o5 + List.length [x201.Name] ≤ 4611686018427387904) (
 t79_11 v18 v19 v20 x201.Supers (List.length x201.Supers : Int) 0 (o5 ++ [x201.Name]) x201 m204 o17))
 else (
 t79_11 v18 v19 v20 x201.Supers (List.length x201.Supers : Int) 0 o5 x201 m204 o17))
 else (
 allT o17 fun m206 =>
 t79_17 m206 o5 ([] : List (List UInt8)) o16) : Option (List (List UInt8))) = some r) :
 t79_5 v18 v19 v20 o5 o16 o17 = some r :=
 lift2 (E := E79) h (
 I_cond rfl (
 I_getK (enc := TypeDecl.enc) rfl fun x201 =>
 I_put (K := V9) (V := V3) (a := (.int .i64 (List.length (List.map eStr x201.Supers) : Int))) (by simp only [List.length_map]) fun m204 =>
 I_cond (c := ((List.length (List.map eStr x201.Supers) : Int) == 0)) (by simp only [List.length_map]) (
 I_check (p := (List.length (List.map eStr o5) + List.length (List.map eStr [x201.Name])) * 16 ≤ 140737488355328 ∧ List.length (List.map eStr o5) + List.length (List.map eStr [x201.Name]) ≤ 4611686018427387904) (by simp only [List.length_map]; exact id) (
 (show Imp E79 (headT P cods H prim 79 11 [] [(3, (.row 16)), (4, (.row 17)), (5, (.row 5)), (7, (.ptr 7 0)), (18, (.pv (.lst 3 (List.map TypeDecl.enc v18)))), (19, (.pv (.int .i64 v19))), (20, (.pv (.int .i64 v20))), (40, (.pv (.lst 1 (List.map eStr x201.Supers)))), (41, (.pv (.int .i64 (List.length (List.map eStr x201.Supers) : Int)))), (42, (.pv (.int .i64 0)))] [(5, (.row 9 1 ((List.map eStr o5) ++ (List.map eStr [x201.Name])))), (7, (.box 57 (List.map .pv (TypeDecl.enc x201)))), (16, (.mp 9 3 (encMap V9 V3 m204).1 (encMap V9 V3 m204).2)), (17, (.mr 9 9 1 (encMr V9 C9 o17).1 (encMr V9 C9 o17).2))]) (t79_11 v18 v19 v20 x201.Supers (List.length x201.Supers : Int) 0 (o5 ++ [x201.Name]) x201 m204 o17) from fun _ h => by simpa only [h79_11, List.length_map, List.map_append, List.length_append] using q79_11 _ h))) (
 (show Imp E79 (headT P cods H prim 79 11 [] [(3, (.row 16)), (4, (.row 17)), (5, (.row 5)), (7, (.ptr 7 0)), (18, (.pv (.lst 3 (List.map TypeDecl.enc v18)))), (19, (.pv (.int .i64 v19))), (20, (.pv (.int .i64 v20))), (40, (.pv (.lst 1 (List.map eStr x201.Supers)))), (41, (.pv (.int .i64 (List.length (List.map eStr x201.Supers) : Int)))), (42, (.pv (.int .i64 0)))] [(5, (.row 9 1 (List.map eStr o5))), (7, (.box 57 (List.map .pv (TypeDecl.enc x201)))), (16, (.mp 9 3 (encMap V9 V3 m204).1 (encMap V9 V3 m204).2)), (17, (.mr 9 9 1 (encMr V9 C9 o17).1 (encMr V9 C9 o17).2))]) (t79_11 v18 v19 v20 x201.Supers (List.length x201.Supers : Int) 0 o5 x201 m204 o17) from fun _ h => by simpa only [h79_11, List.length_map] using q79_11 _ h))) (
 I_all (K := V9) (C := C9) (sz := 1) fun m206 =>
 q79_17))
 (by kernel_rfl) (fun h => head_round h)
theorem k79_11 (v18 : List TypeDecl) (v19 : Int) (v20 : Int) (v40 : List (List UInt8)) (v41 : Int) (v42 : Int) (o5 : List (List UInt8)) (o7 : TypeDecl) (o16 : List ((List UInt8) × Int)) (o17 : List ((List UInt8) × Option (List (List UInt8)))) {r : (List (List UInt8))}
 (h : (
 bif (decide (v42 < v41)) then (
 getK v40 v42 fun x201 =>
 takeT o17 x201 fun l205 m206 =>
 check ((List.length l205 + List.length [o7.Name]) * 16 ≤ 140737488355328 ∧ List.length l205 + List.length [o7.Name] ≤ 4611686018427387904) (
 letT (putM m206 x201 (some (l205 ++ [o7.Name]))) fun m208 =>
 t79_11 v18 v19 v20 v40 v41 (IntKind.wrap .i64 (v42 + 1)) o5 o7 o16 m208))
 else (
 t79_5 v18 v19 (IntKind.wrap .i64 (v20 + 1)) o5 o16 o17) : Option (List (List UInt8))) = some r) :
 t79_11 v18 v19 v20 v40 v41 v42 o5 o7 o16 o17 = some r :=
 lift2 (E := E79) h (
 I_cond rfl (
 I_getK (enc := eStr) rfl fun x201 =>
 I_take (K := V9) (C := C9) fun l205 m206 =>
 I_check (p := (List.length (List.map eStr l205) + List.length (List.map eStr [o7.Name])) * 16 ≤ 140737488355328 ∧ List.length (List.map eStr l205) + List.length (List.map eStr [o7.Name]) ≤ 4611686018427387904) (by simp only [List.length_map]; exact id) (
 I_putR (K := V9) (C := C9) (L := ((List.map eStr l205) ++ (List.map eStr [o7.Name]))) (by simp only [List.map_append]) fun m208 =>
 q79_11)) (
 q79_5))
 (by kernel_rfl) (fun h => head_round h)
theorem k79_17 (below4 : List ((List UInt8) × (List (List UInt8)))) (o5 : List (List UInt8)) (o10 : List (List UInt8)) (o16 : List ((List UInt8) × Int)) {r : (List (List UInt8))}
 (h : (
 bif (decide ((List.length o5 : Int) > 0)) then (
 Option.bind (f116 o5) fun y201 =>
 bind2 (f117 y201 o5) fun y203 l205 =>
 check (y203 ≤ List.length l205) (
 check ((List.length o10 + List.length [y201]) * 16 ≤ 140737488355328 ∧ List.length o10 + List.length [y201] ≤ 4611686018427387904) (
 lookT below4 y201 (fun y208 =>
 t79_22 below4 y208 (List.length y208 : Int) 0 (l205.take y203) (o10 ++ [y201]) o16) (
 t79_22 below4 ([] : List (List UInt8)) (List.length ([] : List (List UInt8)) : Int) 0 (l205.take y203) (o10 ++ [y201]) o16))))
 else (
 some o10) : Option (List (List UInt8))) = some r) :
 t79_17 below4 o5 o10 o16 = some r :=
 lift2 (E := E79) h (
 I_cond (c := (decide ((List.length (List.map eStr o5) : Int) > 0))) (by simp only [List.length_map]) (
 I_call (enc := R116.enc) s116 fun y201 =>
 I_callR (enc := R117.enc) (ee := eStr) (nm := 10000) (e := 9) (sz := 1) s117 fun y203 l205 =>
 I_check (p := y203 ≤ List.length (List.map eStr l205)) (by simp only [List.length_map]; exact id) (
 I_check (p := (List.length (List.map eStr o10) + List.length (List.map eStr [y201])) * 16 ≤ 140737488355328 ∧ List.length (List.map eStr o10) + List.length (List.map eStr [y201]) ≤ 4611686018427387904) (by simp only [List.length_map]; exact id) (
 I_look (K := V9) (V := V54) (fun y208 =>
 (show Imp E79 (headT P cods H prim 79 22 [] [(3, (.row 16)), (4, (.pv (.mp (encMap V9 V54 below4).1 (encMap V9 V54 below4).2))), (5, (.row 5)), (10, (.row 10)), (71, (.pv (.lst 1 (List.map eStr y208)))), (72, (.pv (.int .i64 (List.length (List.map eStr y208) : Int)))), (73, (.pv (.int .i64 0)))] [(5, (.row 9 1 ((List.map eStr l205).take y203))), (10, (.row 9 1 ((List.map eStr o10) ++ (List.map eStr [y201])))), (16, (.mp 9 3 (encMap V9 V3 o16).1 (encMap V9 V3 o16).2))]) (t79_22 below4 y208 (List.length y208 : Int) 0 (l205.take y203) (o10 ++ [y201]) o16) from fun _ h => by simpa only [h79_22, List.length_map, List.map_append, List.length_append, List.map_take, List.map_drop, List.length_take, List.length_drop] using q79_22 _ h)) (
 (show Imp E79 (headT P cods H prim 79 22 [] [(3, (.row 16)), (4, (.pv (.mp (encMap V9 V54 below4).1 (encMap V9 V54 below4).2))), (5, (.row 5)), (10, (.row 10)), (71, (.pv (.lst 1 (List.map eStr [])))), (72, (.pv (.int .i64 (List.length (List.map eStr []) : Int)))), (73, (.pv (.int .i64 0)))] [(5, (.row 9 1 ((List.map eStr l205).take y203))), (10, (.row 9 1 ((List.map eStr o10) ++ (List.map eStr [y201])))), (16, (.mp 9 3 (encMap V9 V3 o16).1 (encMap V9 V3 o16).2))]) (t79_22 below4 ([] : List (List UInt8)) (List.length ([] : List (List UInt8)) : Int) 0 (l205.take y203) (o10 ++ [y201]) o16) from fun _ h => by simpa only [h79_22, List.length_map, List.map_append, List.length_append, List.map_take, List.map_drop, List.length_take, List.length_drop] using q79_22 _ h))))) (
 I_some rfl))
 (by kernel_rfl) (fun h => head_round h)
theorem k79_22 (below4 : List ((List UInt8) × (List (List UInt8)))) (v71 : List (List UInt8)) (v72 : Int) (v73 : Int) (o5 : List (List UInt8)) (o10 : List (List UInt8)) (o16 : List ((List UInt8) × Int)) {r : (List (List UInt8))}
 (h : (
 bif (decide (v73 < v72)) then (
 getK v71 v73 fun x201 =>
 lookT o16 x201 (fun y204 =>
 letT (putM o16 x201 (IntKind.wrap .i64 (y204 - 1))) fun m206 =>
 lookT m206 x201 (fun y208 =>
 bif (y208 == 0) then (
 check ((List.length o5 + List.length [x201]) * 16 ≤ 140737488355328 ∧ List.length o5 + List.length [x201] ≤ 4611686018427387904) (
 t79_22 below4 v71 v72 (IntKind.wrap .i64 (v73 + 1)) (o5 ++ [x201]) o10 m206))
 else (
 t79_22 below4 v71 v72 (IntKind.wrap .i64 (v73 + 1)) o5 o10 m206)) (
 bif (0 == 0) then (
 check ((List.length o5 + List.length [x201]) * 16 ≤ 140737488355328 ∧ List.length o5 + List.length [x201] ≤ 4611686018427387904) (
 t79_22 below4 v71 v72 (IntKind.wrap .i64 (v73 + 1)) (o5 ++ [x201]) o10 m206))
 else (
 t79_22 below4 v71 v72 (IntKind.wrap .i64 (v73 + 1)) o5 o10 m206))) (
 letT (putM o16 x201 (IntKind.wrap .i64 (0 - 1))) fun m210 =>
 lookT m210 x201 (fun y212 =>
 bif (y212 == 0) then (
 check ((List.length o5 + List.length [x201]) * 16 ≤ 140737488355328 ∧ List.length o5 + List.length [x201] ≤ 4611686018427387904) (
 t79_22 below4 v71 v72 (IntKind.wrap .i64 (v73 + 1)) (o5 ++ [x201]) o10 m210))
 else (
 t79_22 below4 v71 v72 (IntKind.wrap .i64 (v73 + 1)) o5 o10 m210)) (
 bif (0 == 0) then (
 check ((List.length o5 + List.length [x201]) * 16 ≤ 140737488355328 ∧ List.length o5 + List.length [x201] ≤ 4611686018427387904) (
 t79_22 below4 v71 v72 (IntKind.wrap .i64 (v73 + 1)) (o5 ++ [x201]) o10 m210))
 else (
 t79_22 below4 v71 v72 (IntKind.wrap .i64 (v73 + 1)) o5 o10 m210))))
 else (
 t79_17 below4 o5 o10 o16) : Option (List (List UInt8))) = some r) :
 t79_22 below4 v71 v72 v73 o5 o10 o16 = some r :=
 lift2 (E := E79) h (
 I_cond rfl (
 I_getK (enc := eStr) rfl fun x201 =>
 I_look (K := V9) (V := V3) (fun y204 =>
 I_put (K := V9) (V := V3) rfl fun m206 =>
 I_look (K := V9) (V := V3) (fun y208 =>
 I_cond rfl (
 I_check (p := (List.length (List.map eStr o5) + List.length (List.map eStr [x201])) * 16 ≤ 140737488355328 ∧ List.length (List.map eStr o5) + List.length (List.map eStr [x201]) ≤ 4611686018427387904) (by simp only [List.length_map]; exact id) (
 (show Imp E79 (headT P cods H prim 79 22 [] [(3, (.row 16)), (4, (.pv (.mp (encMap V9 V54 below4).1 (encMap V9 V54 below4).2))), (5, (.row 5)), (10, (.row 10)), (71, (.pv (.lst 1 (List.map eStr v71)))), (72, (.pv (.int .i64 v72))), (73, (.pv (.int .i64 (IntKind.wrap .i64 (v73 + 1)))))] [(5, (.row 9 1 ((List.map eStr o5) ++ (List.map eStr [x201])))), (10, (.row 9 1 (List.map eStr o10))), (16, (.mp 9 3 (encMap V9 V3 m206).1 (encMap V9 V3 m206).2))]) (t79_22 below4 v71 v72 (IntKind.wrap .i64 (v73 + 1)) (o5 ++ [x201]) o10 m206) from fun _ h => by simpa only [h79_22, List.map_append] using q79_22 _ h))) (
 q79_22)) (
 I_cond rfl (
 I_check (p := (List.length (List.map eStr o5) + List.length (List.map eStr [x201])) * 16 ≤ 140737488355328 ∧ List.length (List.map eStr o5) + List.length (List.map eStr [x201]) ≤ 4611686018427387904) (by simp only [List.length_map]; exact id) (
 (show Imp E79 (headT P cods H prim 79 22 [] [(3, (.row 16)), (4, (.pv (.mp (encMap V9 V54 below4).1 (encMap V9 V54 below4).2))), (5, (.row 5)), (10, (.row 10)), (71, (.pv (.lst 1 (List.map eStr v71)))), (72, (.pv (.int .i64 v72))), (73, (.pv (.int .i64 (IntKind.wrap .i64 (v73 + 1)))))] [(5, (.row 9 1 ((List.map eStr o5) ++ (List.map eStr [x201])))), (10, (.row 9 1 (List.map eStr o10))), (16, (.mp 9 3 (encMap V9 V3 m206).1 (encMap V9 V3 m206).2))]) (t79_22 below4 v71 v72 (IntKind.wrap .i64 (v73 + 1)) (o5 ++ [x201]) o10 m206) from fun _ h => by simpa only [h79_22, List.map_append] using q79_22 _ h))) (
 q79_22))) (
 I_put (K := V9) (V := V3) rfl fun m210 =>
 I_look (K := V9) (V := V3) (fun y212 =>
 I_cond rfl (
 I_check (p := (List.length (List.map eStr o5) + List.length (List.map eStr [x201])) * 16 ≤ 140737488355328 ∧ List.length (List.map eStr o5) + List.length (List.map eStr [x201]) ≤ 4611686018427387904) (by simp only [List.length_map]; exact id) (
 (show Imp E79 (headT P cods H prim 79 22 [] [(3, (.row 16)), (4, (.pv (.mp (encMap V9 V54 below4).1 (encMap V9 V54 below4).2))), (5, (.row 5)), (10, (.row 10)), (71, (.pv (.lst 1 (List.map eStr v71)))), (72, (.pv (.int .i64 v72))), (73, (.pv (.int .i64 (IntKind.wrap .i64 (v73 + 1)))))] [(5, (.row 9 1 ((List.map eStr o5) ++ (List.map eStr [x201])))), (10, (.row 9 1 (List.map eStr o10))), (16, (.mp 9 3 (encMap V9 V3 m210).1 (encMap V9 V3 m210).2))]) (t79_22 below4 v71 v72 (IntKind.wrap .i64 (v73 + 1)) (o5 ++ [x201]) o10 m210) from fun _ h => by simpa only [h79_22, List.map_append] using q79_22 _ h))) (
 q79_22)) (
 I_cond rfl (
 I_check (p := (List.length (List.map eStr o5) + List.length (List.map eStr [x201])) * 16 ≤ 140737488355328 ∧ List.length (List.map eStr o5) + List.length (List.map eStr [x201]) ≤ 4611686018427387904) (by simp only [List.length_map]; exact id) (
 (show Imp E79 (headT P cods H prim 79 22 [] [(3, (.row 16)), (4, (.pv (.mp (encMap V9 V54 below4).1 (encMap V9 V54 below4).2))), (5, (.row 5)), (10, (.row 10)), (71, (.pv (.lst 1 (List.map eStr v71)))), (72, (.pv (.int .i64 v72))), (73, (.pv (.int .i64 (IntKind.wrap .i64 (v73 + 1)))))] [(5, (.row 9 1 ((List.map eStr o5) ++ (List.map eStr [x201])))), (10, (.row 9 1 (List.map eStr o10))), (16, (.mp 9 3 (encMap V9 V3 m210).1 (encMap V9 V3 m210).2))]) (t79_22 below4 v71 v72 (IntKind.wrap .i64 (v73 + 1)) (o5 ++ [x201]) o10 m210) from fun _ h => by simpa only [h79_22, List.map_append] using q79_22 _ h))) (
 q79_22)))) (
 q79_17))
 (by kernel_rfl) (fun h => head_round h)
theorem e81 (d0 : List TypeDecl) (name1 : List UInt8) {r : (List (List UInt8))}
 (h : (
 t81_3 name1 d0 (List.length d0 : Int) 0 ([] : List ((List UInt8) × Option (List (List UInt8)))) : Option (List (List UInt8))) = some r) :
 f81 d0 name1 = some r :=
 lift2 (E := E81) h (
 (show Imp E81 (headT P cods H prim 81 3 [] [(1, (.pv (.str name1))), (5, (.row 14)), (15, (.pv (.lst 3 (List.map TypeDecl.enc d0)))), (16, (.pv (.int .i64 (List.length (List.map TypeDecl.enc d0) : Int)))), (17, (.pv (.int .i64 0)))] [(14, (.mr 9 9 1 (encMr V9 C9 ([] : List ((List UInt8) × Option (List (List UInt8))))).1 (encMr V9 C9 ([] : List ((List UInt8) × Option (List (List UInt8))))).2))]) (t81_3 name1 d0 (List.length d0 : Int) 0 ([] : List ((List UInt8) × Option (List (List UInt8))))) from fun _ h => by simpa only [h81_3, List.length_map] using q81_3 _ h))
 (by kernel_rfl) (fun h => run_body (C := cods) rfl h)
theorem k81_3 (name1 : List UInt8) (v15 : List TypeDecl) (v16 : Int) (v17 : Int) (o14 : List ((List UInt8) × Option (List (List UInt8)))) {r : (List (List UInt8))}
 (h : (
 bif (decide (v17 < v16)) then (
 getK v15 v17 fun x201 =>
 hasT o14 x201.Name fun b203 =>
 bif (!b203) then (
 letT (putM o14 x201.Name (some ([] : List (List UInt8)))) fun m205 =>
 t81_9 name1 v15 v16 v17 x201.Supers (List.length x201.Supers : Int) 0 x201 m205)
 else (
 t81_9 name1 v15 v16 v17 x201.Supers (List.length x201.Supers : Int) 0 x201 o14))
 else (
 allT o14 fun m207 =>
 Option.bind (f74 m207 name1) fun y208 =>
 some y208) : Option (List (List UInt8))) = some r) :
 t81_3 name1 v15 v16 v17 o14 = some r :=
 lift2 (E := E81) h (
 I_cond rfl (
 I_getK (enc := TypeDecl.enc) rfl fun x201 =>
 I_has (K := V9) (C := C9) fun b203 =>
 I_cond rfl (
 I_putR (K := V9) (C := C9) rfl fun m205 =>
 (show Imp E81 (headT P cods H prim 81 9 [] [(1, (.pv (.str name1))), (5, (.row 14)), (7, (.ptr 7 0)), (15, (.pv (.lst 3 (List.map TypeDecl.enc v15)))), (16, (.pv (.int .i64 v16))), (17, (.pv (.int .i64 v17))), (34, (.pv (.lst 1 (List.map eStr x201.Supers)))), (35, (.pv (.int .i64 (List.length (List.map eStr x201.Supers) : Int)))), (36, (.pv (.int .i64 0)))] [(7, (.box 57 (List.map .pv (TypeDecl.enc x201)))), (14, (.mr 9 9 1 (encMr V9 C9 m205).1 (encMr V9 C9 m205).2))]) (t81_9 name1 v15 v16 v17 x201.Supers (List.length x201.Supers : Int) 0 x201 m205) from fun _ h => by simpa only [h81_9, List.length_map] using q81_9 _ h)) (
 (show Imp E81 (headT P cods H prim 81 9 [] [(1, (.pv (.str name1))), (5, (.row 14)), (7, (.ptr 7 0)), (15, (.pv (.lst 3 (List.map TypeDecl.enc v15)))), (16, (.pv (.int .i64 v16))), (17, (.pv (.int .i64 v17))), (34, (.pv (.lst 1 (List.map eStr x201.Supers)))), (35, (.pv (.int .i64 (List.length (List.map eStr x201.Supers) : Int)))), (36, (.pv (.int .i64 0)))] [(7, (.box 57 (List.map .pv (TypeDecl.enc x201)))), (14, (.mr 9 9 1 (encMr V9 C9 o14).1 (encMr V9 C9 o14).2))]) (t81_9 name1 v15 v16 v17 x201.Supers (List.length x201.Supers : Int) 0 x201 o14) from fun _ h => by simpa only [h81_9, List.length_map] using q81_9 _ h))) (
 I_all (K := V9) (C := C9) (sz := 1) fun m207 =>
 I_call (enc := R74.enc) s74 fun y208 =>
 I_some rfl))
 (by kernel_rfl) (fun h => head_round h)
theorem k81_9 (name1 : List UInt8) (v15 : List TypeDecl) (v16 : Int) (v17 : Int) (v34 : List (List UInt8)) (v35 : Int) (v36 : Int) (o7 : TypeDecl) (o14 : List ((List UInt8) × Option (List (List UInt8)))) {r : (List (List UInt8))}
 (h : (
 bif (decide (v36 < v35)) then (
 getK v34 v36 fun x201 =>
 takeT o14 x201 fun l205 m206 =>
 check ((List.length l205 + List.length [o7.Name]) * 16 ≤ 140737488355328 ∧ List.length l205 + List.length [o7.Name] ≤ 4611686018427387904) (
 letT (putM m206 x201 (some (l205 ++ [o7.Name]))) fun m208 =>
 t81_9 name1 v15 v16 v17 v34 v35 (IntKind.wrap .i64 (v36 + 1)) o7 m208))
 else (
 t81_3 name1 v15 v16 (IntKind.wrap .i64 (v17 + 1)) o14) : Option (List (List UInt8))) = some r) :
 t81_9 name1 v15 v16 v17 v34 v35 v36 o7 o14 = some r :=
 lift2 (E := E81) h (
 I_cond rfl (
 I_getK (enc := eStr) rfl fun x201 =>
 I_take (K := V9) (C := C9) fun l205 m206 =>
 I_check (p := (List.length (List.map eStr l205) + List.length (List.map eStr [o7.Name])) * 16 ≤ 140737488355328 ∧ List.length (List.map eStr l205) + List.length (List.map eStr [o7.Name]) ≤ 4611686018427387904) (by simp only [List.length_map]; exact id) (
 I_putR (K := V9) (C := C9) (L := ((List.map eStr l205) ++ (List.map eStr [o7.Name]))) (by simp only [List.map_append]) fun m208 =>
 q81_9)) (
 q81_3))
 (by kernel_rfl) (fun h => head_round h)
theorem e82 (x0 : List (List UInt8)) (target1 : List UInt8) {r : (Int × Bool)}
 (h : (
 t82_3 x0 target1 (List.length x0 : Int) 0 (List.length x0 : Int) : Option (Int × Bool)) = some r) :
 f82 x0 target1 = some r :=
 lift2 (E := E82) h (
 (show Imp E82 (headT P cods H prim 82 3 [] [(0, (.pv (.lst 1 (List.map eStr x0)))), (1, (.pv (.str target1))), (6, (.pv (.int .i64 (List.length (List.map eStr x0) : Int)))), (7, (.pv (.int .i64 0))), (8, (.pv (.int .i64 (List.length (List.map eStr x0) : Int))))] []) (t82_3 x0 target1 (List.length x0 : Int) 0 (List.length x0 : Int)) from fun _ h => by simpa only [h82_3, List.length_map] using q82_3 _ h))
 (by kernel_rfl) (fun h => run_body (C := cods) rfl h)
theorem k82_3 (x0 : List (List UInt8)) (target1 : List UInt8) (n6 : Int) (i7 : Int) (j8 : Int) {r : (Int × Bool)}
 (h : (
 bif (decide (i7 < j8)) then (
 check (0 ≤ 1) (
 getK x0 (IntKind.wrap .i64 ((Int.fdiv (IntKind.wrap .u64 ((IntKind.wrap .i64 (i7 + j8)))) (2 ^ min (Int.toNat 1) (IntKind.bits .u64))))) fun x201 =>
 Option.bind (f120 x201 target1) fun y203 =>
 bif y203 then (
 t82_3 x0 target1 n6 (IntKind.wrap .i64 ((IntKind.wrap .i64 ((Int.fdiv (IntKind.wrap .u64 ((IntKind.wrap .i64 (i7 + j8)))) (2 ^ min (Int.toNat 1) (IntKind.bits .u64))))) + 1)) j8)
 else (
 t82_3 x0 target1 n6 i7 (IntKind.wrap .i64 ((Int.fdiv (IntKind.wrap .u64 ((IntKind.wrap .i64 (i7 + j8)))) (2 ^ min (Int.toNat 1) (IntKind.bits .u64))))))))
 else (
 bif (decide (i7 < n6)) then (
 getK x0 i7 fun x205 =>
 bif (x205 == target1) then (
 some (i7, true))
 else (
 getK x0 i7 fun x207 =>
 Option.bind (f121 x207) fun y209 =>
 bif y209 then (
 Option.bind (f121 target1) fun y211 =>
 some (i7, y211))
 else (
 some (i7, false))))
 else (
 some (i7, false))) : Option (Int × Bool)) = some r) :
 t82_3 x0 target1 n6 i7 j8 = some r :=
 lift2 (E := E82) h (
 I_cond rfl (
 I_check id (
 I_getK (enc := eStr) rfl fun x201 =>
 I_call (enc := R120.enc) s120 fun y203 =>
 I_cond rfl (
 q82_3) (
 q82_3))) (
 I_cond rfl (
 I_getK (enc := eStr) rfl fun x205 =>
 I_cond rfl (
 I_some rfl) (
 I_getK (enc := eStr) rfl fun x207 =>
 I_call (enc := R121.enc) s121 fun y209 =>
 I_cond rfl (
 I_call (enc := R121.enc) s121 fun y211 =>
 I_some rfl) (
 I_some rfl))) (
 I_some rfl)))
 (by kernel_rfl) (fun h => head_round h)
theorem e83 (l0 : List Int) {r : ((List Int) × Int)}
 (h : (
 t83_3 l0 (-1) l0 (List.length l0 : Int) 0 : Option ((List Int) × Int)) = some r) :
 f83 l0 = some r :=
 lift2 (E := E83) h (
 (show Imp E83 (headT P cods H prim 83 3 [] [(0, (.pv (.lst 1 (List.map (eInt .i64) l0)))), (4, (.pv (.int .i64 (-1)))), (10, (.pv (.lst 1 (List.map (eInt .i64) l0)))), (11, (.pv (.int .i64 (List.length (List.map (eInt .i64) l0) : Int)))), (12, (.pv (.int .i64 0)))] []) (t83_3 l0 (-1) l0 (List.length l0 : Int) 0) from fun _ h => by simpa only [h83_3, List.length_map] using q83_3 _ h))
 (by kernel_rfl) (fun h => run_body (C := cods) rfl h)
theorem k83_3 (l0 : List Int) (most4 : Int) (v10 : List Int) (v11 : Int) (v12 : Int) {r : ((List Int) × Int)}
 (h : (
 bif (decide (v12 < v11)) then (
 getK v10 v12 fun x201 =>
 bif (decide (x201 < 0)) then (
 some (([] : List Int), 2))
 else (
 bif (decide (x201 > 4095)) then (
 some (([] : List Int), 2))
 else (
 t83_3 l0 (if x201 > most4 then x201 else most4) v10 v11 (IntKind.wrap .i64 (v12 + 1)))))
 else (
 check (64 ≠ 0) (
 check (0 ≤ ((IntKind.wrap .i64 (Int.tdiv (IntKind.wrap .i64 (most4 + 64)) 64)) : Int) ∧ ((IntKind.wrap .i64 (Int.tdiv (IntKind.wrap .i64 (most4 + 64)) 64)) : Int) ≤ (IntKind.wrap .i64 (Int.tdiv (IntKind.wrap .i64 (most4 + 64)) 64)) ∧ 8 * Int.toNat (IntKind.wrap .i64 (Int.tdiv (IntKind.wrap .i64 (most4 + 64)) 64)) ≤ 281474976710656 ∧ ((IntKind.wrap .i64 (Int.tdiv (IntKind.wrap .i64 (most4 + 64)) 64)) : Int) ≤ 9223372036854775807) (
 t83_11 l0 (List.length l0 : Int) 0 (List.replicate (Int.toNat (IntKind.wrap .i64 (Int.tdiv (IntKind.wrap .i64 (most4 + 64)) 64))) 0)))) : Option ((List Int) × Int)) = some r) :
 t83_3 l0 most4 v10 v11 v12 = some r :=
 lift2 (E := E83) h (
 I_cond rfl (
 I_getK (enc := (eInt .i64)) rfl fun x201 =>
 I_cond rfl (
 I_some rfl) (
 I_cond rfl (
 I_some rfl) (
 q83_3))) (
 I_check id (
 I_check id (
 (show Imp E83 (headT P cods H prim 83 11 [] [(7, (.row 29)), (30, (.pv (.lst 1 (List.map (eInt .i64) l0)))), (31, (.pv (.int .i64 (List.length (List.map (eInt .i64) l0) : Int)))), (32, (.pv (.int .i64 0)))] [(29, (.row 37 1 (List.replicate (Int.toNat (IntKind.wrap .i64 (Int.tdiv (IntKind.wrap .i64 (most4 + 64)) 64))) ((eInt .u64) 0))))]) (t83_11 l0 (List.length l0 : Int) 0 (List.replicate (Int.toNat (IntKind.wrap .i64 (Int.tdiv (IntKind.wrap .i64 (most4 + 64)) 64))) 0)) from fun _ h => by simpa only [h83_11, List.length_map, List.map_replicate, List.length_replicate] using q83_11 _ h)))))
 (by kernel_rfl) (fun h => head_round h)
theorem k83_11 (v30 : List Int) (v31 : Int) (v32 : Int) (o29 : List Int) {r : ((List Int) × Int)}
 (h : (
 bif (decide (v32 < v31)) then (
 getK v30 v32 fun x201 =>
 check (64 ≠ 0) (
 check (0 ≤ (IntKind.wrap .i64 (Int.tdiv x201 64)) ∧ Int.toNat (IntKind.wrap .i64 (Int.tdiv x201 64)) < List.length o29) (
 getN o29 (Int.toNat (IntKind.wrap .i64 (Int.tdiv x201 64))) fun x203 =>
 check (64 ≠ 0) (
 check (0 ≤ (Int.tmod x201 64)) (
 check (0 ≤ (IntKind.wrap .i64 (Int.tdiv x201 64)) ∧ Int.toNat (IntKind.wrap .i64 (Int.tdiv x201 64)) < List.length o29) (
 getN o29 (Int.toNat (IntKind.wrap .i64 (Int.tdiv x201 64))) fun x205 =>
 t83_11 v30 v31 (IntKind.wrap .i64 (v32 + 1)) (o29.set (Int.toNat (IntKind.wrap .i64 (Int.tdiv x201 64))) (IntKind.wrap .u64 ((BitVec.ofInt (IntKind.bits .u64) x203 ||| BitVec.ofInt (IntKind.bits .u64) (IntKind.wrap .u64 (1 * 2 ^ min (Int.toNat (Int.tmod x201 64)) (IntKind.bits .u64)))).toNat : Int)))))))))
 else (
 Option.bind (f68 o29) fun y207 =>
 Option.bind (f68 o29) fun y209 =>
 some (y209, 0)) : Option ((List Int) × Int)) = some r) :
 t83_11 v30 v31 v32 o29 = some r :=
 lift2 (E := E83) h (
 I_cond rfl (
 I_getK (enc := (eInt .i64)) rfl fun x201 =>
 I_check id (
 I_check (p := 0 ≤ (IntKind.wrap .i64 (Int.tdiv x201 64)) ∧ Int.toNat (IntKind.wrap .i64 (Int.tdiv x201 64)) < List.length (List.map (eInt .u64) o29)) (by simp only [List.length_map]; exact id) (
 I_getN (enc := (eInt .u64)) rfl fun x203 =>
 I_check id (
 I_check id (
 I_check (p := 0 ≤ (IntKind.wrap .i64 (Int.tdiv x201 64)) ∧ Int.toNat (IntKind.wrap .i64 (Int.tdiv x201 64)) < List.length (List.map (eInt .u64) o29)) (by simp only [List.length_map]; exact id) (
 I_getN (enc := (eInt .u64)) rfl fun x205 =>
 (show Imp E83 (headT P cods H prim 83 11 [] [(7, (.row 29)), (30, (.pv (.lst 1 (List.map (eInt .i64) v30)))), (31, (.pv (.int .i64 v31))), (32, (.pv (.int .i64 (IntKind.wrap .i64 (v32 + 1)))))] [(29, (.row 37 1 ((List.map (eInt .u64) o29).set (Int.toNat (IntKind.wrap .i64 (Int.tdiv x201 64))) ((eInt .u64) (IntKind.wrap .u64 ((BitVec.ofInt (IntKind.bits .u64) x203 ||| BitVec.ofInt (IntKind.bits .u64) (IntKind.wrap .u64 (1 * 2 ^ min (Int.toNat (Int.tmod x201 64)) (IntKind.bits .u64)))).toNat : Int))))))]) (t83_11 v30 v31 (IntKind.wrap .i64 (v32 + 1)) (o29.set (Int.toNat (IntKind.wrap .i64 (Int.tdiv x201 64))) (IntKind.wrap .u64 ((BitVec.ofInt (IntKind.bits .u64) x203 ||| BitVec.ofInt (IntKind.bits .u64) (IntKind.wrap .u64 (1 * 2 ^ min (Int.toNat (Int.tmod x201 64)) (IntKind.bits .u64)))).toNat : Int)))) from fun _ h => by simpa only [h83_11, List.map_set] using q83_11 _ h))))))) (
 I_call (enc := R68.enc) s68 fun y207 =>
 I_call (enc := R68.enc) s68 fun y209 =>
 I_some rfl))
 (by kernel_rfl) (fun h => head_round h)
theorem e84 (b0 : List Int) (w10002 : List ((List UInt8) × Bool)) (w20003 : List (List Int)) {r : (Unit × (List ((List UInt8) × Bool)) × (List (List Int)))}
 (h : (
 bif (decide ((List.length b0 : Int) > 0)) then (
 Option.bind (f85 b0) fun y201 =>
 lookT w10002 y201 (fun y204 =>
 bif (!y204) then (
 Option.bind (f85 b0) fun y205 =>
 letT (putM w10002 y205 true) fun m208 =>
 check ((List.length w20003 + List.length [b0]) * 24 ≤ 140737488355328 ∧ List.length w20003 + List.length [b0] ≤ 4611686018427387904) (
 some ((), m208, (w20003 ++ [b0]))))
 else (
 some ((), w10002, w20003))) (
 Option.bind (f85 b0) fun y209 =>
 letT (putM w10002 y209 true) fun m212 =>
 check ((List.length w20003 + List.length [b0]) * 24 ≤ 140737488355328 ∧ List.length w20003 + List.length [b0] ≤ 4611686018427387904) (
 some ((), m212, (w20003 ++ [b0])))))
 else (
 some ((), w10002, w20003)) : Option (Unit × (List ((List UInt8) × Bool)) × (List (List Int)))) = some r) :
 f84 b0 w10002 w20003 = some r :=
 lift2 (E := E84r) h (
 I_cond (c := (decide ((List.length (List.map (eInt .u64) b0) : Int) > 0))) (by simp only [List.length_map]) (
 I_call (enc := R85.enc) s85 fun y201 =>
 I_look (K := V9) (V := V4) (fun y204 =>
 I_cond rfl (
 I_call (enc := R85.enc) s85 fun y205 =>
 I_put (K := V9) (V := V4) rfl fun m208 =>
 I_check (p := (List.length (List.map (eLst 1 (eInt .u64)) w20003) + List.length (List.map (eLst 1 (eInt .u64)) [b0])) * 24 ≤ 140737488355328 ∧ List.length (List.map (eLst 1 (eInt .u64)) w20003) + List.length (List.map (eLst 1 (eInt .u64)) [b0]) ≤ 4611686018427387904) (by simp only [List.length_map]; exact id) (
 I_some (c := ((.tup []), [(10000, (.box 98 [(.row 10002)])), (10001, (.box 64 [(.row 20003)])), (10002, (.mp 9 4 (encMap V9 V4 m208).1 (encMap V9 V4 m208).2)), (20003, (.row 31 1 ((List.map (eLst 1 (eInt .u64)) w20003) ++ (List.map (eLst 1 (eInt .u64)) [b0]))))])) (by simp only [E84r, R84.enc, List.map_append]))) (
 I_some rfl)) (
 I_call (enc := R85.enc) s85 fun y209 =>
 I_put (K := V9) (V := V4) rfl fun m212 =>
 I_check (p := (List.length (List.map (eLst 1 (eInt .u64)) w20003) + List.length (List.map (eLst 1 (eInt .u64)) [b0])) * 24 ≤ 140737488355328 ∧ List.length (List.map (eLst 1 (eInt .u64)) w20003) + List.length (List.map (eLst 1 (eInt .u64)) [b0]) ≤ 4611686018427387904) (by simp only [List.length_map]; exact id) (
 I_some (c := ((.tup []), [(10000, (.box 98 [(.row 10002)])), (10001, (.box 64 [(.row 20003)])), (10002, (.mp 9 4 (encMap V9 V4 m212).1 (encMap V9 V4 m212).2)), (20003, (.row 31 1 ((List.map (eLst 1 (eInt .u64)) w20003) ++ (List.map (eLst 1 (eInt .u64)) [b0]))))])) (by simp only [E84r, R84.enc, List.map_append])))) (
 I_some rfl))
 (by kernel_rfl) (fun h => run_body (C := cods) rfl h)
theorem e85 (b0 : List Int) {r : (List UInt8)}
 (h : (
 check (0 ≤ (0 : Int) ∧ (0 : Int) ≤ (IntKind.wrap .i64 (8 * (List.length b0 : Int))) ∧ 1 * Int.toNat (IntKind.wrap .i64 (8 * (List.length b0 : Int))) ≤ 281474976710656 ∧ ((IntKind.wrap .i64 (8 * (List.length b0 : Int))) : Int) ≤ 9223372036854775807) (
 t85_3 b0 (List.length b0 : Int) 0 (List.replicate (Int.toNat 0) 0)) : Option (List UInt8)) = some r) :
 f85 b0 = some r :=
 lift2 (E := E85) h (
 I_check (p := 0 ≤ (0 : Int) ∧ (0 : Int) ≤ (IntKind.wrap .i64 (8 * (List.length (List.map (eInt .u64) b0) : Int))) ∧ 1 * Int.toNat (IntKind.wrap .i64 (8 * (List.length (List.map (eInt .u64) b0) : Int))) ≤ 281474976710656 ∧ ((IntKind.wrap .i64 (8 * (List.length (List.map (eInt .u64) b0) : Int))) : Int) ≤ 9223372036854775807) (by simp only [List.length_map]; exact id) (
 (show Imp E85 (headT P cods H prim 85 3 [] [(3, (.row 10)), (11, (.pv (.lst 1 (List.map (eInt .u64) b0)))), (12, (.pv (.int .i64 (List.length (List.map (eInt .u64) b0) : Int)))), (13, (.pv (.int .i64 0)))] [(10, (.row 5 1 (List.replicate (Int.toNat 0) ((eInt .u8) 0))))]) (t85_3 b0 (List.length b0 : Int) 0 (List.replicate (Int.toNat 0) 0)) from fun _ h => by simpa only [h85_3, List.length_map, List.map_replicate, List.length_replicate] using q85_3 _ h)))
 (by kernel_rfl) (fun h => run_body (C := cods) rfl h)
theorem k85_3 (v11 : List Int) (v12 : Int) (v13 : Int) (o10 : List Int) {r : (List UInt8)}
 (h : (
 bif (decide (v13 < v12)) then (
 getK v11 v13 fun x201 =>
 t85_6 x201 0 v11 v12 v13 o10)
 else (
 bytesT o10 fun s203 =>
 some s203) : Option (List UInt8)) = some r) :
 t85_3 v11 v12 v13 o10 = some r :=
 lift2 (E := E85) h (
 I_cond rfl (
 I_getK (enc := (eInt .u64)) rfl fun x201 =>
 q85_6) (
 I_bytes rfl fun s203 =>
 I_some rfl))
 (by kernel_rfl) (fun h => head_round h)
theorem k85_6 (w5 : Int) (k6 : Int) (v11 : List Int) (v12 : Int) (v13 : Int) (o10 : List Int) {r : (List UInt8)}
 (h : (
 bif (decide (k6 < 64)) then (
 check (0 ≤ k6) (
 check ((List.length o10 + List.length [(IntKind.wrap .u8 ((Int.fdiv w5 (2 ^ min (Int.toNat k6) (IntKind.bits .u64)))))]) * 1 ≤ 140737488355328 ∧ List.length o10 + List.length [(IntKind.wrap .u8 ((Int.fdiv w5 (2 ^ min (Int.toNat k6) (IntKind.bits .u64)))))] ≤ 4611686018427387904) (
 t85_6 w5 (IntKind.wrap .i64 (k6 + 8)) v11 v12 v13 (o10 ++ [(IntKind.wrap .u8 ((Int.fdiv w5 (2 ^ min (Int.toNat k6) (IntKind.bits .u64)))))]))))
 else (
 t85_3 v11 v12 (IntKind.wrap .i64 (v13 + 1)) o10) : Option (List UInt8)) = some r) :
 t85_6 w5 k6 v11 v12 v13 o10 = some r :=
 lift2 (E := E85) h (
 I_cond rfl (
 I_check id (
 I_check (p := (List.length (List.map (eInt .u8) o10) + List.length (List.map (eInt .u8) [(IntKind.wrap .u8 ((Int.fdiv w5 (2 ^ min (Int.toNat k6) (IntKind.bits .u64)))))])) * 1 ≤ 140737488355328 ∧ List.length (List.map (eInt .u8) o10) + List.length (List.map (eInt .u8) [(IntKind.wrap .u8 ((Int.fdiv w5 (2 ^ min (Int.toNat k6) (IntKind.bits .u64)))))]) ≤ 4611686018427387904) (by simp only [List.length_map]; exact id) (
 (show Imp E85 (headT P cods H prim 85 6 [] [(3, (.row 10)), (5, (.pv (.int .u64 w5))), (6, (.pv (.int .i64 (IntKind.wrap .i64 (k6 + 8))))), (11, (.pv (.lst 1 (List.map (eInt .u64) v11)))), (12, (.pv (.int .i64 v12))), (13, (.pv (.int .i64 v13)))] [(10, (.row 5 1 ((List.map (eInt .u8) o10) ++ (List.map (eInt .u8) [(IntKind.wrap .u8 ((Int.fdiv w5 (2 ^ min (Int.toNat k6) (IntKind.bits .u64)))))]))))]) (t85_6 w5 (IntKind.wrap .i64 (k6 + 8)) v11 v12 v13 (o10 ++ [(IntKind.wrap .u8 ((Int.fdiv w5 (2 ^ min (Int.toNat k6) (IntKind.bits .u64)))))])) from fun _ h => by simpa only [h85_6, List.map_append] using q85_6 _ h)))) (
 q85_3))
 (by kernel_rfl) (fun h => head_round h)
theorem e90 (d0 : List TypeDecl) (l1 : List (List UInt8)) {r : (List (List UInt8))}
 (h : (
 Option.bind (f75 d0) fun y201 =>
 t90_4 y201 l1 (List.length l1 : Int) 0 ([] : List (List UInt8)) : Option (List (List UInt8))) = some r) :
 f90 d0 l1 = some r :=
 lift2 (E := E90) h (
 I_call (enc := R75.enc) s75 fun y201 =>
 (show Imp E90 (headT P cods H prim 90 4 [] [(5, (.pv (.mp (encMap V9 V54 y201).1 (encMap V9 V54 y201).2))), (6, (.row 6)), (13, (.pv (.lst 1 (List.map eStr l1)))), (14, (.pv (.int .i64 (List.length (List.map eStr l1) : Int)))), (15, (.pv (.int .i64 0)))] [(6, (.row 9 1 (List.map eStr [])))]) (t90_4 y201 l1 (List.length l1 : Int) 0 ([] : List (List UInt8))) from fun _ h => by simpa only [h90_4, List.length_map] using q90_4 _ h))
 (by kernel_rfl) (fun h => run_body (C := cods) rfl h)
theorem k90_4 (known5 : List ((List UInt8) × (List (List UInt8)))) (v13 : List (List UInt8)) (v14 : Int) (v15 : Int) (o6 : List (List UInt8)) {r : (List (List UInt8))}
 (h : (
 bif (decide (v15 < v14)) then (
 getK v13 v15 fun x201 =>
 lookT known5 x201 (fun y204 =>
 check ((List.length o6 + List.length [x201]) * 16 ≤ 140737488355328 ∧ List.length o6 + List.length [x201] ≤ 4611686018427387904) (
 t90_4 known5 v13 v14 (IntKind.wrap .i64 (v15 + 1)) (o6 ++ [x201]))) (
 t90_4 known5 v13 v14 (IntKind.wrap .i64 (v15 + 1)) o6))
 else (
 bind2 (f80 o6) fun y205 l207 =>
 bind2 (f124 l207) fun y209 l211 =>
 check (y209 ≤ List.length l211) (
 some (l211.take y209))) : Option (List (List UInt8))) = some r) :
 t90_4 known5 v13 v14 v15 o6 = some r :=
 lift2 (E := E90) h (
 I_cond rfl (
 I_getK (enc := eStr) rfl fun x201 =>
 I_look (K := V9) (V := V54) (fun y204 =>
 I_check (p := (List.length (List.map eStr o6) + List.length (List.map eStr [x201])) * 16 ≤ 140737488355328 ∧ List.length (List.map eStr o6) + List.length (List.map eStr [x201]) ≤ 4611686018427387904) (by simp only [List.length_map]; exact id) (
 (show Imp E90 (headT P cods H prim 90 4 [] [(5, (.pv (.mp (encMap V9 V54 known5).1 (encMap V9 V54 known5).2))), (6, (.row 6)), (13, (.pv (.lst 1 (List.map eStr v13)))), (14, (.pv (.int .i64 v14))), (15, (.pv (.int .i64 (IntKind.wrap .i64 (v15 + 1)))))] [(6, (.row 9 1 ((List.map eStr o6) ++ (List.map eStr [x201]))))]) (t90_4 known5 v13 v14 (IntKind.wrap .i64 (v15 + 1)) (o6 ++ [x201])) from fun _ h => by simpa only [h90_4, List.map_append] using q90_4 _ h))) (
 q90_4)) (
 I_callR (enc := R80.enc) (ee := eStr) (nm := 10000) (e := 9) (sz := 1) s80 fun y205 l207 =>
 I_callR (enc := R124.enc) (ee := eStr) (nm := 10000) (e := 9) (sz := 1) s124 fun y209 l211 =>
 I_check (p := y209 ≤ List.length (List.map eStr l211)) (by simp only [List.length_map]; exact id) (
 I_some (c := ((.lst 1 ((List.map eStr l211).take y209)), [])) (by simp only [E90, R90.enc, List.map_take, List.map_drop]))))
 (by kernel_rfl) (fun h => head_round h)
theorem e91 (x0 : List UInt8) (a1 : List UInt8) (a2 : List (List UInt8)) {r : Bool}
 (h : (
 bif (!(x0 == a1)) then (
 Option.bind (f92 a2 x0) fun y201 =>
 some y201)
 else (
 some false) : Option Bool) = some r) :
 f91 x0 a1 a2 = some r :=
 lift2 (E := E91) h (
 I_cond rfl (
 I_call (enc := R92.enc) s92 fun y201 =>
 I_some rfl) (
 I_some rfl))
 (by kernel_rfl) (fun h => run_body (C := cods) rfl h)
theorem e92 (s0 : List (List UInt8)) (v1 : List UInt8) {r : Bool}
 (h : (
 Option.bind (f125 s0 v1) fun y201 =>
 some (decide (y201 ≥ 0)) : Option Bool) = some r) :
 f92 s0 v1 = some r :=
 lift2 (E := E92) h (
 I_call (enc := R125.enc) s125 fun y201 =>
 I_some rfl)
 (by kernel_rfl) (fun h => run_body (C := cods) rfl h)
theorem e93 (s0 : List (List UInt8)) (f1_0 : List UInt8) (f1_1 : List (List UInt8)) {r : Bool}
 (h : (
 Option.bind (f126 s0 f1_0 f1_1) fun y201 =>
 some (decide (y201 ≥ 0)) : Option Bool) = some r) :
 f93 s0 f1_0 f1_1 = some r :=
 lift2 (E := E93) h (
 I_call (enc := R126.enc) s126 fun y201 =>
 I_some rfl)
 (by kernel_rfl) (fun h => run_body (C := cods) rfl h)
theorem e97 (x0 : List UInt8) {r : Bool}
 (h : (
 some (!(x0 == x0)) : Option Bool) = some r) :
 f97 x0 = some r :=
 lift2 (E := E97) h (
 I_some rfl)
 (by kernel_rfl) (fun h => run_body (C := cods) rfl h)
theorem e98 (l0 : List (List UInt8)) (s1 : List UInt8) {r : (List (List UInt8))}
 (h : (
 t98_3 l0 s1 0 ([] : List (List UInt8)) : Option (List (List UInt8))) = some r) :
 f98 l0 s1 = some r :=
 lift2 (E := E98) h (
 q98_3)
 (by kernel_rfl) (fun h => run_body (C := cods) rfl h)
theorem k98_3 (l0 : List (List UInt8)) (s1 : List UInt8) (v6 : Int) (o5 : List (List UInt8)) {r : (List (List UInt8))}
 (h : (
 bif (decide (v6 < (List.length l0 : Int))) then (
 getK l0 v6 fun x201 =>
 bif (Op.bytesLess x201 s1) then (
 t98_3 l0 s1 (IntKind.wrap .i64 (v6 + 1)) o5)
 else (
 bif (decide (v6 < (List.length l0 : Int))) then (
 getK l0 v6 fun x203 =>
 bif (x203 == s1) then (
 some l0)
 else (
 check (0 ≤ v6 ∧ v6 ≤ (List.length l0 : Nat)) (
 check ((List.length o5 + List.length ((l0.take (Int.toNat v6)).drop 0)) * 16 ≤ 140737488355328 ∧ List.length o5 + List.length ((l0.take (Int.toNat v6)).drop 0) ≤ 4611686018427387904) (
 check ((List.length (o5 ++ ((l0.take (Int.toNat v6)).drop 0)) + List.length [s1]) * 16 ≤ 140737488355328 ∧ List.length (o5 ++ ((l0.take (Int.toNat v6)).drop 0)) + List.length [s1] ≤ 4611686018427387904) (
 check (0 ≤ v6 ∧ v6 ≤ (List.length l0 : Nat)) (
 check ((List.length ((o5 ++ ((l0.take (Int.toNat v6)).drop 0)) ++ [s1]) + List.length ((l0.take (List.length l0)).drop (Int.toNat v6))) * 16 ≤ 140737488355328 ∧ List.length ((o5 ++ ((l0.take (Int.toNat v6)).drop 0)) ++ [s1]) + List.length ((l0.take (List.length l0)).drop (Int.toNat v6)) ≤ 4611686018427387904) (
 some (((o5 ++ ((l0.take (Int.toNat v6)).drop 0)) ++ [s1]) ++ ((l0.take (List.length l0)).drop (Int.toNat v6))))))))))
 else (
 check (0 ≤ v6 ∧ v6 ≤ (List.length l0 : Nat)) (
 check ((List.length o5 + List.length ((l0.take (Int.toNat v6)).drop 0)) * 16 ≤ 140737488355328 ∧ List.length o5 + List.length ((l0.take (Int.toNat v6)).drop 0) ≤ 4611686018427387904) (
 check ((List.length (o5 ++ ((l0.take (Int.toNat v6)).drop 0)) + List.length [s1]) * 16 ≤ 140737488355328 ∧ List.length (o5 ++ ((l0.take (Int.toNat v6)).drop 0)) + List.length [s1] ≤ 4611686018427387904) (
 check (0 ≤ v6 ∧ v6 ≤ (List.length l0 : Nat)) (
 check ((List.length ((o5 ++ ((l0.take (Int.toNat v6)).drop 0)) ++ [s1]) + List.length ((l0.take (List.length l0)).drop (Int.toNat v6))) * 16 ≤ 140737488355328 ∧ List.length ((o5 ++ ((l0.take (Int.toNat v6)).drop 0)) ++ [s1]) + List.length ((l0.take (List.length l0)).drop (Int.toNat v6)) ≤ 4611686018427387904) (
 some (((o5 ++ ((l0.take (Int.toNat v6)).drop 0)) ++ [s1]) ++ ((l0.take (List.length l0)).drop (Int.toNat v6)))))))))))
 else (
 bif (decide (v6 < (List.length l0 : Int))) then (
 getK l0 v6 fun x205 =>
 bif (x205 == s1) then (
 some l0)
 else (
 check (0 ≤ v6 ∧ v6 ≤ (List.length l0 : Nat)) (
 check ((List.length o5 + List.length ((l0.take (Int.toNat v6)).drop 0)) * 16 ≤ 140737488355328 ∧ List.length o5 + List.length ((l0.take (Int.toNat v6)).drop 0) ≤ 4611686018427387904) (
 check ((List.length (o5 ++ ((l0.take (Int.toNat v6)).drop 0)) + List.length [s1]) * 16 ≤ 140737488355328 ∧ List.length (o5 ++ ((l0.take (Int.toNat v6)).drop 0)) + List.length [s1] ≤ 4611686018427387904) (
 check (0 ≤ v6 ∧ v6 ≤ (List.length l0 : Nat)) (
 check ((List.length ((o5 ++ ((l0.take (Int.toNat v6)).drop 0)) ++ [s1]) + List.length ((l0.take (List.length l0)).drop (Int.toNat v6))) * 16 ≤ 140737488355328 ∧ List.length ((o5 ++ ((l0.take (Int.toNat v6)).drop 0)) ++ [s1]) + List.length ((l0.take (List.length l0)).drop (Int.toNat v6)) ≤ 4611686018427387904) (
 some (((o5 ++ ((l0.take (Int.toNat v6)).drop 0)) ++ [s1]) ++ ((l0.take (List.length l0)).drop (Int.toNat v6))))))))))
 else (
 check (0 ≤ v6 ∧ v6 ≤ (List.length l0 : Nat)) (
 check ((List.length o5 + List.length ((l0.take (Int.toNat v6)).drop 0)) * 16 ≤ 140737488355328 ∧ List.length o5 + List.length ((l0.take (Int.toNat v6)).drop 0) ≤ 4611686018427387904) (
 check ((List.length (o5 ++ ((l0.take (Int.toNat v6)).drop 0)) + List.length [s1]) * 16 ≤ 140737488355328 ∧ List.length (o5 ++ ((l0.take (Int.toNat v6)).drop 0)) + List.length [s1] ≤ 4611686018427387904) (
 check (0 ≤ v6 ∧ v6 ≤ (List.length l0 : Nat)) (
 check ((List.length ((o5 ++ ((l0.take (Int.toNat v6)).drop 0)) ++ [s1]) + List.length ((l0.take (List.length l0)).drop (Int.toNat v6))) * 16 ≤ 140737488355328 ∧ List.length ((o5 ++ ((l0.take (Int.toNat v6)).drop 0)) ++ [s1]) + List.length ((l0.take (List.length l0)).drop (Int.toNat v6)) ≤ 4611686018427387904) (
 some (((o5 ++ ((l0.take (Int.toNat v6)).drop 0)) ++ [s1]) ++ ((l0.take (List.length l0)).drop (Int.toNat v6)))))))))) : Option (List (List UInt8))) = some r) :
 t98_3 l0 s1 v6 o5 = some r :=
 lift2 (E := E98) h (
 I_cond (c := (decide (v6 < (List.length (List.map eStr l0) : Int)))) (by simp only [List.length_map]) (
 I_getK (enc := eStr) rfl fun x201 =>
 I_cond rfl (
 q98_3) (
 I_cond (c := (decide (v6 < (List.length (List.map eStr l0) : Int)))) (by simp only [List.length_map]) (
 I_getK (enc := eStr) rfl fun x203 =>
 I_cond rfl (
 I_some rfl) (
 I_check (p := 0 ≤ v6 ∧ v6 ≤ (List.length (List.map eStr l0) : Nat)) (by simp only [List.length_map]; exact id) (
 I_check (p := (List.length (List.map eStr o5) + List.length (((List.map eStr l0).take (Int.toNat v6)).drop 0)) * 16 ≤ 140737488355328 ∧ List.length (List.map eStr o5) + List.length (((List.map eStr l0).take (Int.toNat v6)).drop 0) ≤ 4611686018427387904) (by simp only [List.length_map, List.map_take, List.map_drop, List.length_take, List.length_drop]; exact id) (
 I_check (p := (List.length ((List.map eStr o5) ++ (((List.map eStr l0).take (Int.toNat v6)).drop 0)) + List.length (List.map eStr [s1])) * 16 ≤ 140737488355328 ∧ List.length ((List.map eStr o5) ++ (((List.map eStr l0).take (Int.toNat v6)).drop 0)) + List.length (List.map eStr [s1]) ≤ 4611686018427387904) (by simp only [List.length_map, List.map_append, List.length_append, List.map_take, List.map_drop, List.length_take, List.length_drop]; exact id) (
 I_check (p := 0 ≤ v6 ∧ v6 ≤ (List.length (List.map eStr l0) : Nat)) (by simp only [List.length_map]; exact id) (
 I_check (p := (List.length (((List.map eStr o5) ++ (((List.map eStr l0).take (Int.toNat v6)).drop 0)) ++ (List.map eStr [s1])) + List.length (((List.map eStr l0).take (List.length (List.map eStr l0))).drop (Int.toNat v6))) * 16 ≤ 140737488355328 ∧ List.length (((List.map eStr o5) ++ (((List.map eStr l0).take (Int.toNat v6)).drop 0)) ++ (List.map eStr [s1])) + List.length (((List.map eStr l0).take (List.length (List.map eStr l0))).drop (Int.toNat v6)) ≤ 4611686018427387904) (by simp only [List.length_map, List.map_append, List.length_append, List.map_take, List.map_drop, List.length_take, List.length_drop]; exact id) (
 I_some (c := ((.lst 1 ((((List.map eStr o5) ++ (((List.map eStr l0).take (Int.toNat v6)).drop 0)) ++ (List.map eStr [s1])) ++ (((List.map eStr l0).take (List.length (List.map eStr l0))).drop (Int.toNat v6)))), [])) (by simp only [E98, R98.enc, List.length_map, List.map_append, List.length_append, List.map_take, List.map_drop, List.length_take, List.length_drop])))))))) (
 I_check (p := 0 ≤ v6 ∧ v6 ≤ (List.length (List.map eStr l0) : Nat)) (by simp only [List.length_map]; exact id) (
 I_check (p := (List.length (List.map eStr o5) + List.length (((List.map eStr l0).take (Int.toNat v6)).drop 0)) * 16 ≤ 140737488355328 ∧ List.length (List.map eStr o5) + List.length (((List.map eStr l0).take (Int.toNat v6)).drop 0) ≤ 4611686018427387904) (by simp only [List.length_map, List.map_take, List.map_drop, List.length_take, List.length_drop]; exact id) (
 I_check (p := (List.length ((List.map eStr o5) ++ (((List.map eStr l0).take (Int.toNat v6)).drop 0)) + List.length (List.map eStr [s1])) * 16 ≤ 140737488355328 ∧ List.length ((List.map eStr o5) ++ (((List.map eStr l0).take (Int.toNat v6)).drop 0)) + List.length (List.map eStr [s1]) ≤ 4611686018427387904) (by simp only [List.length_map, List.map_append, List.length_append, List.map_take, List.map_drop, List.length_take, List.length_drop]; exact id) (
 I_check (p := 0 ≤ v6 ∧ v6 ≤ (List.length (List.map eStr l0) : Nat)) (by simp only [List.length_map]; exact id) (
 I_check (p := (List.length (((List.map eStr o5) ++ (((List.map eStr l0).take (Int.toNat v6)).drop 0)) ++ (List.map eStr [s1])) + List.length (((List.map eStr l0).take (List.length (List.map eStr l0))).drop (Int.toNat v6))) * 16 ≤ 140737488355328 ∧ List.length (((List.map eStr o5) ++ (((List.map eStr l0).take (Int.toNat v6)).drop 0)) ++ (List.map eStr [s1])) + List.length (((List.map eStr l0).take (List.length (List.map eStr l0))).drop (Int.toNat v6)) ≤ 4611686018427387904) (by simp only [List.length_map, List.map_append, List.length_append, List.map_take, List.map_drop, List.length_take, List.length_drop]; exact id) (
 I_some (c := ((.lst 1 ((((List.map eStr o5) ++ (((List.map eStr l0).take (Int.toNat v6)).drop 0)) ++ (List.map eStr [s1])) ++ (((List.map eStr l0).take (List.length (List.map eStr l0))).drop (Int.toNat v6)))), [])) (by simp only [E98, R98.enc, List.length_map, List.map_append, List.length_append, List.map_take, List.map_drop, List.length_take, List.length_drop]))))))))) (
 I_cond (c := (decide (v6 < (List.length (List.map eStr l0) : Int)))) (by simp only [List.length_map]) (
 I_getK (enc := eStr) rfl fun x205 =>
 I_cond rfl (
 I_some rfl) (
 I_check (p := 0 ≤ v6 ∧ v6 ≤ (List.length (List.map eStr l0) : Nat)) (by simp only [List.length_map]; exact id) (
 I_check (p := (List.length (List.map eStr o5) + List.length (((List.map eStr l0).take (Int.toNat v6)).drop 0)) * 16 ≤ 140737488355328 ∧ List.length (List.map eStr o5) + List.length (((List.map eStr l0).take (Int.toNat v6)).drop 0) ≤ 4611686018427387904) (by simp only [List.length_map, List.map_take, List.map_drop, List.length_take, List.length_drop]; exact id) (
 I_check (p := (List.length ((List.map eStr o5) ++ (((List.map eStr l0).take (Int.toNat v6)).drop 0)) + List.length (List.map eStr [s1])) * 16 ≤ 140737488355328 ∧ List.length ((List.map eStr o5) ++ (((List.map eStr l0).take (Int.toNat v6)).drop 0)) + List.length (List.map eStr [s1]) ≤ 4611686018427387904) (by simp only [List.length_map, List.map_append, List.length_append, List.map_take, List.map_drop, List.length_take, List.length_drop]; exact id) (
 I_check (p := 0 ≤ v6 ∧ v6 ≤ (List.length (List.map eStr l0) : Nat)) (by simp only [List.length_map]; exact id) (
 I_check (p := (List.length (((List.map eStr o5) ++ (((List.map eStr l0).take (Int.toNat v6)).drop 0)) ++ (List.map eStr [s1])) + List.length (((List.map eStr l0).take (List.length (List.map eStr l0))).drop (Int.toNat v6))) * 16 ≤ 140737488355328 ∧ List.length (((List.map eStr o5) ++ (((List.map eStr l0).take (Int.toNat v6)).drop 0)) ++ (List.map eStr [s1])) + List.length (((List.map eStr l0).take (List.length (List.map eStr l0))).drop (Int.toNat v6)) ≤ 4611686018427387904) (by simp only [List.length_map, List.map_append, List.length_append, List.map_take, List.map_drop, List.length_take, List.length_drop]; exact id) (
 I_some (c := ((.lst 1 ((((List.map eStr o5) ++ (((List.map eStr l0).take (Int.toNat v6)).drop 0)) ++ (List.map eStr [s1])) ++ (((List.map eStr l0).take (List.length (List.map eStr l0))).drop (Int.toNat v6)))), [])) (by simp only [E98, R98.enc, List.length_map, List.map_append, List.length_append, List.map_take, List.map_drop, List.length_take, List.length_drop])))))))) (
 I_check (p := 0 ≤ v6 ∧ v6 ≤ (List.length (List.map eStr l0) : Nat)) (by simp only [List.length_map]; exact id) (
 I_check (p := (List.length (List.map eStr o5) + List.length (((List.map eStr l0).take (Int.toNat v6)).drop 0)) * 16 ≤ 140737488355328 ∧ List.length (List.map eStr o5) + List.length (((List.map eStr l0).take (Int.toNat v6)).drop 0) ≤ 4611686018427387904) (by simp only [List.length_map, List.map_take, List.map_drop, List.length_take, List.length_drop]; exact id) (
 I_check (p := (List.length ((List.map eStr o5) ++ (((List.map eStr l0).take (Int.toNat v6)).drop 0)) + List.length (List.map eStr [s1])) * 16 ≤ 140737488355328 ∧ List.length ((List.map eStr o5) ++ (((List.map eStr l0).take (Int.toNat v6)).drop 0)) + List.length (List.map eStr [s1]) ≤ 4611686018427387904) (by simp only [List.length_map, List.map_append, List.length_append, List.map_take, List.map_drop, List.length_take, List.length_drop]; exact id) (
 I_check (p := 0 ≤ v6 ∧ v6 ≤ (List.length (List.map eStr l0) : Nat)) (by simp only [List.length_map]; exact id) (
 I_check (p := (List.length (((List.map eStr o5) ++ (((List.map eStr l0).take (Int.toNat v6)).drop 0)) ++ (List.map eStr [s1])) + List.length (((List.map eStr l0).take (List.length (List.map eStr l0))).drop (Int.toNat v6))) * 16 ≤ 140737488355328 ∧ List.length (((List.map eStr o5) ++ (((List.map eStr l0).take (Int.toNat v6)).drop 0)) ++ (List.map eStr [s1])) + List.length (((List.map eStr l0).take (List.length (List.map eStr l0))).drop (Int.toNat v6)) ≤ 4611686018427387904) (by simp only [List.length_map, List.map_append, List.length_append, List.map_take, List.map_drop, List.length_take, List.length_drop]; exact id) (
 I_some (c := ((.lst 1 ((((List.map eStr o5) ++ (((List.map eStr l0).take (Int.toNat v6)).drop 0)) ++ (List.map eStr [s1])) ++ (((List.map eStr l0).take (List.length (List.map eStr l0))).drop (Int.toNat v6)))), [])) (by simp only [E98, R98.enc, List.length_map, List.map_append, List.length_append, List.map_take, List.map_drop, List.length_take, List.length_drop])))))))))
 (by kernel_rfl) (fun h => head_round h)
theorem e99 (d0 : List TypeDecl) (name1 : List UInt8) {r : (List (List UInt8))}
 (h : (
 Option.bind (f111 d0 name1) fun y201 =>
 bif (decide (y201 < 0)) then (
 some ([] : List (List UInt8)))
 else (
 t99_5 d0 0 [name1]) : Option (List (List UInt8))) = some r) :
 f99 d0 name1 = some r :=
 lift2 (E := E99) h (
 I_call (enc := R111.enc) s111 fun y201 =>
 I_cond rfl (
 I_some rfl) (
 q99_5))
 (by kernel_rfl) (fun h => run_body (C := cods) rfl h)
theorem k99_5 (d0 : List TypeDecl) (i6 : Int) (o15 : List (List UInt8)) {r : (List (List UInt8))}
 (h : (
 bif (decide (i6 < (List.length o15 : Int))) then (
 t99_8 d0 i6 0 o15)
 else (
 t99_14 ([] : List (List UInt8)) 0 o15) : Option (List (List UInt8))) = some r) :
 t99_5 d0 i6 o15 = some r :=
 lift2 (E := E99) h (
 I_cond (c := (decide (i6 < (List.length (List.map eStr o15) : Int)))) (by simp only [List.length_map]) (
 q99_8) (
 q99_14))
 (by kernel_rfl) (fun h => head_round h)
theorem k99_8 (d0 : List TypeDecl) (i6 : Int) (k7 : Int) (o15 : List (List UInt8)) {r : (List (List UInt8))}
 (h : (
 bif (decide (k7 < (List.length d0 : Int))) then (
 getK d0 k7 fun x201 =>
 check (0 ≤ i6 ∧ Int.toNat i6 < List.length o15) (
 getN o15 (Int.toNat i6) fun x203 =>
 Option.bind (f37 x201.Supers x203) fun y205 =>
 bif y205 then (
 getK d0 k7 fun x207 =>
 Option.bind (f37 o15 x207.Name) fun y209 =>
 bif (!y209) then (
 getK d0 k7 fun x211 =>
 check ((List.length o15 + List.length [x211.Name]) * 16 ≤ 140737488355328 ∧ List.length o15 + List.length [x211.Name] ≤ 4611686018427387904) (
 t99_8 d0 i6 (IntKind.wrap .i64 (k7 + 1)) (o15 ++ [x211.Name])))
 else (
 t99_8 d0 i6 (IntKind.wrap .i64 (k7 + 1)) o15))
 else (
 t99_8 d0 i6 (IntKind.wrap .i64 (k7 + 1)) o15)))
 else (
 t99_5 d0 (IntKind.wrap .i64 (i6 + 1)) o15) : Option (List (List UInt8))) = some r) :
 t99_8 d0 i6 k7 o15 = some r :=
 lift2 (E := E99) h (
 I_cond (c := (decide (k7 < (List.length (List.map TypeDecl.enc d0) : Int)))) (by simp only [List.length_map]) (
 I_getK (enc := TypeDecl.enc) rfl fun x201 =>
 I_check (p := 0 ≤ i6 ∧ Int.toNat i6 < List.length (List.map eStr o15)) (by simp only [List.length_map]; exact id) (
 I_getN (enc := eStr) rfl fun x203 =>
 I_call (enc := R37.enc) s37 fun y205 =>
 I_cond rfl (
 I_getK (enc := TypeDecl.enc) rfl fun x207 =>
 I_call (enc := R37.enc) s37 fun y209 =>
 I_cond rfl (
 I_getK (enc := TypeDecl.enc) rfl fun x211 =>
 I_check (p := (List.length (List.map eStr o15) + List.length (List.map eStr [x211.Name])) * 16 ≤ 140737488355328 ∧ List.length (List.map eStr o15) + List.length (List.map eStr [x211.Name]) ≤ 4611686018427387904) (by simp only [List.length_map]; exact id) (
 (show Imp E99 (headT P cods H prim 99 8 [] [(0, (.pv (.lst 3 (List.map TypeDecl.enc d0)))), (5, (.row 15)), (6, (.pv (.int .i64 i6))), (7, (.pv (.int .i64 (IntKind.wrap .i64 (k7 + 1)))))] [(15, (.row 9 1 ((List.map eStr o15) ++ (List.map eStr [x211.Name]))))]) (t99_8 d0 i6 (IntKind.wrap .i64 (k7 + 1)) (o15 ++ [x211.Name])) from fun _ h => by simpa only [h99_8, List.map_append] using q99_8 _ h))) (
 q99_8)) (
 q99_8))) (
 q99_5))
 (by kernel_rfl) (fun h => head_round h)
theorem k99_14 (out8 : List (List UInt8)) (i9 : Int) (o15 : List (List UInt8)) {r : (List (List UInt8))}
 (h : (
 bif (decide (i9 < (List.length o15 : Int))) then (
 check (0 ≤ i9 ∧ Int.toNat i9 < List.length o15) (
 getN o15 (Int.toNat i9) fun x201 =>
 Option.bind (f98 out8 x201) fun y203 =>
 t99_14 y203 (IntKind.wrap .i64 (i9 + 1)) o15))
 else (
 some out8) : Option (List (List UInt8))) = some r) :
 t99_14 out8 i9 o15 = some r :=
 lift2 (E := E99) h (
 I_cond (c := (decide (i9 < (List.length (List.map eStr o15) : Int)))) (by simp only [List.length_map]) (
 I_check (p := 0 ≤ i9 ∧ Int.toNat i9 < List.length (List.map eStr o15)) (by simp only [List.length_map]; exact id) (
 I_getN (enc := eStr) rfl fun x201 =>
 I_call (enc := R98.enc) s98 fun y203 =>
 q99_14)) (
 I_some rfl))
 (by kernel_rfl) (fun h => head_round h)
theorem e100 (l0 : List Int) {r : ((List Int) × Int)}
 (h : (
 check (0 ≤ (64 : Int) ∧ (64 : Int) ≤ 64 ∧ 8 * Int.toNat 64 ≤ 281474976710656 ∧ (64 : Int) ≤ 9223372036854775807) (
 t100_3 l0 0 (List.replicate (Int.toNat 64) 0)) : Option ((List Int) × Int)) = some r) :
 f100 l0 = some r :=
 lift2 (E := E100) h (
 I_check id (
 (show Imp E100 (headT P cods H prim 100 3 [] [(0, (.pv (.lst 1 (List.map (eInt .i64) l0)))), (4, (.row 6)), (5, (.pv (.int .i64 0)))] [(6, (.row 37 1 (List.replicate (Int.toNat 64) ((eInt .u64) 0))))]) (t100_3 l0 0 (List.replicate (Int.toNat 64) 0)) from fun _ h => by simpa only [h100_3, List.map_replicate] using q100_3 _ h)))
 (by kernel_rfl) (fun h => run_body (C := cods) rfl h)
theorem k100_3 (l0 : List Int) (i5 : Int) (o6 : List Int) {r : ((List Int) × Int)}
 (h : (
 bif (decide (i5 < (List.length l0 : Int))) then (
 getK l0 i5 fun x201 =>
 bif (decide (x201 < 0)) then (
 some (([] : List Int), 2))
 else (
 getK l0 i5 fun x203 =>
 bif (decide (x203 > 4095)) then (
 some (([] : List Int), 2))
 else (
 getK l0 i5 fun x205 =>
 check (64 ≠ 0) (
 getK l0 i5 fun x207 =>
 check (64 ≠ 0) (
 check (0 ≤ (IntKind.wrap .i64 (Int.tdiv x207 64)) ∧ Int.toNat (IntKind.wrap .i64 (Int.tdiv x207 64)) < List.length o6) (
 getN o6 (Int.toNat (IntKind.wrap .i64 (Int.tdiv x207 64))) fun x209 =>
 getK l0 i5 fun x211 =>
 check (64 ≠ 0) (
 check (0 ≤ (IntKind.wrap .u64 ((Int.tmod x211 64)))) (
 check (0 ≤ (IntKind.wrap .i64 (Int.tdiv x205 64)) ∧ Int.toNat (IntKind.wrap .i64 (Int.tdiv x205 64)) < List.length o6) (
 getN o6 (Int.toNat (IntKind.wrap .i64 (Int.tdiv x205 64))) fun x213 =>
 t100_3 l0 (IntKind.wrap .i64 (i5 + 1)) (o6.set (Int.toNat (IntKind.wrap .i64 (Int.tdiv x205 64))) (IntKind.wrap .u64 ((BitVec.ofInt (IntKind.bits .u64) x209 ||| BitVec.ofInt (IntKind.bits .u64) (IntKind.wrap .u64 (1 * 2 ^ min (Int.toNat (IntKind.wrap .u64 ((Int.tmod x211 64)))) (IntKind.bits .u64)))).toNat : Int))))))))))))
 else (
 Option.bind (f60 o6) fun y215 =>
 Option.bind (f60 o6) fun y217 =>
 some (y217, 0)) : Option ((List Int) × Int)) = some r) :
 t100_3 l0 i5 o6 = some r :=
 lift2 (E := E100) h (
 I_cond (c := (decide (i5 < (List.length (List.map (eInt .i64) l0) : Int)))) (by simp only [List.length_map]) (
 I_getK (enc := (eInt .i64)) rfl fun x201 =>
 I_cond rfl (
 I_some rfl) (
 I_getK (enc := (eInt .i64)) rfl fun x203 =>
 I_cond rfl (
 I_some rfl) (
 I_getK (enc := (eInt .i64)) rfl fun x205 =>
 I_check id (
 I_getK (enc := (eInt .i64)) rfl fun x207 =>
 I_check id (
 I_check (p := 0 ≤ (IntKind.wrap .i64 (Int.tdiv x207 64)) ∧ Int.toNat (IntKind.wrap .i64 (Int.tdiv x207 64)) < List.length (List.map (eInt .u64) o6)) (by simp only [List.length_map]; exact id) (
 I_getN (enc := (eInt .u64)) rfl fun x209 =>
 I_getK (enc := (eInt .i64)) rfl fun x211 =>
 I_check id (
 I_check id (
 I_check (p := 0 ≤ (IntKind.wrap .i64 (Int.tdiv x205 64)) ∧ Int.toNat (IntKind.wrap .i64 (Int.tdiv x205 64)) < List.length (List.map (eInt .u64) o6)) (by simp only [List.length_map]; exact id) (
 I_getN (enc := (eInt .u64)) rfl fun x213 =>
 (show Imp E100 (headT P cods H prim 100 3 [] [(0, (.pv (.lst 1 (List.map (eInt .i64) l0)))), (4, (.row 6)), (5, (.pv (.int .i64 (IntKind.wrap .i64 (i5 + 1)))))] [(6, (.row 37 1 ((List.map (eInt .u64) o6).set (Int.toNat (IntKind.wrap .i64 (Int.tdiv x205 64))) ((eInt .u64) (IntKind.wrap .u64 ((BitVec.ofInt (IntKind.bits .u64) x209 ||| BitVec.ofInt (IntKind.bits .u64) (IntKind.wrap .u64 (1 * 2 ^ min (Int.toNat (IntKind.wrap .u64 ((Int.tmod x211 64)))) (IntKind.bits .u64)))).toNat : Int))))))]) (t100_3 l0 (IntKind.wrap .i64 (i5 + 1)) (o6.set (Int.toNat (IntKind.wrap .i64 (Int.tdiv x205 64))) (IntKind.wrap .u64 ((BitVec.ofInt (IntKind.bits .u64) x209 ||| BitVec.ofInt (IntKind.bits .u64) (IntKind.wrap .u64 (1 * 2 ^ min (Int.toNat (IntKind.wrap .u64 ((Int.tmod x211 64)))) (IntKind.bits .u64)))).toNat : Int)))) from fun _ h => by simpa only [h100_3, List.map_set] using q100_3 _ h)))))))))) (
 I_call (enc := R60.enc) s60 fun y215 =>
 I_call (enc := R60.enc) s60 fun y217 =>
 I_some rfl))
 (by kernel_rfl) (fun h => head_round h)
theorem e101 (l0 : List (List Int)) (b1 : List Int) {r : Bool}
 (h : (
 t101_2 l0 b1 0 : Option Bool) = some r) :
 f101 l0 b1 = some r :=
 lift2 (E := E101) h (
 q101_2)
 (by kernel_rfl) (fun h => run_body (C := cods) rfl h)
theorem k101_2 (l0 : List (List Int)) (b1 : List Int) (i5 : Int) {r : Bool}
 (h : (
 bif (decide (i5 < (List.length l0 : Int))) then (
 getK l0 i5 fun x201 =>
 Option.bind (f57 x201 b1) fun y203 =>
 bif y203 then (
 some true)
 else (
 t101_2 l0 b1 (IntKind.wrap .i64 (i5 + 1))))
 else (
 some false) : Option Bool) = some r) :
 t101_2 l0 b1 i5 = some r :=
 lift2 (E := E101) h (
 I_cond (c := (decide (i5 < (List.length (List.map (eLst 1 (eInt .u64)) l0) : Int)))) (by simp only [List.length_map]) (
 I_getK (enc := (eLst 1 (eInt .u64))) rfl fun x201 =>
 I_call (enc := R57.enc) s57 fun y203 =>
 I_cond rfl (
 I_some rfl) (
 q101_2)) (
 I_some rfl))
 (by kernel_rfl) (fun h => head_round h)
theorem e102 (a0 : List Int) (b1 : List Int) {r : Bool}
 (h : (
 Option.bind (f65 a0 b1) fun y201 =>
 bif y201 then (
 Option.bind (f65 b1 a0) fun y203 =>
 some y203)
 else (
 some false) : Option Bool) = some r) :
 f102 a0 b1 = some r :=
 lift2 (E := E102) h (
 I_call (enc := R65.enc) s65 fun y201 =>
 I_cond rfl (
 I_call (enc := R65.enc) s65 fun y203 =>
 I_some rfl) (
 I_some rfl))
 (by kernel_rfl) (fun h => run_body (C := cods) rfl h)
theorem e103 (b0 : List Int) (i1 : Int) {r : Bool}
 (h : (
 bif (decide (i1 < 0)) then (
 some false)
 else (
 check (64 ≠ 0) (
 bif (decide ((IntKind.wrap .i64 (Int.tdiv i1 64)) ≥ (List.length b0 : Int))) then (
 some false)
 else (
 check (64 ≠ 0) (
 getK b0 (IntKind.wrap .i64 (Int.tdiv i1 64)) fun x201 =>
 check (64 ≠ 0) (
 check (0 ≤ (IntKind.wrap .u64 ((Int.tmod i1 64)))) (
 some ((IntKind.wrap .u64 ((BitVec.ofInt (IntKind.bits .u64) (Int.fdiv x201 (2 ^ min (Int.toNat (IntKind.wrap .u64 ((Int.tmod i1 64)))) (IntKind.bits .u64))) &&& BitVec.ofInt (IntKind.bits .u64) 1).toNat : Int)) == 1))))))) : Option Bool) = some r) :
 f103 b0 i1 = some r :=
 lift2 (E := E103) h (
 I_cond rfl (
 I_some rfl) (
 I_check id (
 I_cond (c := (decide ((IntKind.wrap .i64 (Int.tdiv i1 64)) ≥ (List.length (List.map (eInt .u64) b0) : Int)))) (by simp only [List.length_map]) (
 I_some rfl) (
 I_check id (
 I_getK (enc := (eInt .u64)) rfl fun x201 =>
 I_check id (
 I_check id (
 I_some rfl)))))))
 (by kernel_rfl) (fun h => run_body (C := cods) rfl h)
theorem e104 (d0 : List TypeDecl) (l1 : List (List UInt8)) {r : (List (List UInt8))}
 (h : (
 Option.bind (f137 d0 l1) fun y201 =>
 t104_4 d0 y201 0 ([] : List (List UInt8)) : Option (List (List UInt8))) = some r) :
 f104 d0 l1 = some r :=
 lift2 (E := E104) h (
 I_call (enc := R137.enc) s137 fun y201 =>
 q104_4)
 (by kernel_rfl) (fun h => run_body (C := cods) rfl h)
theorem k104_4 (d0 : List TypeDecl) (all6 : List (List UInt8)) (i7 : Int) (o5 : List (List UInt8)) {r : (List (List UInt8))}
 (h : (
 bif (decide (i7 < (List.length all6 : Int))) then (
 getK all6 i7 fun x201 =>
 Option.bind (f138 d0 x201) fun y203 =>
 t104_9 d0 all6 i7 y203 true 0 o5)
 else (
 some o5) : Option (List (List UInt8))) = some r) :
 t104_4 d0 all6 i7 o5 = some r :=
 lift2 (E := E104) h (
 I_cond (c := (decide (i7 < (List.length (List.map eStr all6) : Int)))) (by simp only [List.length_map]) (
 I_getK (enc := eStr) rfl fun x201 =>
 I_call (enc := R138.enc) s138 fun y203 =>
 q104_9) (
 I_some rfl))
 (by kernel_rfl) (fun h => head_round h)
theorem k104_9 (d0 : List TypeDecl) (all6 : List (List UInt8)) (i7 : Int) (up8 : List (List UInt8)) (free9 : Bool) (k10 : Int) (o5 : List (List UInt8)) {r : (List (List UInt8))}
 (h : (
 bif (decide (k10 < (List.length all6 : Int))) then (
 bif free9 then (
 bif (k10 == i7) then (
 t104_9 d0 all6 i7 up8 true (IntKind.wrap .i64 (k10 + 1)) o5)
 else (
 getK all6 k10 fun x201 =>
 Option.bind (f37 up8 x201) fun y203 =>
 t104_9 d0 all6 i7 up8 (!y203) (IntKind.wrap .i64 (k10 + 1)) o5))
 else (
 t104_9 d0 all6 i7 up8 false (IntKind.wrap .i64 (k10 + 1)) o5))
 else (
 bif free9 then (
 getK all6 i7 fun x205 =>
 check ((List.length o5 + List.length [x205]) * 16 ≤ 140737488355328 ∧ List.length o5 + List.length [x205] ≤ 4611686018427387904) (
 t104_4 d0 all6 (IntKind.wrap .i64 (i7 + 1)) (o5 ++ [x205])))
 else (
 t104_4 d0 all6 (IntKind.wrap .i64 (i7 + 1)) o5)) : Option (List (List UInt8))) = some r) :
 t104_9 d0 all6 i7 up8 free9 k10 o5 = some r :=
 lift2 (E := E104) h (
 I_cond (c := (decide (k10 < (List.length (List.map eStr all6) : Int)))) (by simp only [List.length_map]) (
 I_cond rfl (
 I_cond rfl (
 q104_9) (
 I_getK (enc := eStr) rfl fun x201 =>
 I_call (enc := R37.enc) s37 fun y203 =>
 q104_9)) (
 q104_9)) (
 I_cond rfl (
 I_getK (enc := eStr) rfl fun x205 =>
 I_check (p := (List.length (List.map eStr o5) + List.length (List.map eStr [x205])) * 16 ≤ 140737488355328 ∧ List.length (List.map eStr o5) + List.length (List.map eStr [x205]) ≤ 4611686018427387904) (by simp only [List.length_map]; exact id) (
 (show Imp E104 (headT P cods H prim 104 4 [] [(0, (.pv (.lst 3 (List.map TypeDecl.enc d0)))), (5, (.row 5)), (6, (.pv (.lst 1 (List.map eStr all6)))), (7, (.pv (.int .i64 (IntKind.wrap .i64 (i7 + 1)))))] [(5, (.row 9 1 ((List.map eStr o5) ++ (List.map eStr [x205]))))]) (t104_4 d0 all6 (IntKind.wrap .i64 (i7 + 1)) (o5 ++ [x205])) from fun _ h => by simpa only [h104_4, List.map_append] using q104_4 _ h))) (
 q104_4)))
 (by kernel_rfl) (fun h => head_round h)
theorem e105 (b0 : List Int) {r : Int}
 (h : (
 Option.bind (f139 b0) fun y201 =>
 some (List.length y201 : Int) : Option Int) = some r) :
 f105 b0 = some r :=
 lift2 (E := E105) h (
 I_call (enc := R139.enc) s139 fun y201 =>
 I_some (c := ((.int .i64 (List.length (List.map (eInt .i64) y201) : Int)), [])) (by simp only [E105, R105.enc, List.length_map]))
 (by kernel_rfl) (fun h => run_body (C := cods) rfl h)
theorem e106 (b0 : List Int) (i1 : Int) {r : Int}
 (h : (
 bif (decide (i1 < (List.length b0 : Int))) then (
 getK b0 i1 fun x201 =>
 some x201)
 else (
 some 0) : Option Int) = some r) :
 f106 b0 i1 = some r :=
 lift2 (E := E106) h (
 I_cond (c := (decide (i1 < (List.length (List.map (eInt .u64) b0) : Int)))) (by simp only [List.length_map]) (
 I_getK (enc := (eInt .u64)) rfl fun x201 =>
 I_some rfl) (
 I_some rfl))
 (by kernel_rfl) (fun h => run_body (C := cods) rfl h)
theorem e107 (b0 : List Int) (i1 : Int) {r : Int}
 (h : (
 bif (decide (i1 < (List.length b0 : Int))) then (
 getK b0 i1 fun x201 =>
 some x201)
 else (
 some 0) : Option Int) = some r) :
 f107 b0 i1 = some r :=
 lift2 (E := E107) h (
 I_cond (c := (decide (i1 < (List.length (List.map (eInt .u64) b0) : Int)))) (by simp only [List.length_map]) (
 I_getK (enc := (eInt .u64)) rfl fun x201 =>
 I_some rfl) (
 I_some rfl))
 (by kernel_rfl) (fun h => run_body (C := cods) rfl h)
theorem e108 (a0 : List Int) (b1 : List Int) {r : (List Int)}
 (h : (
 t108_3 a0 b1 0 ([] : List Int) : Option (List Int)) = some r) :
 f108 a0 b1 = some r :=
 lift2 (E := E108) h (
 q108_3)
 (by kernel_rfl) (fun h => run_body (C := cods) rfl h)
theorem k108_3 (a0 : List Int) (b1 : List Int) (i6 : Int) (o5 : List Int) {r : (List Int)}
 (h : (
 bif (decide (i6 < (List.length a0 : Int))) then (
 getK a0 i6 fun x201 =>
 Option.bind (f106 b1 i6) fun y203 =>
 check ((List.length o5 + List.length [(IntKind.wrap .u64 ((BitVec.ofInt (IntKind.bits .u64) x201 &&& ~~~BitVec.ofInt (IntKind.bits .u64) y203).toNat : Int))]) * 8 ≤ 140737488355328 ∧ List.length o5 + List.length [(IntKind.wrap .u64 ((BitVec.ofInt (IntKind.bits .u64) x201 &&& ~~~BitVec.ofInt (IntKind.bits .u64) y203).toNat : Int))] ≤ 4611686018427387904) (
 t108_3 a0 b1 (IntKind.wrap .i64 (i6 + 1)) (o5 ++ [(IntKind.wrap .u64 ((BitVec.ofInt (IntKind.bits .u64) x201 &&& ~~~BitVec.ofInt (IntKind.bits .u64) y203).toNat : Int))])))
 else (
 Option.bind (f60 o5) fun y205 =>
 Option.bind (f60 o5) fun y207 =>
 some y207) : Option (List Int)) = some r) :
 t108_3 a0 b1 i6 o5 = some r :=
 lift2 (E := E108) h (
 I_cond (c := (decide (i6 < (List.length (List.map (eInt .u64) a0) : Int)))) (by simp only [List.length_map]) (
 I_getK (enc := (eInt .u64)) rfl fun x201 =>
 I_call (enc := R106.enc) s106 fun y203 =>
 I_check (p := (List.length (List.map (eInt .u64) o5) + List.length (List.map (eInt .u64) [(IntKind.wrap .u64 ((BitVec.ofInt (IntKind.bits .u64) x201 &&& ~~~BitVec.ofInt (IntKind.bits .u64) y203).toNat : Int))])) * 8 ≤ 140737488355328 ∧ List.length (List.map (eInt .u64) o5) + List.length (List.map (eInt .u64) [(IntKind.wrap .u64 ((BitVec.ofInt (IntKind.bits .u64) x201 &&& ~~~BitVec.ofInt (IntKind.bits .u64) y203).toNat : Int))]) ≤ 4611686018427387904) (by simp only [List.length_map]; exact id) (
 (show Imp E108 (headT P cods H prim 108 3 [] [(0, (.pv (.lst 1 (List.map (eInt .u64) a0)))), (1, (.pv (.lst 1 (List.map (eInt .u64) b1)))), (5, (.row 5)), (6, (.pv (.int .i64 (IntKind.wrap .i64 (i6 + 1)))))] [(5, (.row 37 1 ((List.map (eInt .u64) o5) ++ (List.map (eInt .u64) [(IntKind.wrap .u64 ((BitVec.ofInt (IntKind.bits .u64) x201 &&& ~~~BitVec.ofInt (IntKind.bits .u64) y203).toNat : Int))]))))]) (t108_3 a0 b1 (IntKind.wrap .i64 (i6 + 1)) (o5 ++ [(IntKind.wrap .u64 ((BitVec.ofInt (IntKind.bits .u64) x201 &&& ~~~BitVec.ofInt (IntKind.bits .u64) y203).toNat : Int))])) from fun _ h => by simpa only [h108_3, List.map_append] using q108_3 _ h))) (
 I_call (enc := R60.enc) s60 fun y205 =>
 I_call (enc := R60.enc) s60 fun y207 =>
 I_some rfl))
 (by kernel_rfl) (fun h => head_round h)
theorem e110 (s0 : List UInt8) {r : Bool}
 (h : (
 Option.bind (f140 s0 false) fun y201 =>
 some y201 : Option Bool) = some r) :
 f110 s0 = some r :=
 lift2 (E := E110) h (
 I_call (enc := R140.enc) s140 fun y201 =>
 I_some rfl)
 (by kernel_rfl) (fun h => run_body (C := cods) rfl h)
theorem e111 (d0 : List TypeDecl) (name1 : List UInt8) {r : Int}
 (h : (
 t111_2 d0 name1 0 : Option Int) = some r) :
 f111 d0 name1 = some r :=
 lift2 (E := E111) h (
 q111_2)
 (by kernel_rfl) (fun h => run_body (C := cods) rfl h)
theorem k111_2 (d0 : List TypeDecl) (name1 : List UInt8) (i5 : Int) {r : Int}
 (h : (
 bif (decide (i5 < (List.length d0 : Int))) then (
 getK d0 i5 fun x201 =>
 bif (x201.Name == name1) then (
 some i5)
 else (
 t111_2 d0 name1 (IntKind.wrap .i64 (i5 + 1))))
 else (
 some (-1)) : Option Int) = some r) :
 t111_2 d0 name1 i5 = some r :=
 lift2 (E := E111) h (
 I_cond (c := (decide (i5 < (List.length (List.map TypeDecl.enc d0) : Int)))) (by simp only [List.length_map]) (
 I_getK (enc := TypeDecl.enc) rfl fun x201 =>
 I_cond rfl (
 I_some rfl) (
 q111_2)) (
 I_some rfl))
 (by kernel_rfl) (fun h => head_round h)
theorem e112 (x0 : TypeDecl) (done1 : List (List UInt8)) {r : Bool}
 (h : (
 t112_2 done1 0 x0 : Option Bool) = some r) :
 f112 x0 done1 = some r :=
 lift2 (E := E112) h (
 q112_2)
 (by kernel_rfl) (fun h => run_body (C := cods) rfl h)
theorem k112_2 (done1 : List (List UInt8)) (i5 : Int) (o2 : TypeDecl) {r : Bool}
 (h : (
 bif (decide (i5 < (List.length o2.Supers : Int))) then (
 getK o2.Supers i5 fun x201 =>
 Option.bind (f37 done1 x201) fun y203 =>
 bif (!y203) then (
 some false)
 else (
 t112_2 done1 (IntKind.wrap .i64 (i5 + 1)) o2))
 else (
 some true) : Option Bool) = some r) :
 t112_2 done1 i5 o2 = some r :=
 lift2 (E := E112) h (
 I_cond (c := (decide (i5 < (List.length (List.map eStr o2.Supers) : Int)))) (by simp only [List.length_map]) (
 I_getK (enc := eStr) rfl fun x201 =>
 I_call (enc := R37.enc) s37 fun y203 =>
 I_cond rfl (
 I_some rfl) (
 q112_2)) (
 I_some rfl))
 (by kernel_rfl) (fun h => head_round h)
theorem e113 (s0 : List TypeDecl) {r : Bool}
 (h : (
 Option.bind (f141 s0) fun y201 =>
 some (decide (y201 ≥ 0)) : Option Bool) = some r) :
 f113 s0 = some r :=
 lift2 (E := E113) h (
 I_call (enc := R141.enc) s141 fun y201 =>
 I_some rfl)
 (by kernel_rfl) (fun h => run_body (C := cods) rfl h)
theorem e114 (x0 : TypeDecl) {r : Bool}
 (h : (
 bif (decide ((List.length x0.Supers : Int) > 256)) then (
 some true)
 else (
 some (decide ((List.length x0.Feats : Int) > 256))) : Option Bool) = some r) :
 f114 x0 = some r :=
 lift2 (E := E114) h (
 I_cond (c := (decide ((List.length (List.map eStr x0.Supers) : Int) > 256))) (by simp only [List.length_map]) (
 I_some rfl) (
 I_some (c := ((.bool (decide ((List.length (List.map FeatDecl.enc x0.Feats) : Int) > 256))), [])) (by simp only [E114, R114.enc, List.length_map])))
 (by kernel_rfl) (fun h => run_body (C := cods) rfl h)
theorem e115 (s0 : List UInt8) {r : Bool}
 (h : (
 Option.bind (f142 s0) fun y201 =>
 some y201 : Option Bool) = some r) :
 f115 s0 = some r :=
 lift2 (E := E115) h (
 I_call (enc := R142.enc) s142 fun y201 =>
 I_some rfl)
 (by kernel_rfl) (fun h => run_body (C := cods) rfl h)
theorem e116 (x0 : List (List UInt8)) {r : (List UInt8)}
 (h : (
 bif (decide ((List.length x0 : Int) < 1)) then (
 none)
 else (
 getK x0 0 fun x201 =>
 t116_5 x0 x201 1) : Option (List UInt8)) = some r) :
 f116 x0 = some r :=
 lift2 (E := E116) h (
 I_cond (c := (decide ((List.length (List.map eStr x0) : Int) < 1))) (by simp only [List.length_map]) (
 I_none (c := none)) (
 I_getK (enc := eStr) rfl fun x201 =>
 q116_5))
 (by kernel_rfl) (fun h => run_body (C := cods) rfl h)
theorem k116_5 (x0 : List (List UInt8)) (m3 : List UInt8) (i4 : Int) {r : (List UInt8)}
 (h : (
 bif (decide (i4 < (List.length x0 : Int))) then (
 getK x0 i4 fun x201 =>
 t116_5 x0 (bif Op.bytesLess m3 x201 || m3 == x201 then m3 else x201) (IntKind.wrap .i64 (i4 + 1)))
 else (
 some m3) : Option (List UInt8)) = some r) :
 t116_5 x0 m3 i4 = some r :=
 lift2 (E := E116) h (
 I_cond (c := (decide (i4 < (List.length (List.map eStr x0) : Int)))) (by simp only [List.length_map]) (
 I_getK (enc := eStr) rfl fun x201 =>
 q116_5) (
 I_some rfl))
 (by kernel_rfl) (fun h => head_round h)
theorem e117 (del1_0 : List UInt8) (w10000 : List (List UInt8)) {r : (Nat × (List (List UInt8)))}
 (h : (
 Option.bind (f126a w10000 del1_0) fun y201 =>
 bif (y201 == (-1)) then (
 some ((List.length w10000), w10000))
 else (
 t117_5 del1_0 y201 (IntKind.wrap .i64 (y201 + 1)) w10000) : Option (Nat × (List (List UInt8)))) = some r) :
 f117 del1_0 w10000 = some r :=
 lift2 (E := E117r) h (
 I_call (enc := R126.enc) s126a fun y201 =>
 I_cond rfl (
 I_some (c := ((.self (List.length (List.map eStr w10000))), [(10000, (.row 9 1 (List.map eStr w10000)))])) (by simp only [E117r, R117.enc, List.length_map])) (
 q117_5))
 (by kernel_rfl) (fun h => run_body (C := cods) rfl h)
theorem k117_5 (del1_0 : List UInt8) (i5 : Int) (j6 : Int) (o10000 : List (List UInt8)) {r : (Nat × (List (List UInt8)))}
 (h : (
 bif (decide (j6 < (List.length o10000 : Int))) then (
 check (0 ≤ j6 ∧ Int.toNat j6 < List.length o10000) (
 getN o10000 (Int.toNat j6) fun x201 =>
 Option.bind (f118 x201 del1_0) fun y203 =>
 bif (!y203) then (
 check (0 ≤ i5 ∧ Int.toNat i5 < List.length o10000) (
 getN o10000 (Int.toNat i5) fun x205 =>
 t117_5 del1_0 (IntKind.wrap .i64 (i5 + 1)) (IntKind.wrap .i64 (j6 + 1)) (o10000.set (Int.toNat i5) x201)))
 else (
 t117_5 del1_0 i5 (IntKind.wrap .i64 (j6 + 1)) o10000)))
 else (
 check (0 ≤ i5 ∧ i5 ≤ (List.length o10000 : Nat)) (
 check ((List.length o10000) ≤ List.length o10000) (
 check (0 ≤ i5 ∧ i5 ≤ (List.length (((o10000.take (Int.toNat i5)) ++ (List.replicate ((List.length o10000) - (Int.toNat i5)) [])) ++ (o10000.drop (List.length o10000))) : Nat)) (
 some ((Int.toNat i5), (((o10000.take (Int.toNat i5)) ++ (List.replicate ((List.length o10000) - (Int.toNat i5)) [])) ++ (o10000.drop (List.length o10000)))))))) : Option (Nat × (List (List UInt8)))) = some r) :
 t117_5 del1_0 i5 j6 o10000 = some r :=
 lift2 (E := E117r) h (
 I_cond (c := (decide (j6 < (List.length (List.map eStr o10000) : Int)))) (by simp only [List.length_map]) (
 I_check (p := 0 ≤ j6 ∧ Int.toNat j6 < List.length (List.map eStr o10000)) (by simp only [List.length_map]; exact id) (
 I_getN (enc := eStr) rfl fun x201 =>
 I_call (enc := R118.enc) s118 fun y203 =>
 I_cond rfl (
 I_check (p := 0 ≤ i5 ∧ Int.toNat i5 < List.length (List.map eStr o10000)) (by simp only [List.length_map]; exact id) (
 I_getN (enc := eStr) rfl fun x205 =>
 (show Imp E117r (headT P cods H prim 117 5 [10000] [(0, (.row 10000)), (1, (.pv (.fn 118 [(.ref [(.str del1_0)])]))), (5, (.pv (.int .i64 (IntKind.wrap .i64 (i5 + 1))))), (6, (.pv (.int .i64 (IntKind.wrap .i64 (j6 + 1)))))] [(10000, (.row 9 1 ((List.map eStr o10000).set (Int.toNat i5) (eStr x201))))]) (t117_5 del1_0 (IntKind.wrap .i64 (i5 + 1)) (IntKind.wrap .i64 (j6 + 1)) (o10000.set (Int.toNat i5) x201)) from fun _ h => by simpa only [h117_5, List.map_set] using q117_5 _ h))) (
 q117_5))) (
 I_check (p := 0 ≤ i5 ∧ i5 ≤ (List.length (List.map eStr o10000) : Nat)) (by simp only [List.length_map]; exact id) (
 I_check (p := (List.length (List.map eStr o10000)) ≤ List.length (List.map eStr o10000)) (by simp only [List.length_map]; exact id) (
 I_check (p := 0 ≤ i5 ∧ i5 ≤ (List.length ((((List.map eStr o10000).take (Int.toNat i5)) ++ (List.replicate ((List.length (List.map eStr o10000)) - (Int.toNat i5)) (eStr []))) ++ ((List.map eStr o10000).drop (List.length (List.map eStr o10000)))) : Nat)) (by simp only [List.length_map, List.map_append, List.length_append, List.map_replicate, List.length_replicate, List.map_take, List.map_drop, List.length_take, List.length_drop]; exact id) (
 I_some (c := ((.self (Int.toNat i5)), [(10000, (.row 9 1 ((((List.map eStr o10000).take (Int.toNat i5)) ++ (List.replicate ((List.length (List.map eStr o10000)) - (Int.toNat i5)) (eStr []))) ++ ((List.map eStr o10000).drop (List.length (List.map eStr o10000))))))])) (by simp only [E117r, R117.enc, List.length_map, List.map_append, List.length_append, List.map_replicate, List.length_replicate, List.map_take, List.map_drop, List.length_take, List.length_drop]))))))
 (by kernel_rfl) (fun h => head_round h)
theorem e118 (s0 : List UInt8) (a1 : List UInt8) {r : Bool}
 (h : (
 some (s0 == a1) : Option Bool) = some r) :
 f118 s0 a1 = some r :=
 lift2 (E := E118) h (
 I_some rfl)
 (by kernel_rfl) (fun h => run_body (C := cods) rfl h)
theorem e120 (x0 : List UInt8) (y1 : List UInt8) {r : Bool}
 (h : (
 Option.bind (f97 x0) fun y201 =>
 bif y201 then (
 Option.bind (f97 y1) fun y203 =>
 bif (!y203) then (
 some true)
 else (
 some (Op.bytesLess x0 y1)))
 else (
 some (Op.bytesLess x0 y1)) : Option Bool) = some r) :
 f120 x0 y1 = some r :=
 lift2 (E := E120) h (
 I_call (enc := R97.enc) s97 fun y201 =>
 I_cond rfl (
 I_call (enc := R97.enc) s97 fun y203 =>
 I_cond rfl (
 I_some rfl) (
 I_some rfl)) (
 I_some rfl))
 (by kernel_rfl) (fun h => run_body (C := cods) rfl h)
theorem e124 (w10000 : List (List UInt8)) {r : (Nat × (List (List UInt8)))}
 (h : (
 bif (decide ((List.length w10000 : Int) < 2)) then (
 some ((List.length w10000), w10000))
 else (
 t124_4 1 w10000) : Option (Nat × (List (List UInt8)))) = some r) :
 f124 w10000 = some r :=
 lift2 (E := E124r) h (
 I_cond (c := (decide ((List.length (List.map eStr w10000) : Int) < 2))) (by simp only [List.length_map]) (
 I_some (c := ((.self (List.length (List.map eStr w10000))), [(10000, (.row 9 1 (List.map eStr w10000)))])) (by simp only [E124r, R124.enc, List.length_map])) (
 q124_4))
 (by kernel_rfl) (fun h => run_body (C := cods) rfl h)
theorem k124_4 (k3 : Int) (o10000 : List (List UInt8)) {r : (Nat × (List (List UInt8)))}
 (h : (
 bif (decide (k3 < (List.length o10000 : Int))) then (
 check (0 ≤ k3 ∧ Int.toNat k3 < List.length o10000) (
 getN o10000 (Int.toNat k3) fun x201 =>
 check (0 ≤ (IntKind.wrap .i64 (k3 - 1)) ∧ Int.toNat (IntKind.wrap .i64 (k3 - 1)) < List.length o10000) (
 getN o10000 (Int.toNat (IntKind.wrap .i64 (k3 - 1))) fun x203 =>
 bif (x201 == x203) then (
 check (0 ≤ k3 ∧ k3 ≤ (List.length o10000 : Nat)) (
 t124_9 k3 (Int.toNat k3) (List.length o10000) 1 o10000))
 else (
 t124_4 (IntKind.wrap .i64 (k3 + 1)) o10000))))
 else (
 some ((List.length o10000), o10000)) : Option (Nat × (List (List UInt8)))) = some r) :
 t124_4 k3 o10000 = some r :=
 lift2 (E := E124r) h (
 I_cond (c := (decide (k3 < (List.length (List.map eStr o10000) : Int)))) (by simp only [List.length_map]) (
 I_check (p := 0 ≤ k3 ∧ Int.toNat k3 < List.length (List.map eStr o10000)) (by simp only [List.length_map]; exact id) (
 I_getN (enc := eStr) rfl fun x201 =>
 I_check (p := 0 ≤ (IntKind.wrap .i64 (k3 - 1)) ∧ Int.toNat (IntKind.wrap .i64 (k3 - 1)) < List.length (List.map eStr o10000)) (by simp only [List.length_map]; exact id) (
 I_getN (enc := eStr) rfl fun x203 =>
 I_cond rfl (
 I_check (p := 0 ≤ k3 ∧ k3 ≤ (List.length (List.map eStr o10000) : Nat)) (by simp only [List.length_map]; exact id) (
 (show Imp E124r (headT P cods H prim 124 9 [10000] [(0, (.row 10000)), (3, (.pv (.int .i64 k3))), (4, (.sub 10000 1 (Int.toNat k3) (List.length (List.map eStr o10000)))), (5, (.pv (.int .i64 1)))] [(10000, (.row 9 1 (List.map eStr o10000)))]) (t124_9 k3 (Int.toNat k3) (List.length o10000) 1 o10000) from fun _ h => by simpa only [h124_9, List.length_map] using q124_9 _ h))) (
 q124_4)))) (
 I_some (c := ((.self (List.length (List.map eStr o10000))), [(10000, (.row 9 1 (List.map eStr o10000)))])) (by simp only [E124r, R124.enc, List.length_map])))
 (by kernel_rfl) (fun h => head_round h)
theorem e125 (s0 : List (List UInt8)) (v1 : List UInt8) {r : Int}
 (h : (
 t125_2 s0 v1 (List.length s0 : Int) 0 : Option Int) = some r) :
 f125 s0 v1 = some r :=
 lift2 (E := E125) h (
 (show Imp E125 (headT P cods H prim 125 2 [] [(0, (.pv (.lst 1 (List.map eStr s0)))), (1, (.pv (.str v1))), (7, (.pv (.int .i64 (List.length (List.map eStr s0) : Int)))), (8, (.pv (.int .i64 0)))] []) (t125_2 s0 v1 (List.length s0 : Int) 0) from fun _ h => by simpa only [h125_2, List.length_map] using q125_2 _ h))
 (by kernel_rfl) (fun h => run_body (C := cods) rfl h)
theorem k125_2 (s0 : List (List UInt8)) (v1 : List UInt8) (v7 : Int) (v8 : Int) {r : Int}
 (h : (
 bif (decide (v8 < v7)) then (
 getK s0 v8 fun x201 =>
 bif (v1 == x201) then (
 some v8)
 else (
 t125_2 s0 v1 v7 (IntKind.wrap .i64 (v8 + 1))))
 else (
 some (-1)) : Option Int) = some r) :
 t125_2 s0 v1 v7 v8 = some r :=
 lift2 (E := E125) h (
 I_cond rfl (
 I_getK (enc := eStr) rfl fun x201 =>
 I_cond rfl (
 I_some rfl) (
 q125_2)) (
 I_some rfl))
 (by kernel_rfl) (fun h => head_round h)
theorem e126 (s0 : List (List UInt8)) (f1_0 : List UInt8) (f1_1 : List (List UInt8)) {r : Int}
 (h : (
 t126_2 s0 f1_0 f1_1 (List.length s0 : Int) 0 : Option Int) = some r) :
 f126 s0 f1_0 f1_1 = some r :=
 lift2 (E := E126) h (
 (show Imp E126 (headT P cods H prim 126 2 [] [(0, (.pv (.lst 1 (List.map eStr s0)))), (1, (.pv (.fn 91 [(.ref [(.str f1_0)]), (.ref [(.lst 1 (List.map eStr f1_1))])]))), (7, (.pv (.int .i64 (List.length (List.map eStr s0) : Int)))), (8, (.pv (.int .i64 0)))] []) (t126_2 s0 f1_0 f1_1 (List.length s0 : Int) 0) from fun _ h => by simpa only [h126_2, List.length_map] using q126_2 _ h))
 (by kernel_rfl) (fun h => run_body (C := cods) rfl h)
theorem e126a (s0 : List (List UInt8)) (f1_0 : List UInt8) {r : Int}
 (h : (
 t126_2a s0 f1_0 (List.length s0 : Int) 0 : Option Int) = some r) :
 f126a s0 f1_0 = some r :=
 lift2 (E := E126) h (
 (show Imp E126 (headT P cods H prim 126 2 [] [(0, (.pv (.lst 1 (List.map eStr s0)))), (1, (.pv (.fn 118 [(.ref [(.str f1_0)])]))), (7, (.pv (.int .i64 (List.length (List.map eStr s0) : Int)))), (8, (.pv (.int .i64 0)))] []) (t126_2a s0 f1_0 (List.length s0 : Int) 0) from fun _ h => by simpa only [h126_2a, List.length_map] using q126_2a _ h))
 (by kernel_rfl) (fun h => run_body (C := cods) rfl h)
theorem k126_2 (s0 : List (List UInt8)) (f1_0 : List UInt8) (f1_1 : List (List UInt8)) (v7 : Int) (v8 : Int) {r : Int}
 (h : (
 bif (decide (v8 < v7)) then (
 getK s0 v8 fun x201 =>
 Option.bind (f91 x201 f1_0 f1_1) fun y203 =>
 bif y203 then (
 some v8)
 else (
 t126_2 s0 f1_0 f1_1 v7 (IntKind.wrap .i64 (v8 + 1))))
 else (
 some (-1)) : Option Int) = some r) :
 t126_2 s0 f1_0 f1_1 v7 v8 = some r :=
 lift2 (E := E126) h (
 I_cond rfl (
 I_getK (enc := eStr) rfl fun x201 =>
 I_call (enc := R91.enc) s91 fun y203 =>
 I_cond rfl (
 I_some rfl) (
 q126_2)) (
 I_some rfl))
 (by kernel_rfl) (fun h => head_round h)
theorem k126_2a (s0 : List (List UInt8)) (f1_0 : List UInt8) (v7 : Int) (v8 : Int) {r : Int}
 (h : (
 bif (decide (v8 < v7)) then (
 getK s0 v8 fun x201 =>
 Option.bind (f118 x201 f1_0) fun y203 =>
 bif y203 then (
 some v8)
 else (
 t126_2a s0 f1_0 v7 (IntKind.wrap .i64 (v8 + 1))))
 else (
 some (-1)) : Option Int) = some r) :
 t126_2a s0 f1_0 v7 v8 = some r :=
 lift2 (E := E126) h (
 I_cond rfl (
 I_getK (enc := eStr) rfl fun x201 =>
 I_call (enc := R118.enc) s118 fun y203 =>
 I_cond rfl (
 I_some rfl) (
 q126_2a)) (
 I_some rfl))
 (by kernel_rfl) (fun h => head_round h)
theorem e137 (d0 : List TypeDecl) (l1 : List (List UInt8)) {r : (List (List UInt8))}
 (h : (
 t137_3 d0 l1 ([] : List (List UInt8)) 0 : Option (List (List UInt8))) = some r) :
 f137 d0 l1 = some r :=
 lift2 (E := E137) h (
 q137_3)
 (by kernel_rfl) (fun h => run_body (C := cods) rfl h)
theorem k137_3 (d0 : List TypeDecl) (l1 : List (List UInt8)) (out5 : List (List UInt8)) (i6 : Int) {r : (List (List UInt8))}
 (h : (
 bif (decide (i6 < (List.length l1 : Int))) then (
 getK l1 i6 fun x201 =>
 Option.bind (f111 d0 x201) fun y203 =>
 bif (decide (y203 ≥ 0)) then (
 getK l1 i6 fun x205 =>
 Option.bind (f98 out5 x205) fun y207 =>
 t137_3 d0 l1 y207 (IntKind.wrap .i64 (i6 + 1)))
 else (
 t137_3 d0 l1 out5 (IntKind.wrap .i64 (i6 + 1))))
 else (
 some out5) : Option (List (List UInt8))) = some r) :
 t137_3 d0 l1 out5 i6 = some r :=
 lift2 (E := E137) h (
 I_cond (c := (decide (i6 < (List.length (List.map eStr l1) : Int)))) (by simp only [List.length_map]) (
 I_getK (enc := eStr) rfl fun x201 =>
 I_call (enc := R111.enc) s111 fun y203 =>
 I_cond rfl (
 I_getK (enc := eStr) rfl fun x205 =>
 I_call (enc := R98.enc) s98 fun y207 =>
 q137_3) (
 q137_3)) (
 I_some rfl))
 (by kernel_rfl) (fun h => head_round h)
theorem e138 (d0 : List TypeDecl) (name1 : List UInt8) {r : (List (List UInt8))}
 (h : (
 Option.bind (f111 d0 name1) fun y201 =>
 bif (decide (y201 < 0)) then (
 some ([] : List (List UInt8)))
 else (
 t138_5 d0 0 [name1]) : Option (List (List UInt8))) = some r) :
 f138 d0 name1 = some r :=
 lift2 (E := E138) h (
 I_call (enc := R111.enc) s111 fun y201 =>
 I_cond rfl (
 I_some rfl) (
 q138_5))
 (by kernel_rfl) (fun h => run_body (C := cods) rfl h)
theorem k138_5 (d0 : List TypeDecl) (i6 : Int) (o16 : List (List UInt8)) {r : (List (List UInt8))}
 (h : (
 bif (decide (i6 < (List.length o16 : Int))) then (
 check (0 ≤ i6 ∧ Int.toNat i6 < List.length o16) (
 getN o16 (Int.toNat i6) fun x201 =>
 Option.bind (f111 d0 x201) fun y203 =>
 getK d0 y203 fun x205 =>
 t138_9 d0 i6 x205.Supers 0 o16))
 else (
 t138_15 ([] : List (List UInt8)) 0 o16) : Option (List (List UInt8))) = some r) :
 t138_5 d0 i6 o16 = some r :=
 lift2 (E := E138) h (
 I_cond (c := (decide (i6 < (List.length (List.map eStr o16) : Int)))) (by simp only [List.length_map]) (
 I_check (p := 0 ≤ i6 ∧ Int.toNat i6 < List.length (List.map eStr o16)) (by simp only [List.length_map]; exact id) (
 I_getN (enc := eStr) rfl fun x201 =>
 I_call (enc := R111.enc) s111 fun y203 =>
 I_getK (enc := TypeDecl.enc) rfl fun x205 =>
 q138_9)) (
 q138_15))
 (by kernel_rfl) (fun h => head_round h)
theorem k138_9 (d0 : List TypeDecl) (i6 : Int) (l7 : List (List UInt8)) (k8 : Int) (o16 : List (List UInt8)) {r : (List (List UInt8))}
 (h : (
 bif (decide (k8 < (List.length l7 : Int))) then (
 getK l7 k8 fun x201 =>
 Option.bind (f37 o16 x201) fun y203 =>
 bif (!y203) then (
 getK l7 k8 fun x205 =>
 check ((List.length o16 + List.length [x205]) * 16 ≤ 140737488355328 ∧ List.length o16 + List.length [x205] ≤ 4611686018427387904) (
 t138_9 d0 i6 l7 (IntKind.wrap .i64 (k8 + 1)) (o16 ++ [x205])))
 else (
 t138_9 d0 i6 l7 (IntKind.wrap .i64 (k8 + 1)) o16))
 else (
 t138_5 d0 (IntKind.wrap .i64 (i6 + 1)) o16) : Option (List (List UInt8))) = some r) :
 t138_9 d0 i6 l7 k8 o16 = some r :=
 lift2 (E := E138) h (
 I_cond (c := (decide (k8 < (List.length (List.map eStr l7) : Int)))) (by simp only [List.length_map]) (
 I_getK (enc := eStr) rfl fun x201 =>
 I_call (enc := R37.enc) s37 fun y203 =>
 I_cond rfl (
 I_getK (enc := eStr) rfl fun x205 =>
 I_check (p := (List.length (List.map eStr o16) + List.length (List.map eStr [x205])) * 16 ≤ 140737488355328 ∧ List.length (List.map eStr o16) + List.length (List.map eStr [x205]) ≤ 4611686018427387904) (by simp only [List.length_map]; exact id) (
 (show Imp E138 (headT P cods H prim 138 9 [] [(0, (.pv (.lst 3 (List.map TypeDecl.enc d0)))), (5, (.row 16)), (6, (.pv (.int .i64 i6))), (7, (.pv (.lst 1 (List.map eStr l7)))), (8, (.pv (.int .i64 (IntKind.wrap .i64 (k8 + 1)))))] [(16, (.row 9 1 ((List.map eStr o16) ++ (List.map eStr [x205]))))]) (t138_9 d0 i6 l7 (IntKind.wrap .i64 (k8 + 1)) (o16 ++ [x205])) from fun _ h => by simpa only [h138_9, List.map_append] using q138_9 _ h))) (
 q138_9)) (
 q138_5))
 (by kernel_rfl) (fun h => head_round h)
theorem k138_15 (out9 : List (List UInt8)) (i10 : Int) (o16 : List (List UInt8)) {r : (List (List UInt8))}
 (h : (
 bif (decide (i10 < (List.length o16 : Int))) then (
 check (0 ≤ i10 ∧ Int.toNat i10 < List.length o16) (
 getN o16 (Int.toNat i10) fun x201 =>
 Option.bind (f98 out9 x201) fun y203 =>
 t138_15 y203 (IntKind.wrap .i64 (i10 + 1)) o16))
 else (
 some out9) : Option (List (List UInt8))) = some r) :
 t138_15 out9 i10 o16 = some r :=
 lift2 (E := E138) h (
 I_cond (c := (decide (i10 < (List.length (List.map eStr o16) : Int)))) (by simp only [List.length_map]) (
 I_check (p := 0 ≤ i10 ∧ Int.toNat i10 < List.length (List.map eStr o16)) (by simp only [List.length_map]; exact id) (
 I_getN (enc := eStr) rfl fun x201 =>
 I_call (enc := R98.enc) s98 fun y203 =>
 q138_15)) (
 I_some rfl))
 (by kernel_rfl) (fun h => head_round h)
theorem e139 (b0 : List Int) {r : (List Int)}
 (h : (
 t139_3 b0 0 ([] : List Int) : Option (List Int)) = some r) :
 f139 b0 = some r :=
 lift2 (E := E139) h (
 q139_3)
 (by kernel_rfl) (fun h => run_body (C := cods) rfl h)
theorem k139_3 (b0 : List Int) (i4 : Int) (o3 : List Int) {r : (List Int)}
 (h : (
 bif (decide (i4 < (IntKind.wrap .i64 (64 * (List.length b0 : Int))))) then (
 Option.bind (f103 b0 i4) fun y201 =>
 bif y201 then (
 check ((List.length o3 + List.length [i4]) * 8 ≤ 140737488355328 ∧ List.length o3 + List.length [i4] ≤ 4611686018427387904) (
 t139_3 b0 (IntKind.wrap .i64 (i4 + 1)) (o3 ++ [i4])))
 else (
 t139_3 b0 (IntKind.wrap .i64 (i4 + 1)) o3))
 else (
 some o3) : Option (List Int)) = some r) :
 t139_3 b0 i4 o3 = some r :=
 lift2 (E := E139) h (
 I_cond (c := (decide (i4 < (IntKind.wrap .i64 (64 * (List.length (List.map (eInt .u64) b0) : Int)))))) (by simp only [List.length_map]) (
 I_call (enc := R103.enc) s103 fun y201 =>
 I_cond rfl (
 I_check (p := (List.length (List.map (eInt .i64) o3) + List.length (List.map (eInt .i64) [i4])) * 8 ≤ 140737488355328 ∧ List.length (List.map (eInt .i64) o3) + List.length (List.map (eInt .i64) [i4]) ≤ 4611686018427387904) (by simp only [List.length_map]; exact id) (
 (show Imp E139 (headT P cods H prim 139 3 [] [(0, (.pv (.lst 1 (List.map (eInt .u64) b0)))), (3, (.row 3)), (4, (.pv (.int .i64 (IntKind.wrap .i64 (i4 + 1)))))] [(3, (.row 3 1 ((List.map (eInt .i64) o3) ++ (List.map (eInt .i64) [i4]))))]) (t139_3 b0 (IntKind.wrap .i64 (i4 + 1)) (o3 ++ [i4])) from fun _ h => by simpa only [h139_3, List.map_append] using q139_3 _ h))) (
 q139_3)) (
 I_some rfl))
 (by kernel_rfl) (fun h => head_round h)
theorem e140 (s0 : List UInt8) (big1 : Bool) {r : Bool}
 (h : (
 bif (decide ((List.length s0 : Int) < 1)) then (
 some false)
 else (
 bif (decide ((List.length s0 : Int) > 32)) then (
 some false)
 else (
 getK s0 0 fun b201 =>
 Option.bind (f159 (UInt8.toNat b201 : Int)) fun y202 =>
 bif y202 then (
 some false)
 else (
 getK s0 0 fun b204 =>
 bif ((UInt8.toNat b204 : Int) == 45) then (
 some false)
 else (
 t140_4 s0 big1 0)))) : Option Bool) = some r) :
 f140 s0 big1 = some r :=
 lift2 (E := E140) h (
 I_cond rfl (
 I_some rfl) (
 I_cond rfl (
 I_some rfl) (
 I_getb fun b201 =>
 I_call (enc := R159.enc) s159 fun y202 =>
 I_cond rfl (
 I_some rfl) (
 I_getb fun b204 =>
 I_cond rfl (
 I_some rfl) (
 q140_4)))))
 (by kernel_rfl) (fun h => run_body (C := cods) rfl h)
theorem k140_4 (s0 : List UInt8) (big1 : Bool) (i5 : Int) {r : Bool}
 (h : (
 bif (decide (i5 < (List.length s0 : Int))) then (
 getK s0 i5 fun b201 =>
 Option.bind (f160 (UInt8.toNat b201 : Int) big1) fun y202 =>
 bif (!y202) then (
 some false)
 else (
 t140_4 s0 big1 (IntKind.wrap .i64 (i5 + 1))))
 else (
 some true) : Option Bool) = some r) :
 t140_4 s0 big1 i5 = some r :=
 lift2 (E := E140) h (
 I_cond rfl (
 I_getb fun b201 =>
 I_call (enc := R160.enc) s160 fun y202 =>
 I_cond rfl (
 I_some rfl) (
 q140_4)) (
 I_some rfl))
 (by kernel_rfl) (fun h => head_round h)
theorem e141 (s0 : List TypeDecl) {r : Int}
 (h : (
 t141_2 s0 (List.length s0 : Int) 0 : Option Int) = some r) :
 f141 s0 = some r :=
 lift2 (E := E141) h (
 (show Imp E141 (headT P cods H prim 141 2 [] [(0, (.pv (.lst 3 (List.map TypeDecl.enc s0)))), (1, (.pv (.fn 114 []))), (7, (.pv (.int .i64 (List.length (List.map TypeDecl.enc s0) : Int)))), (8, (.pv (.int .i64 0)))] []) (t141_2 s0 (List.length s0 : Int) 0) from fun _ h => by simpa only [h141_2, List.length_map] using q141_2 _ h))
 (by kernel_rfl) (fun h => run_body (C := cods) rfl h)
theorem k141_2 (s0 : List TypeDecl) (v7 : Int) (v8 : Int) {r : Int}
 (h : (
 bif (decide (v8 < v7)) then (
 getK s0 v8 fun x201 =>
 Option.bind (f114 x201) fun y203 =>
 bif y203 then (
 some v8)
 else (
 t141_2 s0 v7 (IntKind.wrap .i64 (v8 + 1))))
 else (
 some (-1)) : Option Int) = some r) :
 t141_2 s0 v7 v8 = some r :=
 lift2 (E := E141) h (
 I_cond rfl (
 I_getK (enc := TypeDecl.enc) rfl fun x201 =>
 I_call (enc := R114.enc) s114 fun y203 =>
 I_cond rfl (
 I_some rfl) (
 q141_2)) (
 I_some rfl))
 (by kernel_rfl) (fun h => head_round h)
theorem e142 (s0 : List UInt8) {r : Bool}
 (h : (
 bif ((List.length s0 : Int) == 0) then (
 some false)
 else (
 bif (decide ((List.length s0 : Int) > 32)) then (
 some false)
 else (
 t142_4 s0 0)) : Option Bool) = some r) :
 f142 s0 = some r :=
 lift2 (E := E142) h (
 I_cond rfl (
 I_some rfl) (
 I_cond rfl (
 I_some rfl) (
 q142_4)))
 (by kernel_rfl) (fun h => run_body (C := cods) rfl h)
theorem k142_4 (o16_s : List UInt8) (o16_p : Nat) {r : Bool}
 (h : (
 bif (Nat.blt o16_p (List.length o16_s)) then (
 Option.bind (f143 ((Utf8.decode ⟨List.toArray o16_s⟩ o16_p).1 : Int)) fun y201 =>
 bif (!y201) then (
 bif ((o16_p : Int) == 0) then (
 some false)
 else (
 Option.bind (f161 ((Utf8.decode ⟨List.toArray o16_s⟩ o16_p).1 : Int)) fun y203 =>
 bif (!y203) then (
 bif (((Utf8.decode ⟨List.toArray o16_s⟩ o16_p).1 : Int) != 45) then (
 some false)
 else (
 t142_4 o16_s (o16_p + (Utf8.decode ⟨List.toArray o16_s⟩ o16_p).2)))
 else (
 t142_4 o16_s (o16_p + (Utf8.decode ⟨List.toArray o16_s⟩ o16_p).2))))
 else (
 t142_4 o16_s (o16_p + (Utf8.decode ⟨List.toArray o16_s⟩ o16_p).2)))
 else (
 some true) : Option Bool) = some r) :
 t142_4 o16_s o16_p = some r :=
 lift2 (E := E142) h (
 I_cond rfl (
 I_call (enc := R143.enc) s143 fun y201 =>
 I_cond rfl (
 I_cond rfl (
 I_some rfl) (
 I_call (enc := R161.enc) s161 fun y203 =>
 I_cond rfl (
 I_cond rfl (
 I_some rfl) (
 q142_4)) (
 q142_4))) (
 q142_4)) (
 I_some rfl))
 (by kernel_rfl) (fun h => head_round h)
theorem e143 (c0 : Int) {r : Bool}
 (h : (
 bif (decide (c0 ≥ 97)) then (
 some (decide (c0 ≤ 122)))
 else (
 some false) : Option Bool) = some r) :
 f143 c0 = some r :=
 lift2 (E := E143) h (
 I_cond rfl (
 I_some rfl) (
 I_some rfl))
 (by kernel_rfl) (fun h => run_body (C := cods) rfl h)
theorem e159 (c0 : Int) {r : Bool}
 (h : (
 bif (decide (c0 ≥ 48)) then (
 some (decide (c0 ≤ 57)))
 else (
 some false) : Option Bool) = some r) :
 f159 c0 = some r :=
 lift2 (E := E159) h (
 I_cond rfl (
 I_some rfl) (
 I_some rfl))
 (by kernel_rfl) (fun h => run_body (C := cods) rfl h)
theorem e160 (c0 : Int) (big1 : Bool) {r : Bool}
 (h : (
 Option.bind (f159 c0) fun y201 =>
 bif y201 then (
 some true)
 else (
 bif (c0 == 45) then (
 some true)
 else (
 bif big1 then (
 Option.bind (f166 c0) fun y203 =>
 bif y203 then (
 some true)
 else (
 bif (!big1) then (
 Option.bind (f167 c0) fun y205 =>
 some y205)
 else (
 some false)))
 else (
 bif (!big1) then (
 Option.bind (f167 c0) fun y207 =>
 some y207)
 else (
 some false)))) : Option Bool) = some r) :
 f160 c0 big1 = some r :=
 lift2 (E := E160) h (
 I_call (enc := R159.enc) s159 fun y201 =>
 I_cond rfl (
 I_some rfl) (
 I_cond rfl (
 I_some rfl) (
 I_cond rfl (
 I_call (enc := R166.enc) s166 fun y203 =>
 I_cond rfl (
 I_some rfl) (
 I_cond rfl (
 I_call (enc := R167.enc) s167 fun y205 =>
 I_some rfl) (
 I_some rfl))) (
 I_cond rfl (
 I_call (enc := R167.enc) s167 fun y207 =>
 I_some rfl) (
 I_some rfl)))))
 (by kernel_rfl) (fun h => run_body (C := cods) rfl h)
theorem e161 (c0 : Int) {r : Bool}
 (h : (
 bif (decide (c0 ≥ 48)) then (
 some (decide (c0 ≤ 57)))
 else (
 some false) : Option Bool) = some r) :
 f161 c0 = some r :=
 lift2 (E := E161) h (
 I_cond rfl (
 I_some rfl) (
 I_some rfl))
 (by kernel_rfl) (fun h => run_body (C := cods) rfl h)
theorem e167 (c0 : Int) {r : Bool}
 (h : (
 bif (decide (c0 ≥ 97)) then (
 some (decide (c0 ≤ 122)))
 else (
 some false) : Option Bool) = some r) :
 f167 c0 = some r :=
 lift2 (E := E167) h (
 I_cond rfl (
 I_some rfl) (
 I_some rfl))
 (by kernel_rfl) (fun h => run_body (C := cods) rfl h)
end Go.Proofs.YtneahmpmicoplaaGreatDoor.cl
