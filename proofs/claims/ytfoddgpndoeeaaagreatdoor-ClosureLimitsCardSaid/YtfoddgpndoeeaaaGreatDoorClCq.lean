/-
  The comparator of closure.Codes as a plain function, by program (decomp4.py), over the machine without primitives.
-/
import Derived.Test.YtfoddgpndoeeaaaGreatDoorClT
set_option linter.unusedVariables false
set_option linter.unusedSimpArgs false
set_option maxRecDepth 100000
namespace Go.Proofs.YtfoddgpndoeeaaaGreatDoor.cl.cq
open Go Go.AM
def prim : CallF := fun _ _ _ => none
/-- the hints, without the block of features, which the comparator does not reach -/
def Hq (f : Nat) : Hint := bif Nat.beq f 74 then {} else H f
noncomputable abbrev Rn : CallF := run P Hq prim
def Q0 : Int → AV := (fun (x : Int) => ((.int .i64 x) : AV))
instance : Inj Q0 := ⟨fun a b h => by
  simp only [Q0, AV.mp.injEq, AV.int.injEq, AV.str.injEq, AV.bool.injEq, AV.lst.injEq, AV.agg.injEq, AV.tup.injEq, List.cons.injEq, true_and, and_true] at h
  exact h⟩
def Q1 : Bool → AV := (fun (x : Bool) => ((.bool x) : AV))
instance : Inj Q1 := ⟨fun a b h => by
  simp only [Q1, AV.mp.injEq, AV.int.injEq, AV.str.injEq, AV.bool.injEq, AV.lst.injEq, AV.agg.injEq, AV.tup.injEq, List.cons.injEq, true_and, and_true] at h
  exact h⟩
abbrev R392.T : Type := Int
abbrev R395.T : Type := Int
abbrev R393.T : Type := Int
abbrev R30.T : Type := Int
abbrev R394.T : Type := Int
abbrev R396.T : Type := Bool
abbrev R69.T : Type := Int
abbrev R97.T : Type := Bool
def ress : List (Nat × CodR) := [(22, ⟨_, Q0⟩), (23, ⟨_, Q0⟩), (24, ⟨_, Q0⟩), (25, ⟨_, Q0⟩), (26, ⟨_, Q0⟩), (63, ⟨_, Q1⟩), (64, ⟨_, Q0⟩), (65, ⟨_, Q1⟩)]
def cods : Cods := { elem := findC elems, val := findC vals, res := findC ress }
noncomputable def f392 (a0 b1 : Coded) : Option Int := dec (EN Q0) (Rn 22 [(.pv (.agg (Coded.enc a0))), (.pv (.agg (Coded.enc b1)))] [])
noncomputable def f395 (vals0 : List Int) : Option Int := dec (EN Q0) (Rn 23 [(.pv (.lst 1 (List.map (eInt .i64) vals0)))] [])
noncomputable def t395_3 (zero3 : Int) (v6 : List Int) (v7 v8 : Int) : Option Int := dec (EN Q0) (headT P cods Hq prim 23 3 [] [(3, (.pv (.int .i64 zero3))), (6, (.pv (.lst 1 (List.map (eInt .i64) v6)))), (7, (.pv (.int .i64 v7))), (8, (.pv (.int .i64 v8)))] [])
noncomputable def f393 (x0 y1 : Int) : Option Int := dec (EN Q0) (Rn 24 [(.pv (.int .i64 x0)), (.pv (.int .i64 y1))] [])
noncomputable def f30 (b0 : List Int) : Option Int := dec (EN Q0) (Rn 25 [(.pv (.lst 1 (List.map (eInt .u64) b0)))] [])
noncomputable def t30_3 (n3 : Int) (v6 : List Int) (v7 v8 : Int) : Option Int := dec (EN Q0) (headT P cods Hq prim 25 3 [] [(3, (.pv (.int .i64 n3))), (6, (.pv (.lst 1 (List.map (eInt .u64) v6)))), (7, (.pv (.int .i64 v7))), (8, (.pv (.int .i64 v8)))] [])
noncomputable def f394 (x0 y1 : List UInt8) : Option Int := dec (EN Q0) (Rn 26 [(.pv (.str x0)), (.pv (.str y1))] [])
noncomputable def f396 (x0 : Int) : Option Bool := dec (EN Q1) (Rn 63 [(.pv (.int .i64 x0))] [])
noncomputable def f69 (x0 : Int) : Option Int := dec (EN Q0) (Rn 64 [(.pv (.int .u64 x0))] [])
noncomputable def f97 (x0 : List UInt8) : Option Bool := dec (EN Q1) (Rn 65 [(.pv (.str x0))] [])
theorem e392 (a0 b1 : Coded) {r : Int}
 (h : (
 Option.bind (f30 b1.Code) fun y201 =>
 Option.bind (f30 a0.Code) fun y203 =>
 Option.bind (f393 y201 y203) fun y205 =>
 Option.bind (f394 a0.Name b1.Name) fun y207 =>
 Option.bind (f395 [y205, y207]) fun y209 =>
 some y209 : Option Int) = some r) :
 f392 a0 b1 = some r :=
 lift2 (E := (EN Q0)) h (
 Ik fun y201 =>
 Ik fun y203 =>
 Ik fun y205 =>
 Ik fun y207 =>
 Ik fun y209 =>
 Is)
 (by kernel_rfl) (fun h => run_body (C := cods) rfl h)
theorem e395 (vals0 : List Int) {r : Int}
 (h : (
 t395_3 0 vals0 (List.length vals0 : Int) 0 : Option Int) = some r) :
 f395 vals0 = some r :=
 lift2 (E := (EN Q0)) h (
 (show Imp _ (headT P cods Hq prim 23 3 [] [(3, (.pv (.int .i64 0))), (6, (.pv (.lst 1 (List.map (eInt .i64) vals0)))), (7, (.pv (.int .i64 (List.length (List.map (eInt .i64) vals0) : Int)))), (8, (.pv (.int .i64 0)))] []) ( t395_3 0 vals0 (List.length vals0 : Int) 0) from fun _ h => by simpa only [List.length_map] using dec_imp _ _ _ h))
 (by kernel_rfl) (fun h => run_body (C := cods) rfl h)
theorem k395_3 (zero3 : Int) (v6 : List Int) (v7 v8 : Int) {r : Int}
 (h : (
 bif (decide (v8 < v7)) then (
 getK v6 v8 fun x201 =>
 bif (x201 != zero3) then (
 some x201)
 else (
 t395_3 zero3 v6 v7 (IntKind.wrap .i64 (v8 + 1))))
 else (
 some zero3) : Option Int) = some r) :
 t395_3 zero3 v6 v7 v8 = some r :=
 lift2 (E := (EN Q0)) h (
 Ic (
 Ig (eInt .i64) fun x201 =>
 Ic (
 Is) (
 Iz)) (
 Is))
 (by kernel_rfl) (fun h => head_round h)
theorem e393 (x0 y1 : Int) {r : Int}
 (h : (
 Option.bind (f396 x0) fun y201 =>
 Option.bind (f396 y1) fun y203 =>
 bif y201 then (
 bif y203 then (
 some 0)
 else (
 some (-1)))
 else (
 bif y203 then (
 some 1)
 else (
 bif (decide (x0 < y1)) then (
 some (-1))
 else (
 bif (decide (x0 > y1)) then (
 some 1)
 else (
 some 0)))) : Option Int) = some r) :
 f393 x0 y1 = some r :=
 lift2 (E := (EN Q0)) h (
 Ik fun y201 =>
 Ik fun y203 =>
 Ic (
 Ic (
 Is) (
 Is)) (
 Ic (
 Is) (
 Ic (
 Is) (
 Ic (
 Is) (
 Is)))))
 (by kernel_rfl) (fun h => run_body (C := cods) rfl h)
theorem e30 (b0 : List Int) {r : Int}
 (h : (
 t30_3 0 b0 (List.length b0 : Int) 0 : Option Int) = some r) :
 f30 b0 = some r :=
 lift2 (E := (EN Q0)) h (
 (show Imp _ (headT P cods Hq prim 25 3 [] [(3, (.pv (.int .i64 0))), (6, (.pv (.lst 1 (List.map (eInt .u64) b0)))), (7, (.pv (.int .i64 (List.length (List.map (eInt .u64) b0) : Int)))), (8, (.pv (.int .i64 0)))] []) ( t30_3 0 b0 (List.length b0 : Int) 0) from fun _ h => by simpa only [List.length_map] using dec_imp _ _ _ h))
 (by kernel_rfl) (fun h => run_body (C := cods) rfl h)
theorem k30_3 (n3 : Int) (v6 : List Int) (v7 v8 : Int) {r : Int}
 (h : (
 bif (decide (v8 < v7)) then (
 getK v6 v8 fun x201 =>
 Option.bind (f69 x201) fun y203 =>
 t30_3 (IntKind.wrap .i64 (n3 + y203)) v6 v7 (IntKind.wrap .i64 (v8 + 1)))
 else (
 some n3) : Option Int) = some r) :
 t30_3 n3 v6 v7 v8 = some r :=
 lift2 (E := (EN Q0)) h (
 Ic (
 Ig (eInt .u64) fun x201 =>
 Ik fun y203 =>
 Iz) (
 Is))
 (by kernel_rfl) (fun h => head_round h)
theorem e394 (x0 y1 : List UInt8) {r : Int}
 (h : (
 Option.bind (f97 x0) fun y201 =>
 Option.bind (f97 y1) fun y203 =>
 bif y201 then (
 bif y203 then (
 some 0)
 else (
 some (-1)))
 else (
 bif y203 then (
 some 1)
 else (
 bif (Op.bytesLess x0 y1) then (
 some (-1))
 else (
 bif (!(Op.bytesLess x0 y1 || x0 == y1)) then (
 some 1)
 else (
 some 0)))) : Option Int) = some r) :
 f394 x0 y1 = some r :=
 lift2 (E := (EN Q0)) h (
 Ik fun y201 =>
 Ik fun y203 =>
 Ic (
 Ic (
 Is) (
 Is)) (
 Ic (
 Is) (
 Ic (
 Is) (
 Ic (
 Is) (
 Is)))))
 (by kernel_rfl) (fun h => run_body (C := cods) rfl h)
theorem e396 (x0 : Int) {r : Bool}
 (h : (
 some (x0 != x0) : Option Bool) = some r) :
 f396 x0 = some r :=
 lift2 (E := (EN Q1)) h (
 Is)
 (by kernel_rfl) (fun h => run_body (C := cods) rfl h)
theorem e69 (x0 : Int) {r : Int}
 (h : (
 check (0 ≤ 1) (
 check (0 ≤ 2) (
 check (0 ≤ 4) (
 check (0 ≤ 8) (
 check (0 ≤ 16) (
 check (0 ≤ 32) (
 some (IntKind.wrap .i64 ((BitVec.ofInt (IntKind.bits .i64) (IntKind.wrap .i64 ((IntKind.wrap .u64 ((IntKind.wrap .u64 ((IntKind.wrap .u64 ((IntKind.wrap .u64 ((BitVec.ofInt (IntKind.bits .u64) (IntKind.wrap .u64 ((Int.fdiv (IntKind.wrap .u64 ((IntKind.wrap .u64 ((BitVec.ofInt (IntKind.bits .u64) (Int.fdiv (IntKind.wrap .u64 ((IntKind.wrap .u64 ((BitVec.ofInt (IntKind.bits .u64) (Int.fdiv x0 (2 ^ min (Int.toNat 1) (IntKind.bits .u64))) &&& BitVec.ofInt (IntKind.bits .u64) 6148914691236517205).toNat : Int)) + (IntKind.wrap .u64 ((BitVec.ofInt (IntKind.bits .u64) x0 &&& BitVec.ofInt (IntKind.bits .u64) 6148914691236517205).toNat : Int)))) (2 ^ min (Int.toNat 2) (IntKind.bits .u64))) &&& BitVec.ofInt (IntKind.bits .u64) 3689348814741910323).toNat : Int)) + (IntKind.wrap .u64 ((BitVec.ofInt (IntKind.bits .u64) (IntKind.wrap .u64 ((IntKind.wrap .u64 ((BitVec.ofInt (IntKind.bits .u64) (Int.fdiv x0 (2 ^ min (Int.toNat 1) (IntKind.bits .u64))) &&& BitVec.ofInt (IntKind.bits .u64) 6148914691236517205).toNat : Int)) + (IntKind.wrap .u64 ((BitVec.ofInt (IntKind.bits .u64) x0 &&& BitVec.ofInt (IntKind.bits .u64) 6148914691236517205).toNat : Int)))) &&& BitVec.ofInt (IntKind.bits .u64) 3689348814741910323).toNat : Int)))) (2 ^ min (Int.toNat 4) (IntKind.bits .u64))) + (IntKind.wrap .u64 ((IntKind.wrap .u64 ((BitVec.ofInt (IntKind.bits .u64) (Int.fdiv (IntKind.wrap .u64 ((IntKind.wrap .u64 ((BitVec.ofInt (IntKind.bits .u64) (Int.fdiv x0 (2 ^ min (Int.toNat 1) (IntKind.bits .u64))) &&& BitVec.ofInt (IntKind.bits .u64) 6148914691236517205).toNat : Int)) + (IntKind.wrap .u64 ((BitVec.ofInt (IntKind.bits .u64) x0 &&& BitVec.ofInt (IntKind.bits .u64) 6148914691236517205).toNat : Int)))) (2 ^ min (Int.toNat 2) (IntKind.bits .u64))) &&& BitVec.ofInt (IntKind.bits .u64) 3689348814741910323).toNat : Int)) + (IntKind.wrap .u64 ((BitVec.ofInt (IntKind.bits .u64) (IntKind.wrap .u64 ((IntKind.wrap .u64 ((BitVec.ofInt (IntKind.bits .u64) (Int.fdiv x0 (2 ^ min (Int.toNat 1) (IntKind.bits .u64))) &&& BitVec.ofInt (IntKind.bits .u64) 6148914691236517205).toNat : Int)) + (IntKind.wrap .u64 ((BitVec.ofInt (IntKind.bits .u64) x0 &&& BitVec.ofInt (IntKind.bits .u64) 6148914691236517205).toNat : Int)))) &&& BitVec.ofInt (IntKind.bits .u64) 3689348814741910323).toNat : Int)))))) &&& BitVec.ofInt (IntKind.bits .u64) 1085102592571150095).toNat : Int)) + (Int.fdiv (IntKind.wrap .u64 ((BitVec.ofInt (IntKind.bits .u64) (IntKind.wrap .u64 ((Int.fdiv (IntKind.wrap .u64 ((IntKind.wrap .u64 ((BitVec.ofInt (IntKind.bits .u64) (Int.fdiv (IntKind.wrap .u64 ((IntKind.wrap .u64 ((BitVec.ofInt (IntKind.bits .u64) (Int.fdiv x0 (2 ^ min (Int.toNat 1) (IntKind.bits .u64))) &&& BitVec.ofInt (IntKind.bits .u64) 6148914691236517205).toNat : Int)) + (IntKind.wrap .u64 ((BitVec.ofInt (IntKind.bits .u64) x0 &&& BitVec.ofInt (IntKind.bits .u64) 6148914691236517205).toNat : Int)))) (2 ^ min (Int.toNat 2) (IntKind.bits .u64))) &&& BitVec.ofInt (IntKind.bits .u64) 3689348814741910323).toNat : Int)) + (IntKind.wrap .u64 ((BitVec.ofInt (IntKind.bits .u64) (IntKind.wrap .u64 ((IntKind.wrap .u64 ((BitVec.ofInt (IntKind.bits .u64) (Int.fdiv x0 (2 ^ min (Int.toNat 1) (IntKind.bits .u64))) &&& BitVec.ofInt (IntKind.bits .u64) 6148914691236517205).toNat : Int)) + (IntKind.wrap .u64 ((BitVec.ofInt (IntKind.bits .u64) x0 &&& BitVec.ofInt (IntKind.bits .u64) 6148914691236517205).toNat : Int)))) &&& BitVec.ofInt (IntKind.bits .u64) 3689348814741910323).toNat : Int)))) (2 ^ min (Int.toNat 4) (IntKind.bits .u64))) + (IntKind.wrap .u64 ((IntKind.wrap .u64 ((BitVec.ofInt (IntKind.bits .u64) (Int.fdiv (IntKind.wrap .u64 ((IntKind.wrap .u64 ((BitVec.ofInt (IntKind.bits .u64) (Int.fdiv x0 (2 ^ min (Int.toNat 1) (IntKind.bits .u64))) &&& BitVec.ofInt (IntKind.bits .u64) 6148914691236517205).toNat : Int)) + (IntKind.wrap .u64 ((BitVec.ofInt (IntKind.bits .u64) x0 &&& BitVec.ofInt (IntKind.bits .u64) 6148914691236517205).toNat : Int)))) (2 ^ min (Int.toNat 2) (IntKind.bits .u64))) &&& BitVec.ofInt (IntKind.bits .u64) 3689348814741910323).toNat : Int)) + (IntKind.wrap .u64 ((BitVec.ofInt (IntKind.bits .u64) (IntKind.wrap .u64 ((IntKind.wrap .u64 ((BitVec.ofInt (IntKind.bits .u64) (Int.fdiv x0 (2 ^ min (Int.toNat 1) (IntKind.bits .u64))) &&& BitVec.ofInt (IntKind.bits .u64) 6148914691236517205).toNat : Int)) + (IntKind.wrap .u64 ((BitVec.ofInt (IntKind.bits .u64) x0 &&& BitVec.ofInt (IntKind.bits .u64) 6148914691236517205).toNat : Int)))) &&& BitVec.ofInt (IntKind.bits .u64) 3689348814741910323).toNat : Int)))))) &&& BitVec.ofInt (IntKind.bits .u64) 1085102592571150095).toNat : Int)) (2 ^ min (Int.toNat 8) (IntKind.bits .u64))))) + (Int.fdiv (IntKind.wrap .u64 ((IntKind.wrap .u64 ((BitVec.ofInt (IntKind.bits .u64) (IntKind.wrap .u64 ((Int.fdiv (IntKind.wrap .u64 ((IntKind.wrap .u64 ((BitVec.ofInt (IntKind.bits .u64) (Int.fdiv (IntKind.wrap .u64 ((IntKind.wrap .u64 ((BitVec.ofInt (IntKind.bits .u64) (Int.fdiv x0 (2 ^ min (Int.toNat 1) (IntKind.bits .u64))) &&& BitVec.ofInt (IntKind.bits .u64) 6148914691236517205).toNat : Int)) + (IntKind.wrap .u64 ((BitVec.ofInt (IntKind.bits .u64) x0 &&& BitVec.ofInt (IntKind.bits .u64) 6148914691236517205).toNat : Int)))) (2 ^ min (Int.toNat 2) (IntKind.bits .u64))) &&& BitVec.ofInt (IntKind.bits .u64) 3689348814741910323).toNat : Int)) + (IntKind.wrap .u64 ((BitVec.ofInt (IntKind.bits .u64) (IntKind.wrap .u64 ((IntKind.wrap .u64 ((BitVec.ofInt (IntKind.bits .u64) (Int.fdiv x0 (2 ^ min (Int.toNat 1) (IntKind.bits .u64))) &&& BitVec.ofInt (IntKind.bits .u64) 6148914691236517205).toNat : Int)) + (IntKind.wrap .u64 ((BitVec.ofInt (IntKind.bits .u64) x0 &&& BitVec.ofInt (IntKind.bits .u64) 6148914691236517205).toNat : Int)))) &&& BitVec.ofInt (IntKind.bits .u64) 3689348814741910323).toNat : Int)))) (2 ^ min (Int.toNat 4) (IntKind.bits .u64))) + (IntKind.wrap .u64 ((IntKind.wrap .u64 ((BitVec.ofInt (IntKind.bits .u64) (Int.fdiv (IntKind.wrap .u64 ((IntKind.wrap .u64 ((BitVec.ofInt (IntKind.bits .u64) (Int.fdiv x0 (2 ^ min (Int.toNat 1) (IntKind.bits .u64))) &&& BitVec.ofInt (IntKind.bits .u64) 6148914691236517205).toNat : Int)) + (IntKind.wrap .u64 ((BitVec.ofInt (IntKind.bits .u64) x0 &&& BitVec.ofInt (IntKind.bits .u64) 6148914691236517205).toNat : Int)))) (2 ^ min (Int.toNat 2) (IntKind.bits .u64))) &&& BitVec.ofInt (IntKind.bits .u64) 3689348814741910323).toNat : Int)) + (IntKind.wrap .u64 ((BitVec.ofInt (IntKind.bits .u64) (IntKind.wrap .u64 ((IntKind.wrap .u64 ((BitVec.ofInt (IntKind.bits .u64) (Int.fdiv x0 (2 ^ min (Int.toNat 1) (IntKind.bits .u64))) &&& BitVec.ofInt (IntKind.bits .u64) 6148914691236517205).toNat : Int)) + (IntKind.wrap .u64 ((BitVec.ofInt (IntKind.bits .u64) x0 &&& BitVec.ofInt (IntKind.bits .u64) 6148914691236517205).toNat : Int)))) &&& BitVec.ofInt (IntKind.bits .u64) 3689348814741910323).toNat : Int)))))) &&& BitVec.ofInt (IntKind.bits .u64) 1085102592571150095).toNat : Int)) + (Int.fdiv (IntKind.wrap .u64 ((BitVec.ofInt (IntKind.bits .u64) (IntKind.wrap .u64 ((Int.fdiv (IntKind.wrap .u64 ((IntKind.wrap .u64 ((BitVec.ofInt (IntKind.bits .u64) (Int.fdiv (IntKind.wrap .u64 ((IntKind.wrap .u64 ((BitVec.ofInt (IntKind.bits .u64) (Int.fdiv x0 (2 ^ min (Int.toNat 1) (IntKind.bits .u64))) &&& BitVec.ofInt (IntKind.bits .u64) 6148914691236517205).toNat : Int)) + (IntKind.wrap .u64 ((BitVec.ofInt (IntKind.bits .u64) x0 &&& BitVec.ofInt (IntKind.bits .u64) 6148914691236517205).toNat : Int)))) (2 ^ min (Int.toNat 2) (IntKind.bits .u64))) &&& BitVec.ofInt (IntKind.bits .u64) 3689348814741910323).toNat : Int)) + (IntKind.wrap .u64 ((BitVec.ofInt (IntKind.bits .u64) (IntKind.wrap .u64 ((IntKind.wrap .u64 ((BitVec.ofInt (IntKind.bits .u64) (Int.fdiv x0 (2 ^ min (Int.toNat 1) (IntKind.bits .u64))) &&& BitVec.ofInt (IntKind.bits .u64) 6148914691236517205).toNat : Int)) + (IntKind.wrap .u64 ((BitVec.ofInt (IntKind.bits .u64) x0 &&& BitVec.ofInt (IntKind.bits .u64) 6148914691236517205).toNat : Int)))) &&& BitVec.ofInt (IntKind.bits .u64) 3689348814741910323).toNat : Int)))) (2 ^ min (Int.toNat 4) (IntKind.bits .u64))) + (IntKind.wrap .u64 ((IntKind.wrap .u64 ((BitVec.ofInt (IntKind.bits .u64) (Int.fdiv (IntKind.wrap .u64 ((IntKind.wrap .u64 ((BitVec.ofInt (IntKind.bits .u64) (Int.fdiv x0 (2 ^ min (Int.toNat 1) (IntKind.bits .u64))) &&& BitVec.ofInt (IntKind.bits .u64) 6148914691236517205).toNat : Int)) + (IntKind.wrap .u64 ((BitVec.ofInt (IntKind.bits .u64) x0 &&& BitVec.ofInt (IntKind.bits .u64) 6148914691236517205).toNat : Int)))) (2 ^ min (Int.toNat 2) (IntKind.bits .u64))) &&& BitVec.ofInt (IntKind.bits .u64) 3689348814741910323).toNat : Int)) + (IntKind.wrap .u64 ((BitVec.ofInt (IntKind.bits .u64) (IntKind.wrap .u64 ((IntKind.wrap .u64 ((BitVec.ofInt (IntKind.bits .u64) (Int.fdiv x0 (2 ^ min (Int.toNat 1) (IntKind.bits .u64))) &&& BitVec.ofInt (IntKind.bits .u64) 6148914691236517205).toNat : Int)) + (IntKind.wrap .u64 ((BitVec.ofInt (IntKind.bits .u64) x0 &&& BitVec.ofInt (IntKind.bits .u64) 6148914691236517205).toNat : Int)))) &&& BitVec.ofInt (IntKind.bits .u64) 3689348814741910323).toNat : Int)))))) &&& BitVec.ofInt (IntKind.bits .u64) 1085102592571150095).toNat : Int)) (2 ^ min (Int.toNat 8) (IntKind.bits .u64))))) (2 ^ min (Int.toNat 16) (IntKind.bits .u64))))) + (Int.fdiv (IntKind.wrap .u64 ((IntKind.wrap .u64 ((IntKind.wrap .u64 ((BitVec.ofInt (IntKind.bits .u64) (IntKind.wrap .u64 ((Int.fdiv (IntKind.wrap .u64 ((IntKind.wrap .u64 ((BitVec.ofInt (IntKind.bits .u64) (Int.fdiv (IntKind.wrap .u64 ((IntKind.wrap .u64 ((BitVec.ofInt (IntKind.bits .u64) (Int.fdiv x0 (2 ^ min (Int.toNat 1) (IntKind.bits .u64))) &&& BitVec.ofInt (IntKind.bits .u64) 6148914691236517205).toNat : Int)) + (IntKind.wrap .u64 ((BitVec.ofInt (IntKind.bits .u64) x0 &&& BitVec.ofInt (IntKind.bits .u64) 6148914691236517205).toNat : Int)))) (2 ^ min (Int.toNat 2) (IntKind.bits .u64))) &&& BitVec.ofInt (IntKind.bits .u64) 3689348814741910323).toNat : Int)) + (IntKind.wrap .u64 ((BitVec.ofInt (IntKind.bits .u64) (IntKind.wrap .u64 ((IntKind.wrap .u64 ((BitVec.ofInt (IntKind.bits .u64) (Int.fdiv x0 (2 ^ min (Int.toNat 1) (IntKind.bits .u64))) &&& BitVec.ofInt (IntKind.bits .u64) 6148914691236517205).toNat : Int)) + (IntKind.wrap .u64 ((BitVec.ofInt (IntKind.bits .u64) x0 &&& BitVec.ofInt (IntKind.bits .u64) 6148914691236517205).toNat : Int)))) &&& BitVec.ofInt (IntKind.bits .u64) 3689348814741910323).toNat : Int)))) (2 ^ min (Int.toNat 4) (IntKind.bits .u64))) + (IntKind.wrap .u64 ((IntKind.wrap .u64 ((BitVec.ofInt (IntKind.bits .u64) (Int.fdiv (IntKind.wrap .u64 ((IntKind.wrap .u64 ((BitVec.ofInt (IntKind.bits .u64) (Int.fdiv x0 (2 ^ min (Int.toNat 1) (IntKind.bits .u64))) &&& BitVec.ofInt (IntKind.bits .u64) 6148914691236517205).toNat : Int)) + (IntKind.wrap .u64 ((BitVec.ofInt (IntKind.bits .u64) x0 &&& BitVec.ofInt (IntKind.bits .u64) 6148914691236517205).toNat : Int)))) (2 ^ min (Int.toNat 2) (IntKind.bits .u64))) &&& BitVec.ofInt (IntKind.bits .u64) 3689348814741910323).toNat : Int)) + (IntKind.wrap .u64 ((BitVec.ofInt (IntKind.bits .u64) (IntKind.wrap .u64 ((IntKind.wrap .u64 ((BitVec.ofInt (IntKind.bits .u64) (Int.fdiv x0 (2 ^ min (Int.toNat 1) (IntKind.bits .u64))) &&& BitVec.ofInt (IntKind.bits .u64) 6148914691236517205).toNat : Int)) + (IntKind.wrap .u64 ((BitVec.ofInt (IntKind.bits .u64) x0 &&& BitVec.ofInt (IntKind.bits .u64) 6148914691236517205).toNat : Int)))) &&& BitVec.ofInt (IntKind.bits .u64) 3689348814741910323).toNat : Int)))))) &&& BitVec.ofInt (IntKind.bits .u64) 1085102592571150095).toNat : Int)) + (Int.fdiv (IntKind.wrap .u64 ((BitVec.ofInt (IntKind.bits .u64) (IntKind.wrap .u64 ((Int.fdiv (IntKind.wrap .u64 ((IntKind.wrap .u64 ((BitVec.ofInt (IntKind.bits .u64) (Int.fdiv (IntKind.wrap .u64 ((IntKind.wrap .u64 ((BitVec.ofInt (IntKind.bits .u64) (Int.fdiv x0 (2 ^ min (Int.toNat 1) (IntKind.bits .u64))) &&& BitVec.ofInt (IntKind.bits .u64) 6148914691236517205).toNat : Int)) + (IntKind.wrap .u64 ((BitVec.ofInt (IntKind.bits .u64) x0 &&& BitVec.ofInt (IntKind.bits .u64) 6148914691236517205).toNat : Int)))) (2 ^ min (Int.toNat 2) (IntKind.bits .u64))) &&& BitVec.ofInt (IntKind.bits .u64) 3689348814741910323).toNat : Int)) + (IntKind.wrap .u64 ((BitVec.ofInt (IntKind.bits .u64) (IntKind.wrap .u64 ((IntKind.wrap .u64 ((BitVec.ofInt (IntKind.bits .u64) (Int.fdiv x0 (2 ^ min (Int.toNat 1) (IntKind.bits .u64))) &&& BitVec.ofInt (IntKind.bits .u64) 6148914691236517205).toNat : Int)) + (IntKind.wrap .u64 ((BitVec.ofInt (IntKind.bits .u64) x0 &&& BitVec.ofInt (IntKind.bits .u64) 6148914691236517205).toNat : Int)))) &&& BitVec.ofInt (IntKind.bits .u64) 3689348814741910323).toNat : Int)))) (2 ^ min (Int.toNat 4) (IntKind.bits .u64))) + (IntKind.wrap .u64 ((IntKind.wrap .u64 ((BitVec.ofInt (IntKind.bits .u64) (Int.fdiv (IntKind.wrap .u64 ((IntKind.wrap .u64 ((BitVec.ofInt (IntKind.bits .u64) (Int.fdiv x0 (2 ^ min (Int.toNat 1) (IntKind.bits .u64))) &&& BitVec.ofInt (IntKind.bits .u64) 6148914691236517205).toNat : Int)) + (IntKind.wrap .u64 ((BitVec.ofInt (IntKind.bits .u64) x0 &&& BitVec.ofInt (IntKind.bits .u64) 6148914691236517205).toNat : Int)))) (2 ^ min (Int.toNat 2) (IntKind.bits .u64))) &&& BitVec.ofInt (IntKind.bits .u64) 3689348814741910323).toNat : Int)) + (IntKind.wrap .u64 ((BitVec.ofInt (IntKind.bits .u64) (IntKind.wrap .u64 ((IntKind.wrap .u64 ((BitVec.ofInt (IntKind.bits .u64) (Int.fdiv x0 (2 ^ min (Int.toNat 1) (IntKind.bits .u64))) &&& BitVec.ofInt (IntKind.bits .u64) 6148914691236517205).toNat : Int)) + (IntKind.wrap .u64 ((BitVec.ofInt (IntKind.bits .u64) x0 &&& BitVec.ofInt (IntKind.bits .u64) 6148914691236517205).toNat : Int)))) &&& BitVec.ofInt (IntKind.bits .u64) 3689348814741910323).toNat : Int)))))) &&& BitVec.ofInt (IntKind.bits .u64) 1085102592571150095).toNat : Int)) (2 ^ min (Int.toNat 8) (IntKind.bits .u64))))) + (Int.fdiv (IntKind.wrap .u64 ((IntKind.wrap .u64 ((BitVec.ofInt (IntKind.bits .u64) (IntKind.wrap .u64 ((Int.fdiv (IntKind.wrap .u64 ((IntKind.wrap .u64 ((BitVec.ofInt (IntKind.bits .u64) (Int.fdiv (IntKind.wrap .u64 ((IntKind.wrap .u64 ((BitVec.ofInt (IntKind.bits .u64) (Int.fdiv x0 (2 ^ min (Int.toNat 1) (IntKind.bits .u64))) &&& BitVec.ofInt (IntKind.bits .u64) 6148914691236517205).toNat : Int)) + (IntKind.wrap .u64 ((BitVec.ofInt (IntKind.bits .u64) x0 &&& BitVec.ofInt (IntKind.bits .u64) 6148914691236517205).toNat : Int)))) (2 ^ min (Int.toNat 2) (IntKind.bits .u64))) &&& BitVec.ofInt (IntKind.bits .u64) 3689348814741910323).toNat : Int)) + (IntKind.wrap .u64 ((BitVec.ofInt (IntKind.bits .u64) (IntKind.wrap .u64 ((IntKind.wrap .u64 ((BitVec.ofInt (IntKind.bits .u64) (Int.fdiv x0 (2 ^ min (Int.toNat 1) (IntKind.bits .u64))) &&& BitVec.ofInt (IntKind.bits .u64) 6148914691236517205).toNat : Int)) + (IntKind.wrap .u64 ((BitVec.ofInt (IntKind.bits .u64) x0 &&& BitVec.ofInt (IntKind.bits .u64) 6148914691236517205).toNat : Int)))) &&& BitVec.ofInt (IntKind.bits .u64) 3689348814741910323).toNat : Int)))) (2 ^ min (Int.toNat 4) (IntKind.bits .u64))) + (IntKind.wrap .u64 ((IntKind.wrap .u64 ((BitVec.ofInt (IntKind.bits .u64) (Int.fdiv (IntKind.wrap .u64 ((IntKind.wrap .u64 ((BitVec.ofInt (IntKind.bits .u64) (Int.fdiv x0 (2 ^ min (Int.toNat 1) (IntKind.bits .u64))) &&& BitVec.ofInt (IntKind.bits .u64) 6148914691236517205).toNat : Int)) + (IntKind.wrap .u64 ((BitVec.ofInt (IntKind.bits .u64) x0 &&& BitVec.ofInt (IntKind.bits .u64) 6148914691236517205).toNat : Int)))) (2 ^ min (Int.toNat 2) (IntKind.bits .u64))) &&& BitVec.ofInt (IntKind.bits .u64) 3689348814741910323).toNat : Int)) + (IntKind.wrap .u64 ((BitVec.ofInt (IntKind.bits .u64) (IntKind.wrap .u64 ((IntKind.wrap .u64 ((BitVec.ofInt (IntKind.bits .u64) (Int.fdiv x0 (2 ^ min (Int.toNat 1) (IntKind.bits .u64))) &&& BitVec.ofInt (IntKind.bits .u64) 6148914691236517205).toNat : Int)) + (IntKind.wrap .u64 ((BitVec.ofInt (IntKind.bits .u64) x0 &&& BitVec.ofInt (IntKind.bits .u64) 6148914691236517205).toNat : Int)))) &&& BitVec.ofInt (IntKind.bits .u64) 3689348814741910323).toNat : Int)))))) &&& BitVec.ofInt (IntKind.bits .u64) 1085102592571150095).toNat : Int)) + (Int.fdiv (IntKind.wrap .u64 ((BitVec.ofInt (IntKind.bits .u64) (IntKind.wrap .u64 ((Int.fdiv (IntKind.wrap .u64 ((IntKind.wrap .u64 ((BitVec.ofInt (IntKind.bits .u64) (Int.fdiv (IntKind.wrap .u64 ((IntKind.wrap .u64 ((BitVec.ofInt (IntKind.bits .u64) (Int.fdiv x0 (2 ^ min (Int.toNat 1) (IntKind.bits .u64))) &&& BitVec.ofInt (IntKind.bits .u64) 6148914691236517205).toNat : Int)) + (IntKind.wrap .u64 ((BitVec.ofInt (IntKind.bits .u64) x0 &&& BitVec.ofInt (IntKind.bits .u64) 6148914691236517205).toNat : Int)))) (2 ^ min (Int.toNat 2) (IntKind.bits .u64))) &&& BitVec.ofInt (IntKind.bits .u64) 3689348814741910323).toNat : Int)) + (IntKind.wrap .u64 ((BitVec.ofInt (IntKind.bits .u64) (IntKind.wrap .u64 ((IntKind.wrap .u64 ((BitVec.ofInt (IntKind.bits .u64) (Int.fdiv x0 (2 ^ min (Int.toNat 1) (IntKind.bits .u64))) &&& BitVec.ofInt (IntKind.bits .u64) 6148914691236517205).toNat : Int)) + (IntKind.wrap .u64 ((BitVec.ofInt (IntKind.bits .u64) x0 &&& BitVec.ofInt (IntKind.bits .u64) 6148914691236517205).toNat : Int)))) &&& BitVec.ofInt (IntKind.bits .u64) 3689348814741910323).toNat : Int)))) (2 ^ min (Int.toNat 4) (IntKind.bits .u64))) + (IntKind.wrap .u64 ((IntKind.wrap .u64 ((BitVec.ofInt (IntKind.bits .u64) (Int.fdiv (IntKind.wrap .u64 ((IntKind.wrap .u64 ((BitVec.ofInt (IntKind.bits .u64) (Int.fdiv x0 (2 ^ min (Int.toNat 1) (IntKind.bits .u64))) &&& BitVec.ofInt (IntKind.bits .u64) 6148914691236517205).toNat : Int)) + (IntKind.wrap .u64 ((BitVec.ofInt (IntKind.bits .u64) x0 &&& BitVec.ofInt (IntKind.bits .u64) 6148914691236517205).toNat : Int)))) (2 ^ min (Int.toNat 2) (IntKind.bits .u64))) &&& BitVec.ofInt (IntKind.bits .u64) 3689348814741910323).toNat : Int)) + (IntKind.wrap .u64 ((BitVec.ofInt (IntKind.bits .u64) (IntKind.wrap .u64 ((IntKind.wrap .u64 ((BitVec.ofInt (IntKind.bits .u64) (Int.fdiv x0 (2 ^ min (Int.toNat 1) (IntKind.bits .u64))) &&& BitVec.ofInt (IntKind.bits .u64) 6148914691236517205).toNat : Int)) + (IntKind.wrap .u64 ((BitVec.ofInt (IntKind.bits .u64) x0 &&& BitVec.ofInt (IntKind.bits .u64) 6148914691236517205).toNat : Int)))) &&& BitVec.ofInt (IntKind.bits .u64) 3689348814741910323).toNat : Int)))))) &&& BitVec.ofInt (IntKind.bits .u64) 1085102592571150095).toNat : Int)) (2 ^ min (Int.toNat 8) (IntKind.bits .u64))))) (2 ^ min (Int.toNat 16) (IntKind.bits .u64))))) (2 ^ min (Int.toNat 32) (IntKind.bits .u64))))))) &&& BitVec.ofInt (IntKind.bits .i64) 127).toNat : Int)))))))) : Option Int) = some r) :
 f69 x0 = some r :=
 lift2 (E := (EN Q0)) h (
 Ih (
 Ih (
 Ih (
 Ih (
 Ih (
 Ih (
 Is)))))))
 (by kernel_rfl) (fun h => run_body (C := cods) rfl h)
theorem e97 (x0 : List UInt8) {r : Bool}
 (h : (
 some (!(x0 == x0)) : Option Bool) = some r) :
 f97 x0 = some r :=
 lift2 (E := (EN Q1)) h (
 Is)
 (by kernel_rfl) (fun h => run_body (C := cods) rfl h)
end Go.Proofs.YtfoddgpndoeeaaaGreatDoor.cl.cq
