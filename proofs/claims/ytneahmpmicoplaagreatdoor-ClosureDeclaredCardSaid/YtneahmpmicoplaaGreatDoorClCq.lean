/-
 The Closure laws: the comparator of closure.Codes as a plain function, by program (decomp2.py), over the machine without primitives.
-/
import Derived.Test.YtneahmpmicoplaaGreatDoorClT
set_option linter.unusedVariables false
set_option linter.unusedSimpArgs false
set_option maxRecDepth 100000
namespace Go.Proofs.YtneahmpmicoplaaGreatDoor.cl.cq
open Go Go.AM
def prim : CallF := fun _ _ _ => none
noncomputable abbrev Rn : CallF := run P H prim
abbrev R30.T : Type := Int
def R30.enc : R30.T → AV := (fun (x : Int) => ((.int .i64 x) : AV))
instance : Inj R30.enc := ⟨fun a b h => by
 simp only [R30.enc, AV.mp.injEq, AV.int.injEq, AV.str.injEq, AV.bool.injEq, AV.lst.injEq, AV.agg.injEq, AV.tup.injEq, List.cons.injEq, true_and, and_true] at h
 exact h⟩
abbrev R48.T : Type := Int
def R48.enc : R48.T → AV := (fun (x : Int) => ((.int .i64 x) : AV))
instance : Inj R48.enc := ⟨fun a b h => by
 simp only [R48.enc, AV.mp.injEq, AV.int.injEq, AV.str.injEq, AV.bool.injEq, AV.lst.injEq, AV.agg.injEq, AV.tup.injEq, List.cons.injEq, true_and, and_true] at h
 exact h⟩
abbrev R49.T : Type := Int
def R49.enc : R49.T → AV := (fun (x : Int) => ((.int .i64 x) : AV))
instance : Inj R49.enc := ⟨fun a b h => by
 simp only [R49.enc, AV.mp.injEq, AV.int.injEq, AV.str.injEq, AV.bool.injEq, AV.lst.injEq, AV.agg.injEq, AV.tup.injEq, List.cons.injEq, true_and, and_true] at h
 exact h⟩
abbrev R50.T : Type := Int
def R50.enc : R50.T → AV := (fun (x : Int) => ((.int .i64 x) : AV))
instance : Inj R50.enc := ⟨fun a b h => by
 simp only [R50.enc, AV.mp.injEq, AV.int.injEq, AV.str.injEq, AV.bool.injEq, AV.lst.injEq, AV.agg.injEq, AV.tup.injEq, List.cons.injEq, true_and, and_true] at h
 exact h⟩
abbrev R51.T : Type := Int
def R51.enc : R51.T → AV := (fun (x : Int) => ((.int .i64 x) : AV))
instance : Inj R51.enc := ⟨fun a b h => by
 simp only [R51.enc, AV.mp.injEq, AV.int.injEq, AV.str.injEq, AV.bool.injEq, AV.lst.injEq, AV.agg.injEq, AV.tup.injEq, List.cons.injEq, true_and, and_true] at h
 exact h⟩
abbrev R69.T : Type := Int
def R69.enc : R69.T → AV := (fun (x : Int) => ((.int .i64 x) : AV))
instance : Inj R69.enc := ⟨fun a b h => by
 simp only [R69.enc, AV.mp.injEq, AV.int.injEq, AV.str.injEq, AV.bool.injEq, AV.lst.injEq, AV.agg.injEq, AV.tup.injEq, List.cons.injEq, true_and, and_true] at h
 exact h⟩
abbrev R96.T : Type := Bool
def R96.enc : R96.T → AV := (fun (x : Bool) => ((.bool x) : AV))
instance : Inj R96.enc := ⟨fun a b h => by
 simp only [R96.enc, AV.mp.injEq, AV.int.injEq, AV.str.injEq, AV.bool.injEq, AV.lst.injEq, AV.agg.injEq, AV.tup.injEq, List.cons.injEq, true_and, and_true] at h
 exact h⟩
abbrev R97.T : Type := Bool
def R97.enc : R97.T → AV := (fun (x : Bool) => ((.bool x) : AV))
instance : Inj R97.enc := ⟨fun a b h => by
 simp only [R97.enc, AV.mp.injEq, AV.int.injEq, AV.str.injEq, AV.bool.injEq, AV.lst.injEq, AV.agg.injEq, AV.tup.injEq, List.cons.injEq, true_and, and_true] at h
 exact h⟩
def ress : List (Nat × CodR) := [(30, ⟨R30.T, R30.enc⟩), (48, ⟨R48.T, R48.enc⟩), (49, ⟨R49.T, R49.enc⟩), (50, ⟨R50.T, R50.enc⟩), (51, ⟨R51.T, R51.enc⟩), (69, ⟨R69.T, R69.enc⟩), (96, ⟨R96.T, R96.enc⟩), (97, ⟨R97.T, R97.enc⟩)]
def cods : Cods := { elem := findC elems, val := findC vals, res := findC ress }
abbrev E30.T : Type := Int
def E30 : E30.T → Out := (fun x : R30.T => ((R30.enc x, []) : Out))
instance : Inj E30 := ⟨fun a b h => by
 simp only [E30, Prod.mk.injEq, and_true] at h
 exact Inj.inj _ _ h⟩
noncomputable def r30 (b0 : List Int) : Option Out := Rn 30 [(.pv (.lst 1 (List.map (eInt .u64) b0)))] []
noncomputable def f30 (b0 : List Int) : Option Int := dec E30 (r30 b0)
theorem s30 {b0 : List Int} : Imp E30 (r30 b0) (f30 b0) := dec_imp _ _
noncomputable def h30_3 (n3 : Int) (v6 : List Int) (v7 : Int) (v8 : Int) : Option Out := headT P cods H prim 30 3 [] [(3, (.pv (.int .i64 n3))), (6, (.pv (.lst 1 (List.map (eInt .u64) v6)))), (7, (.pv (.int .i64 v7))), (8, (.pv (.int .i64 v8)))] []
noncomputable def t30_3 (n3 : Int) (v6 : List Int) (v7 : Int) (v8 : Int) : Option Int := dec E30 (h30_3 n3 v6 v7 v8)
theorem q30_3 {n3 : Int} {v6 : List Int} {v7 : Int} {v8 : Int} : Imp E30 (h30_3 n3 v6 v7 v8) (t30_3 n3 v6 v7 v8) := dec_imp _ _
abbrev E48.T : Type := Int
def E48 : E48.T → Out := (fun x : R48.T => ((R48.enc x, []) : Out))
instance : Inj E48 := ⟨fun a b h => by
 simp only [E48, Prod.mk.injEq, and_true] at h
 exact Inj.inj _ _ h⟩
noncomputable def r48 (a0 : Coded) (b1 : Coded) : Option Out := Rn 48 [(.pv (.agg (Coded.enc a0))), (.pv (.agg (Coded.enc b1)))] []
noncomputable def f48 (a0 : Coded) (b1 : Coded) : Option Int := dec E48 (r48 a0 b1)
theorem s48 {a0 : Coded} {b1 : Coded} : Imp E48 (r48 a0 b1) (f48 a0 b1) := dec_imp _ _
abbrev E49.T : Type := Int
def E49 : E49.T → Out := (fun x : R49.T => ((R49.enc x, []) : Out))
instance : Inj E49 := ⟨fun a b h => by
 simp only [E49, Prod.mk.injEq, and_true] at h
 exact Inj.inj _ _ h⟩
noncomputable def r49 (vals0 : List Int) : Option Out := Rn 49 [(.pv (.lst 1 (List.map (eInt .i64) vals0)))] []
noncomputable def f49 (vals0 : List Int) : Option Int := dec E49 (r49 vals0)
theorem s49 {vals0 : List Int} : Imp E49 (r49 vals0) (f49 vals0) := dec_imp _ _
noncomputable def h49_3 (zero3 : Int) (v6 : List Int) (v7 : Int) (v8 : Int) : Option Out := headT P cods H prim 49 3 [] [(3, (.pv (.int .i64 zero3))), (6, (.pv (.lst 1 (List.map (eInt .i64) v6)))), (7, (.pv (.int .i64 v7))), (8, (.pv (.int .i64 v8)))] []
noncomputable def t49_3 (zero3 : Int) (v6 : List Int) (v7 : Int) (v8 : Int) : Option Int := dec E49 (h49_3 zero3 v6 v7 v8)
theorem q49_3 {zero3 : Int} {v6 : List Int} {v7 : Int} {v8 : Int} : Imp E49 (h49_3 zero3 v6 v7 v8) (t49_3 zero3 v6 v7 v8) := dec_imp _ _
abbrev E50.T : Type := Int
def E50 : E50.T → Out := (fun x : R50.T => ((R50.enc x, []) : Out))
instance : Inj E50 := ⟨fun a b h => by
 simp only [E50, Prod.mk.injEq, and_true] at h
 exact Inj.inj _ _ h⟩
noncomputable def r50 (x0 : Int) (y1 : Int) : Option Out := Rn 50 [(.pv (.int .i64 x0)), (.pv (.int .i64 y1))] []
noncomputable def f50 (x0 : Int) (y1 : Int) : Option Int := dec E50 (r50 x0 y1)
theorem s50 {x0 : Int} {y1 : Int} : Imp E50 (r50 x0 y1) (f50 x0 y1) := dec_imp _ _
abbrev E51.T : Type := Int
def E51 : E51.T → Out := (fun x : R51.T => ((R51.enc x, []) : Out))
instance : Inj E51 := ⟨fun a b h => by
 simp only [E51, Prod.mk.injEq, and_true] at h
 exact Inj.inj _ _ h⟩
noncomputable def r51 (x0 : List UInt8) (y1 : List UInt8) : Option Out := Rn 51 [(.pv (.str x0)), (.pv (.str y1))] []
noncomputable def f51 (x0 : List UInt8) (y1 : List UInt8) : Option Int := dec E51 (r51 x0 y1)
theorem s51 {x0 : List UInt8} {y1 : List UInt8} : Imp E51 (r51 x0 y1) (f51 x0 y1) := dec_imp _ _
abbrev E69.T : Type := Int
def E69 : E69.T → Out := (fun x : R69.T => ((R69.enc x, []) : Out))
instance : Inj E69 := ⟨fun a b h => by
 simp only [E69, Prod.mk.injEq, and_true] at h
 exact Inj.inj _ _ h⟩
noncomputable def r69 (x0 : Int) : Option Out := Rn 69 [(.pv (.int .u64 x0))] []
noncomputable def f69 (x0 : Int) : Option Int := dec E69 (r69 x0)
theorem s69 {x0 : Int} : Imp E69 (r69 x0) (f69 x0) := dec_imp _ _
abbrev E96.T : Type := Bool
def E96 : E96.T → Out := (fun x : R96.T => ((R96.enc x, []) : Out))
instance : Inj E96 := ⟨fun a b h => by
 simp only [E96, Prod.mk.injEq, and_true] at h
 exact Inj.inj _ _ h⟩
noncomputable def r96 (x0 : Int) : Option Out := Rn 96 [(.pv (.int .i64 x0))] []
noncomputable def f96 (x0 : Int) : Option Bool := dec E96 (r96 x0)
theorem s96 {x0 : Int} : Imp E96 (r96 x0) (f96 x0) := dec_imp _ _
abbrev E97.T : Type := Bool
def E97 : E97.T → Out := (fun x : R97.T => ((R97.enc x, []) : Out))
instance : Inj E97 := ⟨fun a b h => by
 simp only [E97, Prod.mk.injEq, and_true] at h
 exact Inj.inj _ _ h⟩
noncomputable def r97 (x0 : List UInt8) : Option Out := Rn 97 [(.pv (.str x0))] []
noncomputable def f97 (x0 : List UInt8) : Option Bool := dec E97 (r97 x0)
theorem s97 {x0 : List UInt8} : Imp E97 (r97 x0) (f97 x0) := dec_imp _ _
theorem e30 (b0 : List Int) {r : Int}
 (h : (
 t30_3 0 b0 (List.length b0 : Int) 0 : Option Int) = some r) :
 f30 b0 = some r :=
 lift2 (E := E30) h (
 (show Imp E30 (headT P cods H prim 30 3 [] [(3, (.pv (.int .i64 0))), (6, (.pv (.lst 1 (List.map (eInt .u64) b0)))), (7, (.pv (.int .i64 (List.length (List.map (eInt .u64) b0) : Int)))), (8, (.pv (.int .i64 0)))] []) (t30_3 0 b0 (List.length b0 : Int) 0) from fun _ h => by simpa only [h30_3, List.length_map] using q30_3 _ h))
 (by kernel_rfl) (fun h => run_body (C := cods) rfl h)
theorem k30_3 (n3 : Int) (v6 : List Int) (v7 : Int) (v8 : Int) {r : Int}
 (h : (
 bif (decide (v8 < v7)) then (
 getK v6 v8 fun x201 =>
 Option.bind (f69 x201) fun y203 =>
 t30_3 (IntKind.wrap .i64 (n3 + y203)) v6 v7 (IntKind.wrap .i64 (v8 + 1)))
 else (
 some n3) : Option Int) = some r) :
 t30_3 n3 v6 v7 v8 = some r :=
 lift2 (E := E30) h (
 I_cond rfl (
 I_getK (enc := (eInt .u64)) rfl fun x201 =>
 I_call (enc := R69.enc) s69 fun y203 =>
 q30_3) (
 I_some rfl))
 (by kernel_rfl) (fun h => head_round h)
theorem e48 (a0 : Coded) (b1 : Coded) {r : Int}
 (h : (
 Option.bind (f30 b1.Code) fun y201 =>
 Option.bind (f30 a0.Code) fun y203 =>
 Option.bind (f50 y201 y203) fun y205 =>
 Option.bind (f51 a0.Name b1.Name) fun y207 =>
 Option.bind (f49 [y205, y207]) fun y209 =>
 some y209 : Option Int) = some r) :
 f48 a0 b1 = some r :=
 lift2 (E := E48) h (
 I_call (enc := R30.enc) s30 fun y201 =>
 I_call (enc := R30.enc) s30 fun y203 =>
 I_call (enc := R50.enc) s50 fun y205 =>
 I_call (enc := R51.enc) s51 fun y207 =>
 I_call (enc := R49.enc) s49 fun y209 =>
 I_some rfl)
 (by kernel_rfl) (fun h => run_body (C := cods) rfl h)
theorem e49 (vals0 : List Int) {r : Int}
 (h : (
 t49_3 0 vals0 (List.length vals0 : Int) 0 : Option Int) = some r) :
 f49 vals0 = some r :=
 lift2 (E := E49) h (
 (show Imp E49 (headT P cods H prim 49 3 [] [(3, (.pv (.int .i64 0))), (6, (.pv (.lst 1 (List.map (eInt .i64) vals0)))), (7, (.pv (.int .i64 (List.length (List.map (eInt .i64) vals0) : Int)))), (8, (.pv (.int .i64 0)))] []) (t49_3 0 vals0 (List.length vals0 : Int) 0) from fun _ h => by simpa only [h49_3, List.length_map] using q49_3 _ h))
 (by kernel_rfl) (fun h => run_body (C := cods) rfl h)
theorem k49_3 (zero3 : Int) (v6 : List Int) (v7 : Int) (v8 : Int) {r : Int}
 (h : (
 bif (decide (v8 < v7)) then (
 getK v6 v8 fun x201 =>
 bif (x201 != zero3) then (
 some x201)
 else (
 t49_3 zero3 v6 v7 (IntKind.wrap .i64 (v8 + 1))))
 else (
 some zero3) : Option Int) = some r) :
 t49_3 zero3 v6 v7 v8 = some r :=
 lift2 (E := E49) h (
 I_cond rfl (
 I_getK (enc := (eInt .i64)) rfl fun x201 =>
 I_cond rfl (
 I_some rfl) (
 q49_3)) (
 I_some rfl))
 (by kernel_rfl) (fun h => head_round h)
theorem e50 (x0 : Int) (y1 : Int) {r : Int}
 (h : (
 Option.bind (f96 x0) fun y201 =>
 Option.bind (f96 y1) fun y203 =>
 bif y201 then (
 bif y203 then (
 some 0)
 else (
 some (-1)))
 else (
 bif y203 then (
 some 1)
 else (
 bif (decide (x0 < y1)) then (
 some (-1))
 else (
 bif (decide (x0 > y1)) then (
 some 1)
 else (
 some 0)))) : Option Int) = some r) :
 f50 x0 y1 = some r :=
 lift2 (E := E50) h (
 I_call (enc := R96.enc) s96 fun y201 =>
 I_call (enc := R96.enc) s96 fun y203 =>
 I_cond rfl (
 I_cond rfl (
 I_some rfl) (
 I_some rfl)) (
 I_cond rfl (
 I_some rfl) (
 I_cond rfl (
 I_some rfl) (
 I_cond rfl (
 I_some rfl) (
 I_some rfl)))))
 (by kernel_rfl) (fun h => run_body (C := cods) rfl h)
theorem e51 (x0 : List UInt8) (y1 : List UInt8) {r : Int}
 (h : (
 Option.bind (f97 x0) fun y201 =>
 Option.bind (f97 y1) fun y203 =>
 bif y201 then (
 bif y203 then (
 some 0)
 else (
 some (-1)))
 else (
 bif y203 then (
 some 1)
 else (
 bif (Op.bytesLess x0 y1) then (
 some (-1))
 else (
 bif (!(Op.bytesLess x0 y1 || x0 == y1)) then (
 some 1)
 else (
 some 0)))) : Option Int) = some r) :
 f51 x0 y1 = some r :=
 lift2 (E := E51) h (
 I_call (enc := R97.enc) s97 fun y201 =>
 I_call (enc := R97.enc) s97 fun y203 =>
 I_cond rfl (
 I_cond rfl (
 I_some rfl) (
 I_some rfl)) (
 I_cond rfl (
 I_some rfl) (
 I_cond rfl (
 I_some rfl) (
 I_cond rfl (
 I_some rfl) (
 I_some rfl)))))
 (by kernel_rfl) (fun h => run_body (C := cods) rfl h)
theorem e69 (x0 : Int) {r : Int}
 (h : (
 check (0 ≤ 1) (
 check (0 ≤ 2) (
 check (0 ≤ 4) (
 check (0 ≤ 8) (
 check (0 ≤ 16) (
 check (0 ≤ 32) (
 some (IntKind.wrap .i64 ((BitVec.ofInt (IntKind.bits .i64) (IntKind.wrap .i64 ((IntKind.wrap .u64 ((IntKind.wrap .u64 ((IntKind.wrap .u64 ((IntKind.wrap .u64 ((BitVec.ofInt (IntKind.bits .u64) (IntKind.wrap .u64 ((Int.fdiv (IntKind.wrap .u64 ((IntKind.wrap .u64 ((BitVec.ofInt (IntKind.bits .u64) (Int.fdiv (IntKind.wrap .u64 ((IntKind.wrap .u64 ((BitVec.ofInt (IntKind.bits .u64) (Int.fdiv x0 (2 ^ min (Int.toNat 1) (IntKind.bits .u64))) &&& BitVec.ofInt (IntKind.bits .u64) 6148914691236517205).toNat : Int)) + (IntKind.wrap .u64 ((BitVec.ofInt (IntKind.bits .u64) x0 &&& BitVec.ofInt (IntKind.bits .u64) 6148914691236517205).toNat : Int)))) (2 ^ min (Int.toNat 2) (IntKind.bits .u64))) &&& BitVec.ofInt (IntKind.bits .u64) 3689348814741910323).toNat : Int)) + (IntKind.wrap .u64 ((BitVec.ofInt (IntKind.bits .u64) (IntKind.wrap .u64 ((IntKind.wrap .u64 ((BitVec.ofInt (IntKind.bits .u64) (Int.fdiv x0 (2 ^ min (Int.toNat 1) (IntKind.bits .u64))) &&& BitVec.ofInt (IntKind.bits .u64) 6148914691236517205).toNat : Int)) + (IntKind.wrap .u64 ((BitVec.ofInt (IntKind.bits .u64) x0 &&& BitVec.ofInt (IntKind.bits .u64) 6148914691236517205).toNat : Int)))) &&& BitVec.ofInt (IntKind.bits .u64) 3689348814741910323).toNat : Int)))) (2 ^ min (Int.toNat 4) (IntKind.bits .u64))) + (IntKind.wrap .u64 ((IntKind.wrap .u64 ((BitVec.ofInt (IntKind.bits .u64) (Int.fdiv (IntKind.wrap .u64 ((IntKind.wrap .u64 ((BitVec.ofInt (IntKind.bits .u64) (Int.fdiv x0 (2 ^ min (Int.toNat 1) (IntKind.bits .u64))) &&& BitVec.ofInt (IntKind.bits .u64) 6148914691236517205).toNat : Int)) + (IntKind.wrap .u64 ((BitVec.ofInt (IntKind.bits .u64) x0 &&& BitVec.ofInt (IntKind.bits .u64) 6148914691236517205).toNat : Int)))) (2 ^ min (Int.toNat 2) (IntKind.bits .u64))) &&& BitVec.ofInt (IntKind.bits .u64) 3689348814741910323).toNat : Int)) + (IntKind.wrap .u64 ((BitVec.ofInt (IntKind.bits .u64) (IntKind.wrap .u64 ((IntKind.wrap .u64 ((BitVec.ofInt (IntKind.bits .u64) (Int.fdiv x0 (2 ^ min (Int.toNat 1) (IntKind.bits .u64))) &&& BitVec.ofInt (IntKind.bits .u64) 6148914691236517205).toNat : Int)) + (IntKind.wrap .u64 ((BitVec.ofInt (IntKind.bits .u64) x0 &&& BitVec.ofInt (IntKind.bits .u64) 6148914691236517205).toNat : Int)))) &&& BitVec.ofInt (IntKind.bits .u64) 3689348814741910323).toNat : Int)))))) &&& BitVec.ofInt (IntKind.bits .u64) 1085102592571150095).toNat : Int)) + (Int.fdiv (IntKind.wrap .u64 ((BitVec.ofInt (IntKind.bits .u64) (IntKind.wrap .u64 ((Int.fdiv (IntKind.wrap .u64 ((IntKind.wrap .u64 ((BitVec.ofInt (IntKind.bits .u64) (Int.fdiv (IntKind.wrap .u64 ((IntKind.wrap .u64 ((BitVec.ofInt (IntKind.bits .u64) (Int.fdiv x0 (2 ^ min (Int.toNat 1) (IntKind.bits .u64))) &&& BitVec.ofInt (IntKind.bits .u64) 6148914691236517205).toNat : Int)) + (IntKind.wrap .u64 ((BitVec.ofInt (IntKind.bits .u64) x0 &&& BitVec.ofInt (IntKind.bits .u64) 6148914691236517205).toNat : Int)))) (2 ^ min (Int.toNat 2) (IntKind.bits .u64))) &&& BitVec.ofInt (IntKind.bits .u64) 3689348814741910323).toNat : Int)) + (IntKind.wrap .u64 ((BitVec.ofInt (IntKind.bits .u64) (IntKind.wrap .u64 ((IntKind.wrap .u64 ((BitVec.ofInt (IntKind.bits .u64) (Int.fdiv x0 (2 ^ min (Int.toNat 1) (IntKind.bits .u64))) &&& BitVec.ofInt (IntKind.bits .u64) 6148914691236517205).toNat : Int)) + (IntKind.wrap .u64 ((BitVec.ofInt (IntKind.bits .u64) x0 &&& BitVec.ofInt (IntKind.bits .u64) 6148914691236517205).toNat : Int)))) &&& BitVec.ofInt (IntKind.bits .u64) 3689348814741910323).toNat : Int)))) (2 ^ min (Int.toNat 4) (IntKind.bits .u64))) + (IntKind.wrap .u64 ((IntKind.wrap .u64 ((BitVec.ofInt (IntKind.bits .u64) (Int.fdiv (IntKind.wrap .u64 ((IntKind.wrap .u64 ((BitVec.ofInt (IntKind.bits .u64) (Int.fdiv x0 (2 ^ min (Int.toNat 1) (IntKind.bits .u64))) &&& BitVec.ofInt (IntKind.bits .u64) 6148914691236517205).toNat : Int)) + (IntKind.wrap .u64 ((BitVec.ofInt (IntKind.bits .u64) x0 &&& BitVec.ofInt (IntKind.bits .u64) 6148914691236517205).toNat : Int)))) (2 ^ min (Int.toNat 2) (IntKind.bits .u64))) &&& BitVec.ofInt (IntKind.bits .u64) 3689348814741910323).toNat : Int)) + (IntKind.wrap .u64 ((BitVec.ofInt (IntKind.bits .u64) (IntKind.wrap .u64 ((IntKind.wrap .u64 ((BitVec.ofInt (IntKind.bits .u64) (Int.fdiv x0 (2 ^ min (Int.toNat 1) (IntKind.bits .u64))) &&& BitVec.ofInt (IntKind.bits .u64) 6148914691236517205).toNat : Int)) + (IntKind.wrap .u64 ((BitVec.ofInt (IntKind.bits .u64) x0 &&& BitVec.ofInt (IntKind.bits .u64) 6148914691236517205).toNat : Int)))) &&& BitVec.ofInt (IntKind.bits .u64) 3689348814741910323).toNat : Int)))))) &&& BitVec.ofInt (IntKind.bits .u64) 1085102592571150095).toNat : Int)) (2 ^ min (Int.toNat 8) (IntKind.bits .u64))))) + (Int.fdiv (IntKind.wrap .u64 ((IntKind.wrap .u64 ((BitVec.ofInt (IntKind.bits .u64) (IntKind.wrap .u64 ((Int.fdiv (IntKind.wrap .u64 ((IntKind.wrap .u64 ((BitVec.ofInt (IntKind.bits .u64) (Int.fdiv (IntKind.wrap .u64 ((IntKind.wrap .u64 ((BitVec.ofInt (IntKind.bits .u64) (Int.fdiv x0 (2 ^ min (Int.toNat 1) (IntKind.bits .u64))) &&& BitVec.ofInt (IntKind.bits .u64) 6148914691236517205).toNat : Int)) + (IntKind.wrap .u64 ((BitVec.ofInt (IntKind.bits .u64) x0 &&& BitVec.ofInt (IntKind.bits .u64) 6148914691236517205).toNat : Int)))) (2 ^ min (Int.toNat 2) (IntKind.bits .u64))) &&& BitVec.ofInt (IntKind.bits .u64) 3689348814741910323).toNat : Int)) + (IntKind.wrap .u64 ((BitVec.ofInt (IntKind.bits .u64) (IntKind.wrap .u64 ((IntKind.wrap .u64 ((BitVec.ofInt (IntKind.bits .u64) (Int.fdiv x0 (2 ^ min (Int.toNat 1) (IntKind.bits .u64))) &&& BitVec.ofInt (IntKind.bits .u64) 6148914691236517205).toNat : Int)) + (IntKind.wrap .u64 ((BitVec.ofInt (IntKind.bits .u64) x0 &&& BitVec.ofInt (IntKind.bits .u64) 6148914691236517205).toNat : Int)))) &&& BitVec.ofInt (IntKind.bits .u64) 3689348814741910323).toNat : Int)))) (2 ^ min (Int.toNat 4) (IntKind.bits .u64))) + (IntKind.wrap .u64 ((IntKind.wrap .u64 ((BitVec.ofInt (IntKind.bits .u64) (Int.fdiv (IntKind.wrap .u64 ((IntKind.wrap .u64 ((BitVec.ofInt (IntKind.bits .u64) (Int.fdiv x0 (2 ^ min (Int.toNat 1) (IntKind.bits .u64))) &&& BitVec.ofInt (IntKind.bits .u64) 6148914691236517205).toNat : Int)) + (IntKind.wrap .u64 ((BitVec.ofInt (IntKind.bits .u64) x0 &&& BitVec.ofInt (IntKind.bits .u64) 6148914691236517205).toNat : Int)))) (2 ^ min (Int.toNat 2) (IntKind.bits .u64))) &&& BitVec.ofInt (IntKind.bits .u64) 3689348814741910323).toNat : Int)) + (IntKind.wrap .u64 ((BitVec.ofInt (IntKind.bits .u64) (IntKind.wrap .u64 ((IntKind.wrap .u64 ((BitVec.ofInt (IntKind.bits .u64) (Int.fdiv x0 (2 ^ min (Int.toNat 1) (IntKind.bits .u64))) &&& BitVec.ofInt (IntKind.bits .u64) 6148914691236517205).toNat : Int)) + (IntKind.wrap .u64 ((BitVec.ofInt (IntKind.bits .u64) x0 &&& BitVec.ofInt (IntKind.bits .u64) 6148914691236517205).toNat : Int)))) &&& BitVec.ofInt (IntKind.bits .u64) 3689348814741910323).toNat : Int)))))) &&& BitVec.ofInt (IntKind.bits .u64) 1085102592571150095).toNat : Int)) + (Int.fdiv (IntKind.wrap .u64 ((BitVec.ofInt (IntKind.bits .u64) (IntKind.wrap .u64 ((Int.fdiv (IntKind.wrap .u64 ((IntKind.wrap .u64 ((BitVec.ofInt (IntKind.bits .u64) (Int.fdiv (IntKind.wrap .u64 ((IntKind.wrap .u64 ((BitVec.ofInt (IntKind.bits .u64) (Int.fdiv x0 (2 ^ min (Int.toNat 1) (IntKind.bits .u64))) &&& BitVec.ofInt (IntKind.bits .u64) 6148914691236517205).toNat : Int)) + (IntKind.wrap .u64 ((BitVec.ofInt (IntKind.bits .u64) x0 &&& BitVec.ofInt (IntKind.bits .u64) 6148914691236517205).toNat : Int)))) (2 ^ min (Int.toNat 2) (IntKind.bits .u64))) &&& BitVec.ofInt (IntKind.bits .u64) 3689348814741910323).toNat : Int)) + (IntKind.wrap .u64 ((BitVec.ofInt (IntKind.bits .u64) (IntKind.wrap .u64 ((IntKind.wrap .u64 ((BitVec.ofInt (IntKind.bits .u64) (Int.fdiv x0 (2 ^ min (Int.toNat 1) (IntKind.bits .u64))) &&& BitVec.ofInt (IntKind.bits .u64) 6148914691236517205).toNat : Int)) + (IntKind.wrap .u64 ((BitVec.ofInt (IntKind.bits .u64) x0 &&& BitVec.ofInt (IntKind.bits .u64) 6148914691236517205).toNat : Int)))) &&& BitVec.ofInt (IntKind.bits .u64) 3689348814741910323).toNat : Int)))) (2 ^ min (Int.toNat 4) (IntKind.bits .u64))) + (IntKind.wrap .u64 ((IntKind.wrap .u64 ((BitVec.ofInt (IntKind.bits .u64) (Int.fdiv (IntKind.wrap .u64 ((IntKind.wrap .u64 ((BitVec.ofInt (IntKind.bits .u64) (Int.fdiv x0 (2 ^ min (Int.toNat 1) (IntKind.bits .u64))) &&& BitVec.ofInt (IntKind.bits .u64) 6148914691236517205).toNat : Int)) + (IntKind.wrap .u64 ((BitVec.ofInt (IntKind.bits .u64) x0 &&& BitVec.ofInt (IntKind.bits .u64) 6148914691236517205).toNat : Int)))) (2 ^ min (Int.toNat 2) (IntKind.bits .u64))) &&& BitVec.ofInt (IntKind.bits .u64) 3689348814741910323).toNat : Int)) + (IntKind.wrap .u64 ((BitVec.ofInt (IntKind.bits .u64) (IntKind.wrap .u64 ((IntKind.wrap .u64 ((BitVec.ofInt (IntKind.bits .u64) (Int.fdiv x0 (2 ^ min (Int.toNat 1) (IntKind.bits .u64))) &&& BitVec.ofInt (IntKind.bits .u64) 6148914691236517205).toNat : Int)) + (IntKind.wrap .u64 ((BitVec.ofInt (IntKind.bits .u64) x0 &&& BitVec.ofInt (IntKind.bits .u64) 6148914691236517205).toNat : Int)))) &&& BitVec.ofInt (IntKind.bits .u64) 3689348814741910323).toNat : Int)))))) &&& BitVec.ofInt (IntKind.bits .u64) 1085102592571150095).toNat : Int)) (2 ^ min (Int.toNat 8) (IntKind.bits .u64))))) (2 ^ min (Int.toNat 16) (IntKind.bits .u64))))) + (Int.fdiv (IntKind.wrap .u64 ((IntKind.wrap .u64 ((IntKind.wrap .u64 ((BitVec.ofInt (IntKind.bits .u64) (IntKind.wrap .u64 ((Int.fdiv (IntKind.wrap .u64 ((IntKind.wrap .u64 ((BitVec.ofInt (IntKind.bits .u64) (Int.fdiv (IntKind.wrap .u64 ((IntKind.wrap .u64 ((BitVec.ofInt (IntKind.bits .u64) (Int.fdiv x0 (2 ^ min (Int.toNat 1) (IntKind.bits .u64))) &&& BitVec.ofInt (IntKind.bits .u64) 6148914691236517205).toNat : Int)) + (IntKind.wrap .u64 ((BitVec.ofInt (IntKind.bits .u64) x0 &&& BitVec.ofInt (IntKind.bits .u64) 6148914691236517205).toNat : Int)))) (2 ^ min (Int.toNat 2) (IntKind.bits .u64))) &&& BitVec.ofInt (IntKind.bits .u64) 3689348814741910323).toNat : Int)) + (IntKind.wrap .u64 ((BitVec.ofInt (IntKind.bits .u64) (IntKind.wrap .u64 ((IntKind.wrap .u64 ((BitVec.ofInt (IntKind.bits .u64) (Int.fdiv x0 (2 ^ min (Int.toNat 1) (IntKind.bits .u64))) &&& BitVec.ofInt (IntKind.bits .u64) 6148914691236517205).toNat : Int)) + (IntKind.wrap .u64 ((BitVec.ofInt (IntKind.bits .u64) x0 &&& BitVec.ofInt (IntKind.bits .u64) 6148914691236517205).toNat : Int)))) &&& BitVec.ofInt (IntKind.bits .u64) 3689348814741910323).toNat : Int)))) (2 ^ min (Int.toNat 4) (IntKind.bits .u64))) + (IntKind.wrap .u64 ((IntKind.wrap .u64 ((BitVec.ofInt (IntKind.bits .u64) (Int.fdiv (IntKind.wrap .u64 ((IntKind.wrap .u64 ((BitVec.ofInt (IntKind.bits .u64) (Int.fdiv x0 (2 ^ min (Int.toNat 1) (IntKind.bits .u64))) &&& BitVec.ofInt (IntKind.bits .u64) 6148914691236517205).toNat : Int)) + (IntKind.wrap .u64 ((BitVec.ofInt (IntKind.bits .u64) x0 &&& BitVec.ofInt (IntKind.bits .u64) 6148914691236517205).toNat : Int)))) (2 ^ min (Int.toNat 2) (IntKind.bits .u64))) &&& BitVec.ofInt (IntKind.bits .u64) 3689348814741910323).toNat : Int)) + (IntKind.wrap .u64 ((BitVec.ofInt (IntKind.bits .u64) (IntKind.wrap .u64 ((IntKind.wrap .u64 ((BitVec.ofInt (IntKind.bits .u64) (Int.fdiv x0 (2 ^ min (Int.toNat 1) (IntKind.bits .u64))) &&& BitVec.ofInt (IntKind.bits .u64) 6148914691236517205).toNat : Int)) + (IntKind.wrap .u64 ((BitVec.ofInt (IntKind.bits .u64) x0 &&& BitVec.ofInt (IntKind.bits .u64) 6148914691236517205).toNat : Int)))) &&& BitVec.ofInt (IntKind.bits .u64) 3689348814741910323).toNat : Int)))))) &&& BitVec.ofInt (IntKind.bits .u64) 1085102592571150095).toNat : Int)) + (Int.fdiv (IntKind.wrap .u64 ((BitVec.ofInt (IntKind.bits .u64) (IntKind.wrap .u64 ((Int.fdiv (IntKind.wrap .u64 ((IntKind.wrap .u64 ((BitVec.ofInt (IntKind.bits .u64) (Int.fdiv (IntKind.wrap .u64 ((IntKind.wrap .u64 ((BitVec.ofInt (IntKind.bits .u64) (Int.fdiv x0 (2 ^ min (Int.toNat 1) (IntKind.bits .u64))) &&& BitVec.ofInt (IntKind.bits .u64) 6148914691236517205).toNat : Int)) + (IntKind.wrap .u64 ((BitVec.ofInt (IntKind.bits .u64) x0 &&& BitVec.ofInt (IntKind.bits .u64) 6148914691236517205).toNat : Int)))) (2 ^ min (Int.toNat 2) (IntKind.bits .u64))) &&& BitVec.ofInt (IntKind.bits .u64) 3689348814741910323).toNat : Int)) + (IntKind.wrap .u64 ((BitVec.ofInt (IntKind.bits .u64) (IntKind.wrap .u64 ((IntKind.wrap .u64 ((BitVec.ofInt (IntKind.bits .u64) (Int.fdiv x0 (2 ^ min (Int.toNat 1) (IntKind.bits .u64))) &&& BitVec.ofInt (IntKind.bits .u64) 6148914691236517205).toNat : Int)) + (IntKind.wrap .u64 ((BitVec.ofInt (IntKind.bits .u64) x0 &&& BitVec.ofInt (IntKind.bits .u64) 6148914691236517205).toNat : Int)))) &&& BitVec.ofInt (IntKind.bits .u64) 3689348814741910323).toNat : Int)))) (2 ^ min (Int.toNat 4) (IntKind.bits .u64))) + (IntKind.wrap .u64 ((IntKind.wrap .u64 ((BitVec.ofInt (IntKind.bits .u64) (Int.fdiv (IntKind.wrap .u64 ((IntKind.wrap .u64 ((BitVec.ofInt (IntKind.bits .u64) (Int.fdiv x0 (2 ^ min (Int.toNat 1) (IntKind.bits .u64))) &&& BitVec.ofInt (IntKind.bits .u64) 6148914691236517205).toNat : Int)) + (IntKind.wrap .u64 ((BitVec.ofInt (IntKind.bits .u64) x0 &&& BitVec.ofInt (IntKind.bits .u64) 6148914691236517205).toNat : Int)))) (2 ^ min (Int.toNat 2) (IntKind.bits .u64))) &&& BitVec.ofInt (IntKind.bits .u64) 3689348814741910323).toNat : Int)) + (IntKind.wrap .u64 ((BitVec.ofInt (IntKind.bits .u64) (IntKind.wrap .u64 ((IntKind.wrap .u64 ((BitVec.ofInt (IntKind.bits .u64) (Int.fdiv x0 (2 ^ min (Int.toNat 1) (IntKind.bits .u64))) &&& BitVec.ofInt (IntKind.bits .u64) 6148914691236517205).toNat : Int)) + (IntKind.wrap .u64 ((BitVec.ofInt (IntKind.bits .u64) x0 &&& BitVec.ofInt (IntKind.bits .u64) 6148914691236517205).toNat : Int)))) &&& BitVec.ofInt (IntKind.bits .u64) 3689348814741910323).toNat : Int)))))) &&& BitVec.ofInt (IntKind.bits .u64) 1085102592571150095).toNat : Int)) (2 ^ min (Int.toNat 8) (IntKind.bits .u64))))) + (Int.fdiv (IntKind.wrap .u64 ((IntKind.wrap .u64 ((BitVec.ofInt (IntKind.bits .u64) (IntKind.wrap .u64 ((Int.fdiv (IntKind.wrap .u64 ((IntKind.wrap .u64 ((BitVec.ofInt (IntKind.bits .u64) (Int.fdiv (IntKind.wrap .u64 ((IntKind.wrap .u64 ((BitVec.ofInt (IntKind.bits .u64) (Int.fdiv x0 (2 ^ min (Int.toNat 1) (IntKind.bits .u64))) &&& BitVec.ofInt (IntKind.bits .u64) 6148914691236517205).toNat : Int)) + (IntKind.wrap .u64 ((BitVec.ofInt (IntKind.bits .u64) x0 &&& BitVec.ofInt (IntKind.bits .u64) 6148914691236517205).toNat : Int)))) (2 ^ min (Int.toNat 2) (IntKind.bits .u64))) &&& BitVec.ofInt (IntKind.bits .u64) 3689348814741910323).toNat : Int)) + (IntKind.wrap .u64 ((BitVec.ofInt (IntKind.bits .u64) (IntKind.wrap .u64 ((IntKind.wrap .u64 ((BitVec.ofInt (IntKind.bits .u64) (Int.fdiv x0 (2 ^ min (Int.toNat 1) (IntKind.bits .u64))) &&& BitVec.ofInt (IntKind.bits .u64) 6148914691236517205).toNat : Int)) + (IntKind.wrap .u64 ((BitVec.ofInt (IntKind.bits .u64) x0 &&& BitVec.ofInt (IntKind.bits .u64) 6148914691236517205).toNat : Int)))) &&& BitVec.ofInt (IntKind.bits .u64) 3689348814741910323).toNat : Int)))) (2 ^ min (Int.toNat 4) (IntKind.bits .u64))) + (IntKind.wrap .u64 ((IntKind.wrap .u64 ((BitVec.ofInt (IntKind.bits .u64) (Int.fdiv (IntKind.wrap .u64 ((IntKind.wrap .u64 ((BitVec.ofInt (IntKind.bits .u64) (Int.fdiv x0 (2 ^ min (Int.toNat 1) (IntKind.bits .u64))) &&& BitVec.ofInt (IntKind.bits .u64) 6148914691236517205).toNat : Int)) + (IntKind.wrap .u64 ((BitVec.ofInt (IntKind.bits .u64) x0 &&& BitVec.ofInt (IntKind.bits .u64) 6148914691236517205).toNat : Int)))) (2 ^ min (Int.toNat 2) (IntKind.bits .u64))) &&& BitVec.ofInt (IntKind.bits .u64) 3689348814741910323).toNat : Int)) + (IntKind.wrap .u64 ((BitVec.ofInt (IntKind.bits .u64) (IntKind.wrap .u64 ((IntKind.wrap .u64 ((BitVec.ofInt (IntKind.bits .u64) (Int.fdiv x0 (2 ^ min (Int.toNat 1) (IntKind.bits .u64))) &&& BitVec.ofInt (IntKind.bits .u64) 6148914691236517205).toNat : Int)) + (IntKind.wrap .u64 ((BitVec.ofInt (IntKind.bits .u64) x0 &&& BitVec.ofInt (IntKind.bits .u64) 6148914691236517205).toNat : Int)))) &&& BitVec.ofInt (IntKind.bits .u64) 3689348814741910323).toNat : Int)))))) &&& BitVec.ofInt (IntKind.bits .u64) 1085102592571150095).toNat : Int)) + (Int.fdiv (IntKind.wrap .u64 ((BitVec.ofInt (IntKind.bits .u64) (IntKind.wrap .u64 ((Int.fdiv (IntKind.wrap .u64 ((IntKind.wrap .u64 ((BitVec.ofInt (IntKind.bits .u64) (Int.fdiv (IntKind.wrap .u64 ((IntKind.wrap .u64 ((BitVec.ofInt (IntKind.bits .u64) (Int.fdiv x0 (2 ^ min (Int.toNat 1) (IntKind.bits .u64))) &&& BitVec.ofInt (IntKind.bits .u64) 6148914691236517205).toNat : Int)) + (IntKind.wrap .u64 ((BitVec.ofInt (IntKind.bits .u64) x0 &&& BitVec.ofInt (IntKind.bits .u64) 6148914691236517205).toNat : Int)))) (2 ^ min (Int.toNat 2) (IntKind.bits .u64))) &&& BitVec.ofInt (IntKind.bits .u64) 3689348814741910323).toNat : Int)) + (IntKind.wrap .u64 ((BitVec.ofInt (IntKind.bits .u64) (IntKind.wrap .u64 ((IntKind.wrap .u64 ((BitVec.ofInt (IntKind.bits .u64) (Int.fdiv x0 (2 ^ min (Int.toNat 1) (IntKind.bits .u64))) &&& BitVec.ofInt (IntKind.bits .u64) 6148914691236517205).toNat : Int)) + (IntKind.wrap .u64 ((BitVec.ofInt (IntKind.bits .u64) x0 &&& BitVec.ofInt (IntKind.bits .u64) 6148914691236517205).toNat : Int)))) &&& BitVec.ofInt (IntKind.bits .u64) 3689348814741910323).toNat : Int)))) (2 ^ min (Int.toNat 4) (IntKind.bits .u64))) + (IntKind.wrap .u64 ((IntKind.wrap .u64 ((BitVec.ofInt (IntKind.bits .u64) (Int.fdiv (IntKind.wrap .u64 ((IntKind.wrap .u64 ((BitVec.ofInt (IntKind.bits .u64) (Int.fdiv x0 (2 ^ min (Int.toNat 1) (IntKind.bits .u64))) &&& BitVec.ofInt (IntKind.bits .u64) 6148914691236517205).toNat : Int)) + (IntKind.wrap .u64 ((BitVec.ofInt (IntKind.bits .u64) x0 &&& BitVec.ofInt (IntKind.bits .u64) 6148914691236517205).toNat : Int)))) (2 ^ min (Int.toNat 2) (IntKind.bits .u64))) &&& BitVec.ofInt (IntKind.bits .u64) 3689348814741910323).toNat : Int)) + (IntKind.wrap .u64 ((BitVec.ofInt (IntKind.bits .u64) (IntKind.wrap .u64 ((IntKind.wrap .u64 ((BitVec.ofInt (IntKind.bits .u64) (Int.fdiv x0 (2 ^ min (Int.toNat 1) (IntKind.bits .u64))) &&& BitVec.ofInt (IntKind.bits .u64) 6148914691236517205).toNat : Int)) + (IntKind.wrap .u64 ((BitVec.ofInt (IntKind.bits .u64) x0 &&& BitVec.ofInt (IntKind.bits .u64) 6148914691236517205).toNat : Int)))) &&& BitVec.ofInt (IntKind.bits .u64) 3689348814741910323).toNat : Int)))))) &&& BitVec.ofInt (IntKind.bits .u64) 1085102592571150095).toNat : Int)) (2 ^ min (Int.toNat 8) (IntKind.bits .u64))))) (2 ^ min (Int.toNat 16) (IntKind.bits .u64))))) (2 ^ min (Int.toNat 32) (IntKind.bits .u64))))))) &&& BitVec.ofInt (IntKind.bits .i64) 127).toNat : Int)))))))) : Option Int) = some r) :
 f69 x0 = some r :=
 lift2 (E := E69) h (
 I_check id (
 I_check id (
 I_check id (
 I_check id (
 I_check id (
 I_check id (
 I_some rfl)))))))
 (by kernel_rfl) (fun h => run_body (C := cods) rfl h)
theorem e96 (x0 : Int) {r : Bool}
 (h : (
 some (x0 != x0) : Option Bool) = some r) :
 f96 x0 = some r :=
 lift2 (E := E96) h (
 I_some rfl)
 (by kernel_rfl) (fun h => run_body (C := cods) rfl h)
theorem e97 (x0 : List UInt8) {r : Bool}
 (h : (
 some (!(x0 == x0)) : Option Bool) = some r) :
 f97 x0 = some r :=
 lift2 (E := E97) h (
 I_some rfl)
 (by kernel_rfl) (fun h => run_body (C := cods) rfl h)
end Go.Proofs.YtneahmpmicoplaaGreatDoor.cl.cq
