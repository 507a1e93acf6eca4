/- The comparator of closure.Codes as a plain function, by prog. -/
import Derived.Test.YtfoddgpndoeeaaaGreatDoorClT
import Derived.Test.YtfoddgpndoeeaaaGreatDoorClPd
set_option linter.unusedVariables false
set_option linter.unusedSimpArgs false
set_option maxRecDepth 100000
namespace Go.Proofs.YtfoddgpndoeeaaaGreatDoor.cl.cq
open Go Go.AM
def dg:cQ:=fun _ _ _=>none
def Hq (f:Nat):Hint:=bif Nat.beq f 74 then {} else H f
noncomputable abbrev Rn:cQ:=run P Hq dg
def Q0:Int→AV:=(fun (x:Int)=>((.int .i64 x):AV))
instance:c4 Q0:=⟨fun a b h=>by
 simp only [Q0,AV.mp.injEq,AV.int.injEq,AV.str.injEq,AV.bool.injEq,AV.cE.injEq,AV.agg.injEq,AV.e9.injEq,List.cons.injEq,true_and,and_true] at h
 exact h⟩
def Q1:Bool→AV:=(fun (x:Bool)=>((.bool x):AV))
instance:c4 Q1:=⟨fun a b h=>by
 simp only [Q1,AV.mp.injEq,AV.int.injEq,AV.str.injEq,AV.bool.injEq,AV.cE.injEq,AV.agg.injEq,AV.e9.injEq,List.cons.injEq,true_and,and_true] at h
 exact h⟩
def TQ:List (Nat×gN):=[(22,⟨_,Q0⟩),(23,⟨_,Q0⟩),(24,⟨_,Q0⟩),(25,⟨_,Q0⟩),(26,⟨_,Q0⟩),(63,⟨_,Q1⟩),(64,⟨_,Q0⟩),(65,⟨_,Q1⟩)]
def nM:gW:={ elem:=y7 elems,val:=y7 vals,res:=y7 TQ }
noncomputable def f392 (a0 b1:aB):Option Int:=dec (EN Q0) (Rn 22 [(.pv (.agg (aB.enc a0))),(.pv (.agg (aB.enc b1)))] [])
noncomputable def f395 (vr:List Int):Option Int:=dec (EN Q0) (Rn 23 [(.pv (.cE 1 (List.map (aJ .i64) vr)))] [])
noncomputable def Ej (Cw:Int) (v6:List Int) (v7 v8:Int):Option Int:=dec (EN Q0) (xq P nM Hq dg 23 3 [] [(3,(.pv (.int .i64 Cw))),(6,(.pv (.cE 1 (List.map (aJ .i64) v6)))),(7,(.pv (.int .i64 v7))),(8,(.pv (.int .i64 v8)))] [])
noncomputable def f393 (x0 y1:Int):Option Int:=dec (EN Q0) (Rn 24 [(.pv (.int .i64 x0)),(.pv (.int .i64 y1))] [])
noncomputable def f30 (b0:List Int):Option Int:=dec (EN Q0) (Rn 25 [(.pv (.cE 1 (List.map (aJ .u64) b0)))] [])
noncomputable def Gz (n3:Int) (v6:List Int) (v7 v8:Int):Option Int:=dec (EN Q0) (xq P nM Hq dg 25 3 [] [(3,(.pv (.int .i64 n3))),(6,(.pv (.cE 1 (List.map (aJ .u64) v6)))),(7,(.pv (.int .i64 v7))),(8,(.pv (.int .i64 v8)))] [])
noncomputable def f394 (x0 y1:List UInt8):Option Int:=dec (EN Q0) (Rn 26 [(.pv (.str x0)),(.pv (.str y1))] [])
noncomputable def f396 (x0:Int):Option Bool:=dec (EN Q1) (Rn 63 [(.pv (.int .i64 x0))] [])
noncomputable def f69 (x0:Int):Option Int:=dec (EN Q0) (Rn 64 [(.pv (.int .u64 x0))] [])
noncomputable def f97 (x0:List UInt8):Option Bool:=dec (EN Q1) (Rn 65 [(.pv (.str x0))] [])
theorem e392 (a0 b1:aB) {r:Int}
 (h:(
 Option.bind (f30 b1.Code) fun aS=>
 Option.bind (f30 a0.Code) fun bh=>
 Option.bind (f393 aS bh) fun cB=>
 Option.bind (f394 a0.Name b1.Name) fun dO=>
 Option.bind (f395 [cB,dO]) fun dR=>
 some dR:Option Int)=some r):
 f392 a0 b1=some r:=
 ql (E:=(EN Q0)) h (
 Ik fun aS=>
 Ik fun bh=>
 Ik fun cB=>
 Ik fun dO=>
 Ik fun dR=>
 Is)
 (by kernel_rfl) (fun h=>j0 (C:=nM) rfl h)
theorem e395 (vr:List Int) {r:Int}
 (h:(
 Ej 0 vr (List.length vr:Int) 0:Option Int)=some r):
 f395 vr=some r:=
 ql (E:=(EN Q0)) h (
 (show cO _ (xq P nM Hq dg 23 3 [] [(3,(.pv (.int .i64 0))),(6,(.pv (.cE 1 (List.map (aJ .i64) vr)))),(7,(.pv (.int .i64 (List.length (List.map (aJ .i64) vr):Int)))),(8,(.pv (.int .i64 0)))] []) ( Ej 0 vr (List.length vr:Int) 0) from fun _ h=>by simpa only [List.length_map] using aP _ _ _ h))
 (by kernel_rfl) (fun h=>j0 (C:=nM) rfl h)
theorem Io (Cw:Int) (v6:List Int) (v7 v8:Int) {r:Int}
 (h:(
 bif (decide (v8<v7)) then (
 cM v6 v8 fun aq=>
 bif (aq !=Cw) then (
 some aq)
 else (
 Ej Cw v6 v7 (IntKind.wrap .i64 (v8+1))))
 else (
 some Cw):Option Int)=some r):
 Ej Cw v6 v7 v8=some r:=
 ql (E:=(EN Q0)) h (
 Ic (
 Ig (aJ .i64) fun aq=>
 Ic (
 Is) (
 Iz)) (
 Is))
 (by kernel_rfl) (fun h=>tn h)
theorem e393 (x0 y1:Int) {r:Int}
 (h:(
 Option.bind (f396 x0) fun aS=>
 Option.bind (f396 y1) fun bh=>
 bif aS then (
 bif bh then (
 some 0)
 else (
 some (-1)))
 else (
 bif bh then (
 some 1)
 else (
 bif (decide (x0<y1)) then (
 some (-1))
 else (
 bif (decide (x0>y1)) then (
 some 1)
 else (
 some 0)))):Option Int)=some r):
 f393 x0 y1=some r:=
 ql (E:=(EN Q0)) h (
 Ik fun aS=>
 Ik fun bh=>
 Ic (
 Ic (
 Is) (
 Is)) (
 Ic (
 Is) (
 Ic (
 Is) (
 Ic (
 Is) (
 Is)))))
 (by kernel_rfl) (fun h=>j0 (C:=nM) rfl h)
theorem e30 (b0:List Int) {r:Int}
 (h:(
 Gz 0 b0 (List.length b0:Int) 0:Option Int)=some r):
 f30 b0=some r:=
 ql (E:=(EN Q0)) h (
 (show cO _ (xq P nM Hq dg 25 3 [] [(3,(.pv (.int .i64 0))),(6,(.pv (.cE 1 (List.map (aJ .u64) b0)))),(7,(.pv (.int .i64 (List.length (List.map (aJ .u64) b0):Int)))),(8,(.pv (.int .i64 0)))] []) ( Gz 0 b0 (List.length b0:Int) 0) from fun _ h=>by simpa only [List.length_map] using aP _ _ _ h))
 (by kernel_rfl) (fun h=>j0 (C:=nM) rfl h)
theorem NZ (n3:Int) (v6:List Int) (v7 v8:Int) {r:Int}
 (h:(
 bif (decide (v8<v7)) then (
 cM v6 v8 fun aq=>
 Option.bind (f69 aq) fun bh=>
 Gz (IntKind.wrap .i64 (n3+bh)) v6 v7 (IntKind.wrap .i64 (v8+1)))
 else (
 some n3):Option Int)=some r):
 Gz n3 v6 v7 v8=some r:=
 ql (E:=(EN Q0)) h (
 Ic (
 Ig (aJ .u64) fun aq=>
 Ik fun bh=>
 Iz) (
 Is))
 (by kernel_rfl) (fun h=>tn h)
theorem e394 (x0 y1:List UInt8) {r:Int}
 (h:(
 Option.bind (f97 x0) fun aS=>
 Option.bind (f97 y1) fun bh=>
 bif aS then (
 bif bh then (
 some 0)
 else (
 some (-1)))
 else (
 bif bh then (
 some 1)
 else (
 bif (Op.bytesLess x0 y1) then (
 some (-1))
 else (
 bif (!(Op.bytesLess x0 y1||x0==y1)) then (
 some 1)
 else (
 some 0)))):Option Int)=some r):
 f394 x0 y1=some r:=
 ql (E:=(EN Q0)) h (
 Ik fun aS=>
 Ik fun bh=>
 Ic (
 Ic (
 Is) (
 Is)) (
 Ic (
 Is) (
 Ic (
 Is) (
 Ic (
 Is) (
 Is)))))
 (by kernel_rfl) (fun h=>j0 (C:=nM) rfl h)
theorem e396 (x0:Int) {r:Bool}
 (h:(
 some (x0 !=x0):Option Bool)=some r):
 f396 x0=some r:=
 ql (E:=(EN Q1)) h (
 Is)
 (by kernel_rfl) (fun h=>j0 (C:=nM) rfl h)
theorem e69 (x0:Int) {r:Int}
 (h:(
 check (0≤1) (
 check (0≤2) (
 check (0≤4) (
 check (0≤8) (
 check (0≤16) (
 check (0≤32) (
 some (IntKind.wrap .i64 ((BitVec.ofInt (IntKind.bits .i64) (IntKind.wrap .i64 ((IntKind.wrap .u64 ((IntKind.wrap .u64 ((IntKind.wrap .u64 ((IntKind.wrap .u64 ((BitVec.ofInt (IntKind.bits .u64) (IntKind.wrap .u64 ((Int.fdiv (IntKind.wrap .u64 ((IntKind.wrap .u64 ((BitVec.ofInt (IntKind.bits .u64) (Int.fdiv (IntKind.wrap .u64 ((IntKind.wrap .u64 ((BitVec.ofInt (IntKind.bits .u64) (Int.fdiv x0 (2^ min (Int.toNat 1) (IntKind.bits .u64)))&&&BitVec.ofInt (IntKind.bits .u64) 6148914691236517205).toNat:Int))+(IntKind.wrap .u64 ((BitVec.ofInt (IntKind.bits .u64) x0&&&BitVec.ofInt (IntKind.bits .u64) 6148914691236517205).toNat:Int)))) (2^ min (Int.toNat 2) (IntKind.bits .u64)))&&&BitVec.ofInt (IntKind.bits .u64) 3689348814741910323).toNat:Int))+(IntKind.wrap .u64 ((BitVec.ofInt (IntKind.bits .u64) (IntKind.wrap .u64 ((IntKind.wrap .u64 ((BitVec.ofInt (IntKind.bits .u64) (Int.fdiv x0 (2^ min (Int.toNat 1) (IntKind.bits .u64)))&&&BitVec.ofInt (IntKind.bits .u64) 6148914691236517205).toNat:Int))+(IntKind.wrap .u64 ((BitVec.ofInt (IntKind.bits .u64) x0&&&BitVec.ofInt (IntKind.bits .u64) 6148914691236517205).toNat:Int))))&&&BitVec.ofInt (IntKind.bits .u64) 3689348814741910323).toNat:Int)))) (2^ min (Int.toNat 4) (IntKind.bits .u64)))+(IntKind.wrap .u64 ((IntKind.wrap .u64 ((BitVec.ofInt (IntKind.bits .u64) (Int.fdiv (IntKind.wrap .u64 ((IntKind.wrap .u64 ((BitVec.ofInt (IntKind.bits .u64) (Int.fdiv x0 (2^ min (Int.toNat 1) (IntKind.bits .u64)))&&&BitVec.ofInt (IntKind.bits .u64) 6148914691236517205).toNat:Int))+(IntKind.wrap .u64 ((BitVec.ofInt (IntKind.bits .u64) x0&&&BitVec.ofInt (IntKind.bits .u64) 6148914691236517205).toNat:Int)))) (2^ min (Int.toNat 2) (IntKind.bits .u64)))&&&BitVec.ofInt (IntKind.bits .u64) 3689348814741910323).toNat:Int))+(IntKind.wrap .u64 ((BitVec.ofInt (IntKind.bits .u64) (IntKind.wrap .u64 ((IntKind.wrap .u64 ((BitVec.ofInt (IntKind.bits .u64) (Int.fdiv x0 (2^ min (Int.toNat 1) (IntKind.bits .u64)))&&&BitVec.ofInt (IntKind.bits .u64) 6148914691236517205).toNat:Int))+(IntKind.wrap .u64 ((BitVec.ofInt (IntKind.bits .u64) x0&&&BitVec.ofInt (IntKind.bits .u64) 6148914691236517205).toNat:Int))))&&&BitVec.ofInt (IntKind.bits .u64) 3689348814741910323).toNat:Int))))))&&&BitVec.ofInt (IntKind.bits .u64) 1085102592571150095).toNat:Int))+(Int.fdiv (IntKind.wrap .u64 ((BitVec.ofInt (IntKind.bits .u64) (IntKind.wrap .u64 ((Int.fdiv (IntKind.wrap .u64 ((IntKind.wrap .u64 ((BitVec.ofInt (IntKind.bits .u64) (Int.fdiv (IntKind.wrap .u64 ((IntKind.wrap .u64 ((BitVec.ofInt (IntKind.bits .u64) (Int.fdiv x0 (2^ min (Int.toNat 1) (IntKind.bits .u64)))&&&BitVec.ofInt (IntKind.bits .u64) 6148914691236517205).toNat:Int))+(IntKind.wrap .u64 ((BitVec.ofInt (IntKind.bits .u64) x0&&&BitVec.ofInt (IntKind.bits .u64) 6148914691236517205).toNat:Int)))) (2^ min (Int.toNat 2) (IntKind.bits .u64)))&&&BitVec.ofInt (IntKind.bits .u64) 3689348814741910323).toNat:Int))+(IntKind.wrap .u64 ((BitVec.ofInt (IntKind.bits .u64) (IntKind.wrap .u64 ((IntKind.wrap .u64 ((BitVec.ofInt (IntKind.bits .u64) (Int.fdiv x0 (2^ min (Int.toNat 1) (IntKind.bits .u64)))&&&BitVec.ofInt (IntKind.bits .u64) 6148914691236517205).toNat:Int))+(IntKind.wrap .u64 ((BitVec.ofInt (IntKind.bits .u64) x0&&&BitVec.ofInt (IntKind.bits .u64) 6148914691236517205).toNat:Int))))&&&BitVec.ofInt (IntKind.bits .u64) 3689348814741910323).toNat:Int)))) (2^ min (Int.toNat 4) (IntKind.bits .u64)))+(IntKind.wrap .u64 ((IntKind.wrap .u64 ((BitVec.ofInt (IntKind.bits .u64) (Int.fdiv (IntKind.wrap .u64 ((IntKind.wrap .u64 ((BitVec.ofInt (IntKind.bits .u64) (Int.fdiv x0 (2^ min (Int.toNat 1) (IntKind.bits .u64)))&&&BitVec.ofInt (IntKind.bits .u64) 6148914691236517205).toNat:Int))+(IntKind.wrap .u64 ((BitVec.ofInt (IntKind.bits .u64) x0&&&BitVec.ofInt (IntKind.bits .u64) 6148914691236517205).toNat:Int)))) (2^ min (Int.toNat 2) (IntKind.bits .u64)))&&&BitVec.ofInt (IntKind.bits .u64) 3689348814741910323).toNat:Int))+(IntKind.wrap .u64 ((BitVec.ofInt (IntKind.bits .u64) (IntKind.wrap .u64 ((IntKind.wrap .u64 ((BitVec.ofInt (IntKind.bits .u64) (Int.fdiv x0 (2^ min (Int.toNat 1) (IntKind.bits .u64)))&&&BitVec.ofInt (IntKind.bits .u64) 6148914691236517205).toNat:Int))+(IntKind.wrap .u64 ((BitVec.ofInt (IntKind.bits .u64) x0&&&BitVec.ofInt (IntKind.bits .u64) 6148914691236517205).toNat:Int))))&&&BitVec.ofInt (IntKind.bits .u64) 3689348814741910323).toNat:Int))))))&&&BitVec.ofInt (IntKind.bits .u64) 1085102592571150095).toNat:Int)) (2^ min (Int.toNat 8) (IntKind.bits .u64)))))+(Int.fdiv (IntKind.wrap .u64 ((IntKind.wrap .u64 ((BitVec.ofInt (IntKind.bits .u64) (IntKind.wrap .u64 ((Int.fdiv (IntKind.wrap .u64 ((IntKind.wrap .u64 ((BitVec.ofInt (IntKind.bits .u64) (Int.fdiv (IntKind.wrap .u64 ((IntKind.wrap .u64 ((BitVec.ofInt (IntKind.bits .u64) (Int.fdiv x0 (2^ min (Int.toNat 1) (IntKind.bits .u64)))&&&BitVec.ofInt (IntKind.bits .u64) 6148914691236517205).toNat:Int))+(IntKind.wrap .u64 ((BitVec.ofInt (IntKind.bits .u64) x0&&&BitVec.ofInt (IntKind.bits .u64) 6148914691236517205).toNat:Int)))) (2^ min (Int.toNat 2) (IntKind.bits .u64)))&&&BitVec.ofInt (IntKind.bits .u64) 3689348814741910323).toNat:Int))+(IntKind.wrap .u64 ((BitVec.ofInt (IntKind.bits .u64) (IntKind.wrap .u64 ((IntKind.wrap .u64 ((BitVec.ofInt (IntKind.bits .u64) (Int.fdiv x0 (2^ min (Int.toNat 1) (IntKind.bits .u64)))&&&BitVec.ofInt (IntKind.bits .u64) 6148914691236517205).toNat:Int))+(IntKind.wrap .u64 ((BitVec.ofInt (IntKind.bits .u64) x0&&&BitVec.ofInt (IntKind.bits .u64) 6148914691236517205).toNat:Int))))&&&BitVec.ofInt (IntKind.bits .u64) 3689348814741910323).toNat:Int)))) (2^ min (Int.toNat 4) (IntKind.bits .u64)))+(IntKind.wrap .u64 ((IntKind.wrap .u64 ((BitVec.ofInt (IntKind.bits .u64) (Int.fdiv (IntKind.wrap .u64 ((IntKind.wrap .u64 ((BitVec.ofInt (IntKind.bits .u64) (Int.fdiv x0 (2^ min (Int.toNat 1) (IntKind.bits .u64)))&&&BitVec.ofInt (IntKind.bits .u64) 6148914691236517205).toNat:Int))+(IntKind.wrap .u64 ((BitVec.ofInt (IntKind.bits .u64) x0&&&BitVec.ofInt (IntKind.bits .u64) 6148914691236517205).toNat:Int)))) (2^ min (Int.toNat 2) (IntKind.bits .u64)))&&&BitVec.ofInt (IntKind.bits .u64) 3689348814741910323).toNat:Int))+(IntKind.wrap .u64 ((BitVec.ofInt (IntKind.bits .u64) (IntKind.wrap .u64 ((IntKind.wrap .u64 ((BitVec.ofInt (IntKind.bits .u64) (Int.fdiv x0 (2^ min (Int.toNat 1) (IntKind.bits .u64)))&&&BitVec.ofInt (IntKind.bits .u64) 6148914691236517205).toNat:Int))+(IntKind.wrap .u64 ((BitVec.ofInt (IntKind.bits .u64) x0&&&BitVec.ofInt (IntKind.bits .u64) 6148914691236517205).toNat:Int))))&&&BitVec.ofInt (IntKind.bits .u64) 3689348814741910323).toNat:Int))))))&&&BitVec.ofInt (IntKind.bits .u64) 1085102592571150095).toNat:Int))+(Int.fdiv (IntKind.wrap .u64 ((BitVec.ofInt (IntKind.bits .u64) (IntKind.wrap .u64 ((Int.fdiv (IntKind.wrap .u64 ((IntKind.wrap .u64 ((BitVec.ofInt (IntKind.bits .u64) (Int.fdiv (IntKind.wrap .u64 ((IntKind.wrap .u64 ((BitVec.ofInt (IntKind.bits .u64) (Int.fdiv x0 (2^ min (Int.toNat 1) (IntKind.bits .u64)))&&&BitVec.ofInt (IntKind.bits .u64) 6148914691236517205).toNat:Int))+(IntKind.wrap .u64 ((BitVec.ofInt (IntKind.bits .u64) x0&&&BitVec.ofInt (IntKind.bits .u64) 6148914691236517205).toNat:Int)))) (2^ min (Int.toNat 2) (IntKind.bits .u64)))&&&BitVec.ofInt (IntKind.bits .u64) 3689348814741910323).toNat:Int))+(IntKind.wrap .u64 ((BitVec.ofInt (IntKind.bits .u64) (IntKind.wrap .u64 ((IntKind.wrap .u64 ((BitVec.ofInt (IntKind.bits .u64) (Int.fdiv x0 (2^ min (Int.toNat 1) (IntKind.bits .u64)))&&&BitVec.ofInt (IntKind.bits .u64) 6148914691236517205).toNat:Int))+(IntKind.wrap .u64 ((BitVec.ofInt (IntKind.bits .u64) x0&&&BitVec.ofInt (IntKind.bits .u64) 6148914691236517205).toNat:Int))))&&&BitVec.ofInt (IntKind.bits .u64) 3689348814741910323).toNat:Int)))) (2^ min (Int.toNat 4) (IntKind.bits .u64)))+(IntKind.wrap .u64 ((IntKind.wrap .u64 ((BitVec.ofInt (IntKind.bits .u64) (Int.fdiv (IntKind.wrap .u64 ((IntKind.wrap .u64 ((BitVec.ofInt (IntKind.bits .u64) (Int.fdiv x0 (2^ min (Int.toNat 1) (IntKind.bits .u64)))&&&BitVec.ofInt (IntKind.bits .u64) 6148914691236517205).toNat:Int))+(IntKind.wrap .u64 ((BitVec.ofInt (IntKind.bits .u64) x0&&&BitVec.ofInt (IntKind.bits .u64) 6148914691236517205).toNat:Int)))) (2^ min (Int.toNat 2) (IntKind.bits .u64)))&&&BitVec.ofInt (IntKind.bits .u64) 3689348814741910323).toNat:Int))+(IntKind.wrap .u64 ((BitVec.ofInt (IntKind.bits .u64) (IntKind.wrap .u64 ((IntKind.wrap .u64 ((BitVec.ofInt (IntKind.bits .u64) (Int.fdiv x0 (2^ min (Int.toNat 1) (IntKind.bits .u64)))&&&BitVec.ofInt (IntKind.bits .u64) 6148914691236517205).toNat:Int))+(IntKind.wrap .u64 ((BitVec.ofInt (IntKind.bits .u64) x0&&&BitVec.ofInt (IntKind.bits .u64) 6148914691236517205).toNat:Int))))&&&BitVec.ofInt (IntKind.bits .u64) 3689348814741910323).toNat:Int))))))&&&BitVec.ofInt (IntKind.bits .u64) 1085102592571150095).toNat:Int)) (2^ min (Int.toNat 8) (IntKind.bits .u64))))) (2^ min (Int.toNat 16) (IntKind.bits .u64)))))+(Int.fdiv (IntKind.wrap .u64 ((IntKind.wrap .u64 ((IntKind.wrap .u64 ((BitVec.ofInt (IntKind.bits .u64) (IntKind.wrap .u64 ((Int.fdiv (IntKind.wrap .u64 ((IntKind.wrap .u64 ((BitVec.ofInt (IntKind.bits .u64) (Int.fdiv (IntKind.wrap .u64 ((IntKind.wrap .u64 ((BitVec.ofInt (IntKind.bits .u64) (Int.fdiv x0 (2^ min (Int.toNat 1) (IntKind.bits .u64)))&&&BitVec.ofInt (IntKind.bits .u64) 6148914691236517205).toNat:Int))+(IntKind.wrap .u64 ((BitVec.ofInt (IntKind.bits .u64) x0&&&BitVec.ofInt (IntKind.bits .u64) 6148914691236517205).toNat:Int)))) (2^ min (Int.toNat 2) (IntKind.bits .u64)))&&&BitVec.ofInt (IntKind.bits .u64) 3689348814741910323).toNat:Int))+(IntKind.wrap .u64 ((BitVec.ofInt (IntKind.bits .u64) (IntKind.wrap .u64 ((IntKind.wrap .u64 ((BitVec.ofInt (IntKind.bits .u64) (Int.fdiv x0 (2^ min (Int.toNat 1) (IntKind.bits .u64)))&&&BitVec.ofInt (IntKind.bits .u64) 6148914691236517205).toNat:Int))+(IntKind.wrap .u64 ((BitVec.ofInt (IntKind.bits .u64) x0&&&BitVec.ofInt (IntKind.bits .u64) 6148914691236517205).toNat:Int))))&&&BitVec.ofInt (IntKind.bits .u64) 3689348814741910323).toNat:Int)))) (2^ min (Int.toNat 4) (IntKind.bits .u64)))+(IntKind.wrap .u64 ((IntKind.wrap .u64 ((BitVec.ofInt (IntKind.bits .u64) (Int.fdiv (IntKind.wrap .u64 ((IntKind.wrap .u64 ((BitVec.ofInt (IntKind.bits .u64) (Int.fdiv x0 (2^ min (Int.toNat 1) (IntKind.bits .u64)))&&&BitVec.ofInt (IntKind.bits .u64) 6148914691236517205).toNat:Int))+(IntKind.wrap .u64 ((BitVec.ofInt (IntKind.bits .u64) x0&&&BitVec.ofInt (IntKind.bits .u64) 6148914691236517205).toNat:Int)))) (2^ min (Int.toNat 2) (IntKind.bits .u64)))&&&BitVec.ofInt (IntKind.bits .u64) 3689348814741910323).toNat:Int))+(IntKind.wrap .u64 ((BitVec.ofInt (IntKind.bits .u64) (IntKind.wrap .u64 ((IntKind.wrap .u64 ((BitVec.ofInt (IntKind.bits .u64) (Int.fdiv x0 (2^ min (Int.toNat 1) (IntKind.bits .u64)))&&&BitVec.ofInt (IntKind.bits .u64) 6148914691236517205).toNat:Int))+(IntKind.wrap .u64 ((BitVec.ofInt (IntKind.bits .u64) x0&&&BitVec.ofInt (IntKind.bits .u64) 6148914691236517205).toNat:Int))))&&&BitVec.ofInt (IntKind.bits .u64) 3689348814741910323).toNat:Int))))))&&&BitVec.ofInt (IntKind.bits .u64) 1085102592571150095).toNat:Int))+(Int.fdiv (IntKind.wrap .u64 ((BitVec.ofInt (IntKind.bits .u64) (IntKind.wrap .u64 ((Int.fdiv (IntKind.wrap .u64 ((IntKind.wrap .u64 ((BitVec.ofInt (IntKind.bits .u64) (Int.fdiv (IntKind.wrap .u64 ((IntKind.wrap .u64 ((BitVec.ofInt (IntKind.bits .u64) (Int.fdiv x0 (2^ min (Int.toNat 1) (IntKind.bits .u64)))&&&BitVec.ofInt (IntKind.bits .u64) 6148914691236517205).toNat:Int))+(IntKind.wrap .u64 ((BitVec.ofInt (IntKind.bits .u64) x0&&&BitVec.ofInt (IntKind.bits .u64) 6148914691236517205).toNat:Int)))) (2^ min (Int.toNat 2) (IntKind.bits .u64)))&&&BitVec.ofInt (IntKind.bits .u64) 3689348814741910323).toNat:Int))+(IntKind.wrap .u64 ((BitVec.ofInt (IntKind.bits .u64) (IntKind.wrap .u64 ((IntKind.wrap .u64 ((BitVec.ofInt (IntKind.bits .u64) (Int.fdiv x0 (2^ min (Int.toNat 1) (IntKind.bits .u64)))&&&BitVec.ofInt (IntKind.bits .u64) 6148914691236517205).toNat:Int))+(IntKind.wrap .u64 ((BitVec.ofInt (IntKind.bits .u64) x0&&&BitVec.ofInt (IntKind.bits .u64) 6148914691236517205).toNat:Int))))&&&BitVec.ofInt (IntKind.bits .u64) 3689348814741910323).toNat:Int)))) (2^ min (Int.toNat 4) (IntKind.bits .u64)))+(IntKind.wrap .u64 ((IntKind.wrap .u64 ((BitVec.ofInt (IntKind.bits .u64) (Int.fdiv (IntKind.wrap .u64 ((IntKind.wrap .u64 ((BitVec.ofInt (IntKind.bits .u64) (Int.fdiv x0 (2^ min (Int.toNat 1) (IntKind.bits .u64)))&&&BitVec.ofInt (IntKind.bits .u64) 6148914691236517205).toNat:Int))+(IntKind.wrap .u64 ((BitVec.ofInt (IntKind.bits .u64) x0&&&BitVec.ofInt (IntKind.bits .u64) 6148914691236517205).toNat:Int)))) (2^ min (Int.toNat 2) (IntKind.bits .u64)))&&&BitVec.ofInt (IntKind.bits .u64) 3689348814741910323).toNat:Int))+(IntKind.wrap .u64 ((BitVec.ofInt (IntKind.bits .u64) (IntKind.wrap .u64 ((IntKind.wrap .u64 ((BitVec.ofInt (IntKind.bits .u64) (Int.fdiv x0 (2^ min (Int.toNat 1) (IntKind.bits .u64)))&&&BitVec.ofInt (IntKind.bits .u64) 6148914691236517205).toNat:Int))+(IntKind.wrap .u64 ((BitVec.ofInt (IntKind.bits .u64) x0&&&BitVec.ofInt (IntKind.bits .u64) 6148914691236517205).toNat:Int))))&&&BitVec.ofInt (IntKind.bits .u64) 3689348814741910323).toNat:Int))))))&&&BitVec.ofInt (IntKind.bits .u64) 1085102592571150095).toNat:Int)) (2^ min (Int.toNat 8) (IntKind.bits .u64)))))+(Int.fdiv (IntKind.wrap .u64 ((IntKind.wrap .u64 ((BitVec.ofInt (IntKind.bits .u64) (IntKind.wrap .u64 ((Int.fdiv (IntKind.wrap .u64 ((IntKind.wrap .u64 ((BitVec.ofInt (IntKind.bits .u64) (Int.fdiv (IntKind.wrap .u64 ((IntKind.wrap .u64 ((BitVec.ofInt (IntKind.bits .u64) (Int.fdiv x0 (2^ min (Int.toNat 1) (IntKind.bits .u64)))&&&BitVec.ofInt (IntKind.bits .u64) 6148914691236517205).toNat:Int))+(IntKind.wrap .u64 ((BitVec.ofInt (IntKind.bits .u64) x0&&&BitVec.ofInt (IntKind.bits .u64) 6148914691236517205).toNat:Int)))) (2^ min (Int.toNat 2) (IntKind.bits .u64)))&&&BitVec.ofInt (IntKind.bits .u64) 3689348814741910323).toNat:Int))+(IntKind.wrap .u64 ((BitVec.ofInt (IntKind.bits .u64) (IntKind.wrap .u64 ((IntKind.wrap .u64 ((BitVec.ofInt (IntKind.bits .u64) (Int.fdiv x0 (2^ min (Int.toNat 1) (IntKind.bits .u64)))&&&BitVec.ofInt (IntKind.bits .u64) 6148914691236517205).toNat:Int))+(IntKind.wrap .u64 ((BitVec.ofInt (IntKind.bits .u64) x0&&&BitVec.ofInt (IntKind.bits .u64) 6148914691236517205).toNat:Int))))&&&BitVec.ofInt (IntKind.bits .u64) 3689348814741910323).toNat:Int)))) (2^ min (Int.toNat 4) (IntKind.bits .u64)))+(IntKind.wrap .u64 ((IntKind.wrap .u64 ((BitVec.ofInt (IntKind.bits .u64) (Int.fdiv (IntKind.wrap .u64 ((IntKind.wrap .u64 ((BitVec.ofInt (IntKind.bits .u64) (Int.fdiv x0 (2^ min (Int.toNat 1) (IntKind.bits .u64)))&&&BitVec.ofInt (IntKind.bits .u64) 6148914691236517205).toNat:Int))+(IntKind.wrap .u64 ((BitVec.ofInt (IntKind.bits .u64) x0&&&BitVec.ofInt (IntKind.bits .u64) 6148914691236517205).toNat:Int)))) (2^ min (Int.toNat 2) (IntKind.bits .u64)))&&&BitVec.ofInt (IntKind.bits .u64) 3689348814741910323).toNat:Int))+(IntKind.wrap .u64 ((BitVec.ofInt (IntKind.bits .u64) (IntKind.wrap .u64 ((IntKind.wrap .u64 ((BitVec.ofInt (IntKind.bits .u64) (Int.fdiv x0 (2^ min (Int.toNat 1) (IntKind.bits .u64)))&&&BitVec.ofInt (IntKind.bits .u64) 6148914691236517205).toNat:Int))+(IntKind.wrap .u64 ((BitVec.ofInt (IntKind.bits .u64) x0&&&BitVec.ofInt (IntKind.bits .u64) 6148914691236517205).toNat:Int))))&&&BitVec.ofInt (IntKind.bits .u64) 3689348814741910323).toNat:Int))))))&&&BitVec.ofInt (IntKind.bits .u64) 1085102592571150095).toNat:Int))+(Int.fdiv (IntKind.wrap .u64 ((BitVec.ofInt (IntKind.bits .u64) (IntKind.wrap .u64 ((Int.fdiv (IntKind.wrap .u64 ((IntKind.wrap .u64 ((BitVec.ofInt (IntKind.bits .u64) (Int.fdiv (IntKind.wrap .u64 ((IntKind.wrap .u64 ((BitVec.ofInt (IntKind.bits .u64) (Int.fdiv x0 (2^ min (Int.toNat 1) (IntKind.bits .u64)))&&&BitVec.ofInt (IntKind.bits .u64) 6148914691236517205).toNat:Int))+(IntKind.wrap .u64 ((BitVec.ofInt (IntKind.bits .u64) x0&&&BitVec.ofInt (IntKind.bits .u64) 6148914691236517205).toNat:Int)))) (2^ min (Int.toNat 2) (IntKind.bits .u64)))&&&BitVec.ofInt (IntKind.bits .u64) 3689348814741910323).toNat:Int))+(IntKind.wrap .u64 ((BitVec.ofInt (IntKind.bits .u64) (IntKind.wrap .u64 ((IntKind.wrap .u64 ((BitVec.ofInt (IntKind.bits .u64) (Int.fdiv x0 (2^ min (Int.toNat 1) (IntKind.bits .u64)))&&&BitVec.ofInt (IntKind.bits .u64) 6148914691236517205).toNat:Int))+(IntKind.wrap .u64 ((BitVec.ofInt (IntKind.bits .u64) x0&&&BitVec.ofInt (IntKind.bits .u64) 6148914691236517205).toNat:Int))))&&&BitVec.ofInt (IntKind.bits .u64) 3689348814741910323).toNat:Int)))) (2^ min (Int.toNat 4) (IntKind.bits .u64)))+(IntKind.wrap .u64 ((IntKind.wrap .u64 ((BitVec.ofInt (IntKind.bits .u64) (Int.fdiv (IntKind.wrap .u64 ((IntKind.wrap .u64 ((BitVec.ofInt (IntKind.bits .u64) (Int.fdiv x0 (2^ min (Int.toNat 1) (IntKind.bits .u64)))&&&BitVec.ofInt (IntKind.bits .u64) 6148914691236517205).toNat:Int))+(IntKind.wrap .u64 ((BitVec.ofInt (IntKind.bits .u64) x0&&&BitVec.ofInt (IntKind.bits .u64) 6148914691236517205).toNat:Int)))) (2^ min (Int.toNat 2) (IntKind.bits .u64)))&&&BitVec.ofInt (IntKind.bits .u64) 3689348814741910323).toNat:Int))+(IntKind.wrap .u64 ((BitVec.ofInt (IntKind.bits .u64) (IntKind.wrap .u64 ((IntKind.wrap .u64 ((BitVec.ofInt (IntKind.bits .u64) (Int.fdiv x0 (2^ min (Int.toNat 1) (IntKind.bits .u64)))&&&BitVec.ofInt (IntKind.bits .u64) 6148914691236517205).toNat:Int))+(IntKind.wrap .u64 ((BitVec.ofInt (IntKind.bits .u64) x0&&&BitVec.ofInt (IntKind.bits .u64) 6148914691236517205).toNat:Int))))&&&BitVec.ofInt (IntKind.bits .u64) 3689348814741910323).toNat:Int))))))&&&BitVec.ofInt (IntKind.bits .u64) 1085102592571150095).toNat:Int)) (2^ min (Int.toNat 8) (IntKind.bits .u64))))) (2^ min (Int.toNat 16) (IntKind.bits .u64))))) (2^ min (Int.toNat 32) (IntKind.bits .u64)))))))&&&BitVec.ofInt (IntKind.bits .i64) 127).toNat:Int)))))))):Option Int)=some r):
 f69 x0=some r:=
 ql (E:=(EN Q0)) h (
 Ih (
 Ih (
 Ih (
 Ih (
 Ih (
 Ih (
 Is)))))))
 (by kernel_rfl) (fun h=>j0 (C:=nM) rfl h)
theorem e97 (x0:List UInt8) {r:Bool}
 (h:(
 some (!(x0==x0)):Option Bool)=some r):
 f97 x0=some r:=
 ql (E:=(EN Q1)) h (
 Is)
 (by kernel_rfl) (fun h=>j0 (C:=nM) rfl h)
end Go.Proofs.YtfoddgpndoeeaaaGreatDoor.cl.cq
set_option linter.unusedVariables false
set_option linter.unusedSimpArgs false
namespace Go.Proofs.YtfoddgpndoeeaaaGreatDoor.cl
open Go Go.AM
namespace cq
theorem i69 {x:Nat} (hx:x<18446744073709551616):f69 (x:Int)=some ((dm 64 x:Nat):Int):=by
 obtain ⟨p1,p2,p3,p4,p5⟩:=pop.TJ hx;obtain ⟨k1,k2,k3⟩:=pop.HM p5;refine e69 _ ?_;rw [bg (by decide),bg (by decide),bg (by decide),bg (by decide),bg (by decide),bg (by decide)];rw [pop.t1 hx p2,pop.t2 p2 p3,pop.t3 p4,pop.t48 k1,pop.t416 k2,pop.t432 (by rw [←k3];omega),←k3,pop.t5 p5,p1]
def wl (w:Nat):List Int:=bif Nat.beq w 0 then [] else [(w:Int)]
theorem Uy {w:Nat} (h:w≠0):Nat.beq w 0=false:=by
 cases hc:Nat.beq w 0 with
 |false=>rfl
 |true=>exact absurd (Nat.eq_of_beq_eq_true hc) h
theorem i30 {w:Nat} (hw:w<18446744073709551616):f30 (wl w)=some ((dm 64 w:Nat):Int):=by
 refine e30 _ ?_;by_cases h0:w=0
 ·subst h0
  show Gz 0 [] 0 0=some 0;refine NZ _ _ _ _ ?_;rfl
 ·have e:wl w=[(w:Int)]:=by unfold wl;rw [Uy h0];rfl
  have hle:=pop.PV 64 w;rw [e];refine NZ _ _ _ _ ?_;rw [cond_pos (by simp),show (0:Int)=((0:Nat):Int) from rfl,jQ (x:=(w:Int)) (by simp),i69 hw,aj];refine NZ _ _ _ _ ?_;rw [cg (by omega),cond_neg (by simp),fo (by omega) (by omega)];simp
def KR (p q:gX):Int:=
 if dm 64 q.2<dm 64 p.2 then-1 else if dm 64 p.2<dm 64 q.2 then 1 else if Op.bytesLess p.1 q.1=true then-1 else if p.1=q.1 then 0 else 1
def tc (p:gX):aB:=⟨p.1,wl p.2⟩
theorem i48 {p q:gX} (hp:p.2<18446744073709551616) (hq:q.2<18446744073709551616):f392 (tc p) (tc q)=some (KR p q):=by
 refine e392 _ _ ?_;show Option.bind (f30 (wl q.2)) _=_;rw [i30 hq,aj];show Option.bind (f30 (wl p.2)) _=_;rw [i30 hp,aj];have h96:∀x:Int,f396 x=some false:=fun x=>e396 _ (by simp)
 have h97:∀x:List UInt8,f97 x=some false:=fun x=>e97 _ (by simp)
 have h50:∀x y:Int,f393 x y=some (if x<y then-1 else if y<x then 1 else 0):=by
  intro x y;refine e393 _ _ ?_;rw [h96,aj,h96,aj,cond_false,cond_false];by_cases h1:x<y
  ·rw [cond_pos (by simpa using h1),if_pos h1]
  ·rw [cond_neg (by simpa using h1),if_neg h1]
   by_cases h2:y<x
   ·rw [cond_pos (by simpa using h2),if_pos h2]
   ·rw [cond_neg (by simpa using h2),if_neg h2]
 have h51:∀x y:List UInt8,f394 x y=some (if Op.bytesLess x y=true then-1 else if x=y then 0 else 1):=by
  intro x y;refine e394 _ _ ?_;rw [h97,aj,h97,aj,cond_false,cond_false];by_cases h1:Op.bytesLess x y=true
  ·rw [cond_pos h1,if_pos h1]
  ·have HV:Op.bytesLess x y=false:=by simpa using h1
   rw [cond_neg HV,if_neg h1,HV,Bool.false_or];by_cases h2:x=y
   ·rw [cond_neg (by simp [h2]),if_pos h2]
   ·rw [cond_pos (by simp [h2]),if_neg h2]
 have h49:∀x y:Int,f395 [x,y]=some (if x≠0 then x else y):=by
  intro x y;refine e395 _ ?_;refine Io _ _ _ _ ?_;rw [cond_pos (by simp),show (0:Int)=((0:Nat):Int) from rfl,jQ (x:=x) (by simp)];by_cases h1:x=0
  ·rw [cond_neg (by simp [h1]),if_neg (by simp [h1]),cg (by omega)]
   refine Io _ _ _ _ ?_;rw [cond_pos (by simp),jQ (x:=y) (by simp)];by_cases h2:y=0
   ·rw [cond_neg (by simp [h2]),cg (by omega)]
    refine Io _ _ _ _ ?_;rw [cond_neg (by simp),h2];rfl
   ·rw [cond_pos (by simp [h2])]
  ·rw [cond_pos (by simp [h1]),if_pos (by simp [h1])]
 rw [h50,aj];show Option.bind (f394 p.1 q.1) _=_;rw [h51,aj,h49,aj];unfold KR;generalize dm 64 q.2=b;generalize dm 64 p.2=a;by_cases h1:b<a
 ·rw [if_pos (show ((b:Nat):Int)<((a:Nat):Int) by omega),if_pos h1,if_pos (by decide)]
 ·rw [if_neg (show¬((b:Nat):Int)<((a:Nat):Int) by omega),if_neg h1]
  by_cases h2:a<b
  ·rw [if_pos (show ((a:Nat):Int)<((b:Nat):Int) by omega),if_pos h2,if_pos (by decide)]
  ·rw [if_neg (show¬((a:Nat):Int)<((b:Nat):Int) by omega),if_neg h2,if_neg (by decide)]
theorem PU (p q:gX):decide (KR p q<0)=xB p q:=by
 unfold KR xB;by_cases h1:dm 64 q.2<dm 64 p.2
 ·have:Nat.blt (dm 64 q.2) (dm 64 p.2)=true:=Nat.ble_eq_true_of_le h1
  rw [if_pos h1,this];rfl
 ·have hb:Nat.blt (dm 64 q.2) (dm 64 p.2)=false:=by
   cases hc:Nat.blt (dm 64 q.2) (dm 64 p.2) with
   |false=>rfl
   |true=>exact absurd (Nat.le_of_ble_eq_true hc) h1
  rw [if_neg h1,hb,Bool.false_or];by_cases h2:dm 64 p.2<dm 64 q.2
  ·have he:Nat.beq (dm 64 p.2) (dm 64 q.2)=false:=by
    cases hc:Nat.beq (dm 64 p.2) (dm 64 q.2) with
    |false=>rfl
    |true=>have:=Nat.eq_of_beq_eq_true hc;omega
   rw [if_pos h2,he];rfl
  ·have he:Nat.beq (dm 64 p.2) (dm 64 q.2)=true:=by
    rw [show dm 64 p.2=dm 64 q.2 by omega];exact Nat.beq_refl _
   rw [if_neg h2,he,Bool.true_and];cases hl:Op.bytesLess p.1 q.1 with
   |true=>rw [if_pos rfl];rfl
   |false=>
    rw [if_neg (by simp)];by_cases h3:p.1=q.1
    ·rw [if_pos h3];rfl
    ·rw [if_neg h3];rfl
end cq
end Go.Proofs.YtfoddgpndoeeaaaGreatDoor.cl
