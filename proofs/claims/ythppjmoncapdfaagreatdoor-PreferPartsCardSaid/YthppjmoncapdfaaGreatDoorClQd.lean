/- The comparator of closure.Codes as a plain function, by prog. -/
import Derived.Test.YthppjmoncapdfaaGreatDoorClT
import Derived.Test.YthppjmoncapdfaaGreatDoorClXb
import Derived.Test.YthppjmoncapdfaaGreatDoorClQb
set_option linter.unusedVariables false
set_option linter.unusedSimpArgs false
set_option maxRecDepth 100000
namespace Go.Proofs.YthppjmoncapdfaaGreatDoor.cl.cq
open Go Go.AM
def dg:cL:=fun _ _ _=>none
def Hq (f:Nat):Hint:=bif Nat.beq f 173 then {} else H f
noncomputable abbrev Rn:cL:=run P Hq dg
def Q0:Int→AV:=(fun (x:Int)=>((.int .i64 x):AV))
instance:cQ Q0:=⟨fun a b h=>by
 simp only [Q0,AV.mp.injEq,AV.int.injEq,AV.str.injEq,AV.bool.injEq,AV.aW.injEq,AV.agg.injEq,AV.dI.injEq,List.cons.injEq,true_and,and_true] at h
 exact h⟩
def Q1:Bool→AV:=(fun (x:Bool)=>((.bool x):AV))
instance:cQ Q1:=⟨fun a b h=>by
 simp only [Q1,AV.mp.injEq,AV.int.injEq,AV.str.injEq,AV.bool.injEq,AV.aW.injEq,AV.agg.injEq,AV.dI.injEq,List.cons.injEq,true_and,and_true] at h
 exact h⟩
def Uh:List (Nat×mF):=[(131,⟨_,Q0⟩),(132,⟨_,Q0⟩),(133,⟨_,Q0⟩),(134,⟨_,Q0⟩),(135,⟨_,Q0⟩),(167,⟨_,Q0⟩),(198,⟨_,Q1⟩),(199,⟨_,Q0⟩),(200,⟨_,Q1⟩)]
def kj:iy:={ elem:=vJ elems,val:=vJ vals,res:=vJ Uh }
noncomputable def f494 (a0 b1:bR):Option Int:=dec (EN Q0) (Rn 131 [(.pv (.agg (bR.enc a0))),(.pv (.agg (bR.enc b1)))] [])
noncomputable def f478 (yN:List Int):Option Int:=dec (EN Q0) (Rn 132 [(.pv (.aW 1 (List.map (aD .i64) yN)))] [])
noncomputable def Iv (Fw:Int) (v6:List Int) (v7 v8:Int):Option Int:=dec (EN Q0) (nR P kj Hq dg 132 3 [] [(3,(.pv (.int .i64 Fw))),(6,(.pv (.aW 1 (List.map (aD .i64) v6)))),(7,(.pv (.int .i64 v7))),(8,(.pv (.int .i64 v8)))] [])
noncomputable def f464 (x0 y1:Int):Option Int:=dec (EN Q0) (Rn 133 [(.pv (.int .i64 x0)),(.pv (.int .i64 y1))] [])
noncomputable def f30 (b0:List Int):Option Int:=dec (EN Q0) (Rn 134 [(.pv (.aW 1 (List.map (aD .u64) b0)))] [])
noncomputable def KR (n3:Int) (v6:List Int) (v7 v8:Int):Option Int:=dec (EN Q0) (nR P kj Hq dg 134 3 [] [(3,(.pv (.int .i64 n3))),(6,(.pv (.aW 1 (List.map (aD .u64) v6)))),(7,(.pv (.int .i64 v7))),(8,(.pv (.int .i64 v8)))] [])
noncomputable def f496 (x0 y1:List UInt8):Option Int:=dec (EN Q0) (Rn 135 [(.pv (.str x0)),(.pv (.str y1))] [])
noncomputable def f495 (a0 b1:aF):Option Int:=dec (EN Q0) (Rn 167 [(.pv (.agg (aF.enc a0))),(.pv (.agg (aF.enc b1)))] [])
noncomputable def f469 (x0:Int):Option Bool:=dec (EN Q1) (Rn 198 [(.pv (.int .i64 x0))] [])
noncomputable def f69 (x0:Int):Option Int:=dec (EN Q0) (Rn 199 [(.pv (.int .u64 x0))] [])
noncomputable def f97 (x0:List UInt8):Option Bool:=dec (EN Q1) (Rn 200 [(.pv (.str x0))] [])
theorem e494 (a0 b1:bR) {r:Int}
 (h:(
 Option.bind (f30 b1.Code) fun b9=>
 Option.bind (f30 a0.Code) fun cS=>
 Option.bind (f464 b9 cS) fun dB=>
 Option.bind (f496 a0.Name b1.Name) fun lH=>
 Option.bind (f478 [dB,lH]) fun gy=>
 some gy:Option Int)=some r):
 f494 a0 b1=some r:=
 lN (E:=(EN Q0)) h (
 Ik fun b9=>
 Ik fun cS=>
 Ik fun dB=>
 Ik fun lH=>
 Ik fun gy=>
 Is)
 (by kernel_rfl) (fun h=>je (C:=kj) rfl h)
theorem e478 (yN:List Int) {r:Int}
 (h:(
 Iv 0 yN (List.length yN:Int) 0:Option Int)=some r):
 f478 yN=some r:=
 lN (E:=(EN Q0)) h (
 (show fD _ (nR P kj Hq dg 132 3 [] [(3,(.pv (.int .i64 0))),(6,(.pv (.aW 1 (List.map (aD .i64) yN)))),(7,(.pv (.int .i64 (List.length (List.map (aD .i64) yN):Int)))),(8,(.pv (.int .i64 0)))] []) ( Iv 0 yN (List.length yN:Int) 0) from fun _ h=>by simpa only [List.length_map] using ef _ _ _ h))
 (by kernel_rfl) (fun h=>je (C:=kj) rfl h)
theorem Mi (Fw:Int) (v6:List Int) (v7 v8:Int) {r:Int}
 (h:(
 bif (decide (v8<v7)) then (
 bS v6 v8 fun aN=>
 bif (aN !=Fw) then (
 some aN)
 else (
 Iv Fw v6 v7 (IntKind.wrap .i64 (v8+1))))
 else (
 some Fw):Option Int)=some r):
 Iv Fw v6 v7 v8=some r:=
 lN (E:=(EN Q0)) h (
 Ic (
 Ig (aD .i64) fun aN=>
 Ic (
 Is) (
 Iz)) (
 Is))
 (by kernel_rfl) (fun h=>mN h)
theorem e464 (x0 y1:Int) {r:Int}
 (h:(
 Option.bind (f469 x0) fun b9=>
 Option.bind (f469 y1) fun cS=>
 bif b9 then (
 bif cS then (
 some 0)
 else (
 some (-1)))
 else (
 bif cS then (
 some 1)
 else (
 bif (decide (x0<y1)) then (
 some (-1))
 else (
 bif (decide (x0>y1)) then (
 some 1)
 else (
 some 0)))):Option Int)=some r):
 f464 x0 y1=some r:=
 lN (E:=(EN Q0)) h (
 Ik fun b9=>
 Ik fun cS=>
 Ic (
 Ic (
 Is) (
 Is)) (
 Ic (
 Is) (
 Ic (
 Is) (
 Ic (
 Is) (
 Is)))))
 (by kernel_rfl) (fun h=>je (C:=kj) rfl h)
theorem e30 (b0:List Int) {r:Int}
 (h:(
 KR 0 b0 (List.length b0:Int) 0:Option Int)=some r):
 f30 b0=some r:=
 lN (E:=(EN Q0)) h (
 (show fD _ (nR P kj Hq dg 134 3 [] [(3,(.pv (.int .i64 0))),(6,(.pv (.aW 1 (List.map (aD .u64) b0)))),(7,(.pv (.int .i64 (List.length (List.map (aD .u64) b0):Int)))),(8,(.pv (.int .i64 0)))] []) ( KR 0 b0 (List.length b0:Int) 0) from fun _ h=>by simpa only [List.length_map] using ef _ _ _ h))
 (by kernel_rfl) (fun h=>je (C:=kj) rfl h)
theorem SM (n3:Int) (v6:List Int) (v7 v8:Int) {r:Int}
 (h:(
 bif (decide (v8<v7)) then (
 bS v6 v8 fun aN=>
 Option.bind (f69 aN) fun cS=>
 KR (IntKind.wrap .i64 (n3+cS)) v6 v7 (IntKind.wrap .i64 (v8+1)))
 else (
 some n3):Option Int)=some r):
 KR n3 v6 v7 v8=some r:=
 lN (E:=(EN Q0)) h (
 Ic (
 Ig (aD .u64) fun aN=>
 Ik fun cS=>
 Iz) (
 Is))
 (by kernel_rfl) (fun h=>mN h)
theorem e496 (x0 y1:List UInt8) {r:Int}
 (h:(
 Option.bind (f97 x0) fun b9=>
 Option.bind (f97 y1) fun cS=>
 bif b9 then (
 bif cS then (
 some 0)
 else (
 some (-1)))
 else (
 bif cS then (
 some 1)
 else (
 bif (Op.bytesLess x0 y1) then (
 some (-1))
 else (
 bif (!(Op.bytesLess x0 y1||x0==y1)) then (
 some 1)
 else (
 some 0)))):Option Int)=some r):
 f496 x0 y1=some r:=
 lN (E:=(EN Q0)) h (
 Ik fun b9=>
 Ik fun cS=>
 Ic (
 Ic (
 Is) (
 Is)) (
 Ic (
 Is) (
 Ic (
 Is) (
 Ic (
 Is) (
 Is)))))
 (by kernel_rfl) (fun h=>je (C:=kj) rfl h)
theorem e495 (a0 b1:aF) {r:Int}
 (h:(
 Option.bind (f464 a0.aP b1.aP) fun b9=>
 some b9:Option Int)=some r):
 f495 a0 b1=some r:=
 lN (E:=(EN Q0)) h (
 Ik fun b9=>
 Is)
 (by kernel_rfl) (fun h=>je (C:=kj) rfl h)
theorem e469 (x0:Int) {r:Bool}
 (h:(
 some (x0 !=x0):Option Bool)=some r):
 f469 x0=some r:=
 lN (E:=(EN Q1)) h (
 Is)
 (by kernel_rfl) (fun h=>je (C:=kj) rfl h)
theorem e69 (x0:Int) {r:Int}
 (h:(
 check (0≤1) (
 check (0≤2) (
 check (0≤4) (
 check (0≤8) (
 check (0≤16) (
 check (0≤32) (
 some (IntKind.wrap .i64 ((BitVec.ofInt (IntKind.bits .i64) (IntKind.wrap .i64 ((IntKind.wrap .u64 ((IntKind.wrap .u64 ((IntKind.wrap .u64 ((IntKind.wrap .u64 ((BitVec.ofInt (IntKind.bits .u64) (IntKind.wrap .u64 ((Int.fdiv (IntKind.wrap .u64 ((IntKind.wrap .u64 ((BitVec.ofInt (IntKind.bits .u64) (Int.fdiv (IntKind.wrap .u64 ((IntKind.wrap .u64 ((BitVec.ofInt (IntKind.bits .u64) (Int.fdiv x0 (2^ min (Int.toNat 1) (IntKind.bits .u64)))&&&BitVec.ofInt (IntKind.bits .u64) 6148914691236517205).toNat:Int))+(IntKind.wrap .u64 ((BitVec.ofInt (IntKind.bits .u64) x0&&&BitVec.ofInt (IntKind.bits .u64) 6148914691236517205).toNat:Int)))) (2^ min (Int.toNat 2) (IntKind.bits .u64)))&&&BitVec.ofInt (IntKind.bits .u64) 3689348814741910323).toNat:Int))+(IntKind.wrap .u64 ((BitVec.ofInt (IntKind.bits .u64) (IntKind.wrap .u64 ((IntKind.wrap .u64 ((BitVec.ofInt (IntKind.bits .u64) (Int.fdiv x0 (2^ min (Int.toNat 1) (IntKind.bits .u64)))&&&BitVec.ofInt (IntKind.bits .u64) 6148914691236517205).toNat:Int))+(IntKind.wrap .u64 ((BitVec.ofInt (IntKind.bits .u64) x0&&&BitVec.ofInt (IntKind.bits .u64) 6148914691236517205).toNat:Int))))&&&BitVec.ofInt (IntKind.bits .u64) 3689348814741910323).toNat:Int)))) (2^ min (Int.toNat 4) (IntKind.bits .u64)))+(IntKind.wrap .u64 ((IntKind.wrap .u64 ((BitVec.ofInt (IntKind.bits .u64) (Int.fdiv (IntKind.wrap .u64 ((IntKind.wrap .u64 ((BitVec.ofInt (IntKind.bits .u64) (Int.fdiv x0 (2^ min (Int.toNat 1) (IntKind.bits .u64)))&&&BitVec.ofInt (IntKind.bits .u64) 6148914691236517205).toNat:Int))+(IntKind.wrap .u64 ((BitVec.ofInt (IntKind.bits .u64) x0&&&BitVec.ofInt (IntKind.bits .u64) 6148914691236517205).toNat:Int)))) (2^ min (Int.toNat 2) (IntKind.bits .u64)))&&&BitVec.ofInt (IntKind.bits .u64) 3689348814741910323).toNat:Int))+(IntKind.wrap .u64 ((BitVec.ofInt (IntKind.bits .u64) (IntKind.wrap .u64 ((IntKind.wrap .u64 ((BitVec.ofInt (IntKind.bits .u64) (Int.fdiv x0 (2^ min (Int.toNat 1) (IntKind.bits .u64)))&&&BitVec.ofInt (IntKind.bits .u64) 6148914691236517205).toNat:Int))+(IntKind.wrap .u64 ((BitVec.ofInt (IntKind.bits .u64) x0&&&BitVec.ofInt (IntKind.bits .u64) 6148914691236517205).toNat:Int))))&&&BitVec.ofInt (IntKind.bits .u64) 3689348814741910323).toNat:Int))))))&&&BitVec.ofInt (IntKind.bits .u64) 1085102592571150095).toNat:Int))+(Int.fdiv (IntKind.wrap .u64 ((BitVec.ofInt (IntKind.bits .u64) (IntKind.wrap .u64 ((Int.fdiv (IntKind.wrap .u64 ((IntKind.wrap .u64 ((BitVec.ofInt (IntKind.bits .u64) (Int.fdiv (IntKind.wrap .u64 ((IntKind.wrap .u64 ((BitVec.ofInt (IntKind.bits .u64) (Int.fdiv x0 (2^ min (Int.toNat 1) (IntKind.bits .u64)))&&&BitVec.ofInt (IntKind.bits .u64) 6148914691236517205).toNat:Int))+(IntKind.wrap .u64 ((BitVec.ofInt (IntKind.bits .u64) x0&&&BitVec.ofInt (IntKind.bits .u64) 6148914691236517205).toNat:Int)))) (2^ min (Int.toNat 2) (IntKind.bits .u64)))&&&BitVec.ofInt (IntKind.bits .u64) 3689348814741910323).toNat:Int))+(IntKind.wrap .u64 ((BitVec.ofInt (IntKind.bits .u64) (IntKind.wrap .u64 ((IntKind.wrap .u64 ((BitVec.ofInt (IntKind.bits .u64) (Int.fdiv x0 (2^ min (Int.toNat 1) (IntKind.bits .u64)))&&&BitVec.ofInt (IntKind.bits .u64) 6148914691236517205).toNat:Int))+(IntKind.wrap .u64 ((BitVec.ofInt (IntKind.bits .u64) x0&&&BitVec.ofInt (IntKind.bits .u64) 6148914691236517205).toNat:Int))))&&&BitVec.ofInt (IntKind.bits .u64) 3689348814741910323).toNat:Int)))) (2^ min (Int.toNat 4) (IntKind.bits .u64)))+(IntKind.wrap .u64 ((IntKind.wrap .u64 ((BitVec.ofInt (IntKind.bits .u64) (Int.fdiv (IntKind.wrap .u64 ((IntKind.wrap .u64 ((BitVec.ofInt (IntKind.bits .u64) (Int.fdiv x0 (2^ min (Int.toNat 1) (IntKind.bits .u64)))&&&BitVec.ofInt (IntKind.bits .u64) 6148914691236517205).toNat:Int))+(IntKind.wrap .u64 ((BitVec.ofInt (IntKind.bits .u64) x0&&&BitVec.ofInt (IntKind.bits .u64) 6148914691236517205).toNat:Int)))) (2^ min (Int.toNat 2) (IntKind.bits .u64)))&&&BitVec.ofInt (IntKind.bits .u64) 3689348814741910323).toNat:Int))+(IntKind.wrap .u64 ((BitVec.ofInt (IntKind.bits .u64) (IntKind.wrap .u64 ((IntKind.wrap .u64 ((BitVec.ofInt (IntKind.bits .u64) (Int.fdiv x0 (2^ min (Int.toNat 1) (IntKind.bits .u64)))&&&BitVec.ofInt (IntKind.bits .u64) 6148914691236517205).toNat:Int))+(IntKind.wrap .u64 ((BitVec.ofInt (IntKind.bits .u64) x0&&&BitVec.ofInt (IntKind.bits .u64) 6148914691236517205).toNat:Int))))&&&BitVec.ofInt (IntKind.bits .u64) 3689348814741910323).toNat:Int))))))&&&BitVec.ofInt (IntKind.bits .u64) 1085102592571150095).toNat:Int)) (2^ min (Int.toNat 8) (IntKind.bits .u64)))))+(Int.fdiv (IntKind.wrap .u64 ((IntKind.wrap .u64 ((BitVec.ofInt (IntKind.bits .u64) (IntKind.wrap .u64 ((Int.fdiv (IntKind.wrap .u64 ((IntKind.wrap .u64 ((BitVec.ofInt (IntKind.bits .u64) (Int.fdiv (IntKind.wrap .u64 ((IntKind.wrap .u64 ((BitVec.ofInt (IntKind.bits .u64) (Int.fdiv x0 (2^ min (Int.toNat 1) (IntKind.bits .u64)))&&&BitVec.ofInt (IntKind.bits .u64) 6148914691236517205).toNat:Int))+(IntKind.wrap .u64 ((BitVec.ofInt (IntKind.bits .u64) x0&&&BitVec.ofInt (IntKind.bits .u64) 6148914691236517205).toNat:Int)))) (2^ min (Int.toNat 2) (IntKind.bits .u64)))&&&BitVec.ofInt (IntKind.bits .u64) 3689348814741910323).toNat:Int))+(IntKind.wrap .u64 ((BitVec.ofInt (IntKind.bits .u64) (IntKind.wrap .u64 ((IntKind.wrap .u64 ((BitVec.ofInt (IntKind.bits .u64) (Int.fdiv x0 (2^ min (Int.toNat 1) (IntKind.bits .u64)))&&&BitVec.ofInt (IntKind.bits .u64) 6148914691236517205).toNat:Int))+(IntKind.wrap .u64 ((BitVec.ofInt (IntKind.bits .u64) x0&&&BitVec.ofInt (IntKind.bits .u64) 6148914691236517205).toNat:Int))))&&&BitVec.ofInt (IntKind.bits .u64) 3689348814741910323).toNat:Int)))) (2^ min (Int.toNat 4) (IntKind.bits .u64)))+(IntKind.wrap .u64 ((IntKind.wrap .u64 ((BitVec.ofInt (IntKind.bits .u64) (Int.fdiv (IntKind.wrap .u64 ((IntKind.wrap .u64 ((BitVec.ofInt (IntKind.bits .u64) (Int.fdiv x0 (2^ min (Int.toNat 1) (IntKind.bits .u64)))&&&BitVec.ofInt (IntKind.bits .u64) 6148914691236517205).toNat:Int))+(IntKind.wrap .u64 ((BitVec.ofInt (IntKind.bits .u64) x0&&&BitVec.ofInt (IntKind.bits .u64) 6148914691236517205).toNat:Int)))) (2^ min (Int.toNat 2) (IntKind.bits .u64)))&&&BitVec.ofInt (IntKind.bits .u64) 3689348814741910323).toNat:Int))+(IntKind.wrap .u64 ((BitVec.ofInt (IntKind.bits .u64) (IntKind.wrap .u64 ((IntKind.wrap .u64 ((BitVec.ofInt (IntKind.bits .u64) (Int.fdiv x0 (2^ min (Int.toNat 1) (IntKind.bits .u64)))&&&BitVec.ofInt (IntKind.bits .u64) 6148914691236517205).toNat:Int))+(IntKind.wrap .u64 ((BitVec.ofInt (IntKind.bits .u64) x0&&&BitVec.ofInt (IntKind.bits .u64) 6148914691236517205).toNat:Int))))&&&BitVec.ofInt (IntKind.bits .u64) 3689348814741910323).toNat:Int))))))&&&BitVec.ofInt (IntKind.bits .u64) 1085102592571150095).toNat:Int))+(Int.fdiv (IntKind.wrap .u64 ((BitVec.ofInt (IntKind.bits .u64) (IntKind.wrap .u64 ((Int.fdiv (IntKind.wrap .u64 ((IntKind.wrap .u64 ((BitVec.ofInt (IntKind.bits .u64) (Int.fdiv (IntKind.wrap .u64 ((IntKind.wrap .u64 ((BitVec.ofInt (IntKind.bits .u64) (Int.fdiv x0 (2^ min (Int.toNat 1) (IntKind.bits .u64)))&&&BitVec.ofInt (IntKind.bits .u64) 6148914691236517205).toNat:Int))+(IntKind.wrap .u64 ((BitVec.ofInt (IntKind.bits .u64) x0&&&BitVec.ofInt (IntKind.bits .u64) 6148914691236517205).toNat:Int)))) (2^ min (Int.toNat 2) (IntKind.bits .u64)))&&&BitVec.ofInt (IntKind.bits .u64) 3689348814741910323).toNat:Int))+(IntKind.wrap .u64 ((BitVec.ofInt (IntKind.bits .u64) (IntKind.wrap .u64 ((IntKind.wrap .u64 ((BitVec.ofInt (IntKind.bits .u64) (Int.fdiv x0 (2^ min (Int.toNat 1) (IntKind.bits .u64)))&&&BitVec.ofInt (IntKind.bits .u64) 6148914691236517205).toNat:Int))+(IntKind.wrap .u64 ((BitVec.ofInt (IntKind.bits .u64) x0&&&BitVec.ofInt (IntKind.bits .u64) 6148914691236517205).toNat:Int))))&&&BitVec.ofInt (IntKind.bits .u64) 3689348814741910323).toNat:Int)))) (2^ min (Int.toNat 4) (IntKind.bits .u64)))+(IntKind.wrap .u64 ((IntKind.wrap .u64 ((BitVec.ofInt (IntKind.bits .u64) (Int.fdiv (IntKind.wrap .u64 ((IntKind.wrap .u64 ((BitVec.ofInt (IntKind.bits .u64) (Int.fdiv x0 (2^ min (Int.toNat 1) (IntKind.bits .u64)))&&&BitVec.ofInt (IntKind.bits .u64) 6148914691236517205).toNat:Int))+(IntKind.wrap .u64 ((BitVec.ofInt (IntKind.bits .u64) x0&&&BitVec.ofInt (IntKind.bits .u64) 6148914691236517205).toNat:Int)))) (2^ min (Int.toNat 2) (IntKind.bits .u64)))&&&BitVec.ofInt (IntKind.bits .u64) 3689348814741910323).toNat:Int))+(IntKind.wrap .u64 ((BitVec.ofInt (IntKind.bits .u64) (IntKind.wrap .u64 ((IntKind.wrap .u64 ((BitVec.ofInt (IntKind.bits .u64) (Int.fdiv x0 (2^ min (Int.toNat 1) (IntKind.bits .u64)))&&&BitVec.ofInt (IntKind.bits .u64) 6148914691236517205).toNat:Int))+(IntKind.wrap .u64 ((BitVec.ofInt (IntKind.bits .u64) x0&&&BitVec.ofInt (IntKind.bits .u64) 6148914691236517205).toNat:Int))))&&&BitVec.ofInt (IntKind.bits .u64) 3689348814741910323).toNat:Int))))))&&&BitVec.ofInt (IntKind.bits .u64) 1085102592571150095).toNat:Int)) (2^ min (Int.toNat 8) (IntKind.bits .u64))))) (2^ min (Int.toNat 16) (IntKind.bits .u64)))))+(Int.fdiv (IntKind.wrap .u64 ((IntKind.wrap .u64 ((IntKind.wrap .u64 ((BitVec.ofInt (IntKind.bits .u64) (IntKind.wrap .u64 ((Int.fdiv (IntKind.wrap .u64 ((IntKind.wrap .u64 ((BitVec.ofInt (IntKind.bits .u64) (Int.fdiv (IntKind.wrap .u64 ((IntKind.wrap .u64 ((BitVec.ofInt (IntKind.bits .u64) (Int.fdiv x0 (2^ min (Int.toNat 1) (IntKind.bits .u64)))&&&BitVec.ofInt (IntKind.bits .u64) 6148914691236517205).toNat:Int))+(IntKind.wrap .u64 ((BitVec.ofInt (IntKind.bits .u64) x0&&&BitVec.ofInt (IntKind.bits .u64) 6148914691236517205).toNat:Int)))) (2^ min (Int.toNat 2) (IntKind.bits .u64)))&&&BitVec.ofInt (IntKind.bits .u64) 3689348814741910323).toNat:Int))+(IntKind.wrap .u64 ((BitVec.ofInt (IntKind.bits .u64) (IntKind.wrap .u64 ((IntKind.wrap .u64 ((BitVec.ofInt (IntKind.bits .u64) (Int.fdiv x0 (2^ min (Int.toNat 1) (IntKind.bits .u64)))&&&BitVec.ofInt (IntKind.bits .u64) 6148914691236517205).toNat:Int))+(IntKind.wrap .u64 ((BitVec.ofInt (IntKind.bits .u64) x0&&&BitVec.ofInt (IntKind.bits .u64) 6148914691236517205).toNat:Int))))&&&BitVec.ofInt (IntKind.bits .u64) 3689348814741910323).toNat:Int)))) (2^ min (Int.toNat 4) (IntKind.bits .u64)))+(IntKind.wrap .u64 ((IntKind.wrap .u64 ((BitVec.ofInt (IntKind.bits .u64) (Int.fdiv (IntKind.wrap .u64 ((IntKind.wrap .u64 ((BitVec.ofInt (IntKind.bits .u64) (Int.fdiv x0 (2^ min (Int.toNat 1) (IntKind.bits .u64)))&&&BitVec.ofInt (IntKind.bits .u64) 6148914691236517205).toNat:Int))+(IntKind.wrap .u64 ((BitVec.ofInt (IntKind.bits .u64) x0&&&BitVec.ofInt (IntKind.bits .u64) 6148914691236517205).toNat:Int)))) (2^ min (Int.toNat 2) (IntKind.bits .u64)))&&&BitVec.ofInt (IntKind.bits .u64) 3689348814741910323).toNat:Int))+(IntKind.wrap .u64 ((BitVec.ofInt (IntKind.bits .u64) (IntKind.wrap .u64 ((IntKind.wrap .u64 ((BitVec.ofInt (IntKind.bits .u64) (Int.fdiv x0 (2^ min (Int.toNat 1) (IntKind.bits .u64)))&&&BitVec.ofInt (IntKind.bits .u64) 6148914691236517205).toNat:Int))+(IntKind.wrap .u64 ((BitVec.ofInt (IntKind.bits .u64) x0&&&BitVec.ofInt (IntKind.bits .u64) 6148914691236517205).toNat:Int))))&&&BitVec.ofInt (IntKind.bits .u64) 3689348814741910323).toNat:Int))))))&&&BitVec.ofInt (IntKind.bits .u64) 1085102592571150095).toNat:Int))+(Int.fdiv (IntKind.wrap .u64 ((BitVec.ofInt (IntKind.bits .u64) (IntKind.wrap .u64 ((Int.fdiv (IntKind.wrap .u64 ((IntKind.wrap .u64 ((BitVec.ofInt (IntKind.bits .u64) (Int.fdiv (IntKind.wrap .u64 ((IntKind.wrap .u64 ((BitVec.ofInt (IntKind.bits .u64) (Int.fdiv x0 (2^ min (Int.toNat 1) (IntKind.bits .u64)))&&&BitVec.ofInt (IntKind.bits .u64) 6148914691236517205).toNat:Int))+(IntKind.wrap .u64 ((BitVec.ofInt (IntKind.bits .u64) x0&&&BitVec.ofInt (IntKind.bits .u64) 6148914691236517205).toNat:Int)))) (2^ min (Int.toNat 2) (IntKind.bits .u64)))&&&BitVec.ofInt (IntKind.bits .u64) 3689348814741910323).toNat:Int))+(IntKind.wrap .u64 ((BitVec.ofInt (IntKind.bits .u64) (IntKind.wrap .u64 ((IntKind.wrap .u64 ((BitVec.ofInt (IntKind.bits .u64) (Int.fdiv x0 (2^ min (Int.toNat 1) (IntKind.bits .u64)))&&&BitVec.ofInt (IntKind.bits .u64) 6148914691236517205).toNat:Int))+(IntKind.wrap .u64 ((BitVec.ofInt (IntKind.bits .u64) x0&&&BitVec.ofInt (IntKind.bits .u64) 6148914691236517205).toNat:Int))))&&&BitVec.ofInt (IntKind.bits .u64) 3689348814741910323).toNat:Int)))) (2^ min (Int.toNat 4) (IntKind.bits .u64)))+(IntKind.wrap .u64 ((IntKind.wrap .u64 ((BitVec.ofInt (IntKind.bits .u64) (Int.fdiv (IntKind.wrap .u64 ((IntKind.wrap .u64 ((BitVec.ofInt (IntKind.bits .u64) (Int.fdiv x0 (2^ min (Int.toNat 1) (IntKind.bits .u64)))&&&BitVec.ofInt (IntKind.bits .u64) 6148914691236517205).toNat:Int))+(IntKind.wrap .u64 ((BitVec.ofInt (IntKind.bits .u64) x0&&&BitVec.ofInt (IntKind.bits .u64) 6148914691236517205).toNat:Int)))) (2^ min (Int.toNat 2) (IntKind.bits .u64)))&&&BitVec.ofInt (IntKind.bits .u64) 3689348814741910323).toNat:Int))+(IntKind.wrap .u64 ((BitVec.ofInt (IntKind.bits .u64) (IntKind.wrap .u64 ((IntKind.wrap .u64 ((BitVec.ofInt (IntKind.bits .u64) (Int.fdiv x0 (2^ min (Int.toNat 1) (IntKind.bits .u64)))&&&BitVec.ofInt (IntKind.bits .u64) 6148914691236517205).toNat:Int))+(IntKind.wrap .u64 ((BitVec.ofInt (IntKind.bits .u64) x0&&&BitVec.ofInt (IntKind.bits .u64) 6148914691236517205).toNat:Int))))&&&BitVec.ofInt (IntKind.bits .u64) 3689348814741910323).toNat:Int))))))&&&BitVec.ofInt (IntKind.bits .u64) 1085102592571150095).toNat:Int)) (2^ min (Int.toNat 8) (IntKind.bits .u64)))))+(Int.fdiv (IntKind.wrap .u64 ((IntKind.wrap .u64 ((BitVec.ofInt (IntKind.bits .u64) (IntKind.wrap .u64 ((Int.fdiv (IntKind.wrap .u64 ((IntKind.wrap .u64 ((BitVec.ofInt (IntKind.bits .u64) (Int.fdiv (IntKind.wrap .u64 ((IntKind.wrap .u64 ((BitVec.ofInt (IntKind.bits .u64) (Int.fdiv x0 (2^ min (Int.toNat 1) (IntKind.bits .u64)))&&&BitVec.ofInt (IntKind.bits .u64) 6148914691236517205).toNat:Int))+(IntKind.wrap .u64 ((BitVec.ofInt (IntKind.bits .u64) x0&&&BitVec.ofInt (IntKind.bits .u64) 6148914691236517205).toNat:Int)))) (2^ min (Int.toNat 2) (IntKind.bits .u64)))&&&BitVec.ofInt (IntKind.bits .u64) 3689348814741910323).toNat:Int))+(IntKind.wrap .u64 ((BitVec.ofInt (IntKind.bits .u64) (IntKind.wrap .u64 ((IntKind.wrap .u64 ((BitVec.ofInt (IntKind.bits .u64) (Int.fdiv x0 (2^ min (Int.toNat 1) (IntKind.bits .u64)))&&&BitVec.ofInt (IntKind.bits .u64) 6148914691236517205).toNat:Int))+(IntKind.wrap .u64 ((BitVec.ofInt (IntKind.bits .u64) x0&&&BitVec.ofInt (IntKind.bits .u64) 6148914691236517205).toNat:Int))))&&&BitVec.ofInt (IntKind.bits .u64) 3689348814741910323).toNat:Int)))) (2^ min (Int.toNat 4) (IntKind.bits .u64)))+(IntKind.wrap .u64 ((IntKind.wrap .u64 ((BitVec.ofInt (IntKind.bits .u64) (Int.fdiv (IntKind.wrap .u64 ((IntKind.wrap .u64 ((BitVec.ofInt (IntKind.bits .u64) (Int.fdiv x0 (2^ min (Int.toNat 1) (IntKind.bits .u64)))&&&BitVec.ofInt (IntKind.bits .u64) 6148914691236517205).toNat:Int))+(IntKind.wrap .u64 ((BitVec.ofInt (IntKind.bits .u64) x0&&&BitVec.ofInt (IntKind.bits .u64) 6148914691236517205).toNat:Int)))) (2^ min (Int.toNat 2) (IntKind.bits .u64)))&&&BitVec.ofInt (IntKind.bits .u64) 3689348814741910323).toNat:Int))+(IntKind.wrap .u64 ((BitVec.ofInt (IntKind.bits .u64) (IntKind.wrap .u64 ((IntKind.wrap .u64 ((BitVec.ofInt (IntKind.bits .u64) (Int.fdiv x0 (2^ min (Int.toNat 1) (IntKind.bits .u64)))&&&BitVec.ofInt (IntKind.bits .u64) 6148914691236517205).toNat:Int))+(IntKind.wrap .u64 ((BitVec.ofInt (IntKind.bits .u64) x0&&&BitVec.ofInt (IntKind.bits .u64) 6148914691236517205).toNat:Int))))&&&BitVec.ofInt (IntKind.bits .u64) 3689348814741910323).toNat:Int))))))&&&BitVec.ofInt (IntKind.bits .u64) 1085102592571150095).toNat:Int))+(Int.fdiv (IntKind.wrap .u64 ((BitVec.ofInt (IntKind.bits .u64) (IntKind.wrap .u64 ((Int.fdiv (IntKind.wrap .u64 ((IntKind.wrap .u64 ((BitVec.ofInt (IntKind.bits .u64) (Int.fdiv (IntKind.wrap .u64 ((IntKind.wrap .u64 ((BitVec.ofInt (IntKind.bits .u64) (Int.fdiv x0 (2^ min (Int.toNat 1) (IntKind.bits .u64)))&&&BitVec.ofInt (IntKind.bits .u64) 6148914691236517205).toNat:Int))+(IntKind.wrap .u64 ((BitVec.ofInt (IntKind.bits .u64) x0&&&BitVec.ofInt (IntKind.bits .u64) 6148914691236517205).toNat:Int)))) (2^ min (Int.toNat 2) (IntKind.bits .u64)))&&&BitVec.ofInt (IntKind.bits .u64) 3689348814741910323).toNat:Int))+(IntKind.wrap .u64 ((BitVec.ofInt (IntKind.bits .u64) (IntKind.wrap .u64 ((IntKind.wrap .u64 ((BitVec.ofInt (IntKind.bits .u64) (Int.fdiv x0 (2^ min (Int.toNat 1) (IntKind.bits .u64)))&&&BitVec.ofInt (IntKind.bits .u64) 6148914691236517205).toNat:Int))+(IntKind.wrap .u64 ((BitVec.ofInt (IntKind.bits .u64) x0&&&BitVec.ofInt (IntKind.bits .u64) 6148914691236517205).toNat:Int))))&&&BitVec.ofInt (IntKind.bits .u64) 3689348814741910323).toNat:Int)))) (2^ min (Int.toNat 4) (IntKind.bits .u64)))+(IntKind.wrap .u64 ((IntKind.wrap .u64 ((BitVec.ofInt (IntKind.bits .u64) (Int.fdiv (IntKind.wrap .u64 ((IntKind.wrap .u64 ((BitVec.ofInt (IntKind.bits .u64) (Int.fdiv x0 (2^ min (Int.toNat 1) (IntKind.bits .u64)))&&&BitVec.ofInt (IntKind.bits .u64) 6148914691236517205).toNat:Int))+(IntKind.wrap .u64 ((BitVec.ofInt (IntKind.bits .u64) x0&&&BitVec.ofInt (IntKind.bits .u64) 6148914691236517205).toNat:Int)))) (2^ min (Int.toNat 2) (IntKind.bits .u64)))&&&BitVec.ofInt (IntKind.bits .u64) 3689348814741910323).toNat:Int))+(IntKind.wrap .u64 ((BitVec.ofInt (IntKind.bits .u64) (IntKind.wrap .u64 ((IntKind.wrap .u64 ((BitVec.ofInt (IntKind.bits .u64) (Int.fdiv x0 (2^ min (Int.toNat 1) (IntKind.bits .u64)))&&&BitVec.ofInt (IntKind.bits .u64) 6148914691236517205).toNat:Int))+(IntKind.wrap .u64 ((BitVec.ofInt (IntKind.bits .u64) x0&&&BitVec.ofInt (IntKind.bits .u64) 6148914691236517205).toNat:Int))))&&&BitVec.ofInt (IntKind.bits .u64) 3689348814741910323).toNat:Int))))))&&&BitVec.ofInt (IntKind.bits .u64) 1085102592571150095).toNat:Int)) (2^ min (Int.toNat 8) (IntKind.bits .u64))))) (2^ min (Int.toNat 16) (IntKind.bits .u64))))) (2^ min (Int.toNat 32) (IntKind.bits .u64)))))))&&&BitVec.ofInt (IntKind.bits .i64) 127).toNat:Int)))))))):Option Int)=some r):
 f69 x0=some r:=
 lN (E:=(EN Q0)) h (
 Ih (
 Ih (
 Ih (
 Ih (
 Ih (
 Ih (
 Is)))))))
 (by kernel_rfl) (fun h=>je (C:=kj) rfl h)
theorem e97 (x0:List UInt8) {r:Bool}
 (h:(
 some (!(x0==x0)):Option Bool)=some r):
 f97 x0=some r:=
 lN (E:=(EN Q1)) h (
 Is)
 (by kernel_rfl) (fun h=>je (C:=kj) rfl h)
end Go.Proofs.YthppjmoncapdfaaGreatDoor.cl.cq
set_option linter.unusedVariables false
set_option linter.unusedSimpArgs false
namespace Go.Proofs.YthppjmoncapdfaaGreatDoor.cl
open Go Go.AM
namespace cq
theorem i69 {x:Nat} (hx:x<18446744073709551616):f69 (x:Int)=some ((dZ 64 x:Nat):Int):=by
 obtain ⟨p1,p2,p3,p4,p5⟩:=pop.YW hx;obtain ⟨k1,k2,k3⟩:=pop.LN p5;refine e69 _ ?_;rw [bY (by decide),bY (by decide),bY (by decide),bY (by decide),bY (by decide),bY (by decide)];rw [pop.t1 hx p2,pop.t2 p2 p3,pop.t3 p4,pop.t48 k1,pop.t416 k2,pop.t432 (by rw [←k3];omega),←k3,pop.t5 p5,p1]
def wl (w:Nat):List Int:=bif Nat.beq w 0 then [] else [(w:Int)]
theorem ZK {w:Nat} (h:w≠0):Nat.beq w 0=false:=by
 cases hc:Nat.beq w 0 with
 |false=>rfl
 |true=>exact absurd (Nat.eq_of_beq_eq_true hc) h
theorem i30 {w:Nat} (hw:w<18446744073709551616):f30 (wl w)=some ((dZ 64 w:Nat):Int):=by
 refine e30 _ ?_;by_cases h0:w=0
 ·subst h0
  show KR 0 [] 0 0=some 0;refine SM _ _ _ _ ?_;rfl
 ·have e:wl w=[(w:Int)]:=by unfold wl;rw [ZK h0];rfl
  have hle:=pop.Vc 64 w;rw [e];refine SM _ _ _ _ ?_;rw [cond_pos (by simp),show (0:Int)=((0:Nat):Int) from rfl,eo (x:=(w:Int)) (by simp),i69 hw,aH];refine SM _ _ _ _ ?_;rw [cU (by omega),cond_neg (by simp),iK (by omega) (by omega)];simp
def LC (p q:qX):Int:=
 if dZ 64 q.2<dZ 64 p.2 then-1 else if dZ 64 p.2<dZ 64 q.2 then 1 else if Op.bytesLess p.1 q.1=true then-1 else if p.1=q.1 then 0 else 1
def tc (p:qX):bR:=⟨p.1,wl p.2⟩
theorem h96:∀x:Int,f469 x=some false:=fun x=>e469 _ (by simp)
theorem h50:∀x y:Int,f464 x y=some (if x<y then-1 else if y<x then 1 else 0):=by
 intro x y;refine e464 _ _ ?_;rw [h96,aH,h96,aH,cond_false,cond_false];by_cases h1:x<y
 ·rw [cond_pos (by simpa using h1),if_pos h1]
 ·rw [cond_neg (by simpa using h1),if_neg h1]
  by_cases h2:y<x
  ·rw [cond_pos (by simpa using h2),if_pos h2]
  ·rw [cond_neg (by simpa using h2),if_neg h2]
def Zh (p:Int×Int):aF:=⟨p.1,p.2⟩
theorem i495 (p q:Int×Int):f495 (Zh p) (Zh q)=some (if p.1<q.1 then-1 else if q.1<p.1 then 1 else 0):=by
 refine e495 _ _ ?_;show Option.bind (f464 p.1 q.1) _=_;rw [h50,aH]
theorem i48 {p q:qX} (hp:p.2<18446744073709551616) (hq:q.2<18446744073709551616):f494 (tc p) (tc q)=some (LC p q):=by
 refine e494 _ _ ?_;show Option.bind (f30 (wl q.2)) _=_;rw [i30 hq,aH];show Option.bind (f30 (wl p.2)) _=_;rw [i30 hp,aH];have h97:∀x:List UInt8,f97 x=some false:=fun x=>e97 _ (by simp)
 have h51:∀x y:List UInt8,f496 x y=some (if Op.bytesLess x y=true then-1 else if x=y then 0 else 1):=by
  intro x y;refine e496 _ _ ?_;rw [h97,aH,h97,aH,cond_false,cond_false];by_cases h1:Op.bytesLess x y=true
  ·rw [cond_pos h1,if_pos h1]
  ·have Px:Op.bytesLess x y=false:=by simpa using h1
   rw [cond_neg Px,if_neg h1,Px,Bool.false_or];by_cases h2:x=y
   ·rw [cond_neg (by simp [h2]),if_pos h2]
   ·rw [cond_pos (by simp [h2]),if_neg h2]
 have h49:∀x y:Int,f478 [x,y]=some (if x≠0 then x else y):=by
  intro x y;refine e478 _ ?_;refine Mi _ _ _ _ ?_;rw [cond_pos (by simp),show (0:Int)=((0:Nat):Int) from rfl,eo (x:=x) (by simp)];by_cases h1:x=0
  ·rw [cond_neg (by simp [h1]),if_neg (by simp [h1]),cU (by omega)]
   refine Mi _ _ _ _ ?_;rw [cond_pos (by simp),eo (x:=y) (by simp)];by_cases h2:y=0
   ·rw [cond_neg (by simp [h2]),cU (by omega)]
    refine Mi _ _ _ _ ?_;rw [cond_neg (by simp),h2];rfl
   ·rw [cond_pos (by simp [h2])]
  ·rw [cond_pos (by simp [h1]),if_pos (by simp [h1])]
 rw [h50,aH];show Option.bind (f496 p.1 q.1) _=_;rw [h51,aH,h49,aH];unfold LC;generalize dZ 64 q.2=b;generalize dZ 64 p.2=a;by_cases h1:b<a
 ·rw [if_pos (show ((b:Nat):Int)<((a:Nat):Int) by omega),if_pos h1,if_pos (by decide)]
 ·rw [if_neg (show¬((b:Nat):Int)<((a:Nat):Int) by omega),if_neg h1]
  by_cases h2:a<b
  ·rw [if_pos (show ((a:Nat):Int)<((b:Nat):Int) by omega),if_pos h2,if_pos (by decide)]
  ·rw [if_neg (show¬((a:Nat):Int)<((b:Nat):Int) by omega),if_neg h2,if_neg (by decide)]
theorem NU (p q:qX):decide (LC p q<0)=KY p q:=by
 unfold LC KY;by_cases h1:dZ 64 q.2<dZ 64 p.2
 ·have:Nat.blt (dZ 64 q.2) (dZ 64 p.2)=true:=Nat.ble_eq_true_of_le h1
  rw [if_pos h1,this];rfl
 ·have hb:Nat.blt (dZ 64 q.2) (dZ 64 p.2)=false:=by
   cases hc:Nat.blt (dZ 64 q.2) (dZ 64 p.2) with
   |false=>rfl
   |true=>exact absurd (Nat.le_of_ble_eq_true hc) h1
  rw [if_neg h1,hb,Bool.false_or];by_cases h2:dZ 64 p.2<dZ 64 q.2
  ·have he:Nat.beq (dZ 64 p.2) (dZ 64 q.2)=false:=by
    cases hc:Nat.beq (dZ 64 p.2) (dZ 64 q.2) with
    |false=>rfl
    |true=>have:=Nat.eq_of_beq_eq_true hc;omega
   rw [if_pos h2,he];rfl
  ·have he:Nat.beq (dZ 64 p.2) (dZ 64 q.2)=true:=by
    rw [show dZ 64 p.2=dZ 64 q.2 by omega];exact Nat.beq_refl _
   rw [if_neg h2,he,Bool.true_and];cases hl:Op.bytesLess p.1 q.1 with
   |true=>rw [if_pos rfl];rfl
   |false=>
    rw [if_neg (by simp)];by_cases h3:p.1=q.1
    ·rw [if_pos h3];rfl
    ·rw [if_neg h3];rfl
end cq
end Go.Proofs.YthppjmoncapdfaaGreatDoor.cl
set_option linter.unusedVariables false
set_option linter.unusedSimpArgs false
namespace Go.Proofs.YthppjmoncapdfaaGreatDoor.cl
open Go Go.AM Go.RowKit
theorem ok:wR P=true:=by kernel_rfl
theorem iA {g:Nat} {fn:Func} (hf:P.funcs[g]? =some fn) (hn:¬(fn.name= "runtime.NumGoroutine")) (hb:fn.body.isSome=true) (us:Array Value) (w2:World):(callFunc g us).run P w2= .ok (.enter g us) w2:=by
 obtain ⟨c,hc⟩:=Option.isSome_iff_exists.1 hb;simp [callFunc,hf,hn,hc]
theorem L3 (f:Nat):(cq.Hq f).blk=[]:=by
 have key:∀(l:List (Nat×Hint)),(l.all fun p=>Nat.beq p.1 173||p.2.blk.isEmpty)=true→∀f,f≠173→((find l f).getD {}).blk=[]:=by
  intro l
  induction l with
  |nil=>intro _ f _;rfl
  |cons p l ih=>
   intro h f hf;rw [List.all_cons,Bool.and_eq_true,Bool.or_eq_true] at h;simp only [find];cases hb:Nat.beq p.1 f with
   |true=>
    rw [cond_true];rcases h.1 with h1|h1
    ·exact absurd ((Nat.eq_of_beq_eq_true hb).symm.trans (Nat.eq_of_beq_eq_true h1)) hf
    ·exact List.isEmpty_iff.1 h1
   |false=>rw [cond_false];exact ih h.2 f hf
 unfold cq.Hq;cases hb:Nat.beq f 173 with
 |true=>rfl
 |false=>
  rw [cond_false];exact key hints (by kernel_rfl) f fun e=>by rw [e] at hb;cases hb
theorem RB:∀f fn c,P.funcs[f]? =some fn→fn.body=some c→iP True (fun _ _=>none) P (cq.Hq f) fn.ntmps c:=fun f fn c _ _=>iP.none (L3 f) c
theorem VR:dL True (fun _ _=>none) P cq.dg:=fun g args bT r dO hv=>by cases hv
structure SK where
 T:Type
 enc:T→List AV
 good:T→Prop
 c:T→T→Int
 ty:Nat
 cm:Nat
 two:∀x,∃a b,enc x=[a,b]
 ZI:∀p q,c p q<0→¬c q p<0
 up:∀x y z,c x y<0→¬c z y<0→c x z<0
 nul:∀μ:Mu,∃p us,fT μ (enc p) us∧good p
 runs:∀x y,good x→good y→cq.Rn cm [(.pv (.agg (enc x))),(.pv (.agg (enc y)))] []=some (.int .i64 (c x y),[])
 enters:∀(us:Array Value) (w2:World),(callFunc cm us).run P w2= .ok (.enter cm us) w2
abbrev Al (S:SK) (μ:Mu):Type:={ x:S.T×List Value // fT μ (S.enc x.1) x.2∧S.good x.1 }
variable {S:SK}
noncomputable instance (μ:Mu):Inhabited (Al S μ):=⟨Classical.choice (by
 obtain ⟨p,us,h⟩:=S.nul μ
 exact ⟨⟨(p,us),h⟩⟩)⟩
def Al.cells {μ:Mu} (x:Al S μ):List Value:=x.1.2
theorem Al.len {μ:Mu} (x:Al S μ):x.cells.length=2:=by
 obtain ⟨⟨p,vs⟩,⟨h,_⟩,_⟩:=x;obtain ⟨a,b,e⟩:=S.two p;have h':br μ (S.enc p) vs:=h;rw [e] at h';obtain ⟨u,us,e0,_,⟨u',us',e',_,e''⟩⟩:=h';have e2:us'=[]:=e'';show vs.length=2;rw [e0,e',e2];rfl
theorem Al.one {μ:Mu} (x:Al S μ):∀v∈x.cells,v.oneCell'=true:=x.2.1.2
def Al.cf {μ:Mu} (x y:Al S μ):Int:=S.c x.1.1 y.1.1
def SK.lt (S:SK) (x y:S.T):Bool:=decide (S.c x y<0)
theorem swo {μ:Mu}:Go.Sort.SWO (ltOf (Al.cf (S:=S) (μ:=μ))) where
 irrefl x:=by
  show decide (S.c x.1.1 x.1.1<0)=false;exact decide_eq_false fun h=>S.ZI _ _ h h
 trans x y z h1 h2:=by
  have Px:S.c x.1.1 y.1.1<0:=of_decide_eq_true h1;have QT:S.c y.1.1 z.1.1<0:=of_decide_eq_true h2;exact decide_eq_true (S.up _ _ _ Px (S.ZI _ _ QT))
 ntrans x y z h1 h2:=by
  have Px:¬S.c x.1.1 y.1.1<0:=of_decide_eq_false h1;have QT:¬S.c y.1.1 z.1.1<0:=of_decide_eq_false h2;exact decide_eq_false fun hc=>Px (S.up _ _ _ hc QT)
theorem ZS {μ:Mu} {W:World} (dQ:BU μ W) (x y:Al S μ):Calls P S.cm #[.agg x.cells.toArray, .agg y.cells.toArray] W fun e w'=>e= .returned (.int .i64 (Al.cf x y))∧∃q os',w'=Go.Sort.grow (W.drewN q) os':=by
 have hr:=S.runs x.1.1 y.1.1 x.2.2 y.2.2
 have hs:=(dL.Zv (zX (q:=True) (B:=fun _ _=>none) ok RB VR S.cm _ [] _ _ hr W μ (fun _=>undef) [.agg x.cells.toArray, .agg y.cells.toArray] (fun _ _ _ h=>by cases h) dQ (fun id o h=>by cases h) (fun i j oi oj h=>by cases h)
  ⟨_,_,rfl,(by show rep μ (.agg (S.enc x.1.1)) _;rw [rep];exact ⟨_,rfl,x.2.1.1,x.2.1.2⟩),_,_,rfl,(by show rep μ (.agg (S.enc y.1.1)) _;rw [rep];exact ⟨_,rfl,y.2.1.1,y.2.1.2⟩),rfl⟩) fun xs h=>by cases h).2
 refine hs.mono ?_
 rintro e w' ⟨v,μ',loc',rfl,hP⟩
 have hv:=hP.pure rfl;rw [rep] at hv;subst hv;refine ⟨rfl,w'.drawn-W.drawn,w'.heap.extract W.heap.size w'.heap.size,?_⟩;have hd:=hP.drawn trivial;have hheap:w'.heap=W.heap++w'.heap.extract W.heap.size w'.heap.size:=by
  apply Array.ext_getElem?;intro b;by_cases hb:b<W.heap.size
  ·rw [Array.getElem?_append_left hb]
   exact hP.keep b hb (by rintro ⟨id,v,h,_⟩;simp [fL] at h)
  ·rw [Array.getElem?_append_right (by omega),Array.getElem?_extract]
   have hg:=hP.grown;by_cases Er:b<w'.heap.size
   ·rw [if_pos (by omega),show W.heap.size+(b-W.heap.size)=b by omega]
   ·rw [if_neg (by omega),Array.getElem?_eq_none (by omega)]
 have ext:∀{a b:World},a.heap=b.heap→a.tape=b.tape→a.drawn=b.drawn→a.os=b.os→a.output=b.output→a=b:=by
  intro a b h1 h2 h3 h4 h5;cases a;cases b;simp only at h1 h2 h3 h4 h5;subst h1 h2 h3 h4 h5;rfl
 exact ext hheap hP.tape (show w'.drawn=W.drawn+(w'.drawn-W.drawn) by omega) hP.os hP.output
end Go.Proofs.YthppjmoncapdfaaGreatDoor.cl
set_option linter.unusedVariables false
set_option linter.unusedSimpArgs false
namespace Go.Proofs.YthppjmoncapdfaaGreatDoor.cl
open Go Go.AM Go.RowKit
open Go.Sort (flatK size_flatK get_flatK ext_get!)
variable {S:SK}
theorem Rp {μ:Mu}:∀{l:List S.T} {vs:List Value},(∀p∈l,S.good p)→bZ μ 2 (l.map S.enc) vs→∃iQ:List (Al S μ),iQ.map (fun x=>x.1.1)=l∧vs=(iQ.map Al.cells).flatten:=by
 intro l
 induction l with
 |nil=>intro vs _ h;exact ⟨[],rfl,h⟩
 |cons p l ih=>
  intro vs hl h;obtain ⟨us,ws,rfl,h1,h2,h3⟩:=h;obtain ⟨iQ,e1,e2⟩:=ih (fun q hq=>hl q (by simp [hq])) h3;refine ⟨⟨(p,us),h1,hl p (by simp)⟩::iQ,?_,?_⟩
  ·rw [List.map_cons,e1]
  ·rw [List.map_cons,List.flatten_cons,e2];rfl
theorem TW {μ:Mu}:∀(iQ:List (Al S μ)),bZ μ 2 (iQ.map fun x=>S.enc x.1.1) (iQ.map Al.cells).flatten:=by
 intro iQ
 induction iQ with
 |nil=>rfl
 |cons x iQ ih=>exact ⟨x.cells,(iQ.map Al.cells).flatten,rfl,x.2.1,x.len,ih⟩
theorem xT {μ:Mu} (iQ:List (Al S μ)):(iQ.map Al.cells).flatten.length=iQ.length *2:=by
 induction iQ with
 |nil=>rfl
 |cons x iQ ih=>rw [List.map_cons,List.flatten_cons,List.length_append,ih,x.len,List.length_cons];omega
theorem R7 {μ:Mu}:∀(iQ:List (Al S μ)) (t:Nat),t<iQ.length *2→(iQ.map Al.cells).flatten[t]! =(iQ[t / 2]!).cells[t % 2]! :=by
 intro iQ
 induction iQ with
 |nil=>intro t h;simp at h
 |cons x iQ ih=>
  intro t h;have hx:=x.len;have hf:=xT iQ;rw [List.length_cons] at h;rw [List.map_cons,List.flatten_cons];by_cases h2:t<2
  ·have e1:t / 2=0:=by omega
   have e2:t % 2=t:=by omega
   rw [e1,e2,List.getElem!_eq_getElem?_getD,List.getElem?_append_left (by omega)];simp [List.getElem!_eq_getElem?_getD]
  ·obtain ⟨s,rfl⟩:∃s,t=s+2:=⟨t-2,by omega⟩
   have e1:(s+2) / 2=s / 2+1:=by omega
   have e2:(s+2) % 2=s % 2:=by omega
   have:=ih s (by omega);rw [List.getElem!_eq_getElem?_getD] at this;rw [e1,e2,List.getElem!_eq_getElem?_getD,List.getElem?_append_right (by omega),hx,show s+2-2=s by omega,this];simp [List.getElem!_eq_getElem?_getD]
theorem JC {μ:Mu} (iQ:List (Al S μ)):flatK Al.cells 2 iQ.toArray=(iQ.map Al.cells).flatten.toArray:=by
 refine ext_get! (by simp only [size_flatK,List.size_toArray];exact (xT iQ).symm) fun t ht=> ?_
 have ht':t<iQ.length *2:=by simpa using ht
 rw [get_flatK _ _ _ t (by simpa using ht')];have:=R7 iQ t ht';simp only [List.getElem!_toArray] at this⊢;exact this.symm
theorem SK.lt_asymm (S:SK) (p q:S.T) (h:S.lt p q=true):S.lt q p=false:=decide_eq_false (S.ZI _ _ (of_decide_eq_true h))
theorem SK.lt_up (S:SK) (x y z:S.T) (h:S.lt x y=true) (h':S.lt z y=false):S.lt x z=true:=decide_eq_true (S.up _ _ _ (of_decide_eq_true h) (of_decide_eq_false h'))
theorem Ni {μ:Mu} {l:List S.T} (hs:∀x∈l,∀y∈l,S.lt x y=false→S.lt y x=false→x=y) {iQ:List (Al S μ)} (e:iQ.map (fun x=>x.1.1)=l) {d':Array (Al S μ)} (hp:Go.Sort.PermIn 0 iQ.toArray.size iQ.toArray d') (hso:Go.Sort.SortedIn (ltOf Al.cf) 0 iQ.toArray.size d'):
  d'.toList.map (fun x=>x.1.1)=gZ S.lt l∧d'.toList.length=iQ.length:=by
 obtain ⟨p1,_,p3⟩:=hp;have hsz:d'.size=iQ.length:=by simpa using p1
 have e3:d'.toList.Perm iQ:=by
  have h1:d'.extract 0 iQ.toArray.size=d':=by
   rw [←p1];simp
  have h2:iQ.toArray.extract 0 iQ.toArray.size=iQ.toArray:=by simp
  rw [h1,h2] at p3;simpa using p3
 refine ⟨?_,by simpa using hsz⟩;obtain ⟨s1,s2⟩:=nT S.lt S.lt_asymm S.lt_up l;have hp':(d'.toList.map fun x=>x.1.1).Perm l:=by rw [←e];exact e3.map _
 refine uV (lt:=S.lt) (hp'.trans s2.symm) ?_ s1 ?_
 ·unfold mH
  rw [List.pairwise_map,List.pairwise_iff_getElem];intro i j hi hj hij;have hi':i<d'.size:=by simpa using hi
  have hj':j<d'.size:=by simpa using hj
  have:=hso i j (Nat.zero_le _) hij (by simpa [hsz] using hj');rw [show ltOf Al.cf=fun x y:Al S μ=>S.lt x.1.1 y.1.1 from rfl,getElem!_pos d' j hj',getElem!_pos d' i hi'] at this;simpa using this
 ·intro x hx y hy
  exact hs x (hp'.mem_iff.1 hx) y (hp'.mem_iff.1 hy)
theorem Uk {μ:Mu} {loc:Nat→Value} {w:World} {l:List S.T} {ρ:Go.Shelf.Ren} (L:SlLaysF0.n6 P ρ) (aE:∀w,(isAgg (ρ.t 24)).run P w= .ok true w) (zE:∀w,(Go.sizeOf (ρ.t 24)).run P w= .ok 2 w) (hlen:l.length≤1073741824) (hst:∀x∈l,∀y∈l,S.lt x y=false→S.lt y x=false→x=y) (hw:∀p∈l,S.good p) (dQ:BU μ w) (cu:ig w.heap.size (fL False loc [10000]) μ loc w 10000 (.row S.ty 2 (l.map S.enc))):
  Calls P (ρ.f 6) #[loc 10000, .func (.func S.cm) #[] #[]] w fun e w'=>∃v μ' loc',e= .returned v∧dM False μ loc [10000] (.dI []) [(10000, .row S.ty 2 ((gZ S.lt l).map S.enc))] w v μ' loc' w':=by
 have qE:=cu;obtain ⟨vs,hown,hrc,rC⟩:=qE;rcases hown.2 with ⟨e1,h0⟩|⟨g,cap,cur,e1,_,hg,hcap,Sh,hsz,rN⟩
 ·have hl:l=[]:=by
   cases l with
   |nil=>rfl
   |cons a b=>simp at h0
  subst hl;have hc:Calls P (ρ.f 6) #[.slice none 0 0, .func (.func S.cm) #[] #[]] w fun e w'=>e= .returned (.tuple #[])∧w'=w:=AnyF.slices_SortFunc_none L none 0 _ w
  rw [e1];refine hc.mono ?_
  rintro e w' ⟨rfl,rfl⟩
  exact ⟨_,μ,loc,rfl,Fp dQ cu⟩
 ·obtain ⟨iQ,ha1,ha2⟩:=Rp hw hrc
  have hal:iQ.length=l.length:=by rw [←ha1];simp
  have Sg:(l.map S.enc).length=iQ.length:=by simp [hal]
  rw [Sg] at e1 hcap rN;rw [ha2] at rN;have hfl:=xT iQ;have hin:fE (loc 10000) g:=by rw [e1];exact eG.2 rfl
  obtain ⟨Sk,oc⟩:=rC g hin;have hlt:g<w.heap.size:=(Array.getElem?_eq_some_iff.1 hg).1;have hcell:∀(j:Nat),j<iQ.length *2→cur[j]? =(iQ.map Al.cells).flatten[j]? :=by
   intro j hj;have h1:(cur.toList.take (iQ.length *2))[j]? =(iQ.map Al.cells).flatten[j]? :=by rw [rN]
   rw [List.getElem?_take,if_pos hj] at h1;simpa using h1
  have hH:Go.Sort.HoldsK Al.cells 2 w g 0 iQ.toArray:=by
   intro j hj;rw [JC] at hj⊢;have hj':j<iQ.length *2:=by rw [←hfl];simpa using hj
   have hcj:=hcell j hj';have hjf:j<(iQ.map Al.cells).flatten.length:=by omega
   rw [List.getElem?_eq_getElem hjf] at hcj;rw [Nat.zero_add];refine ⟨?_,?_⟩
   ·unfold World.cell?
    simp only [hg];rw [List.getElem!_toArray,List.getElem!_eq_getElem?_getD,List.getElem?_eq_getElem hjf];simp [hcj]
   ·unfold World.frozen?
    simp [hg]
  have hcmp:CmpLays P S.cm #[] (Al.cells (S:=S) (μ:=μ)) 2 Al.cf g 0 iQ.toArray.size w:=by
   intro m os dk hdk x y;refine ZS (W:=sortWorldK Al.cells 2 w g 0 m dk os) ?_ x y;obtain ⟨_,k2,_⟩:=CE (enc:=id) (n:=m) (d:=flatK Al.cells 2 dk) (os:=os) hg;intro b j z hz;have h:=dQ b j z hz;have hne:b≠g:=fun e=>by subst e;rw [oc j] at hz;cases hz
   exact (dK (k2 b (gW h) hne) j).trans h
  have hc:Calls P (ρ.f 6) #[.slice (some ⟨g,0,none⟩) iQ.toArray.size cap, .func (.func S.cm) #[] #[]] w fun e w'=>e= .returned (.tuple #[])∧∃d' n os,Go.Sort.PermIn 0 iQ.toArray.size iQ.toArray d'∧Go.Sort.SortedIn (ltOf Al.cf) 0 iQ.toArray.size d'∧w'=sortWorldK Al.cells 2 w g 0 n d' os:=
   AnyQ.slices_SortFunc L 2 aE zE Al.cells Al.len Al.one Al.cf swo S.cm #[] g 0 cap iQ.toArray w S.enters hcmp hH hlt (by simp;omega)
  have Bq:Calls P (ρ.f 6) #[.slice (some ⟨g,0,none⟩) iQ.length cap, .func (.func S.cm) #[] #[]] w fun e w'=>e= .returned (.tuple #[])∧∃d' n os,Go.Sort.PermIn 0 iQ.toArray.size iQ.toArray d'∧Go.Sort.SortedIn (ltOf Al.cf) 0 iQ.toArray.size d'∧w'=sortWorldK Al.cells 2 w g 0 n d' os:=by
   simpa using hc
  rw [e1];refine Bq.mono ?_
  rintro e w' ⟨rfl,d',n,os,hp,hso,rfl⟩
  obtain ⟨q1,q2⟩:=Ni hst ha1 hp hso;have Yc:=xT d'.toList;have hfa:flatK Al.cells 2 d'=(d'.toList.map Al.cells).flatten.toArray:=by
   have:=JC d'.toList;simpa using this
  obtain ⟨k1,k2,k3⟩:=CE (enc:=id) (n:=n) (d:=flatK Al.cells 2 d') (os:=os) hg;obtain ⟨t1,t2⟩:=KS (enc:=id) (l:=(d'.toList.map Al.cells).flatten) (cur:=cur) (by rw [Yc,q2,hsz];omega);rw [←hfa] at t1 t2;rw [List.map_id] at t2;have hil:(gZ S.lt l).length=iQ.length:=by rw [←q1,List.length_map,q2]
  refine ⟨_,μ,loc,rfl,Fs (cur:=cur) (us:=(d'.toList.map Al.cells).flatten) dQ e1 hcap Sh hsz Sk oc k1 t1 (by rw [←q2,←Yc];exact t2) (by rw [Yc,q2]) k2 rfl rfl rfl k3 (by rw [List.length_map,hil]) ?_⟩;rw [←q1,List.map_map];exact TW d'.toList
theorem Qq {ws:List (List AV)} {m:Nat} (h:Nz ws=some m):ws=(bif Nat.beq m 0 then [] else [[.int .u64 (m:Int)]])∧m<18446744073709551616:=by
 unfold Nz at h;split at h
 ·simp only [Option.some.injEq] at h;subst h;exact ⟨rfl,by decide⟩
 ·rename_i k
  obtain ⟨hb,hv⟩:=bz h;simp only [Bool.and_eq_true] at hb;simp only [Option.some.injEq] at hv;subst hv;have h1:0<k:=by have:=hb.1;simpa [Nat.blt_eq] using this
  have h2:k<18446744073709551616:=by have:=hb.2;simpa [Nat.blt_eq] using this
  refine ⟨?_,h2⟩;rw [cq.ZK (by omega)];rfl
 ·cases h
theorem Pt:∀{xs:List (List AV)} {l:List qX},Cs xs=some l→xs=l.map qX.enc∧∀p∈l,p.2<18446744073709551616:=by
 intro xs
 induction xs with
 |nil=>intro l h;simp [Cs] at h;subst h;exact ⟨rfl,by simp⟩
 |cons c xs ih=>
  intro l h;unfold Cs at h;split at h
  ·rename_i e;cases e
  ·rename_i s ws l' e
   injection e with e1 e2
   subst e1 e2;split at h
   ·rename_i w r hw hr
    simp only [Option.some.injEq] at h;subst h;obtain ⟨k1,k2⟩:=Qq hw;obtain ⟨k3,k4⟩:=ih hr;refine ⟨?_,?_⟩
    ·rw [k1,k3];rfl
    ·intro p hp
     rcases List.mem_cons.1 hp with rfl|hp
     ·exact k2
     ·exact k4 p hp
   ·cases h
  ·cases h
theorem Nn {l:List qX} (h:BB l=true):∀x∈l,∀y∈l,KY x y=false→KY y x=false→x=y:=by
 induction l with
 |nil=>intro x hx;cases hx
 |cons a l ih=>
  unfold BB at h;simp only [Bool.and_eq_true,List.all_eq_true,Bool.or_eq_true] at h;intro x hx y hy h1 h2;rcases List.mem_cons.1 hx with ex|hx'
  ·rcases List.mem_cons.1 hy with ey|hy'
   ·rw [ex,ey]
   ·subst ex
    rcases h.1 y hy' with h3|h3
    ·rw [h1] at h3;cases h3
    ·rw [h2] at h3;cases h3
  ·rcases List.mem_cons.1 hy with ey|hy'
   ·subst ey
    rcases h.1 x hx' with h3|h3
    ·rw [h2] at h3;cases h3
    ·rw [h1] at h3;cases h3
   ·exact ih h.2 x hx' y hy' h1 h2
theorem Bu {p q:qX}:KY p q=true↔dZ 64 q.2<dZ 64 p.2∨(dZ 64 p.2=dZ 64 q.2∧Op.bytesLess p.1 q.1=true):=by
 unfold KY;rw [Bool.or_eq_true,Bool.and_eq_true];constructor
 ·rintro (h|⟨h1,h2⟩)
  ·exact .inl (Nat.le_of_ble_eq_true h)
  ·exact .inr ⟨Nat.eq_of_beq_eq_true h1,h2⟩
 ·rintro (h|⟨h1,h2⟩)
  ·exact .inl (Nat.ble_eq_true_of_le h)
  ·exact .inr ⟨by rw [h1];exact Nat.beq_refl _,h2⟩
theorem PV (p q:qX) (h:KY p q=true):KY q p=false:=by
 apply Classical.byContradiction;intro hc;rw [Bool.not_eq_false,Bu] at hc;rw [Bu] at h;rcases h with h|⟨h1,h2⟩
 ·rcases hc with h'|⟨Px,_⟩<;>omega
 ·rcases hc with h'|⟨Px,QT⟩
  ·omega
  ·rw [rK h2] at QT;cases QT
theorem YN (x y z:qX) (h:KY x y=true) (h':KY z y=false):KY x z=true:=by
 rw [Bu] at h⊢;have hn:¬(dZ 64 y.2<dZ 64 z.2∨(dZ 64 z.2=dZ 64 y.2∧Op.bytesLess z.1 y.1=true)):=fun hc=>by
  rw [←Bu,h'] at hc;cases hc
 simp only [not_or,not_and] at hn;rcases h with h|⟨h1,h2⟩
 ·left;omega
 ·by_cases e:dZ 64 z.2=dZ 64 y.2
  ·right
   refine ⟨by omega,?_⟩;have hz:=hn.2 e;have Zs:Op.bytesLess z.1 y.1=false:=by simpa using hz
   exact yY _ _ _ h2 Zs
  ·left;omega
theorem RS (p:qX):bR.enc (cq.tc p)=qX.enc p:=by
 show [AV.str p.1,AV.aW 1 ((cq.wl p.2).map (aD .u64))]=[AV.str p.1,AV.aW 1 (bif Nat.beq p.2 0 then [] else [[.int .u64 (p.2:Int)]])]
 unfold cq.wl;cases Nat.beq p.2 0<;>rfl
theorem Jj {p q:qX}:cq.LC p q<0↔KY p q=true:=by rw [←cq.NU];simp
abbrev SKc:SK where
 T:=qX
 enc:=qX.enc
 good p:=p.2<18446744073709551616
 c:=cq.LC
 ty:=112
 cm:=131
 two p:=⟨_,_,rfl⟩
 ZI p q h h':=by
  rw [Jj] at h h';rw [PV p q h] at h';cases h'
 up x y z h h':=by
  rw [Jj] at *;exact YN x y z h (by simpa using h')
 nul μ:=⟨([],0),[.string ⟨#[]⟩, .slice none 0 0],⟨⟨_,_,rfl,by rw [rep],⟨_,_,rfl,by rw [rep];exact ⟨none,0,rfl,Nat.le_refl _,Nat.zero_le _, .inl rfl⟩,rfl⟩⟩,fun u hu=>by
  simp only [List.mem_cons,List.not_mem_nil,or_false] at hu
  rcases hu with rfl|rfl<;>rfl⟩,by decide⟩
 runs x y hx hy:=by
  have:=ef (EN cq.Q0) (cq.Rn 131 [(.pv (.agg (bR.enc (cq.tc x)))),(.pv (.agg (bR.enc (cq.tc y))))] []) _ (cq.i48 hx hy);rw [RS,RS] at this;exact this
 enters:=iA Tryz.func131 (by decide) (by rfl)
theorem Ri:SKc.lt=KY:=by
 have h:SKc.c=cq.LC:=by simp only [SKc]
 funext p q
 unfold SK.lt;rw [h];exact cq.NU p q
theorem yX:∀{xs:List (List AV)} {l:List (Int×Int)},qY xs=some l→xs=l.map Ju
 |[],l,h=>by
  have:l=[]:=(Option.some.inj h).symm;subst this;rfl
 |[.int .i64 f, .int .i64 t]::xs,l,h=>by
  have h:(qY xs).map ((f,t):: ·)=some l:=h;obtain ⟨m,hm,rfl⟩:=Option.map_eq_some_iff.1 h;rw [yX hm];rfl
theorem O5 {l:List (Int×Int)} (h:B4 l=true):∀x∈l,∀y∈l,WS x y=false→WS y x=false→x=y:=by
 induction l with
 |nil=>intro x hx;cases hx
 |cons a l ih=>
  unfold B4 at h;simp only [Bool.and_eq_true,List.all_eq_true,Bool.or_eq_true] at h;intro x hx y hy h1 h2;rcases List.mem_cons.1 hx with ex|hx'
  ·rcases List.mem_cons.1 hy with ey|hy'
   ·rw [ex,ey]
   ·subst ex
    rcases h.1 y hy' with h3|h3
    ·rw [h1] at h3;cases h3
    ·rw [h2] at h3;cases h3
  ·rcases List.mem_cons.1 hy with ey|hy'
   ·subst ey
    rcases h.1 x hx' with h3|h3
    ·rw [h2] at h3;cases h3
    ·rw [h1] at h3;cases h3
   ·exact ih h.2 x hx' y hy' h1 h2
def cA (p q:Int×Int):Int:=if p.1<q.1 then-1 else if q.1<p.1 then 1 else 0
theorem Lt {p q:Int×Int}:cA p q<0↔p.1<q.1:=by
 unfold cA;split
 ·simp [*]
 ·split<;>simp [*]
abbrev Zg:SK where
 T:=Int×Int
 enc:=Ju
 good _:=True
 c:=cA
 ty:=54
 cm:=167
 two p:=⟨_,_,rfl⟩
 ZI p q h h':=by rw [Lt] at h h';omega
 up x y z h h':=by rw [Lt] at *;omega
 nul μ:=⟨(0,0),[.int .i64 0, .int .i64 0],⟨⟨_,_,rfl,by rw [rep],⟨_,_,rfl,by rw [rep],rfl⟩⟩,fun u hu=>by
  simp only [List.mem_cons,List.not_mem_nil,or_false] at hu
  rcases hu with rfl|rfl<;>rfl⟩,trivial⟩
 runs x y _ _:=ef (EN cq.Q0) (cq.Rn 167 [(.pv (.agg (aF.enc (cq.Zh x)))),(.pv (.agg (aF.enc (cq.Zh y))))] []) _ (cq.i495 x y)
 enters:=iA Tryz.func167 (by decide) (by rfl)
theorem Rh:Zg.lt=WS:=by
 funext p q
 have h:Zg.c=cA:=by simp only [Zg]
 unfold SK.lt WS;rw [h,decide_eq_decide];exact Lt
end Go.Proofs.YthppjmoncapdfaaGreatDoor.cl
