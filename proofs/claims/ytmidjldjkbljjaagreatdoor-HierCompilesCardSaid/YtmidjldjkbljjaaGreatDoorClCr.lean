/- The comparator of closure.Codes as a plain function, by prog. -/
import Derived.Test.YtmidjldjkbljjaaGreatDoorClT
import Derived.Test.YtmidjldjkbljjaaGreatDoorClPd
set_option linter.unusedVariables false
set_option linter.unusedSimpArgs false
set_option maxRecDepth 100000
namespace Go.Proofs.YtmidjldjkbljjaaGreatDoor.cl.cq
open Go Go.AM
def dg:dm:=fun _ _ _=>none
def Hq (f:Nat):Hint:=bif Nat.beq f 119 then {} else H f
noncomputable abbrev Rn:dm:=run P Hq dg
def Q0:Int→AV:=(fun (x:Int)=>((.int .i64 x):AV))
instance:c6 Q0:=⟨fun a b h=>by
 simp only [Q0,AV.mp.injEq,AV.int.injEq,AV.str.injEq,AV.bool.injEq,AV.cm.injEq,AV.agg.injEq,AV.fG.injEq,List.cons.injEq,true_and,and_true] at h
 exact h⟩
def Q1:Bool→AV:=(fun (x:Bool)=>((.bool x):AV))
instance:c6 Q1:=⟨fun a b h=>by
 simp only [Q1,AV.mp.injEq,AV.int.injEq,AV.str.injEq,AV.bool.injEq,AV.cm.injEq,AV.agg.injEq,AV.fG.injEq,List.cons.injEq,true_and,and_true] at h
 exact h⟩
def Yq:List (Nat×iE):=[(65,⟨_,Q0⟩),(90,⟨_,Q0⟩),(91,⟨_,Q0⟩),(92,⟨_,Q0⟩),(93,⟨_,Q0⟩),(115,⟨_,Q0⟩),(153,⟨_,Q1⟩),(154,⟨_,Q1⟩)]
def qh:jL:={ elem:=Bi elems,val:=Bi vals,res:=Bi Yq }
noncomputable def f30 (b0:List Int):Option Int:=dec (EN Q0) (Rn 65 [(.pv (.cm 1 (List.map (aB .u64) b0)))] [])
noncomputable def tC (n3:Int) (v6:List Int) (v7 v8:Int):Option Int:=dec (EN Q0) (zC P qh Hq dg 65 3 [] [(3,(.pv (.int .i64 n3))),(6,(.pv (.cm 1 (List.map (aB .u64) v6)))),(7,(.pv (.int .i64 v7))),(8,(.pv (.int .i64 v8)))] [])
noncomputable def f392 (a0 b1:aq):Option Int:=dec (EN Q0) (Rn 90 [(.pv (.agg (aq.enc a0))),(.pv (.agg (aq.enc b1)))] [])
noncomputable def f395 (xL:List Int):Option Int:=dec (EN Q0) (Rn 91 [(.pv (.cm 1 (List.map (aB .i64) xL)))] [])
noncomputable def GV (E1:Int) (v6:List Int) (v7 v8:Int):Option Int:=dec (EN Q0) (zC P qh Hq dg 91 3 [] [(3,(.pv (.int .i64 E1))),(6,(.pv (.cm 1 (List.map (aB .i64) v6)))),(7,(.pv (.int .i64 v7))),(8,(.pv (.int .i64 v8)))] [])
noncomputable def f393 (x0 y1:Int):Option Int:=dec (EN Q0) (Rn 92 [(.pv (.int .i64 x0)),(.pv (.int .i64 y1))] [])
noncomputable def f394 (x0 y1:List UInt8):Option Int:=dec (EN Q0) (Rn 93 [(.pv (.str x0)),(.pv (.str y1))] [])
noncomputable def f69 (x0:Int):Option Int:=dec (EN Q0) (Rn 115 [(.pv (.int .u64 x0))] [])
noncomputable def f396 (x0:Int):Option Bool:=dec (EN Q1) (Rn 153 [(.pv (.int .i64 x0))] [])
noncomputable def f97 (x0:List UInt8):Option Bool:=dec (EN Q1) (Rn 154 [(.pv (.str x0))] [])
theorem e30 (b0:List Int) {r:Int}
 (h:(
 tC 0 b0 (List.length b0:Int) 0:Option Int)=some r):
 f30 b0=some r:=
 rX (E:=(EN Q0)) h (
 (show cE _ (zC P qh Hq dg 65 3 [] [(3,(.pv (.int .i64 0))),(6,(.pv (.cm 1 (List.map (aB .u64) b0)))),(7,(.pv (.int .i64 (List.length (List.map (aB .u64) b0):Int)))),(8,(.pv (.int .i64 0)))] []) ( tC 0 b0 (List.length b0:Int) 0) from fun _ h=>by simpa only [List.length_map] using aH _ _ _ h))
 (by kernel_rfl) (fun h=>kH (C:=qh) rfl h)
theorem Bt (n3:Int) (v6:List Int) (v7 v8:Int) {r:Int}
 (h:(
 bif (decide (v8<v7)) then (
 bl v6 v8 fun ai=>
 Option.bind (f69 ai) fun aF=>
 tC (IntKind.wrap .i64 (n3+aF)) v6 v7 (IntKind.wrap .i64 (v8+1)))
 else (
 some n3):Option Int)=some r):
 tC n3 v6 v7 v8=some r:=
 rX (E:=(EN Q0)) h (
 Ic (
 Ig (aB .u64) fun ai=>
 Ik fun aF=>
 Iz) (
 Is))
 (by kernel_rfl) (fun h=>u9 h)
theorem e392 (a0 b1:aq) {r:Int}
 (h:(
 Option.bind (f30 b1.Code) fun aC=>
 Option.bind (f30 a0.Code) fun aF=>
 Option.bind (f393 aC aF) fun aZ=>
 Option.bind (f394 a0.Name b1.Name) fun bJ=>
 Option.bind (f395 [aZ,bJ]) fun cN=>
 some cN:Option Int)=some r):
 f392 a0 b1=some r:=
 rX (E:=(EN Q0)) h (
 Ik fun aC=>
 Ik fun aF=>
 Ik fun aZ=>
 Ik fun bJ=>
 Ik fun cN=>
 Is)
 (by kernel_rfl) (fun h=>kH (C:=qh) rfl h)
theorem e395 (xL:List Int) {r:Int}
 (h:(
 GV 0 xL (List.length xL:Int) 0:Option Int)=some r):
 f395 xL=some r:=
 rX (E:=(EN Q0)) h (
 (show cE _ (zC P qh Hq dg 91 3 [] [(3,(.pv (.int .i64 0))),(6,(.pv (.cm 1 (List.map (aB .i64) xL)))),(7,(.pv (.int .i64 (List.length (List.map (aB .i64) xL):Int)))),(8,(.pv (.int .i64 0)))] []) ( GV 0 xL (List.length xL:Int) 0) from fun _ h=>by simpa only [List.length_map] using aH _ _ _ h))
 (by kernel_rfl) (fun h=>kH (C:=qh) rfl h)
theorem KY (E1:Int) (v6:List Int) (v7 v8:Int) {r:Int}
 (h:(
 bif (decide (v8<v7)) then (
 bl v6 v8 fun ai=>
 bif (ai !=E1) then (
 some ai)
 else (
 GV E1 v6 v7 (IntKind.wrap .i64 (v8+1))))
 else (
 some E1):Option Int)=some r):
 GV E1 v6 v7 v8=some r:=
 rX (E:=(EN Q0)) h (
 Ic (
 Ig (aB .i64) fun ai=>
 Ic (
 Is) (
 Iz)) (
 Is))
 (by kernel_rfl) (fun h=>u9 h)
theorem e393 (x0 y1:Int) {r:Int}
 (h:(
 Option.bind (f396 x0) fun aC=>
 Option.bind (f396 y1) fun aF=>
 bif aC then (
 bif aF then (
 some 0)
 else (
 some (-1)))
 else (
 bif aF then (
 some 1)
 else (
 bif (decide (x0<y1)) then (
 some (-1))
 else (
 bif (decide (x0>y1)) then (
 some 1)
 else (
 some 0)))):Option Int)=some r):
 f393 x0 y1=some r:=
 rX (E:=(EN Q0)) h (
 Ik fun aC=>
 Ik fun aF=>
 Ic (
 Ic (
 Is) (
 Is)) (
 Ic (
 Is) (
 Ic (
 Is) (
 Ic (
 Is) (
 Is)))))
 (by kernel_rfl) (fun h=>kH (C:=qh) rfl h)
theorem e394 (x0 y1:List UInt8) {r:Int}
 (h:(
 Option.bind (f97 x0) fun aC=>
 Option.bind (f97 y1) fun aF=>
 bif aC then (
 bif aF then (
 some 0)
 else (
 some (-1)))
 else (
 bif aF then (
 some 1)
 else (
 bif (Op.bytesLess x0 y1) then (
 some (-1))
 else (
 bif (!(Op.bytesLess x0 y1||x0==y1)) then (
 some 1)
 else (
 some 0)))):Option Int)=some r):
 f394 x0 y1=some r:=
 rX (E:=(EN Q0)) h (
 Ik fun aC=>
 Ik fun aF=>
 Ic (
 Ic (
 Is) (
 Is)) (
 Ic (
 Is) (
 Ic (
 Is) (
 Ic (
 Is) (
 Is)))))
 (by kernel_rfl) (fun h=>kH (C:=qh) rfl h)
theorem e69 (x0:Int) {r:Int}
 (h:(
 check (0≤1) (
 check (0≤2) (
 check (0≤4) (
 check (0≤8) (
 check (0≤16) (
 check (0≤32) (
 some (IntKind.wrap .i64 ((BitVec.ofInt (IntKind.bits .i64) (IntKind.wrap .i64 ((IntKind.wrap .u64 ((IntKind.wrap .u64 ((IntKind.wrap .u64 ((IntKind.wrap .u64 ((BitVec.ofInt (IntKind.bits .u64) (IntKind.wrap .u64 ((Int.fdiv (IntKind.wrap .u64 ((IntKind.wrap .u64 ((BitVec.ofInt (IntKind.bits .u64) (Int.fdiv (IntKind.wrap .u64 ((IntKind.wrap .u64 ((BitVec.ofInt (IntKind.bits .u64) (Int.fdiv x0 (2^ min (Int.toNat 1) (IntKind.bits .u64)))&&&BitVec.ofInt (IntKind.bits .u64) 6148914691236517205).toNat:Int))+(IntKind.wrap .u64 ((BitVec.ofInt (IntKind.bits .u64) x0&&&BitVec.ofInt (IntKind.bits .u64) 6148914691236517205).toNat:Int)))) (2^ min (Int.toNat 2) (IntKind.bits .u64)))&&&BitVec.ofInt (IntKind.bits .u64) 3689348814741910323).toNat:Int))+(IntKind.wrap .u64 ((BitVec.ofInt (IntKind.bits .u64) (IntKind.wrap .u64 ((IntKind.wrap .u64 ((BitVec.ofInt (IntKind.bits .u64) (Int.fdiv x0 (2^ min (Int.toNat 1) (IntKind.bits .u64)))&&&BitVec.ofInt (IntKind.bits .u64) 6148914691236517205).toNat:Int))+(IntKind.wrap .u64 ((BitVec.ofInt (IntKind.bits .u64) x0&&&BitVec.ofInt (IntKind.bits .u64) 6148914691236517205).toNat:Int))))&&&BitVec.ofInt (IntKind.bits .u64) 3689348814741910323).toNat:Int)))) (2^ min (Int.toNat 4) (IntKind.bits .u64)))+(IntKind.wrap .u64 ((IntKind.wrap .u64 ((BitVec.ofInt (IntKind.bits .u64) (Int.fdiv (IntKind.wrap .u64 ((IntKind.wrap .u64 ((BitVec.ofInt (IntKind.bits .u64) (Int.fdiv x0 (2^ min (Int.toNat 1) (IntKind.bits .u64)))&&&BitVec.ofInt (IntKind.bits .u64) 6148914691236517205).toNat:Int))+(IntKind.wrap .u64 ((BitVec.ofInt (IntKind.bits .u64) x0&&&BitVec.ofInt (IntKind.bits .u64) 6148914691236517205).toNat:Int)))) (2^ min (Int.toNat 2) (IntKind.bits .u64)))&&&BitVec.ofInt (IntKind.bits .u64) 3689348814741910323).toNat:Int))+(IntKind.wrap .u64 ((BitVec.ofInt (IntKind.bits .u64) (IntKind.wrap .u64 ((IntKind.wrap .u64 ((BitVec.ofInt (IntKind.bits .u64) (Int.fdiv x0 (2^ min (Int.toNat 1) (IntKind.bits .u64)))&&&BitVec.ofInt (IntKind.bits .u64) 6148914691236517205).toNat:Int))+(IntKind.wrap .u64 ((BitVec.ofInt (IntKind.bits .u64) x0&&&BitVec.ofInt (IntKind.bits .u64) 6148914691236517205).toNat:Int))))&&&BitVec.ofInt (IntKind.bits .u64) 3689348814741910323).toNat:Int))))))&&&BitVec.ofInt (IntKind.bits .u64) 1085102592571150095).toNat:Int))+(Int.fdiv (IntKind.wrap .u64 ((BitVec.ofInt (IntKind.bits .u64) (IntKind.wrap .u64 ((Int.fdiv (IntKind.wrap .u64 ((IntKind.wrap .u64 ((BitVec.ofInt (IntKind.bits .u64) (Int.fdiv (IntKind.wrap .u64 ((IntKind.wrap .u64 ((BitVec.ofInt (IntKind.bits .u64) (Int.fdiv x0 (2^ min (Int.toNat 1) (IntKind.bits .u64)))&&&BitVec.ofInt (IntKind.bits .u64) 6148914691236517205).toNat:Int))+(IntKind.wrap .u64 ((BitVec.ofInt (IntKind.bits .u64) x0&&&BitVec.ofInt (IntKind.bits .u64) 6148914691236517205).toNat:Int)))) (2^ min (Int.toNat 2) (IntKind.bits .u64)))&&&BitVec.ofInt (IntKind.bits .u64) 3689348814741910323).toNat:Int))+(IntKind.wrap .u64 ((BitVec.ofInt (IntKind.bits .u64) (IntKind.wrap .u64 ((IntKind.wrap .u64 ((BitVec.ofInt (IntKind.bits .u64) (Int.fdiv x0 (2^ min (Int.toNat 1) (IntKind.bits .u64)))&&&BitVec.ofInt (IntKind.bits .u64) 6148914691236517205).toNat:Int))+(IntKind.wrap .u64 ((BitVec.ofInt (IntKind.bits .u64) x0&&&BitVec.ofInt (IntKind.bits .u64) 6148914691236517205).toNat:Int))))&&&BitVec.ofInt (IntKind.bits .u64) 3689348814741910323).toNat:Int)))) (2^ min (Int.toNat 4) (IntKind.bits .u64)))+(IntKind.wrap .u64 ((IntKind.wrap .u64 ((BitVec.ofInt (IntKind.bits .u64) (Int.fdiv (IntKind.wrap .u64 ((IntKind.wrap .u64 ((BitVec.ofInt (IntKind.bits .u64) (Int.fdiv x0 (2^ min (Int.toNat 1) (IntKind.bits .u64)))&&&BitVec.ofInt (IntKind.bits .u64) 6148914691236517205).toNat:Int))+(IntKind.wrap .u64 ((BitVec.ofInt (IntKind.bits .u64) x0&&&BitVec.ofInt (IntKind.bits .u64) 6148914691236517205).toNat:Int)))) (2^ min (Int.toNat 2) (IntKind.bits .u64)))&&&BitVec.ofInt (IntKind.bits .u64) 3689348814741910323).toNat:Int))+(IntKind.wrap .u64 ((BitVec.ofInt (IntKind.bits .u64) (IntKind.wrap .u64 ((IntKind.wrap .u64 ((BitVec.ofInt (IntKind.bits .u64) (Int.fdiv x0 (2^ min (Int.toNat 1) (IntKind.bits .u64)))&&&BitVec.ofInt (IntKind.bits .u64) 6148914691236517205).toNat:Int))+(IntKind.wrap .u64 ((BitVec.ofInt (IntKind.bits .u64) x0&&&BitVec.ofInt (IntKind.bits .u64) 6148914691236517205).toNat:Int))))&&&BitVec.ofInt (IntKind.bits .u64) 3689348814741910323).toNat:Int))))))&&&BitVec.ofInt (IntKind.bits .u64) 1085102592571150095).toNat:Int)) (2^ min (Int.toNat 8) (IntKind.bits .u64)))))+(Int.fdiv (IntKind.wrap .u64 ((IntKind.wrap .u64 ((BitVec.ofInt (IntKind.bits .u64) (IntKind.wrap .u64 ((Int.fdiv (IntKind.wrap .u64 ((IntKind.wrap .u64 ((BitVec.ofInt (IntKind.bits .u64) (Int.fdiv (IntKind.wrap .u64 ((IntKind.wrap .u64 ((BitVec.ofInt (IntKind.bits .u64) (Int.fdiv x0 (2^ min (Int.toNat 1) (IntKind.bits .u64)))&&&BitVec.ofInt (IntKind.bits .u64) 6148914691236517205).toNat:Int))+(IntKind.wrap .u64 ((BitVec.ofInt (IntKind.bits .u64) x0&&&BitVec.ofInt (IntKind.bits .u64) 6148914691236517205).toNat:Int)))) (2^ min (Int.toNat 2) (IntKind.bits .u64)))&&&BitVec.ofInt (IntKind.bits .u64) 3689348814741910323).toNat:Int))+(IntKind.wrap .u64 ((BitVec.ofInt (IntKind.bits .u64) (IntKind.wrap .u64 ((IntKind.wrap .u64 ((BitVec.ofInt (IntKind.bits .u64) (Int.fdiv x0 (2^ min (Int.toNat 1) (IntKind.bits .u64)))&&&BitVec.ofInt (IntKind.bits .u64) 6148914691236517205).toNat:Int))+(IntKind.wrap .u64 ((BitVec.ofInt (IntKind.bits .u64) x0&&&BitVec.ofInt (IntKind.bits .u64) 6148914691236517205).toNat:Int))))&&&BitVec.ofInt (IntKind.bits .u64) 3689348814741910323).toNat:Int)))) (2^ min (Int.toNat 4) (IntKind.bits .u64)))+(IntKind.wrap .u64 ((IntKind.wrap .u64 ((BitVec.ofInt (IntKind.bits .u64) (Int.fdiv (IntKind.wrap .u64 ((IntKind.wrap .u64 ((BitVec.ofInt (IntKind.bits .u64) (Int.fdiv x0 (2^ min (Int.toNat 1) (IntKind.bits .u64)))&&&BitVec.ofInt (IntKind.bits .u64) 6148914691236517205).toNat:Int))+(IntKind.wrap .u64 ((BitVec.ofInt (IntKind.bits .u64) x0&&&BitVec.ofInt (IntKind.bits .u64) 6148914691236517205).toNat:Int)))) (2^ min (Int.toNat 2) (IntKind.bits .u64)))&&&BitVec.ofInt (IntKind.bits .u64) 3689348814741910323).toNat:Int))+(IntKind.wrap .u64 ((BitVec.ofInt (IntKind.bits .u64) (IntKind.wrap .u64 ((IntKind.wrap .u64 ((BitVec.ofInt (IntKind.bits .u64) (Int.fdiv x0 (2^ min (Int.toNat 1) (IntKind.bits .u64)))&&&BitVec.ofInt (IntKind.bits .u64) 6148914691236517205).toNat:Int))+(IntKind.wrap .u64 ((BitVec.ofInt (IntKind.bits .u64) x0&&&BitVec.ofInt (IntKind.bits .u64) 6148914691236517205).toNat:Int))))&&&BitVec.ofInt (IntKind.bits .u64) 3689348814741910323).toNat:Int))))))&&&BitVec.ofInt (IntKind.bits .u64) 1085102592571150095).toNat:Int))+(Int.fdiv (IntKind.wrap .u64 ((BitVec.ofInt (IntKind.bits .u64) (IntKind.wrap .u64 ((Int.fdiv (IntKind.wrap .u64 ((IntKind.wrap .u64 ((BitVec.ofInt (IntKind.bits .u64) (Int.fdiv (IntKind.wrap .u64 ((IntKind.wrap .u64 ((BitVec.ofInt (IntKind.bits .u64) (Int.fdiv x0 (2^ min (Int.toNat 1) (IntKind.bits .u64)))&&&BitVec.ofInt (IntKind.bits .u64) 6148914691236517205).toNat:Int))+(IntKind.wrap .u64 ((BitVec.ofInt (IntKind.bits .u64) x0&&&BitVec.ofInt (IntKind.bits .u64) 6148914691236517205).toNat:Int)))) (2^ min (Int.toNat 2) (IntKind.bits .u64)))&&&BitVec.ofInt (IntKind.bits .u64) 3689348814741910323).toNat:Int))+(IntKind.wrap .u64 ((BitVec.ofInt (IntKind.bits .u64) (IntKind.wrap .u64 ((IntKind.wrap .u64 ((BitVec.ofInt (IntKind.bits .u64) (Int.fdiv x0 (2^ min (Int.toNat 1) (IntKind.bits .u64)))&&&BitVec.ofInt (IntKind.bits .u64) 6148914691236517205).toNat:Int))+(IntKind.wrap .u64 ((BitVec.ofInt (IntKind.bits .u64) x0&&&BitVec.ofInt (IntKind.bits .u64) 6148914691236517205).toNat:Int))))&&&BitVec.ofInt (IntKind.bits .u64) 3689348814741910323).toNat:Int)))) (2^ min (Int.toNat 4) (IntKind.bits .u64)))+(IntKind.wrap .u64 ((IntKind.wrap .u64 ((BitVec.ofInt (IntKind.bits .u64) (Int.fdiv (IntKind.wrap .u64 ((IntKind.wrap .u64 ((BitVec.ofInt (IntKind.bits .u64) (Int.fdiv x0 (2^ min (Int.toNat 1) (IntKind.bits .u64)))&&&BitVec.ofInt (IntKind.bits .u64) 6148914691236517205).toNat:Int))+(IntKind.wrap .u64 ((BitVec.ofInt (IntKind.bits .u64) x0&&&BitVec.ofInt (IntKind.bits .u64) 6148914691236517205).toNat:Int)))) (2^ min (Int.toNat 2) (IntKind.bits .u64)))&&&BitVec.ofInt (IntKind.bits .u64) 3689348814741910323).toNat:Int))+(IntKind.wrap .u64 ((BitVec.ofInt (IntKind.bits .u64) (IntKind.wrap .u64 ((IntKind.wrap .u64 ((BitVec.ofInt (IntKind.bits .u64) (Int.fdiv x0 (2^ min (Int.toNat 1) (IntKind.bits .u64)))&&&BitVec.ofInt (IntKind.bits .u64) 6148914691236517205).toNat:Int))+(IntKind.wrap .u64 ((BitVec.ofInt (IntKind.bits .u64) x0&&&BitVec.ofInt (IntKind.bits .u64) 6148914691236517205).toNat:Int))))&&&BitVec.ofInt (IntKind.bits .u64) 3689348814741910323).toNat:Int))))))&&&BitVec.ofInt (IntKind.bits .u64) 1085102592571150095).toNat:Int)) (2^ min (Int.toNat 8) (IntKind.bits .u64))))) (2^ min (Int.toNat 16) (IntKind.bits .u64)))))+(Int.fdiv (IntKind.wrap .u64 ((IntKind.wrap .u64 ((IntKind.wrap .u64 ((BitVec.ofInt (IntKind.bits .u64) (IntKind.wrap .u64 ((Int.fdiv (IntKind.wrap .u64 ((IntKind.wrap .u64 ((BitVec.ofInt (IntKind.bits .u64) (Int.fdiv (IntKind.wrap .u64 ((IntKind.wrap .u64 ((BitVec.ofInt (IntKind.bits .u64) (Int.fdiv x0 (2^ min (Int.toNat 1) (IntKind.bits .u64)))&&&BitVec.ofInt (IntKind.bits .u64) 6148914691236517205).toNat:Int))+(IntKind.wrap .u64 ((BitVec.ofInt (IntKind.bits .u64) x0&&&BitVec.ofInt (IntKind.bits .u64) 6148914691236517205).toNat:Int)))) (2^ min (Int.toNat 2) (IntKind.bits .u64)))&&&BitVec.ofInt (IntKind.bits .u64) 3689348814741910323).toNat:Int))+(IntKind.wrap .u64 ((BitVec.ofInt (IntKind.bits .u64) (IntKind.wrap .u64 ((IntKind.wrap .u64 ((BitVec.ofInt (IntKind.bits .u64) (Int.fdiv x0 (2^ min (Int.toNat 1) (IntKind.bits .u64)))&&&BitVec.ofInt (IntKind.bits .u64) 6148914691236517205).toNat:Int))+(IntKind.wrap .u64 ((BitVec.ofInt (IntKind.bits .u64) x0&&&BitVec.ofInt (IntKind.bits .u64) 6148914691236517205).toNat:Int))))&&&BitVec.ofInt (IntKind.bits .u64) 3689348814741910323).toNat:Int)))) (2^ min (Int.toNat 4) (IntKind.bits .u64)))+(IntKind.wrap .u64 ((IntKind.wrap .u64 ((BitVec.ofInt (IntKind.bits .u64) (Int.fdiv (IntKind.wrap .u64 ((IntKind.wrap .u64 ((BitVec.ofInt (IntKind.bits .u64) (Int.fdiv x0 (2^ min (Int.toNat 1) (IntKind.bits .u64)))&&&BitVec.ofInt (IntKind.bits .u64) 6148914691236517205).toNat:Int))+(IntKind.wrap .u64 ((BitVec.ofInt (IntKind.bits .u64) x0&&&BitVec.ofInt (IntKind.bits .u64) 6148914691236517205).toNat:Int)))) (2^ min (Int.toNat 2) (IntKind.bits .u64)))&&&BitVec.ofInt (IntKind.bits .u64) 3689348814741910323).toNat:Int))+(IntKind.wrap .u64 ((BitVec.ofInt (IntKind.bits .u64) (IntKind.wrap .u64 ((IntKind.wrap .u64 ((BitVec.ofInt (IntKind.bits .u64) (Int.fdiv x0 (2^ min (Int.toNat 1) (IntKind.bits .u64)))&&&BitVec.ofInt (IntKind.bits .u64) 6148914691236517205).toNat:Int))+(IntKind.wrap .u64 ((BitVec.ofInt (IntKind.bits .u64) x0&&&BitVec.ofInt (IntKind.bits .u64) 6148914691236517205).toNat:Int))))&&&BitVec.ofInt (IntKind.bits .u64) 3689348814741910323).toNat:Int))))))&&&BitVec.ofInt (IntKind.bits .u64) 1085102592571150095).toNat:Int))+(Int.fdiv (IntKind.wrap .u64 ((BitVec.ofInt (IntKind.bits .u64) (IntKind.wrap .u64 ((Int.fdiv (IntKind.wrap .u64 ((IntKind.wrap .u64 ((BitVec.ofInt (IntKind.bits .u64) (Int.fdiv (IntKind.wrap .u64 ((IntKind.wrap .u64 ((BitVec.ofInt (IntKind.bits .u64) (Int.fdiv x0 (2^ min (Int.toNat 1) (IntKind.bits .u64)))&&&BitVec.ofInt (IntKind.bits .u64) 6148914691236517205).toNat:Int))+(IntKind.wrap .u64 ((BitVec.ofInt (IntKind.bits .u64) x0&&&BitVec.ofInt (IntKind.bits .u64) 6148914691236517205).toNat:Int)))) (2^ min (Int.toNat 2) (IntKind.bits .u64)))&&&BitVec.ofInt (IntKind.bits .u64) 3689348814741910323).toNat:Int))+(IntKind.wrap .u64 ((BitVec.ofInt (IntKind.bits .u64) (IntKind.wrap .u64 ((IntKind.wrap .u64 ((BitVec.ofInt (IntKind.bits .u64) (Int.fdiv x0 (2^ min (Int.toNat 1) (IntKind.bits .u64)))&&&BitVec.ofInt (IntKind.bits .u64) 6148914691236517205).toNat:Int))+(IntKind.wrap .u64 ((BitVec.ofInt (IntKind.bits .u64) x0&&&BitVec.ofInt (IntKind.bits .u64) 6148914691236517205).toNat:Int))))&&&BitVec.ofInt (IntKind.bits .u64) 3689348814741910323).toNat:Int)))) (2^ min (Int.toNat 4) (IntKind.bits .u64)))+(IntKind.wrap .u64 ((IntKind.wrap .u64 ((BitVec.ofInt (IntKind.bits .u64) (Int.fdiv (IntKind.wrap .u64 ((IntKind.wrap .u64 ((BitVec.ofInt (IntKind.bits .u64) (Int.fdiv x0 (2^ min (Int.toNat 1) (IntKind.bits .u64)))&&&BitVec.ofInt (IntKind.bits .u64) 6148914691236517205).toNat:Int))+(IntKind.wrap .u64 ((BitVec.ofInt (IntKind.bits .u64) x0&&&BitVec.ofInt (IntKind.bits .u64) 6148914691236517205).toNat:Int)))) (2^ min (Int.toNat 2) (IntKind.bits .u64)))&&&BitVec.ofInt (IntKind.bits .u64) 3689348814741910323).toNat:Int))+(IntKind.wrap .u64 ((BitVec.ofInt (IntKind.bits .u64) (IntKind.wrap .u64 ((IntKind.wrap .u64 ((BitVec.ofInt (IntKind.bits .u64) (Int.fdiv x0 (2^ min (Int.toNat 1) (IntKind.bits .u64)))&&&BitVec.ofInt (IntKind.bits .u64) 6148914691236517205).toNat:Int))+(IntKind.wrap .u64 ((BitVec.ofInt (IntKind.bits .u64) x0&&&BitVec.ofInt (IntKind.bits .u64) 6148914691236517205).toNat:Int))))&&&BitVec.ofInt (IntKind.bits .u64) 3689348814741910323).toNat:Int))))))&&&BitVec.ofInt (IntKind.bits .u64) 1085102592571150095).toNat:Int)) (2^ min (Int.toNat 8) (IntKind.bits .u64)))))+(Int.fdiv (IntKind.wrap .u64 ((IntKind.wrap .u64 ((BitVec.ofInt (IntKind.bits .u64) (IntKind.wrap .u64 ((Int.fdiv (IntKind.wrap .u64 ((IntKind.wrap .u64 ((BitVec.ofInt (IntKind.bits .u64) (Int.fdiv (IntKind.wrap .u64 ((IntKind.wrap .u64 ((BitVec.ofInt (IntKind.bits .u64) (Int.fdiv x0 (2^ min (Int.toNat 1) (IntKind.bits .u64)))&&&BitVec.ofInt (IntKind.bits .u64) 6148914691236517205).toNat:Int))+(IntKind.wrap .u64 ((BitVec.ofInt (IntKind.bits .u64) x0&&&BitVec.ofInt (IntKind.bits .u64) 6148914691236517205).toNat:Int)))) (2^ min (Int.toNat 2) (IntKind.bits .u64)))&&&BitVec.ofInt (IntKind.bits .u64) 3689348814741910323).toNat:Int))+(IntKind.wrap .u64 ((BitVec.ofInt (IntKind.bits .u64) (IntKind.wrap .u64 ((IntKind.wrap .u64 ((BitVec.ofInt (IntKind.bits .u64) (Int.fdiv x0 (2^ min (Int.toNat 1) (IntKind.bits .u64)))&&&BitVec.ofInt (IntKind.bits .u64) 6148914691236517205).toNat:Int))+(IntKind.wrap .u64 ((BitVec.ofInt (IntKind.bits .u64) x0&&&BitVec.ofInt (IntKind.bits .u64) 6148914691236517205).toNat:Int))))&&&BitVec.ofInt (IntKind.bits .u64) 3689348814741910323).toNat:Int)))) (2^ min (Int.toNat 4) (IntKind.bits .u64)))+(IntKind.wrap .u64 ((IntKind.wrap .u64 ((BitVec.ofInt (IntKind.bits .u64) (Int.fdiv (IntKind.wrap .u64 ((IntKind.wrap .u64 ((BitVec.ofInt (IntKind.bits .u64) (Int.fdiv x0 (2^ min (Int.toNat 1) (IntKind.bits .u64)))&&&BitVec.ofInt (IntKind.bits .u64) 6148914691236517205).toNat:Int))+(IntKind.wrap .u64 ((BitVec.ofInt (IntKind.bits .u64) x0&&&BitVec.ofInt (IntKind.bits .u64) 6148914691236517205).toNat:Int)))) (2^ min (Int.toNat 2) (IntKind.bits .u64)))&&&BitVec.ofInt (IntKind.bits .u64) 3689348814741910323).toNat:Int))+(IntKind.wrap .u64 ((BitVec.ofInt (IntKind.bits .u64) (IntKind.wrap .u64 ((IntKind.wrap .u64 ((BitVec.ofInt (IntKind.bits .u64) (Int.fdiv x0 (2^ min (Int.toNat 1) (IntKind.bits .u64)))&&&BitVec.ofInt (IntKind.bits .u64) 6148914691236517205).toNat:Int))+(IntKind.wrap .u64 ((BitVec.ofInt (IntKind.bits .u64) x0&&&BitVec.ofInt (IntKind.bits .u64) 6148914691236517205).toNat:Int))))&&&BitVec.ofInt (IntKind.bits .u64) 3689348814741910323).toNat:Int))))))&&&BitVec.ofInt (IntKind.bits .u64) 1085102592571150095).toNat:Int))+(Int.fdiv (IntKind.wrap .u64 ((BitVec.ofInt (IntKind.bits .u64) (IntKind.wrap .u64 ((Int.fdiv (IntKind.wrap .u64 ((IntKind.wrap .u64 ((BitVec.ofInt (IntKind.bits .u64) (Int.fdiv (IntKind.wrap .u64 ((IntKind.wrap .u64 ((BitVec.ofInt (IntKind.bits .u64) (Int.fdiv x0 (2^ min (Int.toNat 1) (IntKind.bits .u64)))&&&BitVec.ofInt (IntKind.bits .u64) 6148914691236517205).toNat:Int))+(IntKind.wrap .u64 ((BitVec.ofInt (IntKind.bits .u64) x0&&&BitVec.ofInt (IntKind.bits .u64) 6148914691236517205).toNat:Int)))) (2^ min (Int.toNat 2) (IntKind.bits .u64)))&&&BitVec.ofInt (IntKind.bits .u64) 3689348814741910323).toNat:Int))+(IntKind.wrap .u64 ((BitVec.ofInt (IntKind.bits .u64) (IntKind.wrap .u64 ((IntKind.wrap .u64 ((BitVec.ofInt (IntKind.bits .u64) (Int.fdiv x0 (2^ min (Int.toNat 1) (IntKind.bits .u64)))&&&BitVec.ofInt (IntKind.bits .u64) 6148914691236517205).toNat:Int))+(IntKind.wrap .u64 ((BitVec.ofInt (IntKind.bits .u64) x0&&&BitVec.ofInt (IntKind.bits .u64) 6148914691236517205).toNat:Int))))&&&BitVec.ofInt (IntKind.bits .u64) 3689348814741910323).toNat:Int)))) (2^ min (Int.toNat 4) (IntKind.bits .u64)))+(IntKind.wrap .u64 ((IntKind.wrap .u64 ((BitVec.ofInt (IntKind.bits .u64) (Int.fdiv (IntKind.wrap .u64 ((IntKind.wrap .u64 ((BitVec.ofInt (IntKind.bits .u64) (Int.fdiv x0 (2^ min (Int.toNat 1) (IntKind.bits .u64)))&&&BitVec.ofInt (IntKind.bits .u64) 6148914691236517205).toNat:Int))+(IntKind.wrap .u64 ((BitVec.ofInt (IntKind.bits .u64) x0&&&BitVec.ofInt (IntKind.bits .u64) 6148914691236517205).toNat:Int)))) (2^ min (Int.toNat 2) (IntKind.bits .u64)))&&&BitVec.ofInt (IntKind.bits .u64) 3689348814741910323).toNat:Int))+(IntKind.wrap .u64 ((BitVec.ofInt (IntKind.bits .u64) (IntKind.wrap .u64 ((IntKind.wrap .u64 ((BitVec.ofInt (IntKind.bits .u64) (Int.fdiv x0 (2^ min (Int.toNat 1) (IntKind.bits .u64)))&&&BitVec.ofInt (IntKind.bits .u64) 6148914691236517205).toNat:Int))+(IntKind.wrap .u64 ((BitVec.ofInt (IntKind.bits .u64) x0&&&BitVec.ofInt (IntKind.bits .u64) 6148914691236517205).toNat:Int))))&&&BitVec.ofInt (IntKind.bits .u64) 3689348814741910323).toNat:Int))))))&&&BitVec.ofInt (IntKind.bits .u64) 1085102592571150095).toNat:Int)) (2^ min (Int.toNat 8) (IntKind.bits .u64))))) (2^ min (Int.toNat 16) (IntKind.bits .u64))))) (2^ min (Int.toNat 32) (IntKind.bits .u64)))))))&&&BitVec.ofInt (IntKind.bits .i64) 127).toNat:Int)))))))):Option Int)=some r):
 f69 x0=some r:=
 rX (E:=(EN Q0)) h (
 Ih (
 Ih (
 Ih (
 Ih (
 Ih (
 Ih (
 Is)))))))
 (by kernel_rfl) (fun h=>kH (C:=qh) rfl h)
theorem e396 (x0:Int) {r:Bool}
 (h:(
 some (x0 !=x0):Option Bool)=some r):
 f396 x0=some r:=
 rX (E:=(EN Q1)) h (
 Is)
 (by kernel_rfl) (fun h=>kH (C:=qh) rfl h)
theorem e97 (x0:List UInt8) {r:Bool}
 (h:(
 some (!(x0==x0)):Option Bool)=some r):
 f97 x0=some r:=
 rX (E:=(EN Q1)) h (
 Is)
 (by kernel_rfl) (fun h=>kH (C:=qh) rfl h)
end Go.Proofs.YtmidjldjkbljjaaGreatDoor.cl.cq
set_option linter.unusedVariables false
set_option linter.unusedSimpArgs false
namespace Go.Proofs.YtmidjldjkbljjaaGreatDoor.cl
open Go Go.AM
namespace cq
theorem i69 {x:Nat} (hx:x<18446744073709551616):f69 (x:Int)=some ((c4 64 x:Nat):Int):=by
 obtain ⟨p1,p2,p3,p4,p5⟩:=pop.Tr hx;obtain ⟨k1,k2,k3⟩:=pop.Bj p5;refine e69 _ ?_;rw [aV (by decide),aV (by decide),aV (by decide),aV (by decide),aV (by decide),aV (by decide)];rw [pop.t1 hx p2,pop.t2 p2 p3,pop.t3 p4,pop.t48 k1,pop.t416 k2,pop.t432 (by rw [←k3];omega),←k3,pop.t5 p5,p1]
def wl (w:Nat):List Int:=bif Nat.beq w 0 then [] else [(w:Int)]
theorem Y6 {w:Nat} (h:w≠0):Nat.beq w 0=false:=by
 cases hc:Nat.beq w 0 with
 |false=>rfl
 |true=>exact absurd (Nat.eq_of_beq_eq_true hc) h
theorem i30 {w:Nat} (hw:w<18446744073709551616):f30 (wl w)=some ((c4 64 w:Nat):Int):=by
 refine e30 _ ?_;by_cases h0:w=0
 ·subst h0
  show tC 0 [] 0 0=some 0;refine Bt _ _ _ _ ?_;rfl
 ·have e:wl w=[(w:Int)]:=by unfold wl;rw [Y6 h0];rfl
  have hle:=pop.My 64 w;rw [e];refine Bt _ _ _ _ ?_;rw [cond_pos (by simp),show (0:Int)=((0:Nat):Int) from rfl,dQ (x:=(w:Int)) (by simp),i69 hw,ah];refine Bt _ _ _ _ ?_;rw [bh (by omega),cond_neg (by simp),eC (by omega) (by omega)];simp
def Oh (p q:iC):Int:=
 if c4 64 q.2<c4 64 p.2 then-1 else if c4 64 p.2<c4 64 q.2 then 1 else if Op.bytesLess p.1 q.1=true then-1 else if p.1=q.1 then 0 else 1
def tc (p:iC):aq:=⟨p.1,wl p.2⟩
theorem i48 {p q:iC} (hp:p.2<18446744073709551616) (hq:q.2<18446744073709551616):f392 (tc p) (tc q)=some (Oh p q):=by
 refine e392 _ _ ?_;show Option.bind (f30 (wl q.2)) _=_;rw [i30 hq,ah];show Option.bind (f30 (wl p.2)) _=_;rw [i30 hp,ah];have h96:∀x:Int,f396 x=some false:=fun x=>e396 _ (by simp)
 have h97:∀x:List UInt8,f97 x=some false:=fun x=>e97 _ (by simp)
 have h50:∀x y:Int,f393 x y=some (if x<y then-1 else if y<x then 1 else 0):=by
  intro x y;refine e393 _ _ ?_;rw [h96,ah,h96,ah,cond_false,cond_false];by_cases h1:x<y
  ·rw [cond_pos (by simpa using h1),if_pos h1]
  ·rw [cond_neg (by simpa using h1),if_neg h1]
   by_cases h2:y<x
   ·rw [cond_pos (by simpa using h2),if_pos h2]
   ·rw [cond_neg (by simpa using h2),if_neg h2]
 have h51:∀x y:List UInt8,f394 x y=some (if Op.bytesLess x y=true then-1 else if x=y then 0 else 1):=by
  intro x y;refine e394 _ _ ?_;rw [h97,ah,h97,ah,cond_false,cond_false];by_cases h1:Op.bytesLess x y=true
  ·rw [cond_pos h1,if_pos h1]
  ·have KA:Op.bytesLess x y=false:=by simpa using h1
   rw [cond_neg KA,if_neg h1,KA,Bool.false_or];by_cases h2:x=y
   ·rw [cond_neg (by simp [h2]),if_pos h2]
   ·rw [cond_pos (by simp [h2]),if_neg h2]
 have h49:∀x y:Int,f395 [x,y]=some (if x≠0 then x else y):=by
  intro x y;refine e395 _ ?_;refine KY _ _ _ _ ?_;rw [cond_pos (by simp),show (0:Int)=((0:Nat):Int) from rfl,dQ (x:=x) (by simp)];by_cases h1:x=0
  ·rw [cond_neg (by simp [h1]),if_neg (by simp [h1]),bh (by omega)]
   refine KY _ _ _ _ ?_;rw [cond_pos (by simp),dQ (x:=y) (by simp)];by_cases h2:y=0
   ·rw [cond_neg (by simp [h2]),bh (by omega)]
    refine KY _ _ _ _ ?_;rw [cond_neg (by simp),h2];rfl
   ·rw [cond_pos (by simp [h2])]
  ·rw [cond_pos (by simp [h1]),if_pos (by simp [h1])]
 rw [h50,ah];show Option.bind (f394 p.1 q.1) _=_;rw [h51,ah,h49,ah];unfold Oh;generalize c4 64 q.2=b;generalize c4 64 p.2=a;by_cases h1:b<a
 ·rw [if_pos (show ((b:Nat):Int)<((a:Nat):Int) by omega),if_pos h1,if_pos (by decide)]
 ·rw [if_neg (show¬((b:Nat):Int)<((a:Nat):Int) by omega),if_neg h1]
  by_cases h2:a<b
  ·rw [if_pos (show ((a:Nat):Int)<((b:Nat):Int) by omega),if_pos h2,if_pos (by decide)]
  ·rw [if_neg (show¬((a:Nat):Int)<((b:Nat):Int) by omega),if_neg h2,if_neg (by decide)]
theorem Uf (p q:iC):decide (Oh p q<0)=zK p q:=by
 unfold Oh zK;by_cases h1:c4 64 q.2<c4 64 p.2
 ·have:Nat.blt (c4 64 q.2) (c4 64 p.2)=true:=Nat.ble_eq_true_of_le h1
  rw [if_pos h1,this];rfl
 ·have hb:Nat.blt (c4 64 q.2) (c4 64 p.2)=false:=by
   cases hc:Nat.blt (c4 64 q.2) (c4 64 p.2) with
   |false=>rfl
   |true=>exact absurd (Nat.le_of_ble_eq_true hc) h1
  rw [if_neg h1,hb,Bool.false_or];by_cases h2:c4 64 p.2<c4 64 q.2
  ·have he:Nat.beq (c4 64 p.2) (c4 64 q.2)=false:=by
    cases hc:Nat.beq (c4 64 p.2) (c4 64 q.2) with
    |false=>rfl
    |true=>have:=Nat.eq_of_beq_eq_true hc;omega
   rw [if_pos h2,he];rfl
  ·have he:Nat.beq (c4 64 p.2) (c4 64 q.2)=true:=by
    rw [show c4 64 p.2=c4 64 q.2 by omega];exact Nat.beq_refl _
   rw [if_neg h2,he,Bool.true_and];cases hl:Op.bytesLess p.1 q.1 with
   |true=>rw [if_pos rfl];rfl
   |false=>
    rw [if_neg (by simp)];by_cases h3:p.1=q.1
    ·rw [if_pos h3];rfl
    ·rw [if_neg h3];rfl
end cq
end Go.Proofs.YtmidjldjkbljjaaGreatDoor.cl
