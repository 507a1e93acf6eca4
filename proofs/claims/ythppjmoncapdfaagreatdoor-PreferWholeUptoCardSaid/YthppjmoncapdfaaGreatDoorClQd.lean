/- The comparator of closure.Codes as a plain function, by prog. -/
import Derived.Test.YthppjmoncapdfaaGreatDoorClT
import Derived.Test.YthppjmoncapdfaaGreatDoorClSa
import Derived.Test.YthppjmoncapdfaaGreatDoorClQb
set_option maxRecDepth 100000
set_option linter.all false
open Go.IntKind (wrap)
open BitVec (ofInt)
open Int (toNat)
open List (length)
namespace Go.Proofs.YthppjmoncapdfaaGreatDoor.cl.cq
open Go Go.AM
def fk:dQ:=fun _ _ _=>none
def Hq (f:Nat):Hint:=bif Nat.beq f 173 then {} else H f
noncomputable abbrev Rn:dQ:=run P Hq fk
def Q0:Int→AV:=(fun (x:Int)=>((.int .i64 x):AV))
instance:gT Q0:=⟨fun a b h=>by
 simp only [Q0,AV.mp.injEq,AV.int.injEq,AV.str.injEq,AV.bool.injEq,AV.eH.injEq,AV.agg.injEq,AV.mu.injEq,dz,ig,fO] at h
 exact h⟩
def Q1:Bool→AV:=(fun (x:Bool)=>((.bool x):AV))
instance:gT Q1:=⟨fun a b h=>by
 simp only [Q1,AV.mp.injEq,AV.int.injEq,AV.str.injEq,AV.bool.injEq,AV.eH.injEq,AV.agg.injEq,AV.mu.injEq,dz,ig,fO] at h
 exact h⟩
def acv:List (Nat×sk):=[(131,⟨_,Q0⟩),(132,⟨_,Q0⟩),(133,⟨_,Q0⟩),(134,⟨_,Q0⟩),(135,⟨_,Q0⟩),(167,⟨_,Q0⟩),(198,⟨_,Q1⟩),(199,⟨_,Q0⟩),(200,⟨_,Q1⟩)]
def oz:mG:={ elem:=BB elems,val:=BB vals,res:=BB acv }
noncomputable def f494 (a0 b1:dR):Option Int:=dec (EN Q0) (Rn 131 [(.pv (.agg (dR.enc a0))),(.pv (.agg (dR.enc b1)))] [])
noncomputable def f478 (EA:List Int):Option Int:=dec (EN Q0) (Rn 132 [(.pv (.eH 1 (List.map (bX .i64) EA)))] [])
noncomputable def OW (L6:Int) (v6:List Int) (v7 v8:Int):Option Int:=dec (EN Q0) (qq P oz Hq fk 132 3 [] [(3,(.pv (.int .i64 L6))),(6,(.pv (.eH 1 (List.map (bX .i64) v6)))),(7,(.pv (.int .i64 v7))),(8,(.pv (.int .i64 v8)))] [])
noncomputable def f464 (x0 y1:Int):Option Int:=dec (EN Q0) (Rn 133 [(.pv (.int .i64 x0)),(.pv (.int .i64 y1))] [])
noncomputable def f30 (b0:List Int):Option Int:=dec (EN Q0) (Rn 134 [(.pv (.eH 1 (List.map (bX .u64) b0)))] [])
noncomputable def RS (n3:Int) (v6:List Int) (v7 v8:Int):Option Int:=dec (EN Q0) (qq P oz Hq fk 134 3 [] [(3,(.pv (.int .i64 n3))),(6,(.pv (.eH 1 (List.map (bX .u64) v6)))),(7,(.pv (.int .i64 v7))),(8,(.pv (.int .i64 v8)))] [])
noncomputable def f496 (x0 y1:List UInt8):Option Int:=dec (EN Q0) (Rn 135 [(.pv (.str x0)),(.pv (.str y1))] [])
noncomputable def f495 (a0 b1:cF):Option Int:=dec (EN Q0) (Rn 167 [(.pv (.agg (cF.enc a0))),(.pv (.agg (cF.enc b1)))] [])
noncomputable def f469 (x0:Int):Option Bool:=dec (EN Q1) (Rn 198 [(.pv (.int .i64 x0))] [])
noncomputable def f69 (x0:Int):Option Int:=dec (EN Q0) (Rn 199 [(.pv (.int .u64 x0))] [])
noncomputable def f97 (x0:List UInt8):Option Bool:=dec (EN Q1) (Rn 200 [(.pv (.str x0))] [])
theorem e494 (a0 b1:dR) {r:Int}
 (h:(
 Option.bind (f30 b1.Code) fun cI=>
 Option.bind (f30 a0.Code) fun cC=>
 Option.bind (f464 cI cC) fun er=>
 Option.bind (f496 a0.Name b1.Name) fun gZ=>
 Option.bind (f478 [er,gZ]) fun kV=>
 some kV:Option Int)=some r):
 f494 a0 b1=some r:=
 qt (E:=(EN Q0)) h (
 Ik fun cI=>
 Ik fun cC=>
 Ik fun er=>
 Ik fun gZ=>
 Ik fun kV=>
 Is)
 (by kernel_rfl) (fun h=>mP (C:=oz) rfl h)
theorem e478 (EA:List Int) {r:Int}
 (h:(
 OW 0 EA (length EA:Int) 0:Option Int)=some r):
 f478 EA=some r:=
 qt (E:=(EN Q0)) h (
 (show nP _ (qq P oz Hq fk 132 3 [] [(3,(.pv (.int .i64 0))),(6,(.pv (.eH 1 (List.map (bX .i64) EA)))),(7,(.pv (.int .i64 (length (List.map (bX .i64) EA):Int)))),(8,(.pv (.int .i64 0)))] []) ( OW 0 EA (length EA:Int) 0) from fun _ h=>by simpa only [aW] using lS _ _ _ h))
 (by kernel_rfl) (fun h=>mP (C:=oz) rfl h)
theorem TM (L6:Int) (v6:List Int) (v7 v8:Int) {r:Int}
 (h:(
 bif (decide (v8<v7)) then (
 bw v6 v8 fun aK=>
 bif (aK !=L6) then (
 some aK)
 else (
 OW L6 v6 v7 (wrap .i64 (v8+1))))
 else (
 some L6):Option Int)=some r):
 OW L6 v6 v7 v8=some r:=
 qt (E:=(EN Q0)) h (
 Ic (
 Ig (bX .i64) fun aK=>
 Ic (
 Is) (
 Iz)) (
 Is))
 (by kernel_rfl) (fun h=>oH h)
theorem e464 (x0 y1:Int) {r:Int}
 (h:(
 Option.bind (f469 x0) fun cI=>
 Option.bind (f469 y1) fun cC=>
 bif cI then (
 bif cC then (
 some 0)
 else (
 some (-1)))
 else (
 bif cC then (
 some 1)
 else (
 bif (decide (x0<y1)) then (
 some (-1))
 else (
 bif (decide (x0>y1)) then (
 some 1)
 else (
 some 0)))):Option Int)=some r):
 f464 x0 y1=some r:=
 qt (E:=(EN Q0)) h (
 Ik fun cI=>
 Ik fun cC=>
 Ic (
 Ic (
 Is) (
 Is)) (
 Ic (
 Is) (
 Ic (
 Is) (
 Ic (
 Is) (
 Is)))))
 (by kernel_rfl) (fun h=>mP (C:=oz) rfl h)
theorem e30 (b0:List Int) {r:Int}
 (h:(
 RS 0 b0 (length b0:Int) 0:Option Int)=some r):
 f30 b0=some r:=
 qt (E:=(EN Q0)) h (
 (show nP _ (qq P oz Hq fk 134 3 [] [(3,(.pv (.int .i64 0))),(6,(.pv (.eH 1 (List.map (bX .u64) b0)))),(7,(.pv (.int .i64 (length (List.map (bX .u64) b0):Int)))),(8,(.pv (.int .i64 0)))] []) ( RS 0 b0 (length b0:Int) 0) from fun _ h=>by simpa only [aW] using lS _ _ _ h))
 (by kernel_rfl) (fun h=>mP (C:=oz) rfl h)
theorem aaP (n3:Int) (v6:List Int) (v7 v8:Int) {r:Int}
 (h:(
 bif (decide (v8<v7)) then (
 bw v6 v8 fun aK=>
 Option.bind (f69 aK) fun cC=>
 RS (wrap .i64 (n3+cC)) v6 v7 (wrap .i64 (v8+1)))
 else (
 some n3):Option Int)=some r):
 RS n3 v6 v7 v8=some r:=
 qt (E:=(EN Q0)) h (
 Ic (
 Ig (bX .u64) fun aK=>
 Ik fun cC=>
 Iz) (
 Is))
 (by kernel_rfl) (fun h=>oH h)
theorem e496 (x0 y1:List UInt8) {r:Int}
 (h:(
 Option.bind (f97 x0) fun cI=>
 Option.bind (f97 y1) fun cC=>
 bif cI then (
 bif cC then (
 some 0)
 else (
 some (-1)))
 else (
 bif cC then (
 some 1)
 else (
 bif (Op.bytesLess x0 y1) then (
 some (-1))
 else (
 bif (!(Op.bytesLess x0 y1||x0==y1)) then (
 some 1)
 else (
 some 0)))):Option Int)=some r):
 f496 x0 y1=some r:=
 qt (E:=(EN Q0)) h (
 Ik fun cI=>
 Ik fun cC=>
 Ic (
 Ic (
 Is) (
 Is)) (
 Ic (
 Is) (
 Ic (
 Is) (
 Ic (
 Is) (
 Is)))))
 (by kernel_rfl) (fun h=>mP (C:=oz) rfl h)
theorem e495 (a0 b1:cF) {r:Int}
 (h:(
 Option.bind (f464 a0.aY b1.aY) fun cI=>
 some cI:Option Int)=some r):
 f495 a0 b1=some r:=
 qt (E:=(EN Q0)) h (
 Ik fun cI=>
 Is)
 (by kernel_rfl) (fun h=>mP (C:=oz) rfl h)
theorem e469 (x0:Int) {r:Bool}
 (h:(
 some (x0 !=x0):Option Bool)=some r):
 f469 x0=some r:=
 qt (E:=(EN Q1)) h (
 Is)
 (by kernel_rfl) (fun h=>mP (C:=oz) rfl h)
theorem e69 (x0:Int) {r:Int}
 (h:(
 check (0≤1) (
 check (0≤2) (
 check (0≤4) (
 check (0≤8) (
 check (0≤16) (
 check (0≤32) (
 some (wrap .i64 ((ofInt (IntKind.bits .i64) (wrap .i64 ((wrap .u64 ((wrap .u64 ((wrap .u64 ((wrap .u64 ((ofInt (IntKind.bits .u64) (wrap .u64 ((Int.fdiv (wrap .u64 ((wrap .u64 ((ofInt (IntKind.bits .u64) (Int.fdiv (wrap .u64 ((wrap .u64 ((ofInt (IntKind.bits .u64) (Int.fdiv x0 (2^ min (toNat 1) (IntKind.bits .u64)))&&&ofInt (IntKind.bits .u64) 6148914691236517205).toNat:Int))+(wrap .u64 ((ofInt (IntKind.bits .u64) x0&&&ofInt (IntKind.bits .u64) 6148914691236517205).toNat:Int)))) (2^ min (toNat 2) (IntKind.bits .u64)))&&&ofInt (IntKind.bits .u64) 3689348814741910323).toNat:Int))+(wrap .u64 ((ofInt (IntKind.bits .u64) (wrap .u64 ((wrap .u64 ((ofInt (IntKind.bits .u64) (Int.fdiv x0 (2^ min (toNat 1) (IntKind.bits .u64)))&&&ofInt (IntKind.bits .u64) 6148914691236517205).toNat:Int))+(wrap .u64 ((ofInt (IntKind.bits .u64) x0&&&ofInt (IntKind.bits .u64) 6148914691236517205).toNat:Int))))&&&ofInt (IntKind.bits .u64) 3689348814741910323).toNat:Int)))) (2^ min (toNat 4) (IntKind.bits .u64)))+(wrap .u64 ((wrap .u64 ((ofInt (IntKind.bits .u64) (Int.fdiv (wrap .u64 ((wrap .u64 ((ofInt (IntKind.bits .u64) (Int.fdiv x0 (2^ min (toNat 1) (IntKind.bits .u64)))&&&ofInt (IntKind.bits .u64) 6148914691236517205).toNat:Int))+(wrap .u64 ((ofInt (IntKind.bits .u64) x0&&&ofInt (IntKind.bits .u64) 6148914691236517205).toNat:Int)))) (2^ min (toNat 2) (IntKind.bits .u64)))&&&ofInt (IntKind.bits .u64) 3689348814741910323).toNat:Int))+(wrap .u64 ((ofInt (IntKind.bits .u64) (wrap .u64 ((wrap .u64 ((ofInt (IntKind.bits .u64) (Int.fdiv x0 (2^ min (toNat 1) (IntKind.bits .u64)))&&&ofInt (IntKind.bits .u64) 6148914691236517205).toNat:Int))+(wrap .u64 ((ofInt (IntKind.bits .u64) x0&&&ofInt (IntKind.bits .u64) 6148914691236517205).toNat:Int))))&&&ofInt (IntKind.bits .u64) 3689348814741910323).toNat:Int))))))&&&ofInt (IntKind.bits .u64) 1085102592571150095).toNat:Int))+(Int.fdiv (wrap .u64 ((ofInt (IntKind.bits .u64) (wrap .u64 ((Int.fdiv (wrap .u64 ((wrap .u64 ((ofInt (IntKind.bits .u64) (Int.fdiv (wrap .u64 ((wrap .u64 ((ofInt (IntKind.bits .u64) (Int.fdiv x0 (2^ min (toNat 1) (IntKind.bits .u64)))&&&ofInt (IntKind.bits .u64) 6148914691236517205).toNat:Int))+(wrap .u64 ((ofInt (IntKind.bits .u64) x0&&&ofInt (IntKind.bits .u64) 6148914691236517205).toNat:Int)))) (2^ min (toNat 2) (IntKind.bits .u64)))&&&ofInt (IntKind.bits .u64) 3689348814741910323).toNat:Int))+(wrap .u64 ((ofInt (IntKind.bits .u64) (wrap .u64 ((wrap .u64 ((ofInt (IntKind.bits .u64) (Int.fdiv x0 (2^ min (toNat 1) (IntKind.bits .u64)))&&&ofInt (IntKind.bits .u64) 6148914691236517205).toNat:Int))+(wrap .u64 ((ofInt (IntKind.bits .u64) x0&&&ofInt (IntKind.bits .u64) 6148914691236517205).toNat:Int))))&&&ofInt (IntKind.bits .u64) 3689348814741910323).toNat:Int)))) (2^ min (toNat 4) (IntKind.bits .u64)))+(wrap .u64 ((wrap .u64 ((ofInt (IntKind.bits .u64) (Int.fdiv (wrap .u64 ((wrap .u64 ((ofInt (IntKind.bits .u64) (Int.fdiv x0 (2^ min (toNat 1) (IntKind.bits .u64)))&&&ofInt (IntKind.bits .u64) 6148914691236517205).toNat:Int))+(wrap .u64 ((ofInt (IntKind.bits .u64) x0&&&ofInt (IntKind.bits .u64) 6148914691236517205).toNat:Int)))) (2^ min (toNat 2) (IntKind.bits .u64)))&&&ofInt (IntKind.bits .u64) 3689348814741910323).toNat:Int))+(wrap .u64 ((ofInt (IntKind.bits .u64) (wrap .u64 ((wrap .u64 ((ofInt (IntKind.bits .u64) (Int.fdiv x0 (2^ min (toNat 1) (IntKind.bits .u64)))&&&ofInt (IntKind.bits .u64) 6148914691236517205).toNat:Int))+(wrap .u64 ((ofInt (IntKind.bits .u64) x0&&&ofInt (IntKind.bits .u64) 6148914691236517205).toNat:Int))))&&&ofInt (IntKind.bits .u64) 3689348814741910323).toNat:Int))))))&&&ofInt (IntKind.bits .u64) 1085102592571150095).toNat:Int)) (2^ min (toNat 8) (IntKind.bits .u64)))))+(Int.fdiv (wrap .u64 ((wrap .u64 ((ofInt (IntKind.bits .u64) (wrap .u64 ((Int.fdiv (wrap .u64 ((wrap .u64 ((ofInt (IntKind.bits .u64) (Int.fdiv (wrap .u64 ((wrap .u64 ((ofInt (IntKind.bits .u64) (Int.fdiv x0 (2^ min (toNat 1) (IntKind.bits .u64)))&&&ofInt (IntKind.bits .u64) 6148914691236517205).toNat:Int))+(wrap .u64 ((ofInt (IntKind.bits .u64) x0&&&ofInt (IntKind.bits .u64) 6148914691236517205).toNat:Int)))) (2^ min (toNat 2) (IntKind.bits .u64)))&&&ofInt (IntKind.bits .u64) 3689348814741910323).toNat:Int))+(wrap .u64 ((ofInt (IntKind.bits .u64) (wrap .u64 ((wrap .u64 ((ofInt (IntKind.bits .u64) (Int.fdiv x0 (2^ min (toNat 1) (IntKind.bits .u64)))&&&ofInt (IntKind.bits .u64) 6148914691236517205).toNat:Int))+(wrap .u64 ((ofInt (IntKind.bits .u64) x0&&&ofInt (IntKind.bits .u64) 6148914691236517205).toNat:Int))))&&&ofInt (IntKind.bits .u64) 3689348814741910323).toNat:Int)))) (2^ min (toNat 4) (IntKind.bits .u64)))+(wrap .u64 ((wrap .u64 ((ofInt (IntKind.bits .u64) (Int.fdiv (wrap .u64 ((wrap .u64 ((ofInt (IntKind.bits .u64) (Int.fdiv x0 (2^ min (toNat 1) (IntKind.bits .u64)))&&&ofInt (IntKind.bits .u64) 6148914691236517205).toNat:Int))+(wrap .u64 ((ofInt (IntKind.bits .u64) x0&&&ofInt (IntKind.bits .u64) 6148914691236517205).toNat:Int)))) (2^ min (toNat 2) (IntKind.bits .u64)))&&&ofInt (IntKind.bits .u64) 3689348814741910323).toNat:Int))+(wrap .u64 ((ofInt (IntKind.bits .u64) (wrap .u64 ((wrap .u64 ((ofInt (IntKind.bits .u64) (Int.fdiv x0 (2^ min (toNat 1) (IntKind.bits .u64)))&&&ofInt (IntKind.bits .u64) 6148914691236517205).toNat:Int))+(wrap .u64 ((ofInt (IntKind.bits .u64) x0&&&ofInt (IntKind.bits .u64) 6148914691236517205).toNat:Int))))&&&ofInt (IntKind.bits .u64) 3689348814741910323).toNat:Int))))))&&&ofInt (IntKind.bits .u64) 1085102592571150095).toNat:Int))+(Int.fdiv (wrap .u64 ((ofInt (IntKind.bits .u64) (wrap .u64 ((Int.fdiv (wrap .u64 ((wrap .u64 ((ofInt (IntKind.bits .u64) (Int.fdiv (wrap .u64 ((wrap .u64 ((ofInt (IntKind.bits .u64) (Int.fdiv x0 (2^ min (toNat 1) (IntKind.bits .u64)))&&&ofInt (IntKind.bits .u64) 6148914691236517205).toNat:Int))+(wrap .u64 ((ofInt (IntKind.bits .u64) x0&&&ofInt (IntKind.bits .u64) 6148914691236517205).toNat:Int)))) (2^ min (toNat 2) (IntKind.bits .u64)))&&&ofInt (IntKind.bits .u64) 3689348814741910323).toNat:Int))+(wrap .u64 ((ofInt (IntKind.bits .u64) (wrap .u64 ((wrap .u64 ((ofInt (IntKind.bits .u64) (Int.fdiv x0 (2^ min (toNat 1) (IntKind.bits .u64)))&&&ofInt (IntKind.bits .u64) 6148914691236517205).toNat:Int))+(wrap .u64 ((ofInt (IntKind.bits .u64) x0&&&ofInt (IntKind.bits .u64) 6148914691236517205).toNat:Int))))&&&ofInt (IntKind.bits .u64) 3689348814741910323).toNat:Int)))) (2^ min (toNat 4) (IntKind.bits .u64)))+(wrap .u64 ((wrap .u64 ((ofInt (IntKind.bits .u64) (Int.fdiv (wrap .u64 ((wrap .u64 ((ofInt (IntKind.bits .u64) (Int.fdiv x0 (2^ min (toNat 1) (IntKind.bits .u64)))&&&ofInt (IntKind.bits .u64) 6148914691236517205).toNat:Int))+(wrap .u64 ((ofInt (IntKind.bits .u64) x0&&&ofInt (IntKind.bits .u64) 6148914691236517205).toNat:Int)))) (2^ min (toNat 2) (IntKind.bits .u64)))&&&ofInt (IntKind.bits .u64) 3689348814741910323).toNat:Int))+(wrap .u64 ((ofInt (IntKind.bits .u64) (wrap .u64 ((wrap .u64 ((ofInt (IntKind.bits .u64) (Int.fdiv x0 (2^ min (toNat 1) (IntKind.bits .u64)))&&&ofInt (IntKind.bits .u64) 6148914691236517205).toNat:Int))+(wrap .u64 ((ofInt (IntKind.bits .u64) x0&&&ofInt (IntKind.bits .u64) 6148914691236517205).toNat:Int))))&&&ofInt (IntKind.bits .u64) 3689348814741910323).toNat:Int))))))&&&ofInt (IntKind.bits .u64) 1085102592571150095).toNat:Int)) (2^ min (toNat 8) (IntKind.bits .u64))))) (2^ min (toNat 16) (IntKind.bits .u64)))))+(Int.fdiv (wrap .u64 ((wrap .u64 ((wrap .u64 ((ofInt (IntKind.bits .u64) (wrap .u64 ((Int.fdiv (wrap .u64 ((wrap .u64 ((ofInt (IntKind.bits .u64) (Int.fdiv (wrap .u64 ((wrap .u64 ((ofInt (IntKind.bits .u64) (Int.fdiv x0 (2^ min (toNat 1) (IntKind.bits .u64)))&&&ofInt (IntKind.bits .u64) 6148914691236517205).toNat:Int))+(wrap .u64 ((ofInt (IntKind.bits .u64) x0&&&ofInt (IntKind.bits .u64) 6148914691236517205).toNat:Int)))) (2^ min (toNat 2) (IntKind.bits .u64)))&&&ofInt (IntKind.bits .u64) 3689348814741910323).toNat:Int))+(wrap .u64 ((ofInt (IntKind.bits .u64) (wrap .u64 ((wrap .u64 ((ofInt (IntKind.bits .u64) (Int.fdiv x0 (2^ min (toNat 1) (IntKind.bits .u64)))&&&ofInt (IntKind.bits .u64) 6148914691236517205).toNat:Int))+(wrap .u64 ((ofInt (IntKind.bits .u64) x0&&&ofInt (IntKind.bits .u64) 6148914691236517205).toNat:Int))))&&&ofInt (IntKind.bits .u64) 3689348814741910323).toNat:Int)))) (2^ min (toNat 4) (IntKind.bits .u64)))+(wrap .u64 ((wrap .u64 ((ofInt (IntKind.bits .u64) (Int.fdiv (wrap .u64 ((wrap .u64 ((ofInt (IntKind.bits .u64) (Int.fdiv x0 (2^ min (toNat 1) (IntKind.bits .u64)))&&&ofInt (IntKind.bits .u64) 6148914691236517205).toNat:Int))+(wrap .u64 ((ofInt (IntKind.bits .u64) x0&&&ofInt (IntKind.bits .u64) 6148914691236517205).toNat:Int)))) (2^ min (toNat 2) (IntKind.bits .u64)))&&&ofInt (IntKind.bits .u64) 3689348814741910323).toNat:Int))+(wrap .u64 ((ofInt (IntKind.bits .u64) (wrap .u64 ((wrap .u64 ((ofInt (IntKind.bits .u64) (Int.fdiv x0 (2^ min (toNat 1) (IntKind.bits .u64)))&&&ofInt (IntKind.bits .u64) 6148914691236517205).toNat:Int))+(wrap .u64 ((ofInt (IntKind.bits .u64) x0&&&ofInt (IntKind.bits .u64) 6148914691236517205).toNat:Int))))&&&ofInt (IntKind.bits .u64) 3689348814741910323).toNat:Int))))))&&&ofInt (IntKind.bits .u64) 1085102592571150095).toNat:Int))+(Int.fdiv (wrap .u64 ((ofInt (IntKind.bits .u64) (wrap .u64 ((Int.fdiv (wrap .u64 ((wrap .u64 ((ofInt (IntKind.bits .u64) (Int.fdiv (wrap .u64 ((wrap .u64 ((ofInt (IntKind.bits .u64) (Int.fdiv x0 (2^ min (toNat 1) (IntKind.bits .u64)))&&&ofInt (IntKind.bits .u64) 6148914691236517205).toNat:Int))+(wrap .u64 ((ofInt (IntKind.bits .u64) x0&&&ofInt (IntKind.bits .u64) 6148914691236517205).toNat:Int)))) (2^ min (toNat 2) (IntKind.bits .u64)))&&&ofInt (IntKind.bits .u64) 3689348814741910323).toNat:Int))+(wrap .u64 ((ofInt (IntKind.bits .u64) (wrap .u64 ((wrap .u64 ((ofInt (IntKind.bits .u64) (Int.fdiv x0 (2^ min (toNat 1) (IntKind.bits .u64)))&&&ofInt (IntKind.bits .u64) 6148914691236517205).toNat:Int))+(wrap .u64 ((ofInt (IntKind.bits .u64) x0&&&ofInt (IntKind.bits .u64) 6148914691236517205).toNat:Int))))&&&ofInt (IntKind.bits .u64) 3689348814741910323).toNat:Int)))) (2^ min (toNat 4) (IntKind.bits .u64)))+(wrap .u64 ((wrap .u64 ((ofInt (IntKind.bits .u64) (Int.fdiv (wrap .u64 ((wrap .u64 ((ofInt (IntKind.bits .u64) (Int.fdiv x0 (2^ min (toNat 1) (IntKind.bits .u64)))&&&ofInt (IntKind.bits .u64) 6148914691236517205).toNat:Int))+(wrap .u64 ((ofInt (IntKind.bits .u64) x0&&&ofInt (IntKind.bits .u64) 6148914691236517205).toNat:Int)))) (2^ min (toNat 2) (IntKind.bits .u64)))&&&ofInt (IntKind.bits .u64) 3689348814741910323).toNat:Int))+(wrap .u64 ((ofInt (IntKind.bits .u64) (wrap .u64 ((wrap .u64 ((ofInt (IntKind.bits .u64) (Int.fdiv x0 (2^ min (toNat 1) (IntKind.bits .u64)))&&&ofInt (IntKind.bits .u64) 6148914691236517205).toNat:Int))+(wrap .u64 ((ofInt (IntKind.bits .u64) x0&&&ofInt (IntKind.bits .u64) 6148914691236517205).toNat:Int))))&&&ofInt (IntKind.bits .u64) 3689348814741910323).toNat:Int))))))&&&ofInt (IntKind.bits .u64) 1085102592571150095).toNat:Int)) (2^ min (toNat 8) (IntKind.bits .u64)))))+(Int.fdiv (wrap .u64 ((wrap .u64 ((ofInt (IntKind.bits .u64) (wrap .u64 ((Int.fdiv (wrap .u64 ((wrap .u64 ((ofInt (IntKind.bits .u64) (Int.fdiv (wrap .u64 ((wrap .u64 ((ofInt (IntKind.bits .u64) (Int.fdiv x0 (2^ min (toNat 1) (IntKind.bits .u64)))&&&ofInt (IntKind.bits .u64) 6148914691236517205).toNat:Int))+(wrap .u64 ((ofInt (IntKind.bits .u64) x0&&&ofInt (IntKind.bits .u64) 6148914691236517205).toNat:Int)))) (2^ min (toNat 2) (IntKind.bits .u64)))&&&ofInt (IntKind.bits .u64) 3689348814741910323).toNat:Int))+(wrap .u64 ((ofInt (IntKind.bits .u64) (wrap .u64 ((wrap .u64 ((ofInt (IntKind.bits .u64) (Int.fdiv x0 (2^ min (toNat 1) (IntKind.bits .u64)))&&&ofInt (IntKind.bits .u64) 6148914691236517205).toNat:Int))+(wrap .u64 ((ofInt (IntKind.bits .u64) x0&&&ofInt (IntKind.bits .u64) 6148914691236517205).toNat:Int))))&&&ofInt (IntKind.bits .u64) 3689348814741910323).toNat:Int)))) (2^ min (toNat 4) (IntKind.bits .u64)))+(wrap .u64 ((wrap .u64 ((ofInt (IntKind.bits .u64) (Int.fdiv (wrap .u64 ((wrap .u64 ((ofInt (IntKind.bits .u64) (Int.fdiv x0 (2^ min (toNat 1) (IntKind.bits .u64)))&&&ofInt (IntKind.bits .u64) 6148914691236517205).toNat:Int))+(wrap .u64 ((ofInt (IntKind.bits .u64) x0&&&ofInt (IntKind.bits .u64) 6148914691236517205).toNat:Int)))) (2^ min (toNat 2) (IntKind.bits .u64)))&&&ofInt (IntKind.bits .u64) 3689348814741910323).toNat:Int))+(wrap .u64 ((ofInt (IntKind.bits .u64) (wrap .u64 ((wrap .u64 ((ofInt (IntKind.bits .u64) (Int.fdiv x0 (2^ min (toNat 1) (IntKind.bits .u64)))&&&ofInt (IntKind.bits .u64) 6148914691236517205).toNat:Int))+(wrap .u64 ((ofInt (IntKind.bits .u64) x0&&&ofInt (IntKind.bits .u64) 6148914691236517205).toNat:Int))))&&&ofInt (IntKind.bits .u64) 3689348814741910323).toNat:Int))))))&&&ofInt (IntKind.bits .u64) 1085102592571150095).toNat:Int))+(Int.fdiv (wrap .u64 ((ofInt (IntKind.bits .u64) (wrap .u64 ((Int.fdiv (wrap .u64 ((wrap .u64 ((ofInt (IntKind.bits .u64) (Int.fdiv (wrap .u64 ((wrap .u64 ((ofInt (IntKind.bits .u64) (Int.fdiv x0 (2^ min (toNat 1) (IntKind.bits .u64)))&&&ofInt (IntKind.bits .u64) 6148914691236517205).toNat:Int))+(wrap .u64 ((ofInt (IntKind.bits .u64) x0&&&ofInt (IntKind.bits .u64) 6148914691236517205).toNat:Int)))) (2^ min (toNat 2) (IntKind.bits .u64)))&&&ofInt (IntKind.bits .u64) 3689348814741910323).toNat:Int))+(wrap .u64 ((ofInt (IntKind.bits .u64) (wrap .u64 ((wrap .u64 ((ofInt (IntKind.bits .u64) (Int.fdiv x0 (2^ min (toNat 1) (IntKind.bits .u64)))&&&ofInt (IntKind.bits .u64) 6148914691236517205).toNat:Int))+(wrap .u64 ((ofInt (IntKind.bits .u64) x0&&&ofInt (IntKind.bits .u64) 6148914691236517205).toNat:Int))))&&&ofInt (IntKind.bits .u64) 3689348814741910323).toNat:Int)))) (2^ min (toNat 4) (IntKind.bits .u64)))+(wrap .u64 ((wrap .u64 ((ofInt (IntKind.bits .u64) (Int.fdiv (wrap .u64 ((wrap .u64 ((ofInt (IntKind.bits .u64) (Int.fdiv x0 (2^ min (toNat 1) (IntKind.bits .u64)))&&&ofInt (IntKind.bits .u64) 6148914691236517205).toNat:Int))+(wrap .u64 ((ofInt (IntKind.bits .u64) x0&&&ofInt (IntKind.bits .u64) 6148914691236517205).toNat:Int)))) (2^ min (toNat 2) (IntKind.bits .u64)))&&&ofInt (IntKind.bits .u64) 3689348814741910323).toNat:Int))+(wrap .u64 ((ofInt (IntKind.bits .u64) (wrap .u64 ((wrap .u64 ((ofInt (IntKind.bits .u64) (Int.fdiv x0 (2^ min (toNat 1) (IntKind.bits .u64)))&&&ofInt (IntKind.bits .u64) 6148914691236517205).toNat:Int))+(wrap .u64 ((ofInt (IntKind.bits .u64) x0&&&ofInt (IntKind.bits .u64) 6148914691236517205).toNat:Int))))&&&ofInt (IntKind.bits .u64) 3689348814741910323).toNat:Int))))))&&&ofInt (IntKind.bits .u64) 1085102592571150095).toNat:Int)) (2^ min (toNat 8) (IntKind.bits .u64))))) (2^ min (toNat 16) (IntKind.bits .u64))))) (2^ min (toNat 32) (IntKind.bits .u64)))))))&&&ofInt (IntKind.bits .i64) 127).toNat:Int)))))))):Option Int)=some r):
 f69 x0=some r:=
 qt (E:=(EN Q0)) h (
 Ih (
 Ih (
 Ih (
 Ih (
 Ih (
 Ih (
 Is)))))))
 (by kernel_rfl) (fun h=>mP (C:=oz) rfl h)
theorem e97 (x0:List UInt8) {r:Bool}
 (h:(
 some (!(x0==x0)):Option Bool)=some r):
 f97 x0=some r:=
 qt (E:=(EN Q1)) h (
 Is)
 (by kernel_rfl) (fun h=>mP (C:=oz) rfl h)
end Go.Proofs.YthppjmoncapdfaaGreatDoor.cl.cq
namespace Go.Proofs.YthppjmoncapdfaaGreatDoor.cl
open Go Go.AM
namespace cq
theorem i69 {x:Nat} (hx:x<18446744073709551616):f69 (x:Int)=some ((gQ 64 x:Nat):Int):=by
 obtain ⟨p1,p2,p3,p4,p5⟩:=pop.pop_eq hx;obtain ⟨k1,k2,k3⟩:=pop.Th p5;refine e69 _ ?_;rw [bp (by decide),bp (by decide),bp (by decide),bp (by decide),bp (by decide),bp (by decide)];rw [pop.t1 hx p2,pop.t2 p2 p3,pop.t3 p4,pop.t48 k1,pop.t416 k2,pop.t432 (by rw [←k3];omega),←k3,pop.t5 p5,p1]
def wl (w:Nat):List Int:=bif Nat.beq w 0 then [] else [(w:Int)]
theorem beq0 {w:Nat} (h:w≠0):Nat.beq w 0=false:=by
 cases hc:Nat.beq w 0 with
 |false=>rfl
 |true=>exact absurd (gF hc) h
theorem i30 {w:Nat} (hw:w<18446744073709551616):f30 (wl w)=some ((gQ 64 w:Nat):Int):=by
 refine e30 _ ?_;by_cases h0:w=0
 ·subst h0
  show RS 0 [] 0 0=some 0;refine aaP _ _ _ _ ?_;rfl
 ·have e:wl w=[(w:Int)]:=by unfold wl;rw [beq0 h0];rfl
  have hle:=pop.cntN_le 64 w;rw [e];refine aaP _ _ _ _ ?_;rw [cond_pos (by simp),show (0:Int)=((0:Nat):Int) from rfl,gW (x:=(w:Int)) (by simp),i69 hw,aA];refine aaP _ _ _ _ ?_;rw [bG (by omega),cond_neg (by simp),kJ (by omega) (by omega)];simp
def SX (p q:wk):Int:=
 if gQ 64 q.2<gQ 64 p.2 then-1 else if gQ 64 p.2<gQ 64 q.2 then 1 else if Op.bytesLess p.1 q.1=true then-1 else if p.1=q.1 then 0 else 1
def tc (p:wk):dR:=⟨p.1,wl p.2⟩
theorem h96:∀x:Int,f469 x=some false:=fun x=>e469 _ (by simp)
theorem h50:∀x y:Int,f464 x y=some (if x<y then-1 else if y<x then 1 else 0):=by
 intro x y;refine e464 _ _ ?_;rw [h96,aA,h96,aA,aj,aj];by_cases h1:x<y
 ·rw [cond_pos (by simpa using h1),au h1]
 ·rw [cond_neg (by simpa using h1),ak h1]
  by_cases h2:y<x
  ·rw [cond_pos (by simpa using h2),au h2]
  ·rw [cond_neg (by simpa using h2),ak h2]
def arc (p:Int×Int):cF:=⟨p.1,p.2⟩
theorem i495 (p q:Int×Int):f495 (arc p) (arc q)=some (if p.1<q.1 then-1 else if q.1<p.1 then 1 else 0):=by
 refine e495 _ _ ?_;show Option.bind (f464 p.1 q.1) _=_;rw [h50,aA]
theorem i48 {p q:wk} (hp:p.2<18446744073709551616) (hq:q.2<18446744073709551616):f494 (tc p) (tc q)=some (SX p q):=by
 refine e494 _ _ ?_;show Option.bind (f30 (wl q.2)) _=_;rw [i30 hq,aA];show Option.bind (f30 (wl p.2)) _=_;rw [i30 hp,aA];have h97:∀x:List UInt8,f97 x=some false:=fun x=>e97 _ (by simp)
 have h51:∀x y:List UInt8,f496 x y=some (if Op.bytesLess x y=true then-1 else if x=y then 0 else 1):=by
  intro x y;refine e496 _ _ ?_;rw [h97,aA,h97,aA,aj,aj];by_cases h1:Op.bytesLess x y=true
  ·rw [cond_pos h1,au h1]
  ·have MO:Op.bytesLess x y=false:=by simpa using h1
   rw [cond_neg MO,ak h1,MO,iY];by_cases h2:x=y
   ·rw [cond_neg (by simp [h2]),au h2]
   ·rw [cond_pos (by simp [h2]),ak h2]
 have h49:∀x y:Int,f478 [x,y]=some (if x≠0 then x else y):=by
  intro x y;refine e478 _ ?_;refine TM _ _ _ _ ?_;rw [cond_pos (by simp),show (0:Int)=((0:Nat):Int) from rfl,gW (x:=x) (by simp)];by_cases h1:x=0
  ·rw [cond_neg (by simp [h1]),ak (by simp [h1]),bG (by omega)]
   refine TM _ _ _ _ ?_;rw [cond_pos (by simp),gW (x:=y) (by simp)];by_cases h2:y=0
   ·rw [cond_neg (by simp [h2]),bG (by omega)]
    refine TM _ _ _ _ ?_;rw [cond_neg (by simp),h2];rfl
   ·rw [cond_pos (by simp [h2])]
  ·rw [cond_pos (by simp [h1]),au (by simp [h1])]
 rw [h50,aA];show Option.bind (f496 p.1 q.1) _=_;rw [h51,aA,h49,aA];unfold SX;generalize gQ 64 q.2=b;generalize gQ 64 p.2=a;by_cases h1:b<a
 ·rw [au (show ((b:Nat):Int)<((a:Nat):Int) by omega),au h1,au (by decide)]
 ·rw [ak (show¬((b:Nat):Int)<((a:Nat):Int) by omega),ak h1]
  by_cases h2:a<b
  ·rw [au (show ((a:Nat):Int)<((b:Nat):Int) by omega),au h2,au (by decide)]
  ·rw [ak (show¬((a:Nat):Int)<((b:Nat):Int) by omega),ak h2,ak (by decide)]
theorem Vg (p q:wk):decide (SX p q<0)=Sd p q:=by
 unfold SX Sd;by_cases h1:gQ 64 q.2<gQ 64 p.2
 ·have:Nat.blt (gQ 64 q.2) (gQ 64 p.2)=true:=jA h1
  rw [au h1,this];rfl
 ·have hb:Nat.blt (gQ 64 q.2) (gQ 64 p.2)=false:=by
   cases hc:Nat.blt (gQ 64 q.2) (gQ 64 p.2) with
   |false=>rfl
   |true=>exact absurd (cV hc) h1
  rw [ak h1,hb,iY];by_cases h2:gQ 64 p.2<gQ 64 q.2
  ·have he:Nat.beq (gQ 64 p.2) (gQ 64 q.2)=false:=by
    cases hc:Nat.beq (gQ 64 p.2) (gQ 64 q.2) with
    |false=>rfl
    |true=>have:=gF hc;omega
   rw [au h2,he];rfl
  ·have he:Nat.beq (gQ 64 p.2) (gQ 64 q.2)=true:=by
    rw [show gQ 64 p.2=gQ 64 q.2 by omega];exact fS _
   rw [ak h2,he,fG];cases hl:Op.bytesLess p.1 q.1 with
   |true=>rw [au rfl];rfl
   |false=>
    rw [ak (by simp)];by_cases h3:p.1=q.1
    ·rw [au h3];rfl
    ·rw [ak h3];rfl
end cq
end Go.Proofs.YthppjmoncapdfaaGreatDoor.cl
namespace Go.Proofs.YthppjmoncapdfaaGreatDoor.cl
open Go Go.AM Go.RowKit
theorem ok:Cw P=true:=by kernel_rfl
theorem mJ {g:Nat} {fn:Func} (hf:P.funcs[g]? =some fn) (hn:¬(fn.name= "runtime.NumGoroutine")) (hb:fn.body.isSome=true) (us:Array Value) (w2:World):(callFunc g us).run P w2= .ok (.enter g us) w2:=by
 obtain ⟨c,hc⟩:=kA.1 hb;simp [callFunc,hf,hn,hc]
theorem Tu (f:Nat):(cq.Hq f).blk=[]:=by
 have key:∀(l:List (Nat×Hint)),(l.all fun p=>Nat.beq p.1 173||p.2.blk.isEmpty)=true→∀f,f≠173→((find l f).getD {}).blk=[]:=by
  intro l
  induction l with
  |nil=>intro _ f _;rfl
  |cons p l ih=>
   intro h f hf;rw [gU,aF,eY] at h;simp only [find];cases hb:Nat.beq p.1 f with
   |true=>
    rw [ai];rcases h.1 with h1|h1
    ·exact absurd ((gF hb).symm.trans (gF h1)) hf
    ·exact ud.1 h1
   |false=>rw [aj];exact ih h.2 f hf
 unfold cq.Hq;cases hb:Nat.beq f 173 with
 |true=>rfl
 |false=>
  rw [aj];exact key hints (by kernel_rfl) f fun e=>by rw [e] at hb;cases hb
theorem Zm:∀f fn c,P.funcs[f]? =some fn→fn.body=some c→mW True (fun _ _=>none) P (cq.Hq f) fn.ntmps c:=fun f fn c _ _=>mW.none (Tu f) c
theorem none_ok:ga True (fun _ _=>none) P cq.fk:=fun g args cD r gm hv=>by cases hv
structure SK where
 T:Type
 enc:T→List AV
 good:T→Prop
 c:T→T→Int
 ty:Nat
 cm:Nat
 two:∀x,∃a b,enc x=[a,b]
 asy:∀p q,c p q<0→¬c q p<0
 up:∀x y z,c x y<0→¬c z y<0→c x z<0
 nul:∀μ:Mu,∃p us,ku μ (enc p) us∧good p
 runs:∀x y,good x→good y→cq.Rn cm [(.pv (.agg (enc x))),(.pv (.agg (enc y)))] []=some (.int .i64 (c x y),[])
 enters:∀(us:Array Value) (w2:World),(callFunc cm us).run P w2= .ok (.enter cm us) w2
abbrev Al (S:SK) (μ:Mu):Type:={ x:S.T×List Value // ku μ (S.enc x.1) x.2∧S.good x.1 }
variable {S:SK}
noncomputable instance (μ:Mu):Inhabited (Al S μ):=⟨Classical.choice (by
 obtain ⟨p,us,h⟩:=S.nul μ
 exact ⟨⟨(p,us),h⟩⟩)⟩
def Al.cells {μ:Mu} (x:Al S μ):List Value:=x.1.2
theorem Al.len {μ:Mu} (x:Al S μ):x.cells.length=2:=by
 obtain ⟨⟨p,vs⟩,⟨h,_⟩,_⟩:=x;obtain ⟨a,b,e⟩:=S.two p;have h':bV μ (S.enc p) vs:=h;rw [e] at h';obtain ⟨u,us,e0,_,⟨u',us',e',_,e''⟩⟩:=h';have e2:us'=[]:=e'';show vs.length=2;rw [e0,e',e2];rfl
theorem Al.one {μ:Mu} (x:Al S μ):∀v∈x.cells,v.oneCell'=true:=x.2.1.2
def Al.cf {μ:Mu} (x y:Al S μ):Int:=S.c x.1.1 y.1.1
def SK.lt (S:SK) (x y:S.T):Bool:=decide (S.c x y<0)
theorem swo {μ:Mu}:Go.Sort.SWO (ltOf (Al.cf (S:=S) (μ:=μ))) where
 irrefl x:=by
  show decide (S.c x.1.1 x.1.1<0)=false;exact ym fun h=>S.asy _ _ h h
 trans x y z h1 h2:=by
  have MO:S.c x.1.1 y.1.1<0:=lM h1;have KH:S.c y.1.1 z.1.1<0:=lM h2;exact decide_eq_true (S.up _ _ _ MO (S.asy _ _ KH))
 ntrans x y z h1 h2:=by
  have MO:¬S.c x.1.1 y.1.1<0:=yo h1;have KH:¬S.c y.1.1 z.1.1<0:=yo h2;exact ym fun hc=>MO (S.up _ _ _ hc KH)
theorem cmp48 {μ:Mu} {W:World} (gp:HW μ W) (x y:Al S μ):Calls P S.cm #[.agg x.cells.toArray, .agg y.cells.toArray] W fun e w'=>e= .returned (.int .i64 (Al.cf x y))∧∃q os',w'=Go.Sort.grow (W.drewN q) os':=by
 have hr:=S.runs x.1.1 y.1.1 x.2.2 y.2.2
 have hs:=(ga.noY (Fp (q:=True) (B:=fun _ _=>none) ok Zm none_ok S.cm _ [] _ _ hr W μ (fun _=>undef) [.agg x.cells.toArray, .agg y.cells.toArray] (fun _ _ _ h=>by cases h) gp (fun id o h=>by cases h) (fun i j oi oj h=>by cases h)
  ⟨_,_,rfl,(by show rep μ (.agg (S.enc x.1.1)) _;rw [rep];exact ⟨_,rfl,x.2.1.1,x.2.1.2⟩),_,_,rfl,(by show rep μ (.agg (S.enc y.1.1)) _;rw [rep];exact ⟨_,rfl,y.2.1.1,y.2.1.2⟩),rfl⟩) fun xs h=>by cases h).2
 refine hs.mono ?_
 rintro e w' ⟨v,μ',loc',rfl,hP⟩
 have hv:=hP.pure rfl;rw [rep] at hv;subst hv;refine ⟨rfl,w'.drawn-W.drawn,w'.heap.extract W.heap.size w'.heap.size,?_⟩;have hd:=hP.drawn trivial;have hheap:w'.heap=W.heap++w'.heap.extract W.heap.size w'.heap.size:=by
  apply Array.ext_getElem?;intro b;by_cases hb:b<W.heap.size
  ·rw [uf hb]
   exact hP.keep b hb (by rintro ⟨id,v,h,_⟩;simp [jV] at h)
  ·rw [Array.getElem?_append_right (by omega),Array.getElem?_extract]
   have hg:=hP.grown;by_cases KW:b<w'.heap.size
   ·rw [au (by omega),show W.heap.size+(b-W.heap.size)=b by omega]
   ·rw [ak (by omega),Array.getElem?_eq_none (by omega)]
 have ext:∀{a b:World},a.heap=b.heap→a.tape=b.tape→a.drawn=b.drawn→a.os=b.os→a.output=b.output→a=b:=by
  intro a b h1 h2 h3 h4 h5;cases a;cases b;simp only at h1 h2 h3 h4 h5;subst h1 h2 h3 h4 h5;rfl
 exact ext hheap hP.tape (show w'.drawn=W.drawn+(w'.drawn-W.drawn) by omega) hP.os hP.output
end Go.Proofs.YthppjmoncapdfaaGreatDoor.cl
namespace Go.Proofs.YthppjmoncapdfaaGreatDoor.cl
open Go Go.AM Go.RowKit
open Go.Sort (flatK size_flatK get_flatK ext_get!)
variable {S:SK}
theorem Zb {μ:Mu}:∀{l:List S.T} {vs:List Value},(∀p∈l,S.good p)→c4 μ 2 (l.map S.enc) vs→∃mZ:List (Al S μ),mZ.map (fun x=>x.1.1)=l∧vs=(mZ.map Al.cells).flatten:=by
 intro l
 induction l with
 |nil=>intro vs _ h;exact ⟨[],rfl,h⟩
 |cons p l ih=>
  intro vs hl h;obtain ⟨us,ws,rfl,h1,h2,h3⟩:=h;obtain ⟨mZ,e1,e2⟩:=ih (fun q hq=>hl q (by simp [hq])) h3;refine ⟨⟨(p,us),h1,hl p (by simp)⟩::mZ,?_,?_⟩
  ·rw [aP,e1]
  ·rw [aP,rE,e2];rfl
theorem acf {μ:Mu}:∀(mZ:List (Al S μ)),c4 μ 2 (mZ.map fun x=>S.enc x.1.1) (mZ.map Al.cells).flatten:=by
 intro mZ
 induction mZ with
 |nil=>rfl
 |cons x mZ ih=>exact ⟨x.cells,(mZ.map Al.cells).flatten,rfl,x.2.1,x.len,ih⟩
theorem DL {μ:Mu} (mZ:List (Al S μ)):(mZ.map Al.cells).flatten.length=mZ.length *2:=by
 induction mZ with
 |nil=>rfl
 |cons x mZ ih=>rw [aP,rE,cQ,ih,x.len,bg];omega
theorem Z6 {μ:Mu}:∀(mZ:List (Al S μ)) (t:Nat),t<mZ.length *2→(mZ.map Al.cells).flatten[t]! =(mZ[t / 2]!).cells[t % 2]! :=by
 intro mZ
 induction mZ with
 |nil=>intro t h;simp at h
 |cons x mZ ih=>
  intro t h;have hx:=x.len;have hf:=DL mZ;rw [bg] at h;rw [aP,rE];by_cases h2:t<2
  ·have e1:t / 2=0:=by omega
   have e2:t % 2=t:=by omega
   rw [e1,e2,pG,di (by omega)];simp [pG]
  ·obtain ⟨s,rfl⟩:∃s,t=s+2:=⟨t-2,by omega⟩
   have e1:(s+2) / 2=s / 2+1:=by omega
   have e2:(s+2) % 2=s % 2:=by omega
   have:=ih s (by omega);rw [pG] at this;rw [e1,e2,pG,gr (by omega),hx,show s+2-2=s by omega,this];simp [pG]
theorem P8 {μ:Mu} (mZ:List (Al S μ)):flatK Al.cells 2 mZ.toArray=(mZ.map Al.cells).flatten.toArray:=by
 refine ext_get! (by simp only [size_flatK,mY];exact (DL mZ).symm) fun t ht=> ?_
 have ht':t<mZ.length *2:=by simpa using ht
 rw [get_flatK _ _ _ t (by simpa using ht')];have:=Z6 mZ t ht';simp only [Dk] at this⊢;exact this.symm
theorem SK.lt_asymm (S:SK) (p q:S.T) (h:S.lt p q=true):S.lt q p=false:=ym (S.asy _ _ (lM h))
theorem SK.lt_up (S:SK) (x y z:S.T) (h:S.lt x y=true) (h':S.lt z y=false):S.lt x z=true:=decide_eq_true (S.up _ _ _ (lM h) (yo h'))
theorem UC {μ:Mu} {l:List S.T} (hs:∀x∈l,∀y∈l,S.lt x y=false→S.lt y x=false→x=y) {mZ:List (Al S μ)} (e:mZ.map (fun x=>x.1.1)=l) {d':Array (Al S μ)} (hp:Go.Sort.PermIn 0 mZ.toArray.size mZ.toArray d') (hso:Go.Sort.SortedIn (ltOf Al.cf) 0 mZ.toArray.size d'):
  d'.toList.map (fun x=>x.1.1)=mz S.lt l∧d'.toList.length=mZ.length:=by
 obtain ⟨p1,_,p3⟩:=hp;have hsz:d'.size=mZ.length:=by simpa using p1
 have e3:d'.toList.Perm mZ:=by
  have h1:d'.extract 0 mZ.toArray.size=d':=by
   rw [←p1];simp
  have h2:mZ.toArray.extract 0 mZ.toArray.size=mZ.toArray:=by simp
  rw [h1,h2] at p3;simpa using p3
 refine ⟨?_,by simpa using hsz⟩;obtain ⟨s1,s2⟩:=tu S.lt S.lt_asymm S.lt_up l;have hp':(d'.toList.map fun x=>x.1.1).Perm l:=by rw [←e];exact e3.map _
 refine AJ (lt:=S.lt) (hp'.trans s2.symm) ?_ s1 ?_
 ·unfold mH
  rw [iJ,lK];intro i j hi hj hij;have hi':i<d'.size:=by simpa using hi
  have hj':j<d'.size:=by simpa using hj
  have:=hso i j (dh _) hij (by simpa [hsz] using hj');rw [show ltOf Al.cf=fun x y:Al S μ=>S.lt x.1.1 y.1.1 from rfl,getElem!_pos d' j hj',getElem!_pos d' i hi'] at this;simpa using this
 ·intro x hx y hy
  exact hs x (hp'.mem_iff.1 hx) y (hp'.mem_iff.1 hy)
theorem acA {μ:Mu} {loc:Nat→Value} {w:World} {l:List S.T} {ρ:Go.Shelf.Ren} (L:SlLaysF0.n6 P ρ) (aE:∀w,(isAgg (ρ.t 24)).run P w= .ok true w) (zE:∀w,(Go.sizeOf (ρ.t 24)).run P w= .ok 2 w) (hlen:l.length≤1073741824) (hst:∀x∈l,∀y∈l,S.lt x y=false→S.lt y x=false→x=y) (hw:∀p∈l,S.good p) (gp:HW μ w) (dG:mE w.heap.size (jV False loc [10000]) μ loc w 10000 (.row S.ty 2 (l.map S.enc))):
  Calls P (ρ.f 6) #[loc 10000, .func (.func S.cm) #[] #[]] w fun e w'=>∃v μ' loc',e= .returned v∧gd False μ loc [10000] (.mu []) [(10000, .row S.ty 2 ((mz S.lt l).map S.enc))] w v μ' loc' w':=by
 have vD:=dG;obtain ⟨vs,hown,hrc,wC⟩:=vD;rcases hown.2 with ⟨e1,h0⟩|⟨g,cap,cur,e1,_,hg,hcap,Ts,hsz,Aa⟩
 ·have hl:l=[]:=by
   cases l with
   |nil=>rfl
   |cons a b=>simp at h0
  subst hl;have hc:Calls P (ρ.f 6) #[.slice none 0 0, .func (.func S.cm) #[] #[]] w fun e w'=>e= .returned (.tuple #[])∧w'=w:=AnyF.slices_SortFunc_none L none 0 _ w
  rw [e1];refine hc.mono ?_
  rintro e w' ⟨rfl,rfl⟩
  exact ⟨_,μ,loc,rfl,LW gp dG⟩
 ·obtain ⟨mZ,ha1,ha2⟩:=Zb hw hrc
  have hal:mZ.length=l.length:=by rw [←ha1];simp
  have MT:(l.map S.enc).length=mZ.length:=by simp [hal]
  rw [MT] at e1 hcap Aa;rw [ha2] at Aa;have hfl:=DL mZ;have hin:jH (loc 10000) g:=by rw [e1];exact iC.2 rfl
  obtain ⟨aai,tR⟩:=wC g hin;have hlt:g<w.heap.size:=(eG.1 hg).1;have hcell:∀(j:Nat),j<mZ.length *2→cur[j]? =(mZ.map Al.cells).flatten[j]? :=by
   intro j hj;have h1:(cur.toList.take (mZ.length *2))[j]? =(mZ.map Al.cells).flatten[j]? :=by rw [Aa]
   rw [oB,au hj] at h1;simpa using h1
  have hH:Go.Sort.HoldsK Al.cells 2 w g 0 mZ.toArray:=by
   intro j hj;rw [P8] at hj⊢;have hj':j<mZ.length *2:=by rw [←hfl];simpa using hj
   have hcj:=hcell j hj';have hjf:j<(mZ.map Al.cells).flatten.length:=by omega
   rw [aH hjf] at hcj;rw [gE];refine ⟨?_,?_⟩
   ·unfold World.cell?
    simp only [hg];rw [Dk,pG,aH hjf];simp [hcj]
   ·unfold World.frozen?
    simp [hg]
  have hcmp:CmpLays P S.cm #[] (Al.cells (S:=S) (μ:=μ)) 2 Al.cf g 0 mZ.toArray.size w:=by
   intro m os dk hdk x y;refine cmp48 (W:=sortWorldK Al.cells 2 w g 0 m dk os) ?_ x y;obtain ⟨_,k2,_⟩:=IX (enc:=id) (n:=m) (d:=flatK Al.cells 2 dk) (os:=os) hg;intro b j z hz;have h:=gp b j z hz;have hne:b≠g:=fun e=>by subst e;rw [tR j] at hz;cases hz
   exact (fZ (k2 b (mq h) hne) j).trans h
  have hc:Calls P (ρ.f 6) #[.slice (some ⟨g,0,none⟩) mZ.toArray.size cap, .func (.func S.cm) #[] #[]] w fun e w'=>e= .returned (.tuple #[])∧∃d' n os,Go.Sort.PermIn 0 mZ.toArray.size mZ.toArray d'∧Go.Sort.SortedIn (ltOf Al.cf) 0 mZ.toArray.size d'∧w'=sortWorldK Al.cells 2 w g 0 n d' os:=
   AnyQ.slices_SortFunc L 2 aE zE Al.cells Al.len Al.one Al.cf swo S.cm #[] g 0 cap mZ.toArray w S.enters hcmp hH hlt (by simp;omega)
  have uB:Calls P (ρ.f 6) #[.slice (some ⟨g,0,none⟩) mZ.length cap, .func (.func S.cm) #[] #[]] w fun e w'=>e= .returned (.tuple #[])∧∃d' n os,Go.Sort.PermIn 0 mZ.toArray.size mZ.toArray d'∧Go.Sort.SortedIn (ltOf Al.cf) 0 mZ.toArray.size d'∧w'=sortWorldK Al.cells 2 w g 0 n d' os:=by
   simpa using hc
  rw [e1];refine uB.mono ?_
  rintro e w' ⟨rfl,d',n,os,hp,hso,rfl⟩
  obtain ⟨q1,q2⟩:=UC hst ha1 hp hso;have hfl':=DL d'.toList;have hfa:flatK Al.cells 2 d'=(d'.toList.map Al.cells).flatten.toArray:=by
   have:=P8 d'.toList;simpa using this
  obtain ⟨k1,k2,k3⟩:=IX (enc:=id) (n:=n) (d:=flatK Al.cells 2 d') (os:=os) hg;obtain ⟨t1,t2⟩:=RY (enc:=id) (l:=(d'.toList.map Al.cells).flatten) (cur:=cur) (by rw [hfl',q2,hsz];omega);rw [←hfa] at t1 t2;rw [j8] at t2;have hil:(mz S.lt l).length=mZ.length:=by rw [←q1,aW,q2]
  refine ⟨_,μ,loc,rfl,LY (cur:=cur) (us:=(d'.toList.map Al.cells).flatten) gp e1 hcap Ts hsz aai tR k1 t1 (by rw [←q2,←hfl'];exact t2) (by rw [hfl',q2]) k2 rfl rfl rfl k3 (by rw [aW,hil]) ?_⟩;rw [←q1,eO];exact acf d'.toList
theorem YG {ws:List (List AV)} {m:Nat} (h:UT ws=some m):ws=(bif Nat.beq m 0 then [] else [[.int .u64 (m:Int)]])∧m<18446744073709551616:=by
 unfold UT at h;split at h
 ·simp only [aG] at h;subst h;exact ⟨rfl,by decide⟩
 ·rename_i k
  obtain ⟨hb,hv⟩:=bU h;simp only [aF] at hb;simp only [aG] at hv;subst hv;have h1:0<k:=by have:=hb.1;simpa [cr] using this
  have h2:k<18446744073709551616:=by have:=hb.2;simpa [cr] using this
  refine ⟨?_,h2⟩;rw [cq.beq0 (by omega)];rfl
 ·cases h
theorem Xy:∀{xs:List (List AV)} {l:List wk},IK xs=some l→xs=l.map wk.enc∧∀p∈l,p.2<18446744073709551616:=by
 intro xs
 induction xs with
 |nil=>intro l h;simp [IK] at h;subst h;exact ⟨rfl,by simp⟩
 |cons c xs ih=>
  intro l h;unfold IK at h;split at h
  ·rename_i e;cases e
  ·rename_i s ws l' e
   injection e with e1 e2
   subst e1 e2;split at h
   ·rename_i w r hw hr
    simp only [aG] at h;subst h;obtain ⟨k1,k2⟩:=YG hw;obtain ⟨k3,k4⟩:=ih hr;refine ⟨?_,?_⟩
    ·rw [k1,k3];rfl
    ·intro p hp
     rcases aD.1 hp with rfl|hp
     ·exact k2
     ·exact k4 p hp
   ·cases h
  ·cases h
theorem UF {l:List wk} (h:Hz l=true):∀x∈l,∀y∈l,Sd x y=false→Sd y x=false→x=y:=by
 induction l with
 |nil=>intro x hx;cases hx
 |cons a l ih=>
  unfold Hz at h;simp only [aF,cg,eY] at h;intro x hx y hy h1 h2;rcases aD.1 hx with ex|hx'
  ·rcases aD.1 hy with ey|hy'
   ·rw [ex,ey]
   ·subst ex
    rcases h.1 y hy' with h3|h3
    ·rw [h1] at h3;cases h3
    ·rw [h2] at h3;cases h3
  ·rcases aD.1 hy with ey|hy'
   ·subst ey
    rcases h.1 x hx' with h3|h3
    ·rw [h2] at h3;cases h3
    ·rw [h1] at h3;cases h3
   ·exact ih h.2 x hx' y hy' h1 h2
theorem Hr {p q:wk}:Sd p q=true↔gQ 64 q.2<gQ 64 p.2∨(gQ 64 p.2=gQ 64 q.2∧Op.bytesLess p.1 q.1=true):=by
 unfold Sd;rw [eY,aF];constructor
 ·rintro (h|⟨h1,h2⟩)
  ·exact .inl (cV h)
  ·exact .inr ⟨gF h1,h2⟩
 ·rintro (h|⟨h1,h2⟩)
  ·exact .inl (jA h)
  ·exact .inr ⟨by rw [h1];exact fS _,h2⟩
theorem X3 (p q:wk) (h:Sd p q=true):Sd q p=false:=by
 apply dA;intro hc;rw [x7,Hr] at hc;rw [Hr] at h;rcases h with h|⟨h1,h2⟩
 ·rcases hc with h'|⟨MO,_⟩<;>omega
 ·rcases hc with h'|⟨MO,KH⟩
  ·omega
  ·rw [td h2] at KH;cases KH
theorem ltC_up (x y z:wk) (h:Sd x y=true) (h':Sd z y=false):Sd x z=true:=by
 rw [Hr] at h⊢;have hn:¬(gQ 64 y.2<gQ 64 z.2∨(gQ 64 z.2=gQ 64 y.2∧Op.bytesLess z.1 y.1=true)):=fun hc=>by
  rw [←Hr,h'] at hc;cases hc
 simp only [jx,not_and] at hn;rcases h with h|⟨h1,h2⟩
 ·left;omega
 ·by_cases e:gQ 64 z.2=gQ 64 y.2
  ·right
   refine ⟨by omega,?_⟩;have hz:=hn.2 e;have hz':Op.bytesLess z.1 y.1=false:=by simpa using hz
   exact EM _ _ _ h2 hz'
  ·left;omega
theorem ZM (p:wk):dR.enc (cq.tc p)=wk.enc p:=by
 show [AV.str p.1,AV.eH 1 ((cq.wl p.2).map (bX .u64))]=[AV.str p.1,AV.eH 1 (bif Nat.beq p.2 0 then [] else [[.int .u64 (p.2:Int)]])]
 unfold cq.wl;cases Nat.beq p.2 0<;>rfl
theorem PG {p q:wk}:cq.SX p q<0↔Sd p q=true:=by rw [←cq.Vg];simp
abbrev SKc:SK where
 T:=wk
 enc:=wk.enc
 good p:=p.2<18446744073709551616
 c:=cq.SX
 ty:=112
 cm:=131
 two p:=⟨_,_,rfl⟩
 asy p q h h':=by
  rw [PG] at h h';rw [X3 p q h] at h';cases h'
 up x y z h h':=by
  rw [PG] at *;exact ltC_up x y z h (by simpa using h')
 nul μ:=⟨([],0),[.string ⟨#[]⟩, .slice none 0 0],⟨⟨_,_,rfl,by rw [rep],⟨_,_,rfl,by rw [rep];exact ⟨none,0,rfl,aS _,dh _, .inl rfl⟩,rfl⟩⟩,fun u hu=>by
  simp only [aD,fF,fW] at hu
  rcases hu with rfl|rfl<;>rfl⟩,by decide⟩
 runs x y hx hy:=by
  have:=lS (EN cq.Q0) (cq.Rn 131 [(.pv (.agg (dR.enc (cq.tc x)))),(.pv (.agg (dR.enc (cq.tc y))))] []) _ (cq.i48 hx hy);rw [ZM,ZM] at this;exact this
 enters:=mJ Tryz.func131 (by decide) (by rfl)
theorem Y5:SKc.lt=Sd:=by
 have h:SKc.c=cq.SX:=by simp only [SKc]
 funext p q
 unfold SK.lt;rw [h];exact cq.Vg p q
theorem EL:∀{xs:List (List AV)} {l:List (Int×Int)},wq xs=some l→xs=l.map PX
 |[],l,h=>by
  have:l=[]:=(eS h).symm;subst this;rfl
 |[.int .i64 f, .int .i64 t]::xs,l,h=>by
  have h:(wq xs).map ((f,t):: ·)=some l:=h;obtain ⟨m,hm,rfl⟩:=bS.1 h;rw [EL hm];rfl
theorem W7 {l:List (Int×Int)} (h:Ib l=true):∀x∈l,∀y∈l,ltA x y=false→ltA y x=false→x=y:=by
 induction l with
 |nil=>intro x hx;cases hx
 |cons a l ih=>
  unfold Ib at h;simp only [aF,cg,eY] at h;intro x hx y hy h1 h2;rcases aD.1 hx with ex|hx'
  ·rcases aD.1 hy with ey|hy'
   ·rw [ex,ey]
   ·subst ex
    rcases h.1 y hy' with h3|h3
    ·rw [h1] at h3;cases h3
    ·rw [h2] at h3;cases h3
  ·rcases aD.1 hy with ey|hy'
   ·subst ey
    rcases h.1 x hx' with h3|h3
    ·rw [h2] at h3;cases h3
    ·rw [h1] at h3;cases h3
   ·exact ih h.2 x hx' y hy' h1 h2
def cA (p q:Int×Int):Int:=if p.1<q.1 then-1 else if q.1<p.1 then 1 else 0
theorem SJ {p q:Int×Int}:cA p q<0↔p.1<q.1:=by
 unfold cA;split
 ·simp [*]
 ·split<;>simp [*]
abbrev SKa:SK where
 T:=Int×Int
 enc:=PX
 good _:=True
 c:=cA
 ty:=54
 cm:=167
 two p:=⟨_,_,rfl⟩
 asy p q h h':=by rw [SJ] at h h';omega
 up x y z h h':=by rw [SJ] at *;omega
 nul μ:=⟨(0,0),[.int .i64 0, .int .i64 0],⟨⟨_,_,rfl,by rw [rep],⟨_,_,rfl,by rw [rep],rfl⟩⟩,fun u hu=>by
  simp only [aD,fF,fW] at hu
  rcases hu with rfl|rfl<;>rfl⟩,trivial⟩
 runs x y _ _:=lS (EN cq.Q0) (cq.Rn 167 [(.pv (.agg (cF.enc (cq.arc x)))),(.pv (.agg (cF.enc (cq.arc y))))] []) _ (cq.i495 x y)
 enters:=mJ Tryz.func167 (by decide) (by rfl)
theorem Y4:SKa.lt=ltA:=by
 funext p q
 have h:SKa.c=cA:=by simp only [SKa]
 unfold SK.lt ltA;rw [h,ny];exact SJ
end Go.Proofs.YthppjmoncapdfaaGreatDoor.cl
