/- The comparator of closure.Codes as a plain function, by prog. -/
import Derived.Test.YthppjmoncapdfaaGreatDoorClT
import Derived.Test.YthppjmoncapdfaaGreatDoorClXb
import Derived.Test.YthppjmoncapdfaaGreatDoorClQb
set_option linter.all false
set_option maxRecDepth 100000
open Go.IntKind (wrap)
open BitVec (ofInt)
open Int (toNat)
open List (length)
namespace Go.Proofs.YthppjmoncapdfaaGreatDoor.cl.cq
open Go Go.AM
def dm:cr:=λ_ _ _=>none
def Hq (f:Nat):Hint:=bif Nat.beq f 173 then {} else H f
noncomputable abbrev Rn:cr:=run P Hq dm
def Q0:Int->AV:=(λ(x:Int)=>((.int .i64 x):AV))
instance:e7 Q0:=⟨λa b h=>by
 simp only[Q0,AV.mp.injEq,AV.int.injEq,AV.str.injEq,AV.bool.injEq,AV.c4.injEq,AV.agg.injEq,AV.jy.injEq,cU,fD,dL] at h
 exact h⟩
def Q1:Bool->AV:=(λ(x:Bool)=>((.bool x):AV))
instance:e7 Q1:=⟨λa b h=>by
 simp only[Q1,AV.mp.injEq,AV.int.injEq,AV.str.injEq,AV.bool.injEq,AV.c4.injEq,AV.agg.injEq,AV.jy.injEq,cU,fD,dL] at h
 exact h⟩
def Qw:List (Nat×n9):=[(131,⟨_,Q0⟩),(132,⟨_,Q0⟩),(133,⟨_,Q0⟩),(134,⟨_,Q0⟩),(135,⟨_,Q0⟩),(167,⟨_,Q0⟩),(198,⟨_,Q1⟩),(199,⟨_,Q0⟩),(200,⟨_,Q1⟩)]
def lH:jF:={ elem:=wB elems,val:=wB vals,res:=wB Qw }
noncomputable def f494 (l q:gz):Option Int:=dec (EN Q0) (Rn 131 [(.pv (.agg (gz.enc l))),(.pv (.agg (gz.enc q)))] [])
noncomputable def f478 (l:List Int):Option Int:=dec (EN Q0) (Rn 132 [(.pv (.c4 1 (List.map (bU .i64) l)))] [])
noncomputable def Ge (l:Int) (q:List Int) (w z:Int):Option Int:=dec (EN Q0) (mM P lH Hq dm 132 3 [] [(3,(.pv (.int .i64 l))),(6,(.pv (.c4 1 (List.map (bU .i64) q)))),(7,(.pv (.int .i64 w))),(8,(.pv (.int .i64 z)))] [])
noncomputable def f464 (l q:Int):Option Int:=dec (EN Q0) (Rn 133 [(.pv (.int .i64 l)),(.pv (.int .i64 q))] [])
noncomputable def f30 (l:List Int):Option Int:=dec (EN Q0) (Rn 134 [(.pv (.c4 1 (List.map (bU .u64) l)))] [])
noncomputable def IT (l:Int) (q:List Int) (w z:Int):Option Int:=dec (EN Q0) (mM P lH Hq dm 134 3 [] [(3,(.pv (.int .i64 l))),(6,(.pv (.c4 1 (List.map (bU .u64) q)))),(7,(.pv (.int .i64 w))),(8,(.pv (.int .i64 z)))] [])
noncomputable def f496 (l q:List UInt8):Option Int:=dec (EN Q0) (Rn 135 [(.pv (.str l)),(.pv (.str q))] [])
noncomputable def f495 (l q:bD):Option Int:=dec (EN Q0) (Rn 167 [(.pv (.agg (bD.enc l))),(.pv (.agg (bD.enc q)))] [])
noncomputable def f469 (l:Int):Option Bool:=dec (EN Q1) (Rn 198 [(.pv (.int .i64 l))] [])
noncomputable def f69 (l:Int):Option Int:=dec (EN Q0) (Rn 199 [(.pv (.int .u64 l))] [])
noncomputable def f97 (l:List UInt8):Option Bool:=dec (EN Q1) (Rn 200 [(.pv (.str l))] [])
def e494 (D F:gz) {r:Int}
 (h:(
 Option.bind (f30 F.Code) λl=>
 Option.bind (f30 D.Code) λq=>
 Option.bind (f464 l q) λw=>
 Option.bind (f496 D.Name F.Name) λz=>
 Option.bind (f478 [w,z]) λB=>
 some B:Option Int)=some r):
 f494 D F=some r:=
 mN (E:=(EN Q0)) h (
 Ik λl=>
 Ik λq=>
 Ik λw=>
 Ik λz=>
 Ik λB=>
 Is)
 (by kernel_rfl) (λh=>kq (C:=lH) rfl h)
def e478 (l:List Int) {r:Int}
 (h:(
 Ge 0 l (length l:Int) 0:Option Int)=some r):
 f478 l=some r:=
 mN (E:=(EN Q0)) h (
 (show kE _ (mM P lH Hq dm 132 3 [] [(3,(.pv (.int .i64 0))),(6,(.pv (.c4 1 (List.map (bU .i64) l)))),(7,(.pv (.int .i64 (length (List.map (bU .i64) l):Int)))),(8,(.pv (.int .i64 0)))] []) ( Ge 0 l (length l:Int) 0) from λ_ h=>by simpa only[aR] using jD _ _ _ h))
 (by kernel_rfl) (λh=>kq (C:=lH) rfl h)
def Kb (l:Int) (z:List Int) (B w:Int) {r:Int}
 (h:(
 bif(decide (w<B)) then(
 bF z w λq=>
 bif(q !=l) then(
 some q)
 else(
 Ge l z B (wrap .i64 (w+1))))
 else(
 some l):Option Int)=some r):
 Ge l z B w=some r:=
 mN (E:=(EN Q0)) h (
 Ic (
 Ig (bU .i64) λq=>
 Ic (
 Is) (
 Iz)) (
 Is))
 (by kernel_rfl) (λh=>kO h)
def e464 (w z:Int) {r:Int}
 (h:(
 Option.bind (f469 w) λq=>
 Option.bind (f469 z) λl=>
 bif q then(
 bif l then(
 some 0)
 else(
 some (-1)))
 else(
 bif l then(
 some 1)
 else(
 bif(decide (w<z)) then(
 some (-1))
 else(
 bif(decide (w>z)) then(
 some 1)
 else(
 some 0)))):Option Int)=some r):
 f464 w z=some r:=
 mN (E:=(EN Q0)) h (
 Ik λq=>
 Ik λl=>
 Ic (
 Ic (
 Is) (
 Is)) (
 Ic (
 Is) (
 Ic (
 Is) (
 Ic (
 Is) (
 Is)))))
 (by kernel_rfl) (λh=>kq (C:=lH) rfl h)
def e30 (l:List Int) {r:Int}
 (h:(
 IT 0 l (length l:Int) 0:Option Int)=some r):
 f30 l=some r:=
 mN (E:=(EN Q0)) h (
 (show kE _ (mM P lH Hq dm 134 3 [] [(3,(.pv (.int .i64 0))),(6,(.pv (.c4 1 (List.map (bU .u64) l)))),(7,(.pv (.int .i64 (length (List.map (bU .u64) l):Int)))),(8,(.pv (.int .i64 0)))] []) ( IT 0 l (length l:Int) 0) from λ_ h=>by simpa only[aR] using jD _ _ _ h))
 (by kernel_rfl) (λh=>kq (C:=lH) rfl h)
def O7 (z:Int) (B:List Int) (D w:Int) {r:Int}
 (h:(
 bif(decide (w<D)) then(
 bF B w λl=>
 Option.bind (f69 l) λq=>
 IT (wrap .i64 (z+q)) B D (wrap .i64 (w+1)))
 else(
 some z):Option Int)=some r):
 IT z B D w=some r:=
 mN (E:=(EN Q0)) h (
 Ic (
 Ig (bU .u64) λl=>
 Ik λq=>
 Iz) (
 Is))
 (by kernel_rfl) (λh=>kO h)
def e496 (w z:List UInt8) {r:Int}
 (h:(
 Option.bind (f97 w) λq=>
 Option.bind (f97 z) λl=>
 bif q then(
 bif l then(
 some 0)
 else(
 some (-1)))
 else(
 bif l then(
 some 1)
 else(
 bif(Op.bytesLess w z) then(
 some (-1))
 else(
 bif(!(Op.bytesLess w z||w==z)) then(
 some 1)
 else(
 some 0)))):Option Int)=some r):
 f496 w z=some r:=
 mN (E:=(EN Q0)) h (
 Ik λq=>
 Ik λl=>
 Ic (
 Ic (
 Is) (
 Is)) (
 Ic (
 Is) (
 Ic (
 Is) (
 Ic (
 Is) (
 Is)))))
 (by kernel_rfl) (λh=>kq (C:=lH) rfl h)
def e495 (q w:bD) {r:Int}
 (h:(
 Option.bind (f464 q.aV w.aV) λl=>
 some l:Option Int)=some r):
 f495 q w=some r:=
 mN (E:=(EN Q0)) h (
 Ik λl=>
 Is)
 (by kernel_rfl) (λh=>kq (C:=lH) rfl h)
def e469 (l:Int) {r:Bool}
 (h:(
 some (l !=l):Option Bool)=some r):
 f469 l=some r:=
 mN (E:=(EN Q1)) h (
 Is)
 (by kernel_rfl) (λh=>kq (C:=lH) rfl h)
def e69 (l:Int) {r:Int}
 (h:(
 check (0<=1) (
 check (0<=2) (
 check (0<=4) (
 check (0<=8) (
 check (0<=16) (
 check (0<=32) (
 some (wrap .i64 ((ofInt (IntKind.bits .i64) (wrap .i64 ((wrap .u64 ((wrap .u64 ((wrap .u64 ((wrap .u64 ((ofInt (IntKind.bits .u64) (wrap .u64 ((Int.fdiv (wrap .u64 ((wrap .u64 ((ofInt (IntKind.bits .u64) (Int.fdiv (wrap .u64 ((wrap .u64 ((ofInt (IntKind.bits .u64) (Int.fdiv l (2^ min (toNat 1) (IntKind.bits .u64)))&&&ofInt (IntKind.bits .u64) 6148914691236517205).toNat:Int))+(wrap .u64 ((ofInt (IntKind.bits .u64) l&&&ofInt (IntKind.bits .u64) 6148914691236517205).toNat:Int)))) (2^ min (toNat 2) (IntKind.bits .u64)))&&&ofInt (IntKind.bits .u64) 3689348814741910323).toNat:Int))+(wrap .u64 ((ofInt (IntKind.bits .u64) (wrap .u64 ((wrap .u64 ((ofInt (IntKind.bits .u64) (Int.fdiv l (2^ min (toNat 1) (IntKind.bits .u64)))&&&ofInt (IntKind.bits .u64) 6148914691236517205).toNat:Int))+(wrap .u64 ((ofInt (IntKind.bits .u64) l&&&ofInt (IntKind.bits .u64) 6148914691236517205).toNat:Int))))&&&ofInt (IntKind.bits .u64) 3689348814741910323).toNat:Int)))) (2^ min (toNat 4) (IntKind.bits .u64)))+(wrap .u64 ((wrap .u64 ((ofInt (IntKind.bits .u64) (Int.fdiv (wrap .u64 ((wrap .u64 ((ofInt (IntKind.bits .u64) (Int.fdiv l (2^ min (toNat 1) (IntKind.bits .u64)))&&&ofInt (IntKind.bits .u64) 6148914691236517205).toNat:Int))+(wrap .u64 ((ofInt (IntKind.bits .u64) l&&&ofInt (IntKind.bits .u64) 6148914691236517205).toNat:Int)))) (2^ min (toNat 2) (IntKind.bits .u64)))&&&ofInt (IntKind.bits .u64) 3689348814741910323).toNat:Int))+(wrap .u64 ((ofInt (IntKind.bits .u64) (wrap .u64 ((wrap .u64 ((ofInt (IntKind.bits .u64) (Int.fdiv l (2^ min (toNat 1) (IntKind.bits .u64)))&&&ofInt (IntKind.bits .u64) 6148914691236517205).toNat:Int))+(wrap .u64 ((ofInt (IntKind.bits .u64) l&&&ofInt (IntKind.bits .u64) 6148914691236517205).toNat:Int))))&&&ofInt (IntKind.bits .u64) 3689348814741910323).toNat:Int))))))&&&ofInt (IntKind.bits .u64) 1085102592571150095).toNat:Int))+(Int.fdiv (wrap .u64 ((ofInt (IntKind.bits .u64) (wrap .u64 ((Int.fdiv (wrap .u64 ((wrap .u64 ((ofInt (IntKind.bits .u64) (Int.fdiv (wrap .u64 ((wrap .u64 ((ofInt (IntKind.bits .u64) (Int.fdiv l (2^ min (toNat 1) (IntKind.bits .u64)))&&&ofInt (IntKind.bits .u64) 6148914691236517205).toNat:Int))+(wrap .u64 ((ofInt (IntKind.bits .u64) l&&&ofInt (IntKind.bits .u64) 6148914691236517205).toNat:Int)))) (2^ min (toNat 2) (IntKind.bits .u64)))&&&ofInt (IntKind.bits .u64) 3689348814741910323).toNat:Int))+(wrap .u64 ((ofInt (IntKind.bits .u64) (wrap .u64 ((wrap .u64 ((ofInt (IntKind.bits .u64) (Int.fdiv l (2^ min (toNat 1) (IntKind.bits .u64)))&&&ofInt (IntKind.bits .u64) 6148914691236517205).toNat:Int))+(wrap .u64 ((ofInt (IntKind.bits .u64) l&&&ofInt (IntKind.bits .u64) 6148914691236517205).toNat:Int))))&&&ofInt (IntKind.bits .u64) 3689348814741910323).toNat:Int)))) (2^ min (toNat 4) (IntKind.bits .u64)))+(wrap .u64 ((wrap .u64 ((ofInt (IntKind.bits .u64) (Int.fdiv (wrap .u64 ((wrap .u64 ((ofInt (IntKind.bits .u64) (Int.fdiv l (2^ min (toNat 1) (IntKind.bits .u64)))&&&ofInt (IntKind.bits .u64) 6148914691236517205).toNat:Int))+(wrap .u64 ((ofInt (IntKind.bits .u64) l&&&ofInt (IntKind.bits .u64) 6148914691236517205).toNat:Int)))) (2^ min (toNat 2) (IntKind.bits .u64)))&&&ofInt (IntKind.bits .u64) 3689348814741910323).toNat:Int))+(wrap .u64 ((ofInt (IntKind.bits .u64) (wrap .u64 ((wrap .u64 ((ofInt (IntKind.bits .u64) (Int.fdiv l (2^ min (toNat 1) (IntKind.bits .u64)))&&&ofInt (IntKind.bits .u64) 6148914691236517205).toNat:Int))+(wrap .u64 ((ofInt (IntKind.bits .u64) l&&&ofInt (IntKind.bits .u64) 6148914691236517205).toNat:Int))))&&&ofInt (IntKind.bits .u64) 3689348814741910323).toNat:Int))))))&&&ofInt (IntKind.bits .u64) 1085102592571150095).toNat:Int)) (2^ min (toNat 8) (IntKind.bits .u64)))))+(Int.fdiv (wrap .u64 ((wrap .u64 ((ofInt (IntKind.bits .u64) (wrap .u64 ((Int.fdiv (wrap .u64 ((wrap .u64 ((ofInt (IntKind.bits .u64) (Int.fdiv (wrap .u64 ((wrap .u64 ((ofInt (IntKind.bits .u64) (Int.fdiv l (2^ min (toNat 1) (IntKind.bits .u64)))&&&ofInt (IntKind.bits .u64) 6148914691236517205).toNat:Int))+(wrap .u64 ((ofInt (IntKind.bits .u64) l&&&ofInt (IntKind.bits .u64) 6148914691236517205).toNat:Int)))) (2^ min (toNat 2) (IntKind.bits .u64)))&&&ofInt (IntKind.bits .u64) 3689348814741910323).toNat:Int))+(wrap .u64 ((ofInt (IntKind.bits .u64) (wrap .u64 ((wrap .u64 ((ofInt (IntKind.bits .u64) (Int.fdiv l (2^ min (toNat 1) (IntKind.bits .u64)))&&&ofInt (IntKind.bits .u64) 6148914691236517205).toNat:Int))+(wrap .u64 ((ofInt (IntKind.bits .u64) l&&&ofInt (IntKind.bits .u64) 6148914691236517205).toNat:Int))))&&&ofInt (IntKind.bits .u64) 3689348814741910323).toNat:Int)))) (2^ min (toNat 4) (IntKind.bits .u64)))+(wrap .u64 ((wrap .u64 ((ofInt (IntKind.bits .u64) (Int.fdiv (wrap .u64 ((wrap .u64 ((ofInt (IntKind.bits .u64) (Int.fdiv l (2^ min (toNat 1) (IntKind.bits .u64)))&&&ofInt (IntKind.bits .u64) 6148914691236517205).toNat:Int))+(wrap .u64 ((ofInt (IntKind.bits .u64) l&&&ofInt (IntKind.bits .u64) 6148914691236517205).toNat:Int)))) (2^ min (toNat 2) (IntKind.bits .u64)))&&&ofInt (IntKind.bits .u64) 3689348814741910323).toNat:Int))+(wrap .u64 ((ofInt (IntKind.bits .u64) (wrap .u64 ((wrap .u64 ((ofInt (IntKind.bits .u64) (Int.fdiv l (2^ min (toNat 1) (IntKind.bits .u64)))&&&ofInt (IntKind.bits .u64) 6148914691236517205).toNat:Int))+(wrap .u64 ((ofInt (IntKind.bits .u64) l&&&ofInt (IntKind.bits .u64) 6148914691236517205).toNat:Int))))&&&ofInt (IntKind.bits .u64) 3689348814741910323).toNat:Int))))))&&&ofInt (IntKind.bits .u64) 1085102592571150095).toNat:Int))+(Int.fdiv (wrap .u64 ((ofInt (IntKind.bits .u64) (wrap .u64 ((Int.fdiv (wrap .u64 ((wrap .u64 ((ofInt (IntKind.bits .u64) (Int.fdiv (wrap .u64 ((wrap .u64 ((ofInt (IntKind.bits .u64) (Int.fdiv l (2^ min (toNat 1) (IntKind.bits .u64)))&&&ofInt (IntKind.bits .u64) 6148914691236517205).toNat:Int))+(wrap .u64 ((ofInt (IntKind.bits .u64) l&&&ofInt (IntKind.bits .u64) 6148914691236517205).toNat:Int)))) (2^ min (toNat 2) (IntKind.bits .u64)))&&&ofInt (IntKind.bits .u64) 3689348814741910323).toNat:Int))+(wrap .u64 ((ofInt (IntKind.bits .u64) (wrap .u64 ((wrap .u64 ((ofInt (IntKind.bits .u64) (Int.fdiv l (2^ min (toNat 1) (IntKind.bits .u64)))&&&ofInt (IntKind.bits .u64) 6148914691236517205).toNat:Int))+(wrap .u64 ((ofInt (IntKind.bits .u64) l&&&ofInt (IntKind.bits .u64) 6148914691236517205).toNat:Int))))&&&ofInt (IntKind.bits .u64) 3689348814741910323).toNat:Int)))) (2^ min (toNat 4) (IntKind.bits .u64)))+(wrap .u64 ((wrap .u64 ((ofInt (IntKind.bits .u64) (Int.fdiv (wrap .u64 ((wrap .u64 ((ofInt (IntKind.bits .u64) (Int.fdiv l (2^ min (toNat 1) (IntKind.bits .u64)))&&&ofInt (IntKind.bits .u64) 6148914691236517205).toNat:Int))+(wrap .u64 ((ofInt (IntKind.bits .u64) l&&&ofInt (IntKind.bits .u64) 6148914691236517205).toNat:Int)))) (2^ min (toNat 2) (IntKind.bits .u64)))&&&ofInt (IntKind.bits .u64) 3689348814741910323).toNat:Int))+(wrap .u64 ((ofInt (IntKind.bits .u64) (wrap .u64 ((wrap .u64 ((ofInt (IntKind.bits .u64) (Int.fdiv l (2^ min (toNat 1) (IntKind.bits .u64)))&&&ofInt (IntKind.bits .u64) 6148914691236517205).toNat:Int))+(wrap .u64 ((ofInt (IntKind.bits .u64) l&&&ofInt (IntKind.bits .u64) 6148914691236517205).toNat:Int))))&&&ofInt (IntKind.bits .u64) 3689348814741910323).toNat:Int))))))&&&ofInt (IntKind.bits .u64) 1085102592571150095).toNat:Int)) (2^ min (toNat 8) (IntKind.bits .u64))))) (2^ min (toNat 16) (IntKind.bits .u64)))))+(Int.fdiv (wrap .u64 ((wrap .u64 ((wrap .u64 ((ofInt (IntKind.bits .u64) (wrap .u64 ((Int.fdiv (wrap .u64 ((wrap .u64 ((ofInt (IntKind.bits .u64) (Int.fdiv (wrap .u64 ((wrap .u64 ((ofInt (IntKind.bits .u64) (Int.fdiv l (2^ min (toNat 1) (IntKind.bits .u64)))&&&ofInt (IntKind.bits .u64) 6148914691236517205).toNat:Int))+(wrap .u64 ((ofInt (IntKind.bits .u64) l&&&ofInt (IntKind.bits .u64) 6148914691236517205).toNat:Int)))) (2^ min (toNat 2) (IntKind.bits .u64)))&&&ofInt (IntKind.bits .u64) 3689348814741910323).toNat:Int))+(wrap .u64 ((ofInt (IntKind.bits .u64) (wrap .u64 ((wrap .u64 ((ofInt (IntKind.bits .u64) (Int.fdiv l (2^ min (toNat 1) (IntKind.bits .u64)))&&&ofInt (IntKind.bits .u64) 6148914691236517205).toNat:Int))+(wrap .u64 ((ofInt (IntKind.bits .u64) l&&&ofInt (IntKind.bits .u64) 6148914691236517205).toNat:Int))))&&&ofInt (IntKind.bits .u64) 3689348814741910323).toNat:Int)))) (2^ min (toNat 4) (IntKind.bits .u64)))+(wrap .u64 ((wrap .u64 ((ofInt (IntKind.bits .u64) (Int.fdiv (wrap .u64 ((wrap .u64 ((ofInt (IntKind.bits .u64) (Int.fdiv l (2^ min (toNat 1) (IntKind.bits .u64)))&&&ofInt (IntKind.bits .u64) 6148914691236517205).toNat:Int))+(wrap .u64 ((ofInt (IntKind.bits .u64) l&&&ofInt (IntKind.bits .u64) 6148914691236517205).toNat:Int)))) (2^ min (toNat 2) (IntKind.bits .u64)))&&&ofInt (IntKind.bits .u64) 3689348814741910323).toNat:Int))+(wrap .u64 ((ofInt (IntKind.bits .u64) (wrap .u64 ((wrap .u64 ((ofInt (IntKind.bits .u64) (Int.fdiv l (2^ min (toNat 1) (IntKind.bits .u64)))&&&ofInt (IntKind.bits .u64) 6148914691236517205).toNat:Int))+(wrap .u64 ((ofInt (IntKind.bits .u64) l&&&ofInt (IntKind.bits .u64) 6148914691236517205).toNat:Int))))&&&ofInt (IntKind.bits .u64) 3689348814741910323).toNat:Int))))))&&&ofInt (IntKind.bits .u64) 1085102592571150095).toNat:Int))+(Int.fdiv (wrap .u64 ((ofInt (IntKind.bits .u64) (wrap .u64 ((Int.fdiv (wrap .u64 ((wrap .u64 ((ofInt (IntKind.bits .u64) (Int.fdiv (wrap .u64 ((wrap .u64 ((ofInt (IntKind.bits .u64) (Int.fdiv l (2^ min (toNat 1) (IntKind.bits .u64)))&&&ofInt (IntKind.bits .u64) 6148914691236517205).toNat:Int))+(wrap .u64 ((ofInt (IntKind.bits .u64) l&&&ofInt (IntKind.bits .u64) 6148914691236517205).toNat:Int)))) (2^ min (toNat 2) (IntKind.bits .u64)))&&&ofInt (IntKind.bits .u64) 3689348814741910323).toNat:Int))+(wrap .u64 ((ofInt (IntKind.bits .u64) (wrap .u64 ((wrap .u64 ((ofInt (IntKind.bits .u64) (Int.fdiv l (2^ min (toNat 1) (IntKind.bits .u64)))&&&ofInt (IntKind.bits .u64) 6148914691236517205).toNat:Int))+(wrap .u64 ((ofInt (IntKind.bits .u64) l&&&ofInt (IntKind.bits .u64) 6148914691236517205).toNat:Int))))&&&ofInt (IntKind.bits .u64) 3689348814741910323).toNat:Int)))) (2^ min (toNat 4) (IntKind.bits .u64)))+(wrap .u64 ((wrap .u64 ((ofInt (IntKind.bits .u64) (Int.fdiv (wrap .u64 ((wrap .u64 ((ofInt (IntKind.bits .u64) (Int.fdiv l (2^ min (toNat 1) (IntKind.bits .u64)))&&&ofInt (IntKind.bits .u64) 6148914691236517205).toNat:Int))+(wrap .u64 ((ofInt (IntKind.bits .u64) l&&&ofInt (IntKind.bits .u64) 6148914691236517205).toNat:Int)))) (2^ min (toNat 2) (IntKind.bits .u64)))&&&ofInt (IntKind.bits .u64) 3689348814741910323).toNat:Int))+(wrap .u64 ((ofInt (IntKind.bits .u64) (wrap .u64 ((wrap .u64 ((ofInt (IntKind.bits .u64) (Int.fdiv l (2^ min (toNat 1) (IntKind.bits .u64)))&&&ofInt (IntKind.bits .u64) 6148914691236517205).toNat:Int))+(wrap .u64 ((ofInt (IntKind.bits .u64) l&&&ofInt (IntKind.bits .u64) 6148914691236517205).toNat:Int))))&&&ofInt (IntKind.bits .u64) 3689348814741910323).toNat:Int))))))&&&ofInt (IntKind.bits .u64) 1085102592571150095).toNat:Int)) (2^ min (toNat 8) (IntKind.bits .u64)))))+(Int.fdiv (wrap .u64 ((wrap .u64 ((ofInt (IntKind.bits .u64) (wrap .u64 ((Int.fdiv (wrap .u64 ((wrap .u64 ((ofInt (IntKind.bits .u64) (Int.fdiv (wrap .u64 ((wrap .u64 ((ofInt (IntKind.bits .u64) (Int.fdiv l (2^ min (toNat 1) (IntKind.bits .u64)))&&&ofInt (IntKind.bits .u64) 6148914691236517205).toNat:Int))+(wrap .u64 ((ofInt (IntKind.bits .u64) l&&&ofInt (IntKind.bits .u64) 6148914691236517205).toNat:Int)))) (2^ min (toNat 2) (IntKind.bits .u64)))&&&ofInt (IntKind.bits .u64) 3689348814741910323).toNat:Int))+(wrap .u64 ((ofInt (IntKind.bits .u64) (wrap .u64 ((wrap .u64 ((ofInt (IntKind.bits .u64) (Int.fdiv l (2^ min (toNat 1) (IntKind.bits .u64)))&&&ofInt (IntKind.bits .u64) 6148914691236517205).toNat:Int))+(wrap .u64 ((ofInt (IntKind.bits .u64) l&&&ofInt (IntKind.bits .u64) 6148914691236517205).toNat:Int))))&&&ofInt (IntKind.bits .u64) 3689348814741910323).toNat:Int)))) (2^ min (toNat 4) (IntKind.bits .u64)))+(wrap .u64 ((wrap .u64 ((ofInt (IntKind.bits .u64) (Int.fdiv (wrap .u64 ((wrap .u64 ((ofInt (IntKind.bits .u64) (Int.fdiv l (2^ min (toNat 1) (IntKind.bits .u64)))&&&ofInt (IntKind.bits .u64) 6148914691236517205).toNat:Int))+(wrap .u64 ((ofInt (IntKind.bits .u64) l&&&ofInt (IntKind.bits .u64) 6148914691236517205).toNat:Int)))) (2^ min (toNat 2) (IntKind.bits .u64)))&&&ofInt (IntKind.bits .u64) 3689348814741910323).toNat:Int))+(wrap .u64 ((ofInt (IntKind.bits .u64) (wrap .u64 ((wrap .u64 ((ofInt (IntKind.bits .u64) (Int.fdiv l (2^ min (toNat 1) (IntKind.bits .u64)))&&&ofInt (IntKind.bits .u64) 6148914691236517205).toNat:Int))+(wrap .u64 ((ofInt (IntKind.bits .u64) l&&&ofInt (IntKind.bits .u64) 6148914691236517205).toNat:Int))))&&&ofInt (IntKind.bits .u64) 3689348814741910323).toNat:Int))))))&&&ofInt (IntKind.bits .u64) 1085102592571150095).toNat:Int))+(Int.fdiv (wrap .u64 ((ofInt (IntKind.bits .u64) (wrap .u64 ((Int.fdiv (wrap .u64 ((wrap .u64 ((ofInt (IntKind.bits .u64) (Int.fdiv (wrap .u64 ((wrap .u64 ((ofInt (IntKind.bits .u64) (Int.fdiv l (2^ min (toNat 1) (IntKind.bits .u64)))&&&ofInt (IntKind.bits .u64) 6148914691236517205).toNat:Int))+(wrap .u64 ((ofInt (IntKind.bits .u64) l&&&ofInt (IntKind.bits .u64) 6148914691236517205).toNat:Int)))) (2^ min (toNat 2) (IntKind.bits .u64)))&&&ofInt (IntKind.bits .u64) 3689348814741910323).toNat:Int))+(wrap .u64 ((ofInt (IntKind.bits .u64) (wrap .u64 ((wrap .u64 ((ofInt (IntKind.bits .u64) (Int.fdiv l (2^ min (toNat 1) (IntKind.bits .u64)))&&&ofInt (IntKind.bits .u64) 6148914691236517205).toNat:Int))+(wrap .u64 ((ofInt (IntKind.bits .u64) l&&&ofInt (IntKind.bits .u64) 6148914691236517205).toNat:Int))))&&&ofInt (IntKind.bits .u64) 3689348814741910323).toNat:Int)))) (2^ min (toNat 4) (IntKind.bits .u64)))+(wrap .u64 ((wrap .u64 ((ofInt (IntKind.bits .u64) (Int.fdiv (wrap .u64 ((wrap .u64 ((ofInt (IntKind.bits .u64) (Int.fdiv l (2^ min (toNat 1) (IntKind.bits .u64)))&&&ofInt (IntKind.bits .u64) 6148914691236517205).toNat:Int))+(wrap .u64 ((ofInt (IntKind.bits .u64) l&&&ofInt (IntKind.bits .u64) 6148914691236517205).toNat:Int)))) (2^ min (toNat 2) (IntKind.bits .u64)))&&&ofInt (IntKind.bits .u64) 3689348814741910323).toNat:Int))+(wrap .u64 ((ofInt (IntKind.bits .u64) (wrap .u64 ((wrap .u64 ((ofInt (IntKind.bits .u64) (Int.fdiv l (2^ min (toNat 1) (IntKind.bits .u64)))&&&ofInt (IntKind.bits .u64) 6148914691236517205).toNat:Int))+(wrap .u64 ((ofInt (IntKind.bits .u64) l&&&ofInt (IntKind.bits .u64) 6148914691236517205).toNat:Int))))&&&ofInt (IntKind.bits .u64) 3689348814741910323).toNat:Int))))))&&&ofInt (IntKind.bits .u64) 1085102592571150095).toNat:Int)) (2^ min (toNat 8) (IntKind.bits .u64))))) (2^ min (toNat 16) (IntKind.bits .u64))))) (2^ min (toNat 32) (IntKind.bits .u64)))))))&&&ofInt (IntKind.bits .i64) 127).toNat:Int)))))))):Option Int)=some r):
 f69 l=some r:=
 mN (E:=(EN Q0)) h (
 Ih (
 Ih (
 Ih (
 Ih (
 Ih (
 Ih (
 Is)))))))
 (by kernel_rfl) (λh=>kq (C:=lH) rfl h)
def e97 (l:List UInt8) {r:Bool}
 (h:(
 some (!(l==l)):Option Bool)=some r):
 f97 l=some r:=
 mN (E:=(EN Q1)) h (
 Is)
 (by kernel_rfl) (λh=>kq (C:=lH) rfl h)
end Go.Proofs.YthppjmoncapdfaaGreatDoor.cl.cq
namespace Go.Proofs.YthppjmoncapdfaaGreatDoor.cl
open Go Go.AM
namespace cq
def i69 {x:Nat} (l:x<18446744073709551616):f69 (x:Int)=some ((eX 64 x:Nat):Int):=by obtain⟨F,w,G,H,z⟩:=pop.UM l;obtain⟨B,D,q⟩:=pop.JM z;refine e69 _ ?_;rw[bJ (by decide),bJ (by decide),bJ (by decide),bJ (by decide),bJ (by decide),bJ (by decide)];rw[pop.t1 l w,pop.t2 w G,pop.t3 H,pop.t48 B,pop.t416 D,pop.t432 (by rw[<-q];omega),<-q,pop.t5 z,F]
def wl (w:Nat):List Int:=bif Nat.beq w 0 then[] else[(w:Int)]
def VG {w:Nat} (h:w≠0):Nat.beq w 0=false:=by cases l:Nat.beq w 0 with
 |false=>rfl
 |true=>exact absurd (eN l) h
def i30 {w:Nat} (z:w<18446744073709551616):f30 (wl w)=some ((eX 64 w:Nat):Int):=by
 refine e30 _ ?_;by_cases l:w=0
 .subst l;show IT 0 [] 0 0=some 0;refine O7 _ _ _ _ ?_;rfl
 .have e:wl w=[(w:Int)]:=by unfold wl;rw[VG l];rfl
  have q:=pop.Rv 64 w;rw[e];refine O7 _ _ _ _ ?_;rw[cond_pos ah,show(0:Int)=((0:Nat):Int) from rfl,ff (x:=(w:Int)) ah,i69 z,aI];refine O7 _ _ _ _ ?_;rw[cQ af,cond_neg ah,jM af af];simp
def Jz (p q:rJ):Int:=
 if eX 64 q.2<eX 64 p.2 then-1 else if eX 64 p.2<eX 64 q.2 then 1 else if Op.bytesLess p.1 q.1=true then-1 else if p.1=q.1 then 0 else 1
def tc (p:rJ):gz:=⟨p.1,wl p.2⟩
def h96:∀x:Int,f469 x=some false:=λx=>e469 _ ah
def h50:∀x y:Int,f464 x y=some (if x<y then-1 else if y<x then 1 else 0):=by
 intro x y;refine e464 _ _ ?_;rw[h96,aI,h96,aI,aj,aj];by_cases l:x<y
 .rw[cond_pos (by simpa using l),ak l]
 .rw[cond_neg (by simpa using l),az l];by_cases q:y<x
  .rw[cond_pos (by simpa using q),ak q]
  .rw[cond_neg (by simpa using q),az q]
def Ve (p:Int×Int):bD:=⟨p.1,p.2⟩
def i495 (p q:Int×Int):f495 (Ve p) (Ve q)=some (if p.1<q.1 then-1 else if q.1<p.1 then 1 else 0):=by refine e495 _ _ ?_;show Option.bind (f464 p.1 q.1) _=_;rw[h50,aI]
def i48 {p q:rJ} (G:p.2<18446744073709551616) (H:q.2<18446744073709551616):f494 (tc p) (tc q)=some (Jz p q):=by
 refine e494 _ _ ?_;show Option.bind (f30 (wl q.2)) _=_;rw[i30 H,aI];show Option.bind (f30 (wl p.2)) _=_;rw[i30 G,aI];have B:∀x:List UInt8,f97 x=some false:=λx=>e97 _ ah
 have F:∀x y:List UInt8,f496 x y=some (if Op.bytesLess x y=true then-1 else if x=y then 0 else 1):=by
  intro x y;refine e496 _ _ ?_;rw[B,aI,B,aI,aj,aj];by_cases l:Op.bytesLess x y=true
  .rw[cond_pos l,ak l]
  .have z:Op.bytesLess x y=false:=by simpa using l
   rw[cond_neg z,az l,z,mX];by_cases w:x=y
   .rw[cond_neg (by simp[w]),ak w]
   .rw[cond_pos (by simp[w]),az w]
 have D:∀x y:Int,f478 [x,y]=some (if x≠0 then x else y):=by
  intro x y;refine e478 _ ?_;refine Kb _ _ _ _ ?_;rw[cond_pos ah,show(0:Int)=((0:Nat):Int) from rfl,ff (x:=x) ah];by_cases l:x=0
  .rw[cond_neg (by simp[l]),az (by simp[l]),cQ af];refine Kb _ _ _ _ ?_;rw[cond_pos ah,ff (x:=y) ah];by_cases w:y=0
   .rw[cond_neg (by simp[w]),cQ af];refine Kb _ _ _ _ ?_;rw[cond_neg ah,w];rfl
   .rw[cond_pos (by simp[w])]
  .rw[cond_pos (by simp[l]),ak (by simp[l])]
 rw[h50,aI];show Option.bind (f496 p.1 q.1) _=_;rw[F,aI,D,aI];unfold Jz;generalize eX 64 q.2=b;generalize eX 64 p.2=a;by_cases l:b<a
 .rw[ak (show((b:Nat):Int)<((a:Nat):Int) by omega),ak l,ak (by decide)]
 .rw[az (show¬((b:Nat):Int)<((a:Nat):Int) by omega),az l];by_cases w:a<b
  .rw[ak (show((a:Nat):Int)<((b:Nat):Int) by omega),ak w,ak (by decide)]
  .rw[az (show¬((a:Nat):Int)<((b:Nat):Int) by omega),az w,az (by decide)]
def Li (p q:rJ):decide (Jz p q<0)=I1 p q:=by
 unfold Jz I1;by_cases l:eX 64 q.2<eX 64 p.2
 .have:Nat.blt (eX 64 q.2) (eX 64 p.2)=true:=gp l
  rw[ak l,this];rfl
 .have F:Nat.blt (eX 64 q.2) (eX 64 p.2)=false:=by
   cases w:Nat.blt (eX 64 q.2) (eX 64 p.2) with
   |false=>rfl
   |true=>exact absurd (cI w) l
  rw[az l,F,mX];by_cases B:eX 64 p.2<eX 64 q.2
  .have z:Nat.beq (eX 64 p.2) (eX 64 q.2)=false:=by
    cases w:Nat.beq (eX 64 p.2) (eX 64 q.2) with
    |false=>rfl
    |true=>have:=eN w;omega
   rw[ak B,z];rfl
  .have z:Nat.beq (eX 64 p.2) (eX 64 q.2)=true:=by
    rw[show eX 64 p.2=eX 64 q.2 by omega];exact eu _
   rw[az B,z,sX];cases G:Op.bytesLess p.1 q.1 with
   |true=>rw[ak rfl];rfl
   |false=>
    rw[az ah];by_cases D:p.1=q.1
    .rw[ak D];rfl
    .rw[az D];rfl
end cq
end Go.Proofs.YthppjmoncapdfaaGreatDoor.cl
namespace Go.Proofs.YthppjmoncapdfaaGreatDoor.cl
open Go Go.AM Go.RowKit
def ok:xw P=true:=by kernel_rfl
def jH {g:Nat} {fn:Func} (B:P.funcs[g]? =some fn) (D:¬(fn.name= "runtime.NumGoroutine")) (w:fn.body.isSome=true) (l:Array Value) (q:World):(callFunc g l).run P q= .ok (.enter g l) q:=by obtain⟨c,z⟩:=kK.1 w;simp[callFunc,B,D,z]
def JW (f:Nat):(cq.Hq f).blk=[]:=by
 have key:∀(l:List (Nat×Hint)),(l.all λp=>Nat.beq p.1 173||p.2.blk.isEmpty)=true->∀f,f≠173->((find l f).getD {}).blk=[]:=by intro l;induction l with
  |nil=>intro _ f _;rfl
  |cons p l B=>intro h f z;rw[ic,aF,ew] at h;simp only[find];cases q:Nat.beq p.1 f with
   |true=>
    rw[ai];rcases h.1 with w|w
    .exact absurd ((eN q).symm.trans (eN w)) z
    .exact pX.1 w
   |false=>rw[aj];exact B h.2 f z
 unfold cq.Hq;cases q:Nat.beq f 173 with
 |true=>rfl
 |false=>rw[aj];exact key hints (by kernel_rfl) f λe=>by rw[e] at q;cases q
def N6:∀f fn c,P.funcs[f]? =some fn->fn.body=some c->jO True (λ_ _=>none) P (cq.Hq f) fn.ntmps c:=λf fn c _ _=>jO.none (JW f) c
def R2:dX True (λ_ _=>none) P cq.dm:=λg args q r l w=>by cases w
structure SK where
 T:Type
 enc:T->List AV
 good:T->Prop
 c:T->T->Int
 ty:Nat
 cm:Nat
 two:∀x,∃a b,enc x=[a,b]
 VF:∀p q,c p q<0->¬c q p<0
 up:∀x y z,c x y<0->¬c z y<0->c x z<0
 nul:∀μ:Mu,∃p us,gV μ (enc p) us/\good p
 runs:∀x y,good x->good y->cq.Rn cm [(.pv (.agg (enc x))),(.pv (.agg (enc y)))] []=some (.int .i64 (c x y),[])
 enters:∀(us:Array Value) (w2:World),(callFunc cm us).run P w2= .ok (.enter cm us) w2
abbrev Al (S:SK) (μ:Mu):Type:={ x:S.T×List Value // gV μ (S.enc x.1) x.2/\S.good x.1 }
variable {S:SK}
noncomputable instance (μ:Mu):Inhabited (Al S μ):=⟨Classical.choice (by
 obtain⟨p,l,h⟩:=S.nul μ
 exact⟨⟨(p,l),h⟩⟩)⟩
def Al.cells {μ:Mu} (x:Al S μ):List Value:=x.1.2
def Al.len {μ:Mu} (x:Al S μ):x.cells.length=2:=by obtain⟨⟨p,z⟩,⟨h,_⟩,_⟩:=x;obtain⟨a,b,e⟩:=S.two p;have w:bl μ (S.enc p) z:=h;rw[e] at w;obtain⟨u,H,D,_,⟨G,q,B,_,l⟩⟩:=w;have F:q=[]:=l;show z.length=2;rw[D,B,F];rfl
def Al.one {μ:Mu} (x:Al S μ):∀v∈x.cells,v.oneCell'=true:=x.2.1.2
def Al.cf {μ:Mu} (x y:Al S μ):Int:=S.c x.1.1 y.1.1
def SK.lt (S:SK) (x y:S.T):Bool:=decide (S.c x y<0)
def swo {μ:Mu}:Go.Sort.SWO (ltOf (Al.cf (S:=S) (μ:=μ))) where
 irrefl x:=by show decide (S.c x.1.1 x.1.1<0)=false;exact tD λh=>S.VF _ _ h h
 trans x y z h1 h2:=by have l:S.c x.1.1 y.1.1<0:=j4 h1;have q:S.c y.1.1 z.1.1<0:=j4 h2;exact decide_eq_true (S.up _ _ _ l (S.VF _ _ q))
 ntrans x y z h1 h2:=by have l:¬S.c x.1.1 y.1.1<0:=tE h1;have q:¬S.c y.1.1 z.1.1<0:=tE h2;exact tD λw=>l (S.up _ _ _ w q)
def VN {D:Mu} {W:World} (B:Bf D W) (x y:Al S D):Calls P S.cm #[.agg x.cells.toArray, .agg y.cells.toArray] W λe l=>e= .returned (.int .i64 (Al.cf x y))/\∃q F,l=Go.Sort.grow (W.drewN q) F:=by
 have U:=S.runs x.1.1 y.1.1 x.2.2 y.2.2
 have V:=(dX.Vo (zA (q:=True) (B:=λ_ _=>none) ok N6 R2 S.cm _ [] _ _ U W D (λ_=>undef) [.agg x.cells.toArray, .agg y.cells.toArray] (λ_ _ _ h=>by cases h) B (λid o h=>by cases h) (λi j oi oj h=>by cases h)
  ⟨_,_,rfl,(by show rep D (.agg (S.enc x.1.1)) _;rw[rep];exact⟨_,rfl,x.2.1.1,x.2.1.2⟩),_,_,rfl,(by show rep D (.agg (S.enc y.1.1)) _;rw[rep];exact⟨_,rfl,y.2.1.1,y.2.1.2⟩),rfl⟩) λxs h=>by cases h).2
 refine V.mono ?_;rintro e l ⟨v,μ',Q,rfl,w⟩;have O:=w.pure rfl;rw[rep] at O;subst O;refine⟨rfl,l.drawn-W.drawn,l.heap.extract W.heap.size l.heap.size,?_⟩;have hd:=w.drawn trivial;have z:l.heap=W.heap++l.heap.extract W.heap.size l.heap.size:=by
  apply Array.ext_getElem?;intro b;by_cases N:b<W.heap.size
  .rw[pZ N];exact w.keep b N (by rintro⟨id,v,h,_⟩;simp[gJ] at h)
  .rw[Array.getElem?_append_right af,Array.getElem?_extract];have hg:=w.grown;by_cases R:b<l.heap.size
   .rw[ak af,show W.heap.size+(b-W.heap.size)=b by omega]
   .rw[az af,Array.getElem?_eq_none af]
 have ext:∀{a b:World},a.heap=b.heap->a.tape=b.tape->a.drawn=b.drawn->a.os=b.os->a.output=b.output->a=b:=by intro a b G H I K L;cases a;cases b;simp only at G H I K L;subst G H I K L;rfl
 exact ext z w.tape (show l.drawn=W.drawn+(l.drawn-W.drawn) by omega) w.os w.output
end Go.Proofs.YthppjmoncapdfaaGreatDoor.cl
namespace Go.Proofs.YthppjmoncapdfaaGreatDoor.cl
open Go Go.AM Go.RowKit
open Go.Sort (flatK size_flatK get_flatK ext_get!)
variable {S:SK}
def NU {D:Mu}:∀{l:List S.T} {z:List Value},(∀p∈l,S.good p)->bS D 2 (l.map S.enc) z->∃w:List (Al S D),w.map (λx=>x.1.1)=l/\z=(w.map Al.cells).flatten:=by intro l;induction l with
 |nil=>intro z _ h;exact⟨[],rfl,h⟩
 |cons p l L=>
  intro z B h;obtain⟨N,ws,rfl,H,O,I⟩:=h;obtain⟨w,F,G⟩:=L (λq K=>B q (by simp[K])) I;refine⟨⟨(p,N),H,B p ah⟩::w,?_,?_⟩
  .rw[aK,F]
  .rw[aK,nu,G];rfl
def Qj {q:Mu}:∀(l:List (Al S q)),bS q 2 (l.map λx=>S.enc x.1.1) (l.map Al.cells).flatten:=by intro l;induction l with
 |nil=>rfl
 |cons x l w=>exact⟨x.cells,(l.map Al.cells).flatten,rfl,x.2.1,x.len,w⟩
def ym {w:Mu} (l:List (Al S w)):(l.map Al.cells).flatten.length=l.length *2:=by induction l with
 |nil=>rfl
 |cons x l q=>rw[aK,nu,cC,q,x.len,aT];omega
def OH {D:Mu}:∀(l:List (Al S D)) (t:Nat),t<l.length *2->(l.map Al.cells).flatten[t]! =(l[t / 2]!).cells[t % 2]! :=by intro l;induction l with
 |nil=>intro t h;simp at h
 |cons x l B=>
  intro t h;have z:=x.len;have G:=ym l;rw[aT] at h;rw[aK,nu];by_cases F:t<2
  .have q:t / 2=0:=af;have w:t % 2=t:=af;rw[q,w,k9,c7 af];simp[k9]
  .obtain⟨s,rfl⟩:∃s,t=s+2:=⟨t-2,af⟩
   have q:(s+2) / 2=s / 2+1:=af;have w:(s+2) % 2=s % 2:=af;have:=B s af;rw[k9] at this;rw[q,w,k9,fc af,z,show s+2-2=s by omega,this];simp[k9]
def Hp {μ:Mu} (l:List (Al S μ)):flatK Al.cells 2 l.toArray=(l.map Al.cells).flatten.toArray:=by
 refine ext_get! (by simp only[size_flatK,jT];exact(ym l).symm) λt w=> ?_
 have q:t<l.length *2:=by simpa using w
 rw[get_flatK _ _ _ t (by simpa using q)];have:=OH l t q;simp only[xY] at this⊢;exact this.symm
def SK.lt_asymm (S:SK) (p q:S.T) (h:S.lt p q=true):S.lt q p=false:=tD (S.VF _ _ (j4 h))
def SK.WC (S:SK) (x y z:S.T) (h:S.lt x y=true) (l:S.lt z y=false):S.lt x z=true:=decide_eq_true (S.up _ _ _ (j4 h) (tE l))
def KR {I:Mu} {l:List S.T} (V:∀x∈l,∀y∈l,S.lt x y=false->S.lt y x=false->x=y) {q:List (Al S I)} (e:q.map (λx=>x.1.1)=l) {w:Array (Al S I)} (U:Go.Sort.PermIn 0 q.toArray.size q.toArray w) (H:Go.Sort.SortedIn (ltOf Al.cf) 0 q.toArray.size w):
  w.toList.map (λx=>x.1.1)=jB S.lt l/\w.toList.length=q.length:=by
 obtain⟨K,_,L⟩:=U;have D:w.size=q.length:=by simpa using K
 have N:w.toList.Perm q:=by
  have O:w.extract 0 q.toArray.size=w:=by rw[<-K];simp
  have P:q.toArray.extract 0 q.toArray.size=q.toArray:=ah;rw[O,P] at L;simpa using L
 refine⟨?_,by simpa using D⟩;obtain⟨s1,s2⟩:=oT S.lt S.lt_asymm S.WC l;have z:(w.toList.map λx=>x.1.1).Perm l:=by rw[<-e];exact N.map _
 refine vB (lt:=S.lt) (z.trans s2.symm) ?_ s1 ?_
 .unfold oc;rw[fR,tv];intro i j Q R G;have F:i<w.size:=by simpa using Q
  have B:j<w.size:=by simpa using R
  have:=H i j (cB _) G (by simpa[D] using B);rw[show ltOf Al.cf=λx y:Al S I=>S.lt x.1.1 y.1.1 from rfl,getElem!_pos w j B,getElem!_pos w i F] at this;simpa using this
 .intro x W y hy;exact V x (z.mem_iff.1 W) y (z.mem_iff.1 hy)
def Qy {μ:Mu} {F:Nat->Value} {w:World} {l:List S.T} {R:Go.Shelf.Ren} (L:SlLaysF0.n6 P R) (aE:∀w,(isAgg (R.t 24)).run P w= .ok true w) (zE:∀w,(Go.sizeOf (R.t 24)).run P w= .ok 2 w) (hlen:l.length<=1073741824) (hst:∀x∈l,∀y∈l,S.lt x y=false->S.lt y x=false->x=y) (hw:∀p∈l,S.good p) (H:Bf μ w) (qq:jC w.heap.size (gJ False F [10000]) μ F w 10000 (.row S.ty 2 (l.map S.enc))):
  Calls P (R.f 6) #[F 10000, .func (.func S.cm) #[] #[]] w λe I=>∃v μ' loc',e= .returned v/\dY False μ F [10000] (.jy []) [(10000, .row S.ty 2 ((jB S.lt l).map S.enc))] w v μ' loc' I:=by
 have AI:=qq;obtain⟨vs,hown,hrc,QO⟩:=AI;rcases hown.2 with⟨U,h0⟩|⟨g,N,cur,U,_,hg,K,hmax,hsz,D⟩
 .have hl:l=[]:=by
   cases l with
   |nil=>rfl
   |cons a b=>simp at h0
  subst hl;have hc:Calls P (R.f 6) #[.slice none 0 0, .func (.func S.cm) #[] #[]] w λe I=>e= .returned (.tuple #[])/\I=w:=AnyF.slices_SortFunc_none L none 0 _ w
  rw[U];refine hc.mono ?_;rintro e I ⟨rfl,rfl⟩;exact⟨_,μ,F,rfl,D0 H qq⟩
 .obtain⟨q,V,ha2⟩:=NU hw hrc;have hal:q.length=l.length:=by rw[<-V];simp
  have SX:(l.map S.enc).length=q.length:=by simp[hal]
  rw[SX] at U K D;rw[ha2] at D;have hfl:=ym q;have hin:gE (F 10000) g:=by rw[U];exact fz.2 rfl
  obtain⟨Q,uq⟩:=QO g hin;have hlt:g<w.heap.size:=(cO.1 hg).1;have O:∀(j:Nat),j<q.length *2->cur[j]? =(q.map Al.cells).flatten[j]? :=by
   intro j hj;have h1:(cur.toList.take (q.length *2))[j]? =(q.map Al.cells).flatten[j]? :=by rw[D]
   rw[mI,ak hj] at h1;simpa using h1
  have hH:Go.Sort.HoldsK Al.cells 2 w g 0 q.toArray:=by
   intro j hj;rw[Hp] at hj⊢;have hj':j<q.length *2:=by rw[<-hfl];simpa using hj
   have W:=O j hj';have hjf:j<(q.map Al.cells).flatten.length:=af;rw[aW hjf] at W;rw[fW];refine⟨?_,?_⟩
   .unfold World.cell?;simp only[hg];rw[xY,k9,aW hjf];simp[W]
   .unfold World.frozen?;simp[hg]
  have hcmp:CmpLays P S.cm #[] (Al.cells (S:=S) (μ:=μ)) 2 Al.cf g 0 q.toArray.size w:=by
   intro m os dk hdk x y;refine VN (W:=sortWorldK Al.cells 2 w g 0 m dk os) ?_ x y;obtain⟨_,k2,_⟩:=BO (enc:=id) (n:=m) (d:=flatK Al.cells 2 dk) (os:=os) hg;intro b j z hz;have h:=H b j z hz;have hne:b≠g:=λe=>by subst e;rw[uq j] at hz;cases hz
   exact(dW (k2 b (jx h) hne) j).trans h
  have hc:Calls P (R.f 6) #[.slice (some ⟨g,0,none⟩) q.toArray.size N, .func (.func S.cm) #[] #[]] w λe I=>e= .returned (.tuple #[])/\∃B n os,Go.Sort.PermIn 0 q.toArray.size q.toArray B/\Go.Sort.SortedIn (ltOf Al.cf) 0 q.toArray.size B/\I=sortWorldK Al.cells 2 w g 0 n B os:=
   AnyQ.slices_SortFunc L 2 aE zE Al.cells Al.len Al.one Al.cf swo S.cm #[] g 0 N q.toArray w S.enters hcmp hH hlt aX
  have Vk:Calls P (R.f 6) #[.slice (some ⟨g,0,none⟩) q.length N, .func (.func S.cm) #[] #[]] w λe I=>e= .returned (.tuple #[])/\∃B n os,Go.Sort.PermIn 0 q.toArray.size q.toArray B/\Go.Sort.SortedIn (ltOf Al.cf) 0 q.toArray.size B/\I=sortWorldK Al.cells 2 w g 0 n B os:=by simpa using hc
  rw[U];refine Vk.mono ?_;rintro e I ⟨rfl,B,n,os,hp,hso,rfl⟩;obtain⟨q1,q2⟩:=KR hst V hp hso;have G:=ym B.toList;have hfa:flatK Al.cells 2 B=(B.toList.map Al.cells).flatten.toArray:=by have:=Hp B.toList;simpa using this
  obtain⟨k1,k2,k3⟩:=BO (enc:=id) (n:=n) (d:=flatK Al.cells 2 B) (os:=os) hg;obtain⟨t1,t2⟩:=IU (enc:=id) (l:=(B.toList.map Al.cells).flatten) (cur:=cur) (by rw[G,q2,hsz];omega);rw[<-hfa] at t1 t2;rw[j0] at t2;have hil:(jB S.lt l).length=q.length:=by rw[<-q1,aR,q2]
  refine⟨_,μ,F,rfl,D4 (cur:=cur) (us:=(B.toList.map Al.cells).flatten) H U K hmax hsz Q uq k1 t1 (by rw[<-q2,<-G];exact t2) (by rw[G,q2]) k2 rfl rfl rfl k3 (by rw[aR,hil]) ?_⟩;rw[<-q1,dw];exact Qj B.toList
def Nq {ws:List (List AV)} {m:Nat} (h:K4 ws=some m):ws=(bif Nat.beq m 0 then[] else[[.int .u64 (m:Int)]])/\m<18446744073709551616:=by
 unfold K4 at h;split at h
 .simp only[aB] at h;subst h;exact⟨rfl,by decide⟩
 .rename_i k;obtain⟨l,q⟩:=aZ h;simp only[aF] at l;simp only[aB] at q;subst q;have z:0<k:=by have:=l.1;simpa[bA] using this
  have w:k<18446744073709551616:=by have:=l.2;simpa[bA] using this
  refine⟨?_,w⟩;rw[cq.VG af];rfl
 .cases h
def MD:∀{xs:List (List AV)} {l:List rJ},BF xs=some l->xs=l.map rJ.enc/\∀p∈l,p.2<18446744073709551616:=by intro xs;induction xs with
 |nil=>intro l h;simp[BF] at h;subst h;exact⟨rfl,ah⟩
 |cons c xs G=>
  intro l h;unfold BF at h;split at h
  .rename_i e;cases e
  .rename_i s ws N e;injection e with z B;subst z B;split at h
   .rename_i w r F D;simp only[aB] at h;subst h;obtain⟨H,I⟩:=Nq F;obtain⟨K,L⟩:=G D;refine⟨?_,?_⟩
    .rw[H,K];rfl
    .intro p q;rcases aD.1 q with rfl|q
     .exact I
     .exact L p q
   .cases h
  .cases h
def KU {l:List rJ} (h:A3 l=true):∀x∈l,∀y∈l,I1 x y=false->I1 y x=false->x=y:=by induction l with
 |nil=>intro x G;cases G
 |cons a l K=>
  unfold A3 at h;simp only[aF,cH,ew] at h;intro x G y I D F;rcases aD.1 G with H|z
  .rcases aD.1 I with B|w
   .rw[H,B]
   .subst H;rcases h.1 y w with q|q
    .rw[D] at q;cases q
    .rw[F] at q;cases q
  .rcases aD.1 I with B|w
   .subst B;rcases h.1 x z with q|q
    .rw[F] at q;cases q
    .rw[D] at q;cases q
   .exact K h.2 x z y w D F
def AT {p q:rJ}:I1 p q=true↔eX 64 q.2<eX 64 p.2\/(eX 64 p.2=eX 64 q.2/\Op.bytesLess p.1 q.1=true):=by
 unfold I1;rw[ew,aF];constructor
 .rintro (h|⟨l,w⟩)
  .exact .inl (cI h)
  .exact .inr ⟨eN l,w⟩
 .rintro (h|⟨l,w⟩)
  .exact .inl (gp h)
  .exact .inr ⟨by rw[l];exact eu _,w⟩
def MX (p q:rJ) (h:I1 p q=true):I1 q p=false:=by
 apply mY;intro z;rw[Bool.not_eq_false,AT] at z;rw[AT] at h;rcases h with h|⟨F,D⟩
 .rcases z with B|⟨w,_⟩<;>omega
 .rcases z with B|⟨w,l⟩
  .omega
  .rw[r7 D] at l;cases l
def UC (x y z:rJ) (h:I1 x y=true) (B:I1 z y=false):I1 x z=true:=by
 rw[AT] at h⊢;have w:¬(eX 64 y.2<eX 64 z.2\/(eX 64 z.2=eX 64 y.2/\Op.bytesLess z.1 y.1=true)):=λq=>by rw[<-AT,B] at q;cases q
 simp only[not_or,not_and] at w;rcases h with h|⟨G,D⟩
 .left;omega
 .by_cases e:eX 64 z.2=eX 64 y.2
  .right;refine⟨af,?_⟩;have F:=w.2 e;have l:Op.bytesLess z.1 y.1=false:=by simpa using F
   exact za _ _ _ D l
  .left;omega
def Oq (p:rJ):gz.enc (cq.tc p)=rJ.enc p:=by
 show[AV.str p.1,AV.c4 1 ((cq.wl p.2).map (bU .u64))]=[AV.str p.1,AV.c4 1 (bif Nat.beq p.2 0 then[] else[[.int .u64 (p.2:Int)]])]
 unfold cq.wl;cases Nat.beq p.2 0<;>rfl
def GX {p q:rJ}:cq.Jz p q<0↔I1 p q=true:=by rw[<-cq.Li];simp
abbrev SKc:SK where
 T:=rJ
 enc:=rJ.enc
 good p:=p.2<18446744073709551616
 c:=cq.Jz
 ty:=112
 cm:=131
 two p:=⟨_,_,rfl⟩
 VF p q h h':=by rw[GX] at h h';rw[MX p q h] at h';cases h'
 up x y z h h':=by rw[GX] at *;exact UC x y z h (by simpa using h')
 nul μ:=⟨([],0),[.string ⟨#[]⟩, .slice none 0 0],⟨⟨_,_,rfl,by rw[rep],⟨_,_,rfl,by rw[rep];exact⟨none,0,rfl,aJ _,cB _, .inl rfl⟩,rfl⟩⟩,λu l=>by
  simp only[aD,dG,dV] at l
  rcases l with rfl|rfl<;>rfl⟩,by decide⟩
 runs x y hx hy:=by have:=jD (EN cq.Q0) (cq.Rn 131 [(.pv (.agg (gz.enc (cq.tc x)))),(.pv (.agg (gz.enc (cq.tc y))))] []) _ (cq.i48 hx hy);rw[Oq,Oq] at this;exact this
 enters:=jH Tryz.func131 (by decide) (by rfl)
def NN:SKc.lt=I1:=by
 have h:SKc.c=cq.Jz:=by simp only[SKc]
 funext p q;unfold SK.lt;rw[h];exact cq.Li p q
def y9:∀{xs:List (List AV)} {l:List (Int×Int)},rL xs=some l->xs=l.map He
 |[],l,h=>by
  have:l=[]:=(eO h).symm
  subst this;rfl
 |[.int .i64 f, .int .i64 t]::xs,l,h=>by have h:(rL xs).map ((f,t):: ·)=some l:=h;obtain⟨m,q,rfl⟩:=bg.1 h;rw[y9 q];rfl
def Mi {l:List (Int×Int)} (h:Bl l=true):∀x∈l,∀y∈l,S9 x y=false->S9 y x=false->x=y:=by induction l with
 |nil=>intro x G;cases G
 |cons a l K=>
  unfold Bl at h;simp only[aF,cH,ew] at h;intro x G y I D F;rcases aD.1 G with H|z
  .rcases aD.1 I with B|w
   .rw[H,B]
   .subst H;rcases h.1 y w with q|q
    .rw[D] at q;cases q
    .rw[F] at q;cases q
  .rcases aD.1 I with B|w
   .subst B;rcases h.1 x z with q|q
    .rw[F] at q;cases q
    .rw[D] at q;cases q
   .exact K h.2 x z y w D F
def cA (p q:Int×Int):Int:=if p.1<q.1 then-1 else if q.1<p.1 then 1 else 0
def Jq {p q:Int×Int}:cA p q<0↔p.1<q.1:=by
 unfold cA;split
 .simp[*]
 .split<;>simp[*]
abbrev Vd:SK where
 T:=Int×Int
 enc:=He
 good _:=True
 c:=cA
 ty:=54
 cm:=167
 two p:=⟨_,_,rfl⟩
 VF p q h h':=by rw[Jq] at h h';omega
 up x y z h h':=by rw[Jq] at *;omega
 nul μ:=⟨(0,0),[.int .i64 0, .int .i64 0],⟨⟨_,_,rfl,by rw[rep],⟨_,_,rfl,by rw[rep],rfl⟩⟩,λu l=>by
  simp only[aD,dG,dV] at l
  rcases l with rfl|rfl<;>rfl⟩,trivial⟩
 runs x y _ _:=jD (EN cq.Q0) (cq.Rn 167 [(.pv (.agg (bD.enc (cq.Ve x)))),(.pv (.agg (bD.enc (cq.Ve y))))] []) _ (cq.i495 x y)
 enters:=jH Tryz.func167 (by decide) (by rfl)
def NM:Vd.lt=S9:=by
 funext p q;have h:Vd.c=cA:=by simp only[Vd]
 unfold SK.lt S9;rw[h,decide_eq_decide];exact Jq
