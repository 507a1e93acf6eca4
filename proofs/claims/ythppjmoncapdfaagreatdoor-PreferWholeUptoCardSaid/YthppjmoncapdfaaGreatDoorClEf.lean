/- The hierarchy of the prelude. -/
import Derived.Test.YthppjmoncapdfaaGreatDoorClEc
import Derived.Test.YthppjmoncapdfaaGreatDoorClEd
import Derived.Test.YthppjmoncapdfaaGreatDoorClEe
set_option linter.all false
namespace Go.Proofs.YthppjmoncapdfaaGreatDoor.cl.pf
open Go Go.AM
theorem k92:mw T9 92 (e92)=true:=by kernel_rfl
theorem k63:mw T10 63 (e63)=true:=by kernel_rfl
theorem k66:mw T11 66 (e66)=true:=by kernel_rfl
theorem k39:mw T13 39 (e39)=true:=by kernel_rfl
theorem k14:mw T14 14 (e14)=true:=by kernel_rfl
theorem k12:mw T15 12 (e12)=true:=by kernel_rfl
theorem k10:mw T16 10 ([([], .bool true)])=true:=by kernel_rfl
theorem Ia {T:dQ} {f:Nat} (l:List (List AV×AV)) (n:Nat) (h:mw T f (l.take n)=true) (k:mw T f (l.drop n)=true):mw T f l=true:=by
 rw [←kj n l];unfold mw at h k⊢;rw [List.all_append,h,k];rfl
theorem t1:CO T1:=qg Nt (nD Nt k159)
theorem k98:mw T1 98 e98=true:=
 Ia _ 1 k98a (Ia _ 4 k98b (Ia _ 4 (by rw [ry];exact k98c) (by rw [ry,ry];exact k98d)))
theorem t4:CO T4:=
 have t2:=qg t1 (nD t1 k98);have t3:=qg t2 (nD t2 k96)
 qg t3 (nD t3 k64)
theorem t8:CO T8:=qg (qg (qg (qg t4 (nD t4 k94d)) (nD t4 k94c)) (nD t4 k94b)) (nD t4 k94a)
theorem t16:CO T16:=
 have t9:=qg t8 (nD t8 k103);have t10:=qg t9 (nD t9 k92);have t11:=qg t10 (nD t10 k63);have t12:=qg t11 (nD t11 k66);have t13:=qg t12 (nD t12 k65);have t14:=qg t13 (nD t13 k39);have t15:=qg t14 (nD t14 k14)
 qg t15 (nD t15 k12)
theorem run10:Rn 10 [] []=some (.bool true,[]):=nD t16 k10 _ (List.mem_singleton_self _)
end Go.Proofs.YthppjmoncapdfaaGreatDoor.cl.pf
