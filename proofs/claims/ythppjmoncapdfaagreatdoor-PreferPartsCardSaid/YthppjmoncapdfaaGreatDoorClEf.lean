/- The hierarchy of the prelude. -/
import Derived.Test.YthppjmoncapdfaaGreatDoorClEc
import Derived.Test.YthppjmoncapdfaaGreatDoorClEd
import Derived.Test.YthppjmoncapdfaaGreatDoorClEe
set_option linter.unusedVariables false
namespace Go.Proofs.YthppjmoncapdfaaGreatDoor.cl.pf
open Go Go.AM
theorem k92:gY T9 92 (e92)=true:=by kernel_rfl
theorem k63:gY T10 63 (e63)=true:=by kernel_rfl
theorem k66:gY T11 66 (e66)=true:=by kernel_rfl
theorem k39:gY T13 39 (e39)=true:=by kernel_rfl
theorem k14:gY T14 14 (e14)=true:=by kernel_rfl
theorem k12:gY T15 12 (e12)=true:=by kernel_rfl
theorem k10:gY T16 10 ([([], .bool true)])=true:=by kernel_rfl
theorem B1 {T:cL} {f:Nat} (l:List (List AV×AV)) (n:Nat) (h:gY T f (l.take n)=true) (k:gY T f (l.drop n)=true):gY T f l=true:=by
 rw [←List.take_append_drop n l];unfold gY at h k⊢;rw [List.all_append,h,k];rfl
theorem t1:xC T1:=kn GB (iW GB k159)
theorem k98:gY T1 98 e98=true:=
 B1 _ 1 k98a (B1 _ 4 k98b (B1 _ 4 (by rw [List.drop_drop];exact k98c) (by rw [List.drop_drop,List.drop_drop];exact k98d)))
theorem t4:xC T4:=
 have t2:=kn t1 (iW t1 k98);have t3:=kn t2 (iW t2 k96)
 kn t3 (iW t3 k64)
theorem t8:xC T8:=kn (kn (kn (kn t4 (iW t4 k94d)) (iW t4 k94c)) (iW t4 k94b)) (iW t4 k94a)
theorem t16:xC T16:=
 have t9:=kn t8 (iW t8 k103);have t10:=kn t9 (iW t9 k92);have t11:=kn t10 (iW t10 k63);have t12:=kn t11 (iW t11 k66);have t13:=kn t12 (iW t12 k65);have t14:=kn t13 (iW t13 k39);have t15:=kn t14 (iW t14 k14)
 kn t15 (iW t15 k12)
theorem run10:Rn 10 [] []=some (.bool true,[]):=iW t16 k10 _ (List.mem_singleton_self _)
end Go.Proofs.YthppjmoncapdfaaGreatDoor.cl.pf
