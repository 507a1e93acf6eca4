/- The hierarchy of the prelude. -/
import Derived.Test.YthppjmoncapdfaaGreatDoorClEc
import Derived.Test.YthppjmoncapdfaaGreatDoorClEd
import Derived.Test.YthppjmoncapdfaaGreatDoorClEe
set_option linter.all false
namespace Go.Proofs.YthppjmoncapdfaaGreatDoor.cl.pf
open Go Go.AM
def k92:jA T9 92 (e92)=true:=by kernel_rfl
def k63:jA T10 63 (e63)=true:=by kernel_rfl
def k66:jA T11 66 (e66)=true:=by kernel_rfl
def k39:jA T13 39 (e39)=true:=by kernel_rfl
def k14:jA T14 14 (e14)=true:=by kernel_rfl
def k12:jA T15 12 (e12)=true:=by kernel_rfl
def k10:jA T16 10 ([([], .bool true)])=true:=by kernel_rfl
def Bk {T:cr} {f:Nat} (l:List (List AV×AV)) (n:Nat) (h:jA T f (l.take n)=true) (k:jA T f (l.drop n)=true):jA T f l=true:=by rw[<-kX n l];unfold jA at h k⊢;rw[List.all_append,h,k];rfl
def t1:xF T1:=lT E7 (j6 E7 k159)
def k98:jA T1 98 e98=true:=
 Bk _ 1 k98a (Bk _ 4 k98b (Bk _ 4 (by rw[nj];exact k98c) (by rw[nj,nj];exact k98d)))
def t4:xF T4:=
 have t2:=lT t1 (j6 t1 k98);have t3:=lT t2 (j6 t2 k96)
 lT t3 (j6 t3 k64)
def t8:xF T8:=lT (lT (lT (lT t4 (j6 t4 k94d)) (j6 t4 k94c)) (j6 t4 k94b)) (j6 t4 k94a)
def t16:xF T16:=
 have F:=lT t8 (j6 t8 k103);have l:=lT F (j6 F k92);have q:=lT l (j6 l k63);have w:=lT q (j6 q k66);have z:=lT w (j6 w k65);have B:=lT z (j6 z k39);have D:=lT B (j6 B k14)
 lT D (j6 D k12)
def WR:Rn 10 [] []=some (.bool true,[]):=j6 t16 k10 _ (List.mem_singleton_self _)
