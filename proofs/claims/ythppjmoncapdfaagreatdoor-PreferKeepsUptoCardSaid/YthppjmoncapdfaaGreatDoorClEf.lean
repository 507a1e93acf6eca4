/- The hierarchy of the prelude. -/
import Derived.Test.YthppjmoncapdfaaGreatDoorClEc
import Derived.Test.YthppjmoncapdfaaGreatDoorClEd
import Derived.Test.YthppjmoncapdfaaGreatDoorClEe
set_option linter.all false
namespace Go.Proofs.YthppjmoncapdfaaGreatDoor.cl.pf
open Go Go.AM
def k92:lS T9 92 (e92)=true:=by kernel_rfl
def k63:lS T10 63 (e63)=true:=by kernel_rfl
def k66:lS T11 66 (e66)=true:=by kernel_rfl
def k39:lS T13 39 (e39)=true:=by kernel_rfl
def k14:lS T14 14 (e14)=true:=by kernel_rfl
def k12:lS T15 12 (e12)=true:=by kernel_rfl
def k10:lS T16 10 ([([], .bool true)])=true:=by kernel_rfl
def HK {T:dX} {f:Nat} (l:List (List AV×AV)) (n:Nat) (h:lS T f (l.take n)=true) (k:lS T f (l.drop n)=true):lS T f l=true:=by rw[<-jq n l];unfold lS at h k⊢;rw[List.all_append,h,k];rfl
def t1:CI T1:=pQ Ny (mZ Ny k159)
def k98:lS T1 98 e98=true:=
 HK _ 1 k98a (HK _ 4 k98b (HK _ 4 (by rw[qT];exact k98c) (by rw[qT,qT];exact k98d)))
def t4:CI T4:=
 have t2:=pQ t1 (mZ t1 k98);have t3:=pQ t2 (mZ t2 k96)
 pQ t3 (mZ t3 k64)
def t8:CI T8:=pQ (pQ (pQ (pQ t4 (mZ t4 k94d)) (mZ t4 k94c)) (mZ t4 k94b)) (mZ t4 k94a)
def t16:CI T16:=
 have F:=pQ t8 (mZ t8 k103);have l:=pQ F (mZ F k92);have q:=pQ l (mZ l k63);have w:=pQ q (mZ q k66);have z:=pQ w (mZ w k65);have B:=pQ z (mZ z k39);have D:=pQ B (mZ B k14)
 pQ D (mZ D k12)
def run10:Rn 10 [] []=some (.bool true,[]):=mZ t16 k10 _ (List.mem_singleton_self _)
