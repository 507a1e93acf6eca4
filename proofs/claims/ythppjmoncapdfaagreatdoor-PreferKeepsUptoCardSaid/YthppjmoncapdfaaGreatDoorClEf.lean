/- The hierarchy of the prelude. -/
import Derived.Test.YthppjmoncapdfaaGreatDoorClEc
import Derived.Test.YthppjmoncapdfaaGreatDoorClEd
import Derived.Test.YthppjmoncapdfaaGreatDoorClEe
set_option linter.all false
namespace Go.Proofs.YthppjmoncapdfaaGreatDoor.cl.pf
open Go Go.AM
def k92:lR T9 92 (e92)=true:=by kernel_rfl
def k63:lR T10 63 (e63)=true:=by kernel_rfl
def k66:lR T11 66 (e66)=true:=by kernel_rfl
def k39:lR T13 39 (e39)=true:=by kernel_rfl
def k14:lR T14 14 (e14)=true:=by kernel_rfl
def k12:lR T15 12 (e12)=true:=by kernel_rfl
def k10:lR T16 10 ([([], .bool true)])=true:=by kernel_rfl
def Hz {T:dW} {f:Nat} (l:List (List AV×AV)) (n:Nat) (h:lR T f (l.take n)=true) (k:lR T f (l.drop n)=true):lR T f l=true:=by rw[<-jl n l];unfold lR at h k⊢;rw[List.all_append,h,k];rfl
def t1:CD T1:=pN Np (mY Np k159)
def k98:lR T1 98 e98=true:=
 Hz _ 1 k98a (Hz _ 4 k98b (Hz _ 4 (by rw[qR];exact k98c) (by rw[qR,qR];exact k98d)))
def t4:CD T4:=
 have t2:=pN t1 (mY t1 k98);have t3:=pN t2 (mY t2 k96)
 pN t3 (mY t3 k64)
def t8:CD T8:=pN (pN (pN (pN t4 (mY t4 k94d)) (mY t4 k94c)) (mY t4 k94b)) (mY t4 k94a)
def t16:CD T16:=
 have F:=pN t8 (mY t8 k103);have l:=pN F (mY F k92);have q:=pN l (mY l k63);have w:=pN q (mY q k66);have z:=pN w (mY w k65);have B:=pN z (mY z k39);have D:=pN B (mY B k14)
 pN D (mY D k12)
def run10:Rn 10 [] []=some (.bool true,[]):=mY t16 k10 _ (List.mem_singleton_self _)
