/- The hierarchy of the prelude. -/
import Derived.Test.YthppjmoncapdfaaGreatDoorClEb
set_option linter.all false
namespace Go.Proofs.YthppjmoncapdfaaGreatDoor.cl.pf
open Go Go.AM
def k96:jA T2 96 (e96)=true:=by kernel_rfl
def k64:jA T3 64 (e64)=true:=by kernel_rfl
def k103:jA T8 103 (e103)=true:=by kernel_rfl
def k65:jA T12 65 (e65)=true:=by kernel_rfl
