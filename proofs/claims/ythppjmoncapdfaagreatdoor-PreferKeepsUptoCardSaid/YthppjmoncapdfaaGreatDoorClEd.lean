/- The hierarchy of the prelude. -/
import Derived.Test.YthppjmoncapdfaaGreatDoorClEb
set_option linter.all false
namespace Go.Proofs.YthppjmoncapdfaaGreatDoor.cl.pf
open Go Go.AM
def k96:lR T2 96 (e96)=true:=by kernel_rfl
def k64:lR T3 64 (e64)=true:=by kernel_rfl
def k103:lR T8 103 (e103)=true:=by kernel_rfl
def k65:lR T12 65 (e65)=true:=by kernel_rfl
