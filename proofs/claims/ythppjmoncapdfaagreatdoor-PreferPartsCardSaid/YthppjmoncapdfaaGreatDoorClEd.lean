/- The hierarchy of the prelude. -/
import Derived.Test.YthppjmoncapdfaaGreatDoorClEb
set_option linter.unusedVariables false
namespace Go.Proofs.YthppjmoncapdfaaGreatDoor.cl.pf
open Go Go.AM
theorem k96:gY T2 96 (e96)=true:=by kernel_rfl
theorem k64:gY T3 64 (e64)=true:=by kernel_rfl
theorem k103:gY T8 103 (e103)=true:=by kernel_rfl
theorem k65:gY T12 65 (e65)=true:=by kernel_rfl
end Go.Proofs.YthppjmoncapdfaaGreatDoor.cl.pf
