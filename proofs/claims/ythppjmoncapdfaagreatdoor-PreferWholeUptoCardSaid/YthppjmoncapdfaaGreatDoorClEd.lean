/- The hierarchy of the prelude. -/
import Derived.Test.YthppjmoncapdfaaGreatDoorClEb
set_option linter.all false
namespace Go.Proofs.YthppjmoncapdfaaGreatDoor.cl.pf
open Go Go.AM
theorem k96:mw T2 96 (e96)=true:=by kernel_rfl
theorem k64:mw T3 64 (e64)=true:=by kernel_rfl
theorem k103:mw T8 103 (e103)=true:=by kernel_rfl
theorem k65:mw T12 65 (e65)=true:=by kernel_rfl
end Go.Proofs.YthppjmoncapdfaaGreatDoor.cl.pf
