/- The hierarchy of the prelude. -/
import Derived.Test.YthppjmoncapdfaaGreatDoorClEb
set_option linter.all false
namespace Go.Proofs.YthppjmoncapdfaaGreatDoor.cl.pf
open Go Go.AM
theorem k94a:mw T4 94 (e94 0 4)=true:=by kernel_rfl
theorem k94b:mw T4 94 (e94 4 3)=true:=by kernel_rfl
theorem k94c:mw T4 94 (e94 7 3)=true:=by kernel_rfl
theorem k94d:mw T4 94 (e94 10 3)=true:=by kernel_rfl
end Go.Proofs.YthppjmoncapdfaaGreatDoor.cl.pf
