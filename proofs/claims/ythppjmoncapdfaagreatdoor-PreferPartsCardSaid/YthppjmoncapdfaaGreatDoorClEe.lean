/- The hierarchy of the prelude. -/
import Derived.Test.YthppjmoncapdfaaGreatDoorClEb
set_option linter.all false
namespace Go.Proofs.YthppjmoncapdfaaGreatDoor.cl.pf
open Go Go.AM
def k94a:jA T4 94 (e94 0 4)=true:=by kernel_rfl
def k94b:jA T4 94 (e94 4 3)=true:=by kernel_rfl
def k94c:jA T4 94 (e94 7 3)=true:=by kernel_rfl
def k94d:jA T4 94 (e94 10 3)=true:=by kernel_rfl
