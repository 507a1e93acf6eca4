/- The hierarchy of the prelude. -/
import Derived.Test.YthppjmoncapdfaaGreatDoorClEb
set_option linter.all false
namespace Go.Proofs.YthppjmoncapdfaaGreatDoor.cl.pf
open Go Go.AM
theorem k159:mw (fun _ _ _=>none) 159 (e159)=true:=by kernel_rfl
theorem k98a:mw T1 98 (e98.take 1)=true:=by kernel_rfl
theorem k98b:mw T1 98 ((e98.drop 1).take 4)=true:=by kernel_rfl
theorem k98c:mw T1 98 ((e98.drop 5).take 4)=true:=by kernel_rfl
theorem k98d:mw T1 98 (e98.drop 9)=true:=by kernel_rfl
end Go.Proofs.YthppjmoncapdfaaGreatDoor.cl.pf
