/-
  The Closure laws: the chapter's example holds, by running it in the machine.
-/
import Derived.Test.YtneahmpmicoplaaGreatDoorClT
set_option maxRecDepth 1000000
namespace Go.Proofs.YtneahmpmicoplaaGreatDoor.cl
open Go Go.AM
theorem example13 : Rn 13 [] [] = some (.bool true, []) :=
  run_iff.2 ⟨70, by kernel_rfl⟩
end Go.Proofs.YtneahmpmicoplaaGreatDoor.cl
