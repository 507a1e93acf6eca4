/-
  The Closure laws: Codes, Meets, Orders, Declared.
-/
import Derived.Test.YtneahmpmicoplaaGreatDoorClNe
import Derived.Test.YtneahmpmicoplaaGreatDoorClCr
set_option linter.unusedVariables false
set_option linter.unusedSimpArgs false
set_option linter.unusedSectionVars false
namespace Go.Proofs.YtneahmpmicoplaaGreatDoor.cl
open Go Go.AM
end Go.Proofs.YtneahmpmicoplaaGreatDoor.cl
