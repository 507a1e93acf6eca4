/- The law of the parts. -/
import Derived.Test.YthppjmoncapdfaaGreatDoorClEf
import Derived.Test.YthppjmoncapdfaaGreatDoorClEh
import Derived.Test.YthppjmoncapdfaaGreatDoorClXt
set_option linter.unusedVariables false
namespace Go.Proofs.YthppjmoncapdfaaGreatDoor.cl.pf
open Go Go.AM
theorem c399:f399=some true:=fG (E:=EN Q0) run10
theorem YM (f:FSt):f392 f=some true:=l392 Zb c399 f
end Go.Proofs.YthppjmoncapdfaaGreatDoor.cl.pf
