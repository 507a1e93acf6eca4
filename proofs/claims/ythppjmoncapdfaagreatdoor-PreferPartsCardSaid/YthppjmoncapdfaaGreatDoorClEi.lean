/- The law of the parts. -/
import Derived.Test.YthppjmoncapdfaaGreatDoorClEf
import Derived.Test.YthppjmoncapdfaaGreatDoorClEh
import Derived.Test.YthppjmoncapdfaaGreatDoorClXt
set_option linter.all false
namespace Go.Proofs.YthppjmoncapdfaaGreatDoor.cl.pf
open Go Go.AM
def c399:f399=some true:=gD (E:=EN Q0) WR
def UB (f:FSt):f392 f=some true:=l392 U0 c399 f
