/- The law of the parts. -/
import Derived.Test.YthppjmoncapdfaaGreatDoorClEf
import Derived.Test.YthppjmoncapdfaaGreatDoorClEh
import Derived.Test.YthppjmoncapdfaaGreatDoorClXv
set_option linter.all false
namespace Go.Proofs.YthppjmoncapdfaaGreatDoor.cl.pf
open Go Go.AM
def ZG:f399=some true:=iV (E:=EN Q0) run10
