/- Layer 6. -/
import Derived.Test.YtmidjldjkbljjaaGreatDoorClSf
set_option linter.unusedVariables false
set_option linter.unusedSimpArgs false
set_option linter.unusedSectionVars false
namespace Go.Proofs.YtmidjldjkbljjaaGreatDoor.cl
open Go Go.AM
structure Hz (h:dh):Prop where
 tl:h.Types.length≤1000
 fl:h.bz.length≤1000
 row:∀t∈h.Types,t.Code.length≤1000∧t.aB.length≤1000∧t.bz.length≤1000
def Dr:List aS→List aq
 |a::b::l=>⟨a,b⟩::Dr l
 |_=>[]
theorem RW {i:Nat} (h:i<4611686018427387904):IntKind.wrap .i64 ((i:Int)+2)=((i+2:Nat):Int):=by
 rw [fF (by omega) (by omega)];omega
end Go.Proofs.YtmidjldjkbljjaaGreatDoor.cl
set_option linter.unusedVariables false
set_option linter.unusedSimpArgs false
set_option linter.unusedSectionVars false
namespace Go.Proofs.YtmidjldjkbljjaaGreatDoor.cl
open Go Go.AM
structure Hd (h:dh) (cs:List Nat):Prop where
 eq:h.Types.map (·.Code)=cs.map e1
 lt:∀c∈cs,c<18446744073709551616
 len:cs.length≤1000
end Go.Proofs.YtmidjldjkbljjaaGreatDoor.cl
