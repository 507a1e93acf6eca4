/- The example holds (run). -/
import Derived.Test.YthphfjcnkinkpaaGreatDoorClVd
set_option linter.all false
set_option maxRecDepth 100000
namespace Go.Proofs.YthphfjcnkinkpaaGreatDoor.cl.pf
open Go Go.AM
noncomputable def TH5:eN:=add 5 [([.dG 3 []],hieA)] λ_ _ _=>none
def k7:allOk TH5 9 [([], .bool true)]=true:=by kernel_rfl
def c499:f499=some true:=ym (E:=EN Q2) (ent_ok (ok_add ok_nil ent5) k7 _ (List.mem_singleton_self _))
