/- The hierarchy of the prelude. -/
import Derived.Test.YthppjmoncapdfaaGreatDoorClEb
set_option linter.all false
namespace Go.Proofs.YthppjmoncapdfaaGreatDoor.cl.pf
open Go Go.AM
def k159:jA (λ_ _ _=>none) 159 (e159)=true:=by kernel_rfl
def k98a:jA T1 98 (e98.take 1)=true:=by kernel_rfl
def k98b:jA T1 98 ((e98.drop 1).take 4)=true:=by kernel_rfl
def k98c:jA T1 98 ((e98.drop 5).take 4)=true:=by kernel_rfl
def k98d:jA T1 98 (e98.drop 9)=true:=by kernel_rfl
