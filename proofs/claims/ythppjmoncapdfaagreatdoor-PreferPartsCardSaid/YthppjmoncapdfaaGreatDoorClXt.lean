/- Default unification. -/
import Derived.Test.YthppjmoncapdfaaGreatDoorClXs
set_option linter.unusedVariables false
set_option linter.unusedSimpArgs false
set_option linter.unusedSectionVars false
namespace Go.Proofs.YthppjmoncapdfaaGreatDoor.cl.pf
open Go Go.AM
theorem c402 {L:List FSt} (hl:L.length≤1000000) (hs:∀p∈L,Sm p):f402 L L=some true:=by
 have key:∀(xs:List FSt) (i:Nat),L.drop i=xs→H7 L L (i:Int)=some true:=by
  intro xs
  induction xs with
  |nil=>intro i hd;refine S8 _ _ _ ?_;rw [dm hd,cond_false]
  |cons p xs ih=>
   intro i hd;refine S8 _ _ _ ?_;rw [cR hd,cond_true,bX hd,bX hd,U7 (hs p (List.mem_of_getElem? (dG hd))),aH,cond_neg (by rfl),dA hd (by omega)];exact ih (i+1) (cH hd)
 refine e402 _ _ ?_;rw [cond_neg (by simp)];exact key L 0 rfl
theorem l392 (K:NH) (X:f399=some true) (f:FSt):f392 f=some true:=by
 obtain ⟨r,q1,q2⟩:=c398 f;refine e392 _ ?_;rw [q1,aH];cases r with
 |false=>rw [cond_pos (by rfl),X,aH]
 |true=>
  have hv:=q2 rfl;obtain ⟨L,S,e1,e2,hp,_⟩:=T0 hv.can hv.lt (by omega) K;have hLl:=hp.len;have hsm:∀p∈L,Sm p:=fun p hpL=>by
   obtain ⟨P,h1,h2⟩:=hp.cov;have:=(h2 p hpL).le;exact (hp.can p hpL).sm (by omega) (by omega)
  rw [cond_neg (by rfl),e1,aH,e2,aH,c402 (by omega) hsm,aH,cond_pos (by rfl),X,aH]
end Go.Proofs.YthppjmoncapdfaaGreatDoor.cl.pf
