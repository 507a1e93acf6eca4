/- Default unification. -/
import Derived.Test.YthppjmoncapdfaaGreatDoorClXs
set_option linter.all false
namespace Go.Proofs.YthppjmoncapdfaaGreatDoor.cl.pf
open Go Go.AM
def c402 {L:List FSt} (z:L.length<=1000000) (q:∀p∈L,Sm p):f402 L L=some true:=by
 have key:∀(xs:List FSt) (i:Nat),L.drop i=xs->FV L L (i:Int)=some true:=by intro xs;induction xs with
  |nil=>intro i l;refine Pp ?_;rw[dA l,aj]
  |cons p xs w=>intro i l;refine Pp ?_;rw[cN l,ai,bN l,bN l,Rq (q p (aS (dP l))),aI,cond_neg (by rfl),dF l af];exact w (i+1) (cg l)
 refine e402 ?_;rw[cond_neg ah];exact key L 0 rfl
def l392 (K:NQ) (X:f399=some true) (f:FSt):f392 f=some true:=by obtain⟨r,H,I⟩:=c398 f;refine e392 ?_;rw[H,aI];cases r with
 |false=>rw[cond_pos (by rfl),X,aI]
 |true=>
  have z:=I rfl;obtain⟨L,S,B,D,q,_⟩:=Qn z.can z.lt af K;have G:=q.len;have w:∀p∈L,Sm p:=λp l=>by obtain⟨P,N,F⟩:=q.cov;have:=(F p l).le;exact(q.can p l).sm af af
  rw[cond_neg (by rfl),B,aI,D,aI,c402 af w,aI,cond_pos (by rfl),X,aI]
