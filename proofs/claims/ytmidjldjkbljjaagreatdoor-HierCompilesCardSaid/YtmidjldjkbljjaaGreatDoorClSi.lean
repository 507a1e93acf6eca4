/- Layer 6. -/
import Derived.Test.YtmidjldjkbljjaaGreatDoorClSh
set_option linter.unusedVariables false
set_option linter.unusedSimpArgs false
set_option linter.unusedSectionVars false
namespace Go.Proofs.YtmidjldjkbljjaaGreatDoor.cl
open Go Go.AM
theorem DW {d:List af}:tP d=0↔uT d=false∧kD [] d=0∧kZ (cO d) d=0∧kQ d=1∧qK d:=by
 unfold tP;constructor
 ·intro h
  split at h
  ·cases h
  split at h
  ·rename_i h1;exact absurd h h1
  split at h
  ·rename_i h1;exact absurd h h1
  split at h
  ·cases h
  split at h
  ·rename_i h0 h1 h2 h3 h4
   exact ⟨by simpa using h0,Classical.byContradiction h1,Classical.byContradiction h2,Classical.byContradiction h3,h4⟩
  ·cases h
 ·rintro ⟨a,b,c,e,f⟩
  rw [if_neg (by simp [a]),if_neg (fun h=>h b),if_neg (fun h=>h c),if_neg (fun h=>h e),if_pos f]
end Go.Proofs.YtmidjldjkbljjaaGreatDoor.cl
