/- Layer 6. -/
import Derived.Test.YtmidjldjkbljjaaGreatDoorClSh
set_option linter.unusedVariables false
set_option linter.unusedSimpArgs false
set_option linter.unusedSectionVars false
namespace Go.Proofs.YtmidjldjkbljjaaGreatDoor.cl
open Go Go.AM
theorem MR {d:List af}:ql d=0↔zh d=false∧ko [] d=0∧kN (cK d) d=0∧mA d=1∧qh d:=by
 unfold ql;constructor
 ·intro h
  split at h
  ·cases h
  split at h
  ·rename_i h1;exact absurd h h1
  split at h
  ·rename_i h1;exact absurd h h1
  split at h
  ·cases h
  split at h
  ·rename_i h0 h1 h2 h3 h4
   exact ⟨by simpa using h0,Classical.byContradiction h1,Classical.byContradiction h2,Classical.byContradiction h3,h4⟩
  ·cases h
 ·rintro ⟨a,b,c,e,f⟩
  rw [if_neg (by simp [a]),if_neg (fun h=>h b),if_neg (fun h=>h c),if_neg (fun h=>h e),if_pos f]
end Go.Proofs.YtmidjldjkbljjaaGreatDoor.cl
