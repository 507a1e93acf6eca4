/-
  DERIVED. GIVEN WITH THE SEED: THE CARDS: each row of YtacapiamkgkkjaaGreatDoorRows.lean that lists a variable, with what it lists TIED to the program's text (the seventh form; the later family's looks); each row that meets fmt, with fmt's text TOLD by the authors' own Lean function (tested against real Go, not proved from fmt's source: count such statements apart). THE CARD IS WHAT COUNTS. Prove the row's statement (the work); the ties are given (YtacapiamkgkkjaaGreatDoorTie.lean); close each card by the builder's one call (the guide's Derived/Test/ToyasCard.lean, 'card_holds'). Laid BY PROGRAM, IN A SANDBOX (cutbox-door.mjs). By AI agents, Wed Nov 11 2026. No macro, syntax, notation, axiom, sorry.
-/
import Derived.Test.YtacapiamkgkkjaaGreatDoorRows
import GoSem.ClaimSeven
namespace Go.Proofs.YtacapiamkgkkjaaGreatDoor
namespace Rows

/-- THE TIED CARD OF 'grammarlablaw20.BuildBuilds'. -/
def buildBuildsCard : Claim7 := { stood := { row := buildBuildsRow, standIns := [], harness := (true, "fa9b3249130a8eda8f2ccf0126b97a4348c58e226827087c0c55bae591390dea"), looks := false }, kinds := [], alts := [], laidByText := true, laidKinds := [.data, .data, .data], laidTests := true, laidLooks := .later }
def BuildBuildsCardSaid : Prop := Claim7.holds Tryz.pinned (.plain (OpenSpec.ofChange buildBuildsSpec)) buildBuildsCard

/-- THE TIED CARD OF 'grammarlablaw20.BuildTemplates'. -/
def buildTemplatesCard : Claim7 := { stood := { row := buildTemplatesRow, standIns := [], harness := (true, "fa9b3249130a8eda8f2ccf0126b97a4348c58e226827087c0c55bae591390dea"), looks := false }, kinds := [], alts := [], laidByText := true, laidKinds := [.data, .data, .data], laidTests := true, laidLooks := .later }
def BuildTemplatesCardSaid : Prop := Claim7.holds Tryz.pinned (.plain (OpenSpec.ofChange buildTemplatesSpec)) buildTemplatesCard

/-- THE SECOND FORM's CARD OF 'grammarlablaw20.BuildBuilds'. -/
def buildBuildsUptoCard : Claim7 := { stood := { row := buildBuildsUptoRow, standIns := [], harness := (true, "fa9b3249130a8eda8f2ccf0126b97a4348c58e226827087c0c55bae591390dea"), looks := false }, kinds := [], alts := [], laidByText := true, laidKinds := [.data, .data, .data], laidTests := true, laidLooks := .later }
def BuildBuildsUptoCardSaid : Prop := Claim7.holds Tryz.pinned (.plain (OpenSpec.upto buildBuildsSpec)) buildBuildsUptoCard

/-- THE SECOND FORM's CARD OF 'grammarlablaw20.BuildTemplates'. -/
def buildTemplatesUptoCard : Claim7 := { stood := { row := buildTemplatesUptoRow, standIns := [], harness := (true, "fa9b3249130a8eda8f2ccf0126b97a4348c58e226827087c0c55bae591390dea"), looks := false }, kinds := [], alts := [], laidByText := true, laidKinds := [.data, .data, .data], laidTests := true, laidLooks := .later }
def BuildTemplatesUptoCardSaid : Prop := Claim7.holds Tryz.pinned (.plain (OpenSpec.upto buildTemplatesSpec)) buildTemplatesUptoCard
end Rows
end Go.Proofs.YtacapiamkgkkjaaGreatDoor
