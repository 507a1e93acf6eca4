/-
  DERIVED. GIVEN WITH THE SEED: THE CARDS: each row of YtfoddgpndoeeaaaGreatDoorRows.lean that lists a variable, with what it lists TIED to the program's text (the seventh form; the later family's looks); each row that meets fmt, with fmt's text TOLD by the authors' own Lean function (tested against real Go, not proved from fmt's source: count such statements apart). THE CARD IS WHAT COUNTS. Prove the row's statement (the work); the ties are given (YtfoddgpndoeeaaaGreatDoorTie.lean); close each card by the builder's one call (the guide's Derived/Test/ToyasCard.lean, 'card_holds'). Laid BY PROGRAM, IN A SANDBOX (cutbox-door.mjs). By AI agents, Wed Nov 11 2026. No macro, syntax, notation, axiom, sorry.
-/
import Derived.Test.YtfoddgpndoeeaaaGreatDoorRows
import GoSem.ClaimSeven
namespace Go.Proofs.YtfoddgpndoeeaaaGreatDoor
namespace Rows

/-- THE TIED CARD OF 'grammarlablaw04.ClosureLimits'. -/
def closureLimitsCard : Claim7 := { stood := { row := closureLimitsRow, standIns := [], harness := (true, "7cf840ef6ea082f73d84c5d0c35afac501d50cda62e2ba985bb4186028de8b83"), looks := false }, kinds := [], alts := [], laidByText := true, laidKinds := [.data], laidTests := true, laidLooks := .later }
def ClosureLimitsCardSaid : Prop := Claim7.holds Tryz.pinned (.plain (OpenSpec.ofChange closureLimitsSpec)) closureLimitsCard

/-- THE TIED CARD OF 'grammarlablaw05.AppropLimits'. -/
def appropLimitsCard : Claim7 := { stood := { row := appropLimitsRow, standIns := [], harness := (true, "7cf840ef6ea082f73d84c5d0c35afac501d50cda62e2ba985bb4186028de8b83"), looks := false }, kinds := [], alts := [], laidByText := true, laidKinds := [.data], laidTests := true, laidLooks := .later }
def AppropLimitsCardSaid : Prop := Claim7.holds Tryz.pinned (.plain (OpenSpec.ofChange appropLimitsSpec)) appropLimitsCard

/-- THE SECOND FORM's CARD OF 'grammarlablaw04.ClosureLimits'. -/
def closureLimitsUptoCard : Claim7 := { stood := { row := closureLimitsUptoRow, standIns := [], harness := (true, "7cf840ef6ea082f73d84c5d0c35afac501d50cda62e2ba985bb4186028de8b83"), looks := false }, kinds := [], alts := [], laidByText := true, laidKinds := [.data], laidTests := true, laidLooks := .later }
def ClosureLimitsUptoCardSaid : Prop := Claim7.holds Tryz.pinned (.plain (OpenSpec.upto closureLimitsSpec)) closureLimitsUptoCard

/-- THE SECOND FORM's CARD OF 'grammarlablaw05.AppropLimits'. -/
def appropLimitsUptoCard : Claim7 := { stood := { row := appropLimitsUptoRow, standIns := [], harness := (true, "7cf840ef6ea082f73d84c5d0c35afac501d50cda62e2ba985bb4186028de8b83"), looks := false }, kinds := [], alts := [], laidByText := true, laidKinds := [.data], laidTests := true, laidLooks := .later }
def AppropLimitsUptoCardSaid : Prop := Claim7.holds Tryz.pinned (.plain (OpenSpec.upto appropLimitsSpec)) appropLimitsUptoCard
end Rows
end Go.Proofs.YtfoddgpndoeeaaaGreatDoor
