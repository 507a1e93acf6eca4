/-
  DERIVED. GIVEN WITH THE SEED: THE CARDS: each row of YtbnlhmaaccgbjaaGreatDoorRows.lean that lists a variable, with what it lists TIED to the program's text (the seventh form; the later family's looks); each row that meets fmt, with fmt's text TOLD by the authors' own Lean function (tested against real Go, not proved from fmt's source: count such statements apart). THE CARD IS WHAT COUNTS. Prove the row's statement (the work); the ties are given (YtbnlhmaaccgbjaaGreatDoorTie.lean); close each card by the builder's one call (the guide's Derived/Test/ToyasCard.lean, 'card_holds'). Laid BY PROGRAM, IN A SANDBOX (cutbox-door.mjs). By AI agents, Wed Nov 11 2026. No macro, syntax, notation, axiom, sorry.
-/
import Derived.Test.YtbnlhmaaccgbjaaGreatDoorRows
import GoSem.ClaimSeven
namespace Go.Proofs.YtbnlhmaaccgbjaaGreatDoor
namespace Rows

/-- THE TIED CARD OF 'grammarlablaw20.BuildOrders'. -/
def buildOrdersCard : Claim7 := { stood := { row := buildOrdersRow, standIns := [], harness := (true, "3ba9f2aa44873a19c7e695d943a1c0070c97005672e305c6a8d583777fe70006"), looks := false }, kinds := [], alts := [], laidByText := true, laidKinds := [.data, .data, .data], laidTests := true, laidLooks := .later }
def BuildOrdersCardSaid : Prop := Claim7.holds Tryz.pinned (.plain (OpenSpec.ofChange buildOrdersSpec)) buildOrdersCard

/-- THE TIED CARD OF 'grammarlablaw20.BuildUnifies'. -/
def buildUnifiesCard : Claim7 := { stood := { row := buildUnifiesRow, standIns := [], harness := (true, "3ba9f2aa44873a19c7e695d943a1c0070c97005672e305c6a8d583777fe70006"), looks := false }, kinds := [], alts := [], laidByText := true, laidKinds := [.data, .data, .data], laidTests := true, laidLooks := .later }
def BuildUnifiesCardSaid : Prop := Claim7.holds Tryz.pinned (.plain (OpenSpec.ofChange buildUnifiesSpec)) buildUnifiesCard

/-- THE SECOND FORM's CARD OF 'grammarlablaw20.BuildOrders'. -/
def buildOrdersUptoCard : Claim7 := { stood := { row := buildOrdersUptoRow, standIns := [], harness := (true, "3ba9f2aa44873a19c7e695d943a1c0070c97005672e305c6a8d583777fe70006"), looks := false }, kinds := [], alts := [], laidByText := true, laidKinds := [.data, .data, .data], laidTests := true, laidLooks := .later }
def BuildOrdersUptoCardSaid : Prop := Claim7.holds Tryz.pinned (.plain (OpenSpec.upto buildOrdersSpec)) buildOrdersUptoCard

/-- THE SECOND FORM's CARD OF 'grammarlablaw20.BuildUnifies'. -/
def buildUnifiesUptoCard : Claim7 := { stood := { row := buildUnifiesUptoRow, standIns := [], harness := (true, "3ba9f2aa44873a19c7e695d943a1c0070c97005672e305c6a8d583777fe70006"), looks := false }, kinds := [], alts := [], laidByText := true, laidKinds := [.data, .data, .data], laidTests := true, laidLooks := .later }
def BuildUnifiesUptoCardSaid : Prop := Claim7.holds Tryz.pinned (.plain (OpenSpec.upto buildUnifiesSpec)) buildUnifiesUptoCard
end Rows
end Go.Proofs.YtbnlhmaaccgbjaaGreatDoor
