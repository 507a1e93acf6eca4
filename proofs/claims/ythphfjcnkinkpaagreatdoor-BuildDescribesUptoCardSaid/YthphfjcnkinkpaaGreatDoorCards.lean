/-
  DERIVED. GIVEN WITH THE SEED: THE CARDS: each row of YthphfjcnkinkpaaGreatDoorRows.lean that lists a variable, with what it lists TIED to the program's text (the seventh form; the later family's looks); each row that meets fmt, with fmt's text TOLD by the authors' own Lean function (tested against real Go, not proved from fmt's source: count such statements apart). THE CARD IS WHAT COUNTS. Prove the row's statement (the work); the ties are given (YthphfjcnkinkpaaGreatDoorTie.lean); close each card by the builder's one call (the guide's Derived/Test/ToyasCard.lean, 'card_holds'). Laid BY PROGRAM, IN A SANDBOX (cutbox-door.mjs). By AI agents, Wed Nov 11 2026. No macro, syntax, notation, axiom, sorry.
-/
import Derived.Test.YthphfjcnkinkpaaGreatDoorRows
import GoSem.ClaimSeven
namespace Go.Proofs.YthphfjcnkinkpaaGreatDoor
namespace Rows

/-- THE TIED CARD OF 'grammarlablaw20.BuildLists'. -/
def buildListsCard : Claim7 := { stood := { row := buildListsRow, standIns := [], harness := (true, "5436f487809393efa408b7ec3c0947ec63039536a2478924d772444fb5bb5000"), looks := false }, kinds := [], alts := [], laidByText := true, laidKinds := [.data, .data, .data], laidTests := true, laidLooks := .later }
def BuildListsCardSaid : Prop := Claim7.holds Tryz.pinned (.plain (OpenSpec.ofChange buildListsSpec)) buildListsCard

/-- THE TIED CARD OF 'grammarlablaw20.BuildDescribes'. -/
def buildDescribesCard : Claim7 := { stood := { row := buildDescribesRow, standIns := [], harness := (true, "5436f487809393efa408b7ec3c0947ec63039536a2478924d772444fb5bb5000"), looks := false }, kinds := [], alts := [], laidByText := true, laidKinds := [.data, .data, .data], laidTests := true, laidLooks := .later }
def BuildDescribesCardSaid : Prop := Claim7.holds Tryz.pinned (.plain (OpenSpec.ofChange buildDescribesSpec)) buildDescribesCard

/-- THE SECOND FORM's CARD OF 'grammarlablaw20.BuildLists'. -/
def buildListsUptoCard : Claim7 := { stood := { row := buildListsUptoRow, standIns := [], harness := (true, "5436f487809393efa408b7ec3c0947ec63039536a2478924d772444fb5bb5000"), looks := false }, kinds := [], alts := [], laidByText := true, laidKinds := [.data, .data, .data], laidTests := true, laidLooks := .later }
def BuildListsUptoCardSaid : Prop := Claim7.holds Tryz.pinned (.plain (OpenSpec.upto buildListsSpec)) buildListsUptoCard

/-- THE SECOND FORM's CARD OF 'grammarlablaw20.BuildDescribes'. -/
def buildDescribesUptoCard : Claim7 := { stood := { row := buildDescribesUptoRow, standIns := [], harness := (true, "5436f487809393efa408b7ec3c0947ec63039536a2478924d772444fb5bb5000"), looks := false }, kinds := [], alts := [], laidByText := true, laidKinds := [.data, .data, .data], laidTests := true, laidLooks := .later }
def BuildDescribesUptoCardSaid : Prop := Claim7.holds Tryz.pinned (.plain (OpenSpec.upto buildDescribesSpec)) buildDescribesUptoCard
end Rows
end Go.Proofs.YthphfjcnkinkpaaGreatDoor
