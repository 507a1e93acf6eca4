/-
  DERIVED. GIVEN WITH THE SEED: THE CARDS: each row of YtmidjldjkbljjaaGreatDoorRows.lean that lists a variable, with what it lists TIED to the program's text (the seventh form; the later family's looks); each row that meets fmt, with fmt's text TOLD by the authors' own Lean function (tested against real Go, not proved from fmt's source: count such statements apart). THE CARD IS WHAT COUNTS. Prove the row's statement (the work); the ties are given (YtmidjldjkbljjaaGreatDoorTie.lean); close each card by the builder's one call (the guide's Derived/Test/ToyasCard.lean, 'card_holds'). Laid BY PROGRAM, IN A SANDBOX (cutbox-door.mjs). By AI agents, Wed Nov 11 2026. No macro, syntax, notation, axiom, sorry.
-/
import Derived.Test.YtmidjldjkbljjaaGreatDoorRows
import GoSem.ClaimSeven
namespace Go.Proofs.YtmidjldjkbljjaaGreatDoor
namespace Rows

/-- THE TIED CARD OF 'grammarlablaw05.AppropChecks'. -/
def appropChecksCard : Claim7 := { stood := { row := appropChecksRow, standIns := [], harness := (true, "519da4d4b7b542f9b40043f9644c30aa958888bd43a1735a71d294620d979ae7"), looks := false }, kinds := [], alts := [], laidByText := true, laidKinds := [.data], laidTests := true, laidLooks := .later }
def AppropChecksCardSaid : Prop := Claim7.holds Tryz.pinned (.plain (OpenSpec.ofChange appropChecksSpec)) appropChecksCard

/-- THE TIED CARD OF 'grammarlablaw05.AppropFeatures'. -/
def appropFeaturesCard : Claim7 := { stood := { row := appropFeaturesRow, standIns := [], harness := (true, "519da4d4b7b542f9b40043f9644c30aa958888bd43a1735a71d294620d979ae7"), looks := false }, kinds := [], alts := [], laidByText := true, laidKinds := [.data], laidTests := true, laidLooks := .later }
def AppropFeaturesCardSaid : Prop := Claim7.holds Tryz.pinned (.plain (OpenSpec.ofChange appropFeaturesSpec)) appropFeaturesCard

/-- THE TIED CARD OF 'grammarlablaw05.AppropValues'. -/
def appropValuesCard : Claim7 := { stood := { row := appropValuesRow, standIns := [], harness := (true, "519da4d4b7b542f9b40043f9644c30aa958888bd43a1735a71d294620d979ae7"), looks := false }, kinds := [], alts := [], laidByText := true, laidKinds := [.data], laidTests := true, laidLooks := .later }
def AppropValuesCardSaid : Prop := Claim7.holds Tryz.pinned (.plain (OpenSpec.ofChange appropValuesSpec)) appropValuesCard

/-- THE TIED CARD OF 'grammarlablaw05.AppropAcyclic'. -/
def appropAcyclicCard : Claim7 := { stood := { row := appropAcyclicRow, standIns := [], harness := (true, "519da4d4b7b542f9b40043f9644c30aa958888bd43a1735a71d294620d979ae7"), looks := false }, kinds := [], alts := [], laidByText := true, laidKinds := [.data], laidTests := true, laidLooks := .later }
def AppropAcyclicCardSaid : Prop := Claim7.holds Tryz.pinned (.plain (OpenSpec.ofChange appropAcyclicSpec)) appropAcyclicCard

/-- THE TIED CARD OF 'grammarlablaw05.AppropInherits'. -/
def appropInheritsCard : Claim7 := { stood := { row := appropInheritsRow, standIns := [], harness := (true, "519da4d4b7b542f9b40043f9644c30aa958888bd43a1735a71d294620d979ae7"), looks := false }, kinds := [], alts := [], laidByText := true, laidKinds := [.data], laidTests := true, laidLooks := .later }
def AppropInheritsCardSaid : Prop := Claim7.holds Tryz.pinned (.plain (OpenSpec.ofChange appropInheritsSpec)) appropInheritsCard

/-- THE TIED CARD OF 'grammarlablaw05.AppropDeclares'. -/
def appropDeclaresCard : Claim7 := { stood := { row := appropDeclaresRow, standIns := [], harness := (true, "519da4d4b7b542f9b40043f9644c30aa958888bd43a1735a71d294620d979ae7"), looks := false }, kinds := [], alts := [], laidByText := true, laidKinds := [.data], laidTests := true, laidLooks := .later }
def AppropDeclaresCardSaid : Prop := Claim7.holds Tryz.pinned (.plain (OpenSpec.ofChange appropDeclaresSpec)) appropDeclaresCard

/-- THE TIED CARD OF 'grammarlablaw05.AppropPlain'. -/
def appropPlainCard : Claim7 := { stood := { row := appropPlainRow, standIns := [], harness := (true, "519da4d4b7b542f9b40043f9644c30aa958888bd43a1735a71d294620d979ae7"), looks := false }, kinds := [], alts := [], laidByText := true, laidKinds := [.data], laidTests := true, laidLooks := .later }
def AppropPlainCardSaid : Prop := Claim7.holds Tryz.pinned (.plain (OpenSpec.ofChange appropPlainSpec)) appropPlainCard

/-- THE TIED CARD OF 'grammarlablaw05.AppropLimits'. -/
def appropLimitsCard : Claim7 := { stood := { row := appropLimitsRow, standIns := [], harness := (true, "519da4d4b7b542f9b40043f9644c30aa958888bd43a1735a71d294620d979ae7"), looks := false }, kinds := [], alts := [], laidByText := true, laidKinds := [.data], laidTests := true, laidLooks := .later }
def AppropLimitsCardSaid : Prop := Claim7.holds Tryz.pinned (.plain (OpenSpec.ofChange appropLimitsSpec)) appropLimitsCard

/-- THE TIED CARD OF 'grammarlablaw06.HierPrelude'. -/
def hierPreludeCard : Claim7 := { stood := { row := hierPreludeRow, standIns := [], harness := (true, "519da4d4b7b542f9b40043f9644c30aa958888bd43a1735a71d294620d979ae7"), looks := false }, kinds := [], alts := [], laidByText := true, laidKinds := [.data], laidTests := true, laidLooks := .later }
def HierPreludeCardSaid : Prop := Claim7.holds Tryz.pinned (.plain (OpenSpec.ofChange hierPreludeSpec)) hierPreludeCard

/-- THE TIED CARD OF 'grammarlablaw06.HierCompiles'. -/
def hierCompilesCard : Claim7 := { stood := { row := hierCompilesRow, standIns := [], harness := (true, "519da4d4b7b542f9b40043f9644c30aa958888bd43a1735a71d294620d979ae7"), looks := false }, kinds := [], alts := [], laidByText := true, laidKinds := [.data], laidTests := true, laidLooks := .later }
def HierCompilesCardSaid : Prop := Claim7.holds Tryz.pinned (.plain (OpenSpec.ofChange hierCompilesSpec)) hierCompilesCard

/-- THE TIED CARD OF 'grammarlablaw06.HierFinds'. -/
def hierFindsCard : Claim7 := { stood := { row := hierFindsRow, standIns := [], harness := (true, "519da4d4b7b542f9b40043f9644c30aa958888bd43a1735a71d294620d979ae7"), looks := false }, kinds := [], alts := [], laidByText := true, laidKinds := [.data], laidTests := true, laidLooks := .later }
def HierFindsCardSaid : Prop := Claim7.holds Tryz.pinned (.plain (OpenSpec.ofChange hierFindsSpec)) hierFindsCard

/-- THE TIED CARD OF 'grammarlablaw06.HierRelations'. -/
def hierRelationsCard : Claim7 := { stood := { row := hierRelationsRow, standIns := [], harness := (true, "519da4d4b7b542f9b40043f9644c30aa958888bd43a1735a71d294620d979ae7"), looks := false }, kinds := [], alts := [], laidByText := true, laidKinds := [.data], laidTests := true, laidLooks := .later }
def HierRelationsCardSaid : Prop := Claim7.holds Tryz.pinned (.plain (OpenSpec.ofChange hierRelationsSpec)) hierRelationsCard

/-- THE TIED CARD OF 'grammarlablaw06.HierValues'. -/
def hierValuesCard : Claim7 := { stood := { row := hierValuesRow, standIns := [], harness := (true, "519da4d4b7b542f9b40043f9644c30aa958888bd43a1735a71d294620d979ae7"), looks := false }, kinds := [], alts := [], laidByText := true, laidKinds := [.data], laidTests := true, laidLooks := .later }
def HierValuesCardSaid : Prop := Claim7.holds Tryz.pinned (.plain (OpenSpec.ofChange hierValuesSpec)) hierValuesCard

/-- THE TIED CARD OF 'grammarlablaw06.HierInherits'. -/
def hierInheritsCard : Claim7 := { stood := { row := hierInheritsRow, standIns := [], harness := (true, "519da4d4b7b542f9b40043f9644c30aa958888bd43a1735a71d294620d979ae7"), looks := false }, kinds := [], alts := [], laidByText := true, laidKinds := [.data], laidTests := true, laidLooks := .later }
def HierInheritsCardSaid : Prop := Claim7.holds Tryz.pinned (.plain (OpenSpec.ofChange hierInheritsSpec)) hierInheritsCard

/-- THE TIED CARD OF 'grammarlablaw06.HierTurns'. -/
def hierTurnsCard : Claim7 := { stood := { row := hierTurnsRow, standIns := [], harness := (true, "519da4d4b7b542f9b40043f9644c30aa958888bd43a1735a71d294620d979ae7"), looks := false }, kinds := [], alts := [], laidByText := true, laidKinds := [.data], laidTests := true, laidLooks := .later }
def HierTurnsCardSaid : Prop := Claim7.holds Tryz.pinned (.plain (OpenSpec.ofChange hierTurnsSpec)) hierTurnsCard

/-- THE TIED CARD OF 'grammarlablaw06.HierCodes'. -/
def hierCodesCard : Claim7 := { stood := { row := hierCodesRow, standIns := [], harness := (true, "519da4d4b7b542f9b40043f9644c30aa958888bd43a1735a71d294620d979ae7"), looks := false }, kinds := [], alts := [], laidByText := true, laidKinds := [.data], laidTests := true, laidLooks := .later }
def HierCodesCardSaid : Prop := Claim7.holds Tryz.pinned (.plain (OpenSpec.ofChange hierCodesSpec)) hierCodesCard

/-- THE SECOND FORM's CARD OF 'grammarlablaw05.AppropChecks'. -/
def appropChecksUptoCard : Claim7 := { stood := { row := appropChecksUptoRow, standIns := [], harness := (true, "519da4d4b7b542f9b40043f9644c30aa958888bd43a1735a71d294620d979ae7"), looks := false }, kinds := [], alts := [], laidByText := true, laidKinds := [.data], laidTests := true, laidLooks := .later }
def AppropChecksUptoCardSaid : Prop := Claim7.holds Tryz.pinned (.plain (OpenSpec.upto appropChecksSpec)) appropChecksUptoCard

/-- THE SECOND FORM's CARD OF 'grammarlablaw05.AppropFeatures'. -/
def appropFeaturesUptoCard : Claim7 := { stood := { row := appropFeaturesUptoRow, standIns := [], harness := (true, "519da4d4b7b542f9b40043f9644c30aa958888bd43a1735a71d294620d979ae7"), looks := false }, kinds := [], alts := [], laidByText := true, laidKinds := [.data], laidTests := true, laidLooks := .later }
def AppropFeaturesUptoCardSaid : Prop := Claim7.holds Tryz.pinned (.plain (OpenSpec.upto appropFeaturesSpec)) appropFeaturesUptoCard

/-- THE SECOND FORM's CARD OF 'grammarlablaw05.AppropValues'. -/
def appropValuesUptoCard : Claim7 := { stood := { row := appropValuesUptoRow, standIns := [], harness := (true, "519da4d4b7b542f9b40043f9644c30aa958888bd43a1735a71d294620d979ae7"), looks := false }, kinds := [], alts := [], laidByText := true, laidKinds := [.data], laidTests := true, laidLooks := .later }
def AppropValuesUptoCardSaid : Prop := Claim7.holds Tryz.pinned (.plain (OpenSpec.upto appropValuesSpec)) appropValuesUptoCard

/-- THE SECOND FORM's CARD OF 'grammarlablaw05.AppropAcyclic'. -/
def appropAcyclicUptoCard : Claim7 := { stood := { row := appropAcyclicUptoRow, standIns := [], harness := (true, "519da4d4b7b542f9b40043f9644c30aa958888bd43a1735a71d294620d979ae7"), looks := false }, kinds := [], alts := [], laidByText := true, laidKinds := [.data], laidTests := true, laidLooks := .later }
def AppropAcyclicUptoCardSaid : Prop := Claim7.holds Tryz.pinned (.plain (OpenSpec.upto appropAcyclicSpec)) appropAcyclicUptoCard

/-- THE SECOND FORM's CARD OF 'grammarlablaw05.AppropInherits'. -/
def appropInheritsUptoCard : Claim7 := { stood := { row := appropInheritsUptoRow, standIns := [], harness := (true, "519da4d4b7b542f9b40043f9644c30aa958888bd43a1735a71d294620d979ae7"), looks := false }, kinds := [], alts := [], laidByText := true, laidKinds := [.data], laidTests := true, laidLooks := .later }
def AppropInheritsUptoCardSaid : Prop := Claim7.holds Tryz.pinned (.plain (OpenSpec.upto appropInheritsSpec)) appropInheritsUptoCard

/-- THE SECOND FORM's CARD OF 'grammarlablaw05.AppropDeclares'. -/
def appropDeclaresUptoCard : Claim7 := { stood := { row := appropDeclaresUptoRow, standIns := [], harness := (true, "519da4d4b7b542f9b40043f9644c30aa958888bd43a1735a71d294620d979ae7"), looks := false }, kinds := [], alts := [], laidByText := true, laidKinds := [.data], laidTests := true, laidLooks := .later }
def AppropDeclaresUptoCardSaid : Prop := Claim7.holds Tryz.pinned (.plain (OpenSpec.upto appropDeclaresSpec)) appropDeclaresUptoCard

/-- THE SECOND FORM's CARD OF 'grammarlablaw05.AppropPlain'. -/
def appropPlainUptoCard : Claim7 := { stood := { row := appropPlainUptoRow, standIns := [], harness := (true, "519da4d4b7b542f9b40043f9644c30aa958888bd43a1735a71d294620d979ae7"), looks := false }, kinds := [], alts := [], laidByText := true, laidKinds := [.data], laidTests := true, laidLooks := .later }
def AppropPlainUptoCardSaid : Prop := Claim7.holds Tryz.pinned (.plain (OpenSpec.upto appropPlainSpec)) appropPlainUptoCard

/-- THE SECOND FORM's CARD OF 'grammarlablaw05.AppropLimits'. -/
def appropLimitsUptoCard : Claim7 := { stood := { row := appropLimitsUptoRow, standIns := [], harness := (true, "519da4d4b7b542f9b40043f9644c30aa958888bd43a1735a71d294620d979ae7"), looks := false }, kinds := [], alts := [], laidByText := true, laidKinds := [.data], laidTests := true, laidLooks := .later }
def AppropLimitsUptoCardSaid : Prop := Claim7.holds Tryz.pinned (.plain (OpenSpec.upto appropLimitsSpec)) appropLimitsUptoCard

/-- THE SECOND FORM's CARD OF 'grammarlablaw06.HierPrelude'. -/
def hierPreludeUptoCard : Claim7 := { stood := { row := hierPreludeUptoRow, standIns := [], harness := (true, "519da4d4b7b542f9b40043f9644c30aa958888bd43a1735a71d294620d979ae7"), looks := false }, kinds := [], alts := [], laidByText := true, laidKinds := [.data], laidTests := true, laidLooks := .later }
def HierPreludeUptoCardSaid : Prop := Claim7.holds Tryz.pinned (.plain (OpenSpec.upto hierPreludeSpec)) hierPreludeUptoCard

/-- THE SECOND FORM's CARD OF 'grammarlablaw06.HierCompiles'. -/
def hierCompilesUptoCard : Claim7 := { stood := { row := hierCompilesUptoRow, standIns := [], harness := (true, "519da4d4b7b542f9b40043f9644c30aa958888bd43a1735a71d294620d979ae7"), looks := false }, kinds := [], alts := [], laidByText := true, laidKinds := [.data], laidTests := true, laidLooks := .later }
def HierCompilesUptoCardSaid : Prop := Claim7.holds Tryz.pinned (.plain (OpenSpec.upto hierCompilesSpec)) hierCompilesUptoCard

/-- THE SECOND FORM's CARD OF 'grammarlablaw06.HierFinds'. -/
def hierFindsUptoCard : Claim7 := { stood := { row := hierFindsUptoRow, standIns := [], harness := (true, "519da4d4b7b542f9b40043f9644c30aa958888bd43a1735a71d294620d979ae7"), looks := false }, kinds := [], alts := [], laidByText := true, laidKinds := [.data], laidTests := true, laidLooks := .later }
def HierFindsUptoCardSaid : Prop := Claim7.holds Tryz.pinned (.plain (OpenSpec.upto hierFindsSpec)) hierFindsUptoCard

/-- THE SECOND FORM's CARD OF 'grammarlablaw06.HierRelations'. -/
def hierRelationsUptoCard : Claim7 := { stood := { row := hierRelationsUptoRow, standIns := [], harness := (true, "519da4d4b7b542f9b40043f9644c30aa958888bd43a1735a71d294620d979ae7"), looks := false }, kinds := [], alts := [], laidByText := true, laidKinds := [.data], laidTests := true, laidLooks := .later }
def HierRelationsUptoCardSaid : Prop := Claim7.holds Tryz.pinned (.plain (OpenSpec.upto hierRelationsSpec)) hierRelationsUptoCard

/-- THE SECOND FORM's CARD OF 'grammarlablaw06.HierValues'. -/
def hierValuesUptoCard : Claim7 := { stood := { row := hierValuesUptoRow, standIns := [], harness := (true, "519da4d4b7b542f9b40043f9644c30aa958888bd43a1735a71d294620d979ae7"), looks := false }, kinds := [], alts := [], laidByText := true, laidKinds := [.data], laidTests := true, laidLooks := .later }
def HierValuesUptoCardSaid : Prop := Claim7.holds Tryz.pinned (.plain (OpenSpec.upto hierValuesSpec)) hierValuesUptoCard

/-- THE SECOND FORM's CARD OF 'grammarlablaw06.HierInherits'. -/
def hierInheritsUptoCard : Claim7 := { stood := { row := hierInheritsUptoRow, standIns := [], harness := (true, "519da4d4b7b542f9b40043f9644c30aa958888bd43a1735a71d294620d979ae7"), looks := false }, kinds := [], alts := [], laidByText := true, laidKinds := [.data], laidTests := true, laidLooks := .later }
def HierInheritsUptoCardSaid : Prop := Claim7.holds Tryz.pinned (.plain (OpenSpec.upto hierInheritsSpec)) hierInheritsUptoCard

/-- THE SECOND FORM's CARD OF 'grammarlablaw06.HierTurns'. -/
def hierTurnsUptoCard : Claim7 := { stood := { row := hierTurnsUptoRow, standIns := [], harness := (true, "519da4d4b7b542f9b40043f9644c30aa958888bd43a1735a71d294620d979ae7"), looks := false }, kinds := [], alts := [], laidByText := true, laidKinds := [.data], laidTests := true, laidLooks := .later }
def HierTurnsUptoCardSaid : Prop := Claim7.holds Tryz.pinned (.plain (OpenSpec.upto hierTurnsSpec)) hierTurnsUptoCard

/-- THE SECOND FORM's CARD OF 'grammarlablaw06.HierCodes'. -/
def hierCodesUptoCard : Claim7 := { stood := { row := hierCodesUptoRow, standIns := [], harness := (true, "519da4d4b7b542f9b40043f9644c30aa958888bd43a1735a71d294620d979ae7"), looks := false }, kinds := [], alts := [], laidByText := true, laidKinds := [.data], laidTests := true, laidLooks := .later }
def HierCodesUptoCardSaid : Prop := Claim7.holds Tryz.pinned (.plain (OpenSpec.upto hierCodesSpec)) hierCodesUptoCard
end Rows
end Go.Proofs.YtmidjldjkbljjaaGreatDoor
