/-
  DERIVED. GIVEN WITH THE SEED: THE CARDS: each row of YthppjmoncapdfaaGreatDoorRows.lean that lists a variable, with what it lists TIED to the program's text (the seventh form; the later family's looks); each row that meets fmt, with fmt's text TOLD by the authors' own Lean function (tested against real Go, not proved from fmt's source: count such statements apart). THE CARD IS WHAT COUNTS. Prove the row's statement (the work); the ties are given (YthppjmoncapdfaaGreatDoorTie.lean); close each card by the builder's one call (the guide's Derived/Test/ToyasCard.lean, 'card_holds'). Laid BY PROGRAM, IN A SANDBOX (cutbox-door.mjs). By AI agents, Wed Nov 11 2026. No macro, syntax, notation, axiom, sorry.
-/
import Derived.Test.YthppjmoncapdfaaGreatDoorRows
import GoSem.ClaimSeven
namespace Go.Proofs.YthppjmoncapdfaaGreatDoor
namespace Rows

/-- THE TIED CARD OF 'grammarlablaw18.PreferParts'. -/
def preferPartsCard : Claim7 := { stood := { row := preferPartsRow, standIns := [], harness := (true, "440d594ada9527e7261229d37d7900f7b795f38a45a9e0821c9aec7e1d7ee0da"), looks := false }, kinds := [], alts := [], laidByText := true, laidKinds := [.data, .data, .data], laidTests := true, laidLooks := .later }
def PreferPartsCardSaid : Prop := Claim7.holds Tryz.pinned (.plain (OpenSpec.ofChange preferPartsSpec)) preferPartsCard

/-- THE TIED CARD OF 'grammarlablaw18.PreferCombines'. -/
def preferCombinesCard : Claim7 := { stood := { row := preferCombinesRow, standIns := [], harness := (true, "440d594ada9527e7261229d37d7900f7b795f38a45a9e0821c9aec7e1d7ee0da"), looks := false }, kinds := [], alts := [], laidByText := true, laidKinds := [.data, .data, .data], laidTests := true, laidLooks := .later }
def PreferCombinesCardSaid : Prop := Claim7.holds Tryz.pinned (.plain (OpenSpec.ofChange preferCombinesSpec)) preferCombinesCard

/-- THE TIED CARD OF 'grammarlablaw18.PreferOnce'. -/
def preferOnceCard : Claim7 := { stood := { row := preferOnceRow, standIns := [], harness := (true, "440d594ada9527e7261229d37d7900f7b795f38a45a9e0821c9aec7e1d7ee0da"), looks := false }, kinds := [], alts := [], laidByText := true, laidKinds := [.data, .data, .data], laidTests := true, laidLooks := .later }
def PreferOnceCardSaid : Prop := Claim7.holds Tryz.pinned (.plain (OpenSpec.ofChange preferOnceSpec)) preferOnceCard

/-- THE TIED CARD OF 'grammarlablaw18.PreferAll'. -/
def preferAllCard : Claim7 := { stood := { row := preferAllRow, standIns := [], harness := (true, "440d594ada9527e7261229d37d7900f7b795f38a45a9e0821c9aec7e1d7ee0da"), looks := false }, kinds := [], alts := [], laidByText := true, laidKinds := [.data, .data, .data], laidTests := true, laidLooks := .later }
def PreferAllCardSaid : Prop := Claim7.holds Tryz.pinned (.plain (OpenSpec.ofChange preferAllSpec)) preferAllCard

/-- THE TIED CARD OF 'grammarlablaw18.PreferWhole'. -/
def preferWholeCard : Claim7 := { stood := { row := preferWholeRow, standIns := [], harness := (true, "440d594ada9527e7261229d37d7900f7b795f38a45a9e0821c9aec7e1d7ee0da"), looks := false }, kinds := [], alts := [], laidByText := true, laidKinds := [.data, .data, .data], laidTests := true, laidLooks := .later }
def PreferWholeCardSaid : Prop := Claim7.holds Tryz.pinned (.plain (OpenSpec.ofChange preferWholeSpec)) preferWholeCard

/-- THE TIED CARD OF 'grammarlablaw18.PreferKeeps'. -/
def preferKeepsCard : Claim7 := { stood := { row := preferKeepsRow, standIns := [], harness := (true, "440d594ada9527e7261229d37d7900f7b795f38a45a9e0821c9aec7e1d7ee0da"), looks := false }, kinds := [], alts := [], laidByText := true, laidKinds := [.data, .data, .data], laidTests := true, laidLooks := .later }
def PreferKeepsCardSaid : Prop := Claim7.holds Tryz.pinned (.plain (OpenSpec.ofChange preferKeepsSpec)) preferKeepsCard

/-- THE SECOND FORM's CARD OF 'grammarlablaw18.PreferParts'. -/
def preferPartsUptoCard : Claim7 := { stood := { row := preferPartsUptoRow, standIns := [], harness := (true, "440d594ada9527e7261229d37d7900f7b795f38a45a9e0821c9aec7e1d7ee0da"), looks := false }, kinds := [], alts := [], laidByText := true, laidKinds := [.data, .data, .data], laidTests := true, laidLooks := .later }
def PreferPartsUptoCardSaid : Prop := Claim7.holds Tryz.pinned (.plain (OpenSpec.upto preferPartsSpec)) preferPartsUptoCard

/-- THE SECOND FORM's CARD OF 'grammarlablaw18.PreferCombines'. -/
def preferCombinesUptoCard : Claim7 := { stood := { row := preferCombinesUptoRow, standIns := [], harness := (true, "440d594ada9527e7261229d37d7900f7b795f38a45a9e0821c9aec7e1d7ee0da"), looks := false }, kinds := [], alts := [], laidByText := true, laidKinds := [.data, .data, .data], laidTests := true, laidLooks := .later }
def PreferCombinesUptoCardSaid : Prop := Claim7.holds Tryz.pinned (.plain (OpenSpec.upto preferCombinesSpec)) preferCombinesUptoCard

/-- THE SECOND FORM's CARD OF 'grammarlablaw18.PreferOnce'. -/
def preferOnceUptoCard : Claim7 := { stood := { row := preferOnceUptoRow, standIns := [], harness := (true, "440d594ada9527e7261229d37d7900f7b795f38a45a9e0821c9aec7e1d7ee0da"), looks := false }, kinds := [], alts := [], laidByText := true, laidKinds := [.data, .data, .data], laidTests := true, laidLooks := .later }
def PreferOnceUptoCardSaid : Prop := Claim7.holds Tryz.pinned (.plain (OpenSpec.upto preferOnceSpec)) preferOnceUptoCard

/-- THE SECOND FORM's CARD OF 'grammarlablaw18.PreferAll'. -/
def preferAllUptoCard : Claim7 := { stood := { row := preferAllUptoRow, standIns := [], harness := (true, "440d594ada9527e7261229d37d7900f7b795f38a45a9e0821c9aec7e1d7ee0da"), looks := false }, kinds := [], alts := [], laidByText := true, laidKinds := [.data, .data, .data], laidTests := true, laidLooks := .later }
def PreferAllUptoCardSaid : Prop := Claim7.holds Tryz.pinned (.plain (OpenSpec.upto preferAllSpec)) preferAllUptoCard

/-- THE SECOND FORM's CARD OF 'grammarlablaw18.PreferWhole'. -/
def preferWholeUptoCard : Claim7 := { stood := { row := preferWholeUptoRow, standIns := [], harness := (true, "440d594ada9527e7261229d37d7900f7b795f38a45a9e0821c9aec7e1d7ee0da"), looks := false }, kinds := [], alts := [], laidByText := true, laidKinds := [.data, .data, .data], laidTests := true, laidLooks := .later }
def PreferWholeUptoCardSaid : Prop := Claim7.holds Tryz.pinned (.plain (OpenSpec.upto preferWholeSpec)) preferWholeUptoCard

/-- THE SECOND FORM's CARD OF 'grammarlablaw18.PreferKeeps'. -/
def preferKeepsUptoCard : Claim7 := { stood := { row := preferKeepsUptoRow, standIns := [], harness := (true, "440d594ada9527e7261229d37d7900f7b795f38a45a9e0821c9aec7e1d7ee0da"), looks := false }, kinds := [], alts := [], laidByText := true, laidKinds := [.data, .data, .data], laidTests := true, laidLooks := .later }
def PreferKeepsUptoCardSaid : Prop := Claim7.holds Tryz.pinned (.plain (OpenSpec.upto preferKeepsSpec)) preferKeepsUptoCard
end Rows
end Go.Proofs.YthppjmoncapdfaaGreatDoor
