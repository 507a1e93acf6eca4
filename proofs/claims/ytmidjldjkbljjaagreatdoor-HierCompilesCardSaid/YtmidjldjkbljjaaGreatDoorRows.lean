/-
  NARROWER THAN 'FOR EVERY INPUT', by the rows' own cells (each row's printed sentence says how): AppropChecks: laid · AppropFeatures: laid · AppropValues: laid · AppropAcyclic: laid · AppropInherits: laid · AppropDeclares: laid · AppropPlain: laid · AppropLimits: laid · HierPrelude: laid · HierCompiles: laid · HierFinds: laid · HierRelations: laid · HierValues: laid · HierInherits: laid · HierTurns: laid · HierCodes: laid.
  DERIVED. THE GIVEN ROWS OF THIS SEAT. 16 by the template 'for every input the law returns true; each argument reads behind the call as it read before'; 0 by the template 'total and deterministic' (their statements: YtmidjldjkbljjaaGreatDoorTotals.lean).
  GIVEN WITH THE SEED: the statements are not yours to turn. If you find one false, say at which input.
  Laid BY PROGRAM, IN A SANDBOX (cutbox-rows.mjs): the forced cells as the released guide's own fill.sh prints them over the translation b04a304de95bee3f… (all of the seat's roots in one cut). By AI agents, Wed Nov 11 2026. No macro, syntax, notation, axiom, sorry.
-/
import Derived.Test.YtmidjldjkbljjaaGreatDoorChecked
import GoSem.Claim
import GoSem.ClaimJoined
import GoSem.ClaimMapViews
import Derived.JoinedTies
import Derived.KernelRfl
namespace Go.Proofs.YtmidjldjkbljjaaGreatDoor
/- THE CELL 'sum', in the pinned program and in every row, IS THE sha256 OF THE DUMP (.gsa) THAT YtmidjldjkbljjaaGreatDoorProg.lean LOADS. Nothing in Lean hashes anything: it is a label: what it is worth is what the hold of that sum in a sandbox is worth. -/
noncomputable def Tryz.pinned : Pinned := { name := "ytmidjldjkbljjaagreatdoor", sum := "b04a304de95bee3f9b0a7a8e649cb813f5e01f259fae350093396b3a70e7dca2", checked := Tryz.checked }
namespace Rows
def none {H : Type} : Left H := { results := [], args := [] }

/- WHAT THE LISTED PACKAGE-LEVEL VARIABLES READ AS WHEN THE CALL BEGINS. Each datum BY PROGRAM (the guide's laid-datum.mjs) off the statement by which the dump's own 'gosem.cut.vars' lays the variable. In a bare row this is a premise. The card (YtmidjldjkbljjaaGreatDoorCards.lean) ties it to the program's text. -/
def laid_math_bits_deBruijn64tab {H : Type} : DataW H := .agg [.lit (.int .u8 0), .lit (.int .u8 1), .lit (.int .u8 56), .lit (.int .u8 2), .lit (.int .u8 57), .lit (.int .u8 49), .lit (.int .u8 28), .lit (.int .u8 3), .lit (.int .u8 61), .lit (.int .u8 58), .lit (.int .u8 42), .lit (.int .u8 50), .lit (.int .u8 38), .lit (.int .u8 29), .lit (.int .u8 17), .lit (.int .u8 4), .lit (.int .u8 62), .lit (.int .u8 47), .lit (.int .u8 59), .lit (.int .u8 36), .lit (.int .u8 45), .lit (.int .u8 43), .lit (.int .u8 51), .lit (.int .u8 22), .lit (.int .u8 53), .lit (.int .u8 39), .lit (.int .u8 33), .lit (.int .u8 30), .lit (.int .u8 24), .lit (.int .u8 18), .lit (.int .u8 12), .lit (.int .u8 5), .lit (.int .u8 63), .lit (.int .u8 55), .lit (.int .u8 48), .lit (.int .u8 27), .lit (.int .u8 60), .lit (.int .u8 41), .lit (.int .u8 37), .lit (.int .u8 16), .lit (.int .u8 46), .lit (.int .u8 35), .lit (.int .u8 44), .lit (.int .u8 21), .lit (.int .u8 52), .lit (.int .u8 32), .lit (.int .u8 23), .lit (.int .u8 11), .lit (.int .u8 54), .lit (.int .u8 26), .lit (.int .u8 40), .lit (.int .u8 15), .lit (.int .u8 34), .lit (.int .u8 20), .lit (.int .u8 31), .lit (.int .u8 10), .lit (.int .u8 25), .lit (.int .u8 14), .lit (.int .u8 19), .lit (.int .u8 9), .lit (.int .u8 13), .lit (.int .u8 8), .lit (.int .u8 7), .lit (.int .u8 6)]

/-- 'grammarlablaw05.AppropChecks': WHATEVER THE INPUT: true; the input reads as it did. -/
def appropChecksSpec : ChangeSpec := { name := "appropChecks", fn := fun _ => fun
  | [d] => { results := [.lit (.bool true)], args := [d] }
  | _ => none }
def appropChecksRow : OpenClaim := { program := "ytmidjldjkbljjaagreatdoor", sum := "b04a304de95bee3f9b0a7a8e649cb813f5e01f259fae350093396b3a70e7dca2", func := "grammarlab/grammarlablaw05.AppropChecks", spec := "appropChecks", inPlace := ["internal/abi.NoEscape", "internal/bytealg.MakeNoZero"], unfollowed := true, recurses := true, named := ["math/bits.deBruijn64tab"], apart := false, laid := [("math/bits.deBruijn64tab", laid_math_bits_deBruijn64tab)] }
def AppropChecksSaid : Prop := appropChecksRow.holds Tryz.pinned (OpenSpec.ofChange appropChecksSpec)

/-- ITS FALSE NEIGHBOUR: 'it returns false'. Refute it at one input. -/
def appropChecksWrong : ChangeSpec := { name := "appropChecks", fn := fun _ => fun
  | [d] => { results := [.lit (.bool false)], args := [d] }
  | _ => none }
def AppropChecksWrongFalsely : Prop := appropChecksRow.holds Tryz.pinned (OpenSpec.ofChange appropChecksWrong)

/-- 'grammarlablaw05.AppropFeatures': WHATEVER THE INPUT: true; the input reads as it did. -/
def appropFeaturesSpec : ChangeSpec := { name := "appropFeatures", fn := fun _ => fun
  | [d] => { results := [.lit (.bool true)], args := [d] }
  | _ => none }
def appropFeaturesRow : OpenClaim := { program := "ytmidjldjkbljjaagreatdoor", sum := "b04a304de95bee3f9b0a7a8e649cb813f5e01f259fae350093396b3a70e7dca2", func := "grammarlab/grammarlablaw05.AppropFeatures", spec := "appropFeatures", inPlace := ["internal/abi.NoEscape", "internal/bytealg.MakeNoZero"], unfollowed := true, recurses := true, named := ["math/bits.deBruijn64tab"], apart := false, laid := [("math/bits.deBruijn64tab", laid_math_bits_deBruijn64tab)] }
def AppropFeaturesSaid : Prop := appropFeaturesRow.holds Tryz.pinned (OpenSpec.ofChange appropFeaturesSpec)

/-- ITS FALSE NEIGHBOUR: 'it returns false'. Refute it at one input. -/
def appropFeaturesWrong : ChangeSpec := { name := "appropFeatures", fn := fun _ => fun
  | [d] => { results := [.lit (.bool false)], args := [d] }
  | _ => none }
def AppropFeaturesWrongFalsely : Prop := appropFeaturesRow.holds Tryz.pinned (OpenSpec.ofChange appropFeaturesWrong)

/-- 'grammarlablaw05.AppropValues': WHATEVER THE INPUT: true; the input reads as it did. -/
def appropValuesSpec : ChangeSpec := { name := "appropValues", fn := fun _ => fun
  | [d] => { results := [.lit (.bool true)], args := [d] }
  | _ => none }
def appropValuesRow : OpenClaim := { program := "ytmidjldjkbljjaagreatdoor", sum := "b04a304de95bee3f9b0a7a8e649cb813f5e01f259fae350093396b3a70e7dca2", func := "grammarlab/grammarlablaw05.AppropValues", spec := "appropValues", inPlace := ["internal/abi.NoEscape", "internal/bytealg.MakeNoZero"], unfollowed := true, recurses := true, named := ["math/bits.deBruijn64tab"], apart := false, laid := [("math/bits.deBruijn64tab", laid_math_bits_deBruijn64tab)] }
def AppropValuesSaid : Prop := appropValuesRow.holds Tryz.pinned (OpenSpec.ofChange appropValuesSpec)

/-- ITS FALSE NEIGHBOUR: 'it returns false'. Refute it at one input. -/
def appropValuesWrong : ChangeSpec := { name := "appropValues", fn := fun _ => fun
  | [d] => { results := [.lit (.bool false)], args := [d] }
  | _ => none }
def AppropValuesWrongFalsely : Prop := appropValuesRow.holds Tryz.pinned (OpenSpec.ofChange appropValuesWrong)

/-- 'grammarlablaw05.AppropAcyclic': WHATEVER THE INPUT: true; the input reads as it did. -/
def appropAcyclicSpec : ChangeSpec := { name := "appropAcyclic", fn := fun _ => fun
  | [d] => { results := [.lit (.bool true)], args := [d] }
  | _ => none }
def appropAcyclicRow : OpenClaim := { program := "ytmidjldjkbljjaagreatdoor", sum := "b04a304de95bee3f9b0a7a8e649cb813f5e01f259fae350093396b3a70e7dca2", func := "grammarlab/grammarlablaw05.AppropAcyclic", spec := "appropAcyclic", inPlace := ["internal/abi.NoEscape", "internal/bytealg.MakeNoZero"], unfollowed := true, recurses := true, named := ["math/bits.deBruijn64tab"], apart := false, laid := [("math/bits.deBruijn64tab", laid_math_bits_deBruijn64tab)] }
def AppropAcyclicSaid : Prop := appropAcyclicRow.holds Tryz.pinned (OpenSpec.ofChange appropAcyclicSpec)

/-- ITS FALSE NEIGHBOUR: 'it returns false'. Refute it at one input. -/
def appropAcyclicWrong : ChangeSpec := { name := "appropAcyclic", fn := fun _ => fun
  | [d] => { results := [.lit (.bool false)], args := [d] }
  | _ => none }
def AppropAcyclicWrongFalsely : Prop := appropAcyclicRow.holds Tryz.pinned (OpenSpec.ofChange appropAcyclicWrong)

/-- 'grammarlablaw05.AppropInherits': WHATEVER THE INPUT: true; the input reads as it did. -/
def appropInheritsSpec : ChangeSpec := { name := "appropInherits", fn := fun _ => fun
  | [d] => { results := [.lit (.bool true)], args := [d] }
  | _ => none }
def appropInheritsRow : OpenClaim := { program := "ytmidjldjkbljjaagreatdoor", sum := "b04a304de95bee3f9b0a7a8e649cb813f5e01f259fae350093396b3a70e7dca2", func := "grammarlab/grammarlablaw05.AppropInherits", spec := "appropInherits", inPlace := ["internal/abi.NoEscape", "internal/bytealg.MakeNoZero"], unfollowed := true, recurses := true, named := ["math/bits.deBruijn64tab"], apart := false, laid := [("math/bits.deBruijn64tab", laid_math_bits_deBruijn64tab)] }
def AppropInheritsSaid : Prop := appropInheritsRow.holds Tryz.pinned (OpenSpec.ofChange appropInheritsSpec)

/-- ITS FALSE NEIGHBOUR: 'it returns false'. Refute it at one input. -/
def appropInheritsWrong : ChangeSpec := { name := "appropInherits", fn := fun _ => fun
  | [d] => { results := [.lit (.bool false)], args := [d] }
  | _ => none }
def AppropInheritsWrongFalsely : Prop := appropInheritsRow.holds Tryz.pinned (OpenSpec.ofChange appropInheritsWrong)

/-- 'grammarlablaw05.AppropDeclares': WHATEVER THE INPUT: true; the input reads as it did. -/
def appropDeclaresSpec : ChangeSpec := { name := "appropDeclares", fn := fun _ => fun
  | [d] => { results := [.lit (.bool true)], args := [d] }
  | _ => none }
def appropDeclaresRow : OpenClaim := { program := "ytmidjldjkbljjaagreatdoor", sum := "b04a304de95bee3f9b0a7a8e649cb813f5e01f259fae350093396b3a70e7dca2", func := "grammarlab/grammarlablaw05.AppropDeclares", spec := "appropDeclares", inPlace := ["internal/abi.NoEscape", "internal/bytealg.MakeNoZero"], unfollowed := true, recurses := true, named := ["math/bits.deBruijn64tab"], apart := false, laid := [("math/bits.deBruijn64tab", laid_math_bits_deBruijn64tab)] }
def AppropDeclaresSaid : Prop := appropDeclaresRow.holds Tryz.pinned (OpenSpec.ofChange appropDeclaresSpec)

/-- ITS FALSE NEIGHBOUR: 'it returns false'. Refute it at one input. -/
def appropDeclaresWrong : ChangeSpec := { name := "appropDeclares", fn := fun _ => fun
  | [d] => { results := [.lit (.bool false)], args := [d] }
  | _ => none }
def AppropDeclaresWrongFalsely : Prop := appropDeclaresRow.holds Tryz.pinned (OpenSpec.ofChange appropDeclaresWrong)

/-- 'grammarlablaw05.AppropPlain': WHATEVER THE INPUT: true; the input reads as it did. -/
def appropPlainSpec : ChangeSpec := { name := "appropPlain", fn := fun _ => fun
  | [d] => { results := [.lit (.bool true)], args := [d] }
  | _ => none }
def appropPlainRow : OpenClaim := { program := "ytmidjldjkbljjaagreatdoor", sum := "b04a304de95bee3f9b0a7a8e649cb813f5e01f259fae350093396b3a70e7dca2", func := "grammarlab/grammarlablaw05.AppropPlain", spec := "appropPlain", inPlace := ["internal/abi.NoEscape", "internal/bytealg.MakeNoZero"], unfollowed := true, recurses := true, named := ["math/bits.deBruijn64tab"], apart := false, laid := [("math/bits.deBruijn64tab", laid_math_bits_deBruijn64tab)] }
def AppropPlainSaid : Prop := appropPlainRow.holds Tryz.pinned (OpenSpec.ofChange appropPlainSpec)

/-- ITS FALSE NEIGHBOUR: 'it returns false'. Refute it at one input. -/
def appropPlainWrong : ChangeSpec := { name := "appropPlain", fn := fun _ => fun
  | [d] => { results := [.lit (.bool false)], args := [d] }
  | _ => none }
def AppropPlainWrongFalsely : Prop := appropPlainRow.holds Tryz.pinned (OpenSpec.ofChange appropPlainWrong)

/-- 'grammarlablaw05.AppropLimits': WHATEVER THE INPUT: true; the input reads as it did. -/
def appropLimitsSpec : ChangeSpec := { name := "appropLimits", fn := fun _ => fun
  | [d] => { results := [.lit (.bool true)], args := [d] }
  | _ => none }
def appropLimitsRow : OpenClaim := { program := "ytmidjldjkbljjaagreatdoor", sum := "b04a304de95bee3f9b0a7a8e649cb813f5e01f259fae350093396b3a70e7dca2", func := "grammarlab/grammarlablaw05.AppropLimits", spec := "appropLimits", inPlace := ["internal/abi.NoEscape", "internal/bytealg.MakeNoZero"], unfollowed := true, recurses := true, named := ["math/bits.deBruijn64tab"], apart := false, laid := [("math/bits.deBruijn64tab", laid_math_bits_deBruijn64tab)] }
def AppropLimitsSaid : Prop := appropLimitsRow.holds Tryz.pinned (OpenSpec.ofChange appropLimitsSpec)

/-- ITS FALSE NEIGHBOUR: 'it returns false'. Refute it at one input. -/
def appropLimitsWrong : ChangeSpec := { name := "appropLimits", fn := fun _ => fun
  | [d] => { results := [.lit (.bool false)], args := [d] }
  | _ => none }
def AppropLimitsWrongFalsely : Prop := appropLimitsRow.holds Tryz.pinned (OpenSpec.ofChange appropLimitsWrong)

/-- 'grammarlablaw06.HierPrelude': WHATEVER THE INPUT: true; the input reads as it did. -/
def hierPreludeSpec : ChangeSpec := { name := "hierPrelude", fn := fun _ => fun
  | [d1, d2] => { results := [.lit (.bool true)], args := [d1, d2] }
  | _ => none }
def hierPreludeRow : OpenClaim := { program := "ytmidjldjkbljjaagreatdoor", sum := "b04a304de95bee3f9b0a7a8e649cb813f5e01f259fae350093396b3a70e7dca2", func := "grammarlab/grammarlablaw06.HierPrelude", spec := "hierPrelude", inPlace := ["internal/abi.NoEscape", "internal/bytealg.MakeNoZero"], unfollowed := true, recurses := true, named := ["math/bits.deBruijn64tab"], apart := false, laid := [("math/bits.deBruijn64tab", laid_math_bits_deBruijn64tab)] }
def HierPreludeSaid : Prop := hierPreludeRow.holds Tryz.pinned (OpenSpec.ofChange hierPreludeSpec)

/-- ITS FALSE NEIGHBOUR: 'it returns false'. Refute it at one input. -/
def hierPreludeWrong : ChangeSpec := { name := "hierPrelude", fn := fun _ => fun
  | [d1, d2] => { results := [.lit (.bool false)], args := [d1, d2] }
  | _ => none }
def HierPreludeWrongFalsely : Prop := hierPreludeRow.holds Tryz.pinned (OpenSpec.ofChange hierPreludeWrong)

/-- 'grammarlablaw06.HierCompiles': WHATEVER THE INPUT: true; the input reads as it did. -/
def hierCompilesSpec : ChangeSpec := { name := "hierCompiles", fn := fun _ => fun
  | [d] => { results := [.lit (.bool true)], args := [d] }
  | _ => none }
def hierCompilesRow : OpenClaim := { program := "ytmidjldjkbljjaagreatdoor", sum := "b04a304de95bee3f9b0a7a8e649cb813f5e01f259fae350093396b3a70e7dca2", func := "grammarlab/grammarlablaw06.HierCompiles", spec := "hierCompiles", inPlace := ["internal/abi.NoEscape", "internal/bytealg.MakeNoZero"], unfollowed := true, recurses := true, named := ["math/bits.deBruijn64tab"], apart := false, laid := [("math/bits.deBruijn64tab", laid_math_bits_deBruijn64tab)] }
def HierCompilesSaid : Prop := hierCompilesRow.holds Tryz.pinned (OpenSpec.ofChange hierCompilesSpec)

/-- ITS FALSE NEIGHBOUR: 'it returns false'. Refute it at one input. -/
def hierCompilesWrong : ChangeSpec := { name := "hierCompiles", fn := fun _ => fun
  | [d] => { results := [.lit (.bool false)], args := [d] }
  | _ => none }
def HierCompilesWrongFalsely : Prop := hierCompilesRow.holds Tryz.pinned (OpenSpec.ofChange hierCompilesWrong)

/-- 'grammarlablaw06.HierFinds': WHATEVER THE INPUT: true; the input reads as it did. -/
def hierFindsSpec : ChangeSpec := { name := "hierFinds", fn := fun _ => fun
  | [d1, d2] => { results := [.lit (.bool true)], args := [d1, d2] }
  | _ => none }
def hierFindsRow : OpenClaim := { program := "ytmidjldjkbljjaagreatdoor", sum := "b04a304de95bee3f9b0a7a8e649cb813f5e01f259fae350093396b3a70e7dca2", func := "grammarlab/grammarlablaw06.HierFinds", spec := "hierFinds", inPlace := ["internal/abi.NoEscape", "internal/bytealg.MakeNoZero"], unfollowed := true, recurses := true, named := ["math/bits.deBruijn64tab"], apart := false, laid := [("math/bits.deBruijn64tab", laid_math_bits_deBruijn64tab)] }
def HierFindsSaid : Prop := hierFindsRow.holds Tryz.pinned (OpenSpec.ofChange hierFindsSpec)

/-- ITS FALSE NEIGHBOUR: 'it returns false'. Refute it at one input. -/
def hierFindsWrong : ChangeSpec := { name := "hierFinds", fn := fun _ => fun
  | [d1, d2] => { results := [.lit (.bool false)], args := [d1, d2] }
  | _ => none }
def HierFindsWrongFalsely : Prop := hierFindsRow.holds Tryz.pinned (OpenSpec.ofChange hierFindsWrong)

/-- 'grammarlablaw06.HierRelations': WHATEVER THE INPUT: true; the input reads as it did. -/
def hierRelationsSpec : ChangeSpec := { name := "hierRelations", fn := fun _ => fun
  | [d1, d2, d3] => { results := [.lit (.bool true)], args := [d1, d2, d3] }
  | _ => none }
def hierRelationsRow : OpenClaim := { program := "ytmidjldjkbljjaagreatdoor", sum := "b04a304de95bee3f9b0a7a8e649cb813f5e01f259fae350093396b3a70e7dca2", func := "grammarlab/grammarlablaw06.HierRelations", spec := "hierRelations", inPlace := ["internal/abi.NoEscape", "internal/bytealg.MakeNoZero"], unfollowed := true, recurses := true, named := ["math/bits.deBruijn64tab"], apart := false, laid := [("math/bits.deBruijn64tab", laid_math_bits_deBruijn64tab)] }
def HierRelationsSaid : Prop := hierRelationsRow.holds Tryz.pinned (OpenSpec.ofChange hierRelationsSpec)

/-- ITS FALSE NEIGHBOUR: 'it returns false'. Refute it at one input. -/
def hierRelationsWrong : ChangeSpec := { name := "hierRelations", fn := fun _ => fun
  | [d1, d2, d3] => { results := [.lit (.bool false)], args := [d1, d2, d3] }
  | _ => none }
def HierRelationsWrongFalsely : Prop := hierRelationsRow.holds Tryz.pinned (OpenSpec.ofChange hierRelationsWrong)

/-- 'grammarlablaw06.HierValues': WHATEVER THE INPUT: true; the input reads as it did. -/
def hierValuesSpec : ChangeSpec := { name := "hierValues", fn := fun _ => fun
  | [d1, d2] => { results := [.lit (.bool true)], args := [d1, d2] }
  | _ => none }
def hierValuesRow : OpenClaim := { program := "ytmidjldjkbljjaagreatdoor", sum := "b04a304de95bee3f9b0a7a8e649cb813f5e01f259fae350093396b3a70e7dca2", func := "grammarlab/grammarlablaw06.HierValues", spec := "hierValues", inPlace := ["internal/abi.NoEscape", "internal/bytealg.MakeNoZero"], unfollowed := true, recurses := true, named := ["math/bits.deBruijn64tab"], apart := false, laid := [("math/bits.deBruijn64tab", laid_math_bits_deBruijn64tab)] }
def HierValuesSaid : Prop := hierValuesRow.holds Tryz.pinned (OpenSpec.ofChange hierValuesSpec)

/-- ITS FALSE NEIGHBOUR: 'it returns false'. Refute it at one input. -/
def hierValuesWrong : ChangeSpec := { name := "hierValues", fn := fun _ => fun
  | [d1, d2] => { results := [.lit (.bool false)], args := [d1, d2] }
  | _ => none }
def HierValuesWrongFalsely : Prop := hierValuesRow.holds Tryz.pinned (OpenSpec.ofChange hierValuesWrong)

/-- 'grammarlablaw06.HierInherits': WHATEVER THE INPUT: true; the input reads as it did. -/
def hierInheritsSpec : ChangeSpec := { name := "hierInherits", fn := fun _ => fun
  | [d1, d2, d3] => { results := [.lit (.bool true)], args := [d1, d2, d3] }
  | _ => none }
def hierInheritsRow : OpenClaim := { program := "ytmidjldjkbljjaagreatdoor", sum := "b04a304de95bee3f9b0a7a8e649cb813f5e01f259fae350093396b3a70e7dca2", func := "grammarlab/grammarlablaw06.HierInherits", spec := "hierInherits", inPlace := ["internal/abi.NoEscape", "internal/bytealg.MakeNoZero"], unfollowed := true, recurses := true, named := ["math/bits.deBruijn64tab"], apart := false, laid := [("math/bits.deBruijn64tab", laid_math_bits_deBruijn64tab)] }
def HierInheritsSaid : Prop := hierInheritsRow.holds Tryz.pinned (OpenSpec.ofChange hierInheritsSpec)

/-- ITS FALSE NEIGHBOUR: 'it returns false'. Refute it at one input. -/
def hierInheritsWrong : ChangeSpec := { name := "hierInherits", fn := fun _ => fun
  | [d1, d2, d3] => { results := [.lit (.bool false)], args := [d1, d2, d3] }
  | _ => none }
def HierInheritsWrongFalsely : Prop := hierInheritsRow.holds Tryz.pinned (OpenSpec.ofChange hierInheritsWrong)

/-- 'grammarlablaw06.HierTurns': WHATEVER THE INPUT: true; the input reads as it did. -/
def hierTurnsSpec : ChangeSpec := { name := "hierTurns", fn := fun _ => fun
  | [d1, d2] => { results := [.lit (.bool true)], args := [d1, d2] }
  | _ => none }
def hierTurnsRow : OpenClaim := { program := "ytmidjldjkbljjaagreatdoor", sum := "b04a304de95bee3f9b0a7a8e649cb813f5e01f259fae350093396b3a70e7dca2", func := "grammarlab/grammarlablaw06.HierTurns", spec := "hierTurns", inPlace := ["internal/abi.NoEscape", "internal/bytealg.MakeNoZero"], unfollowed := true, recurses := true, named := ["math/bits.deBruijn64tab"], apart := false, laid := [("math/bits.deBruijn64tab", laid_math_bits_deBruijn64tab)] }
def HierTurnsSaid : Prop := hierTurnsRow.holds Tryz.pinned (OpenSpec.ofChange hierTurnsSpec)

/-- ITS FALSE NEIGHBOUR: 'it returns false'. Refute it at one input. -/
def hierTurnsWrong : ChangeSpec := { name := "hierTurns", fn := fun _ => fun
  | [d1, d2] => { results := [.lit (.bool false)], args := [d1, d2] }
  | _ => none }
def HierTurnsWrongFalsely : Prop := hierTurnsRow.holds Tryz.pinned (OpenSpec.ofChange hierTurnsWrong)

/-- 'grammarlablaw06.HierCodes': WHATEVER THE INPUT: true; the input reads as it did. -/
def hierCodesSpec : ChangeSpec := { name := "hierCodes", fn := fun _ => fun
  | [d1, d2, d3] => { results := [.lit (.bool true)], args := [d1, d2, d3] }
  | _ => none }
def hierCodesRow : OpenClaim := { program := "ytmidjldjkbljjaagreatdoor", sum := "b04a304de95bee3f9b0a7a8e649cb813f5e01f259fae350093396b3a70e7dca2", func := "grammarlab/grammarlablaw06.HierCodes", spec := "hierCodes", inPlace := ["internal/abi.NoEscape", "internal/bytealg.MakeNoZero"], unfollowed := true, recurses := true, named := ["math/bits.deBruijn64tab"], apart := false, laid := [("math/bits.deBruijn64tab", laid_math_bits_deBruijn64tab)] }
def HierCodesSaid : Prop := hierCodesRow.holds Tryz.pinned (OpenSpec.ofChange hierCodesSpec)

/-- ITS FALSE NEIGHBOUR: 'it returns false'. Refute it at one input. -/
def hierCodesWrong : ChangeSpec := { name := "hierCodes", fn := fun _ => fun
  | [d1, d2, d3] => { results := [.lit (.bool false)], args := [d1, d2, d3] }
  | _ => none }
def HierCodesWrongFalsely : Prop := hierCodesRow.holds Tryz.pinned (OpenSpec.ofChange hierCodesWrong)

/- THE SECOND FORM. 'bulk': how many values and letters a reading holds, each counted each time it is reached (what is shared counts as often as it is met; a slice's spare places count too). A statement '..UptoSaid' is the law's where the arguments, and the package variables that the reading takes, are together of bulk at most 1048576: NARROWER than '..Said'. Prove '..Said' where nothing that the law and all that it calls make is longer than what came in: it says more and counts as full. Else prove '..UptoSaid'. A law counts once. -/
mutual
def uptoBulk {H : Type} : DataW H → Nat
  | .lit (.string bytes) => bytes.length + 1
  | .lit _ => 1
  | .nil => 1
  | .ptr d => uptoBulk d + 1
  | .slice elems spare => uptoBulkAll elems + uptoBulkAll spare + 1
  | .agg parts => uptoBulkAll parts + 1
  | .iface _ d => uptoBulk d + 1
  | .map entries => uptoBulkEntries entries + 1
  | .held _ => 1
def uptoBulkAll {H : Type} : List (DataW H) → Nat
  | [] => 0
  | d :: r => uptoBulk d + uptoBulkAll r
def uptoBulkEntries {H : Type} : List (Lit × DataW H) → Nat
  | [] => 0
  | x :: r => uptoBulkEntry x + uptoBulkEntries r
def uptoBulkEntry {H : Type} : Lit × DataW H → Nat
  | (.string bytes, d) => bytes.length + uptoBulk d + 1
  | (_, d) => uptoBulk d + 1
 end
def uptoSmall : (H : Type) → List (DataW H) → Bool := fun _ ds => decide (uptoBulkAll ds ≤ 1048576)
def OpenSpec.upto (s : _root_.Go.ChangeSpec) : _root_.Go.OpenSpec := { _root_.Go.OpenSpec.ofChange s with cond := some uptoSmall }

/-- 'grammarlablaw05.AppropChecks', WHERE WHAT IT READS IS OF BULK AT MOST 1048576: true; the input reads as it did. -/
def appropChecksUptoRow : OpenClaim := { program := "ytmidjldjkbljjaagreatdoor", sum := "b04a304de95bee3f9b0a7a8e649cb813f5e01f259fae350093396b3a70e7dca2", func := "grammarlab/grammarlablaw05.AppropChecks", spec := "appropChecks", inPlace := ["internal/abi.NoEscape", "internal/bytealg.MakeNoZero"], unfollowed := true, recurses := true, named := ["math/bits.deBruijn64tab"], apart := false, laid := [("math/bits.deBruijn64tab", laid_math_bits_deBruijn64tab)], narrowed := true }
def AppropChecksUptoSaid : Prop := appropChecksUptoRow.holds Tryz.pinned (OpenSpec.upto appropChecksSpec)

/-- 'grammarlablaw05.AppropFeatures', WHERE WHAT IT READS IS OF BULK AT MOST 1048576: true; the input reads as it did. -/
def appropFeaturesUptoRow : OpenClaim := { program := "ytmidjldjkbljjaagreatdoor", sum := "b04a304de95bee3f9b0a7a8e649cb813f5e01f259fae350093396b3a70e7dca2", func := "grammarlab/grammarlablaw05.AppropFeatures", spec := "appropFeatures", inPlace := ["internal/abi.NoEscape", "internal/bytealg.MakeNoZero"], unfollowed := true, recurses := true, named := ["math/bits.deBruijn64tab"], apart := false, laid := [("math/bits.deBruijn64tab", laid_math_bits_deBruijn64tab)], narrowed := true }
def AppropFeaturesUptoSaid : Prop := appropFeaturesUptoRow.holds Tryz.pinned (OpenSpec.upto appropFeaturesSpec)

/-- 'grammarlablaw05.AppropValues', WHERE WHAT IT READS IS OF BULK AT MOST 1048576: true; the input reads as it did. -/
def appropValuesUptoRow : OpenClaim := { program := "ytmidjldjkbljjaagreatdoor", sum := "b04a304de95bee3f9b0a7a8e649cb813f5e01f259fae350093396b3a70e7dca2", func := "grammarlab/grammarlablaw05.AppropValues", spec := "appropValues", inPlace := ["internal/abi.NoEscape", "internal/bytealg.MakeNoZero"], unfollowed := true, recurses := true, named := ["math/bits.deBruijn64tab"], apart := false, laid := [("math/bits.deBruijn64tab", laid_math_bits_deBruijn64tab)], narrowed := true }
def AppropValuesUptoSaid : Prop := appropValuesUptoRow.holds Tryz.pinned (OpenSpec.upto appropValuesSpec)

/-- 'grammarlablaw05.AppropAcyclic', WHERE WHAT IT READS IS OF BULK AT MOST 1048576: true; the input reads as it did. -/
def appropAcyclicUptoRow : OpenClaim := { program := "ytmidjldjkbljjaagreatdoor", sum := "b04a304de95bee3f9b0a7a8e649cb813f5e01f259fae350093396b3a70e7dca2", func := "grammarlab/grammarlablaw05.AppropAcyclic", spec := "appropAcyclic", inPlace := ["internal/abi.NoEscape", "internal/bytealg.MakeNoZero"], unfollowed := true, recurses := true, named := ["math/bits.deBruijn64tab"], apart := false, laid := [("math/bits.deBruijn64tab", laid_math_bits_deBruijn64tab)], narrowed := true }
def AppropAcyclicUptoSaid : Prop := appropAcyclicUptoRow.holds Tryz.pinned (OpenSpec.upto appropAcyclicSpec)

/-- 'grammarlablaw05.AppropInherits', WHERE WHAT IT READS IS OF BULK AT MOST 1048576: true; the input reads as it did. -/
def appropInheritsUptoRow : OpenClaim := { program := "ytmidjldjkbljjaagreatdoor", sum := "b04a304de95bee3f9b0a7a8e649cb813f5e01f259fae350093396b3a70e7dca2", func := "grammarlab/grammarlablaw05.AppropInherits", spec := "appropInherits", inPlace := ["internal/abi.NoEscape", "internal/bytealg.MakeNoZero"], unfollowed := true, recurses := true, named := ["math/bits.deBruijn64tab"], apart := false, laid := [("math/bits.deBruijn64tab", laid_math_bits_deBruijn64tab)], narrowed := true }
def AppropInheritsUptoSaid : Prop := appropInheritsUptoRow.holds Tryz.pinned (OpenSpec.upto appropInheritsSpec)

/-- 'grammarlablaw05.AppropDeclares', WHERE WHAT IT READS IS OF BULK AT MOST 1048576: true; the input reads as it did. -/
def appropDeclaresUptoRow : OpenClaim := { program := "ytmidjldjkbljjaagreatdoor", sum := "b04a304de95bee3f9b0a7a8e649cb813f5e01f259fae350093396b3a70e7dca2", func := "grammarlab/grammarlablaw05.AppropDeclares", spec := "appropDeclares", inPlace := ["internal/abi.NoEscape", "internal/bytealg.MakeNoZero"], unfollowed := true, recurses := true, named := ["math/bits.deBruijn64tab"], apart := false, laid := [("math/bits.deBruijn64tab", laid_math_bits_deBruijn64tab)], narrowed := true }
def AppropDeclaresUptoSaid : Prop := appropDeclaresUptoRow.holds Tryz.pinned (OpenSpec.upto appropDeclaresSpec)

/-- 'grammarlablaw05.AppropPlain', WHERE WHAT IT READS IS OF BULK AT MOST 1048576: true; the input reads as it did. -/
def appropPlainUptoRow : OpenClaim := { program := "ytmidjldjkbljjaagreatdoor", sum := "b04a304de95bee3f9b0a7a8e649cb813f5e01f259fae350093396b3a70e7dca2", func := "grammarlab/grammarlablaw05.AppropPlain", spec := "appropPlain", inPlace := ["internal/abi.NoEscape", "internal/bytealg.MakeNoZero"], unfollowed := true, recurses := true, named := ["math/bits.deBruijn64tab"], apart := false, laid := [("math/bits.deBruijn64tab", laid_math_bits_deBruijn64tab)], narrowed := true }
def AppropPlainUptoSaid : Prop := appropPlainUptoRow.holds Tryz.pinned (OpenSpec.upto appropPlainSpec)

/-- 'grammarlablaw05.AppropLimits', WHERE WHAT IT READS IS OF BULK AT MOST 1048576: true; the input reads as it did. -/
def appropLimitsUptoRow : OpenClaim := { program := "ytmidjldjkbljjaagreatdoor", sum := "b04a304de95bee3f9b0a7a8e649cb813f5e01f259fae350093396b3a70e7dca2", func := "grammarlab/grammarlablaw05.AppropLimits", spec := "appropLimits", inPlace := ["internal/abi.NoEscape", "internal/bytealg.MakeNoZero"], unfollowed := true, recurses := true, named := ["math/bits.deBruijn64tab"], apart := false, laid := [("math/bits.deBruijn64tab", laid_math_bits_deBruijn64tab)], narrowed := true }
def AppropLimitsUptoSaid : Prop := appropLimitsUptoRow.holds Tryz.pinned (OpenSpec.upto appropLimitsSpec)

/-- 'grammarlablaw06.HierPrelude', WHERE WHAT IT READS IS OF BULK AT MOST 1048576: true; the input reads as it did. -/
def hierPreludeUptoRow : OpenClaim := { program := "ytmidjldjkbljjaagreatdoor", sum := "b04a304de95bee3f9b0a7a8e649cb813f5e01f259fae350093396b3a70e7dca2", func := "grammarlab/grammarlablaw06.HierPrelude", spec := "hierPrelude", inPlace := ["internal/abi.NoEscape", "internal/bytealg.MakeNoZero"], unfollowed := true, recurses := true, named := ["math/bits.deBruijn64tab"], apart := false, laid := [("math/bits.deBruijn64tab", laid_math_bits_deBruijn64tab)], narrowed := true }
def HierPreludeUptoSaid : Prop := hierPreludeUptoRow.holds Tryz.pinned (OpenSpec.upto hierPreludeSpec)

/-- 'grammarlablaw06.HierCompiles', WHERE WHAT IT READS IS OF BULK AT MOST 1048576: true; the input reads as it did. -/
def hierCompilesUptoRow : OpenClaim := { program := "ytmidjldjkbljjaagreatdoor", sum := "b04a304de95bee3f9b0a7a8e649cb813f5e01f259fae350093396b3a70e7dca2", func := "grammarlab/grammarlablaw06.HierCompiles", spec := "hierCompiles", inPlace := ["internal/abi.NoEscape", "internal/bytealg.MakeNoZero"], unfollowed := true, recurses := true, named := ["math/bits.deBruijn64tab"], apart := false, laid := [("math/bits.deBruijn64tab", laid_math_bits_deBruijn64tab)], narrowed := true }
def HierCompilesUptoSaid : Prop := hierCompilesUptoRow.holds Tryz.pinned (OpenSpec.upto hierCompilesSpec)

/-- 'grammarlablaw06.HierFinds', WHERE WHAT IT READS IS OF BULK AT MOST 1048576: true; the input reads as it did. -/
def hierFindsUptoRow : OpenClaim := { program := "ytmidjldjkbljjaagreatdoor", sum := "b04a304de95bee3f9b0a7a8e649cb813f5e01f259fae350093396b3a70e7dca2", func := "grammarlab/grammarlablaw06.HierFinds", spec := "hierFinds", inPlace := ["internal/abi.NoEscape", "internal/bytealg.MakeNoZero"], unfollowed := true, recurses := true, named := ["math/bits.deBruijn64tab"], apart := false, laid := [("math/bits.deBruijn64tab", laid_math_bits_deBruijn64tab)], narrowed := true }
def HierFindsUptoSaid : Prop := hierFindsUptoRow.holds Tryz.pinned (OpenSpec.upto hierFindsSpec)

/-- 'grammarlablaw06.HierRelations', WHERE WHAT IT READS IS OF BULK AT MOST 1048576: true; the input reads as it did. -/
def hierRelationsUptoRow : OpenClaim := { program := "ytmidjldjkbljjaagreatdoor", sum := "b04a304de95bee3f9b0a7a8e649cb813f5e01f259fae350093396b3a70e7dca2", func := "grammarlab/grammarlablaw06.HierRelations", spec := "hierRelations", inPlace := ["internal/abi.NoEscape", "internal/bytealg.MakeNoZero"], unfollowed := true, recurses := true, named := ["math/bits.deBruijn64tab"], apart := false, laid := [("math/bits.deBruijn64tab", laid_math_bits_deBruijn64tab)], narrowed := true }
def HierRelationsUptoSaid : Prop := hierRelationsUptoRow.holds Tryz.pinned (OpenSpec.upto hierRelationsSpec)

/-- 'grammarlablaw06.HierValues', WHERE WHAT IT READS IS OF BULK AT MOST 1048576: true; the input reads as it did. -/
def hierValuesUptoRow : OpenClaim := { program := "ytmidjldjkbljjaagreatdoor", sum := "b04a304de95bee3f9b0a7a8e649cb813f5e01f259fae350093396b3a70e7dca2", func := "grammarlab/grammarlablaw06.HierValues", spec := "hierValues", inPlace := ["internal/abi.NoEscape", "internal/bytealg.MakeNoZero"], unfollowed := true, recurses := true, named := ["math/bits.deBruijn64tab"], apart := false, laid := [("math/bits.deBruijn64tab", laid_math_bits_deBruijn64tab)], narrowed := true }
def HierValuesUptoSaid : Prop := hierValuesUptoRow.holds Tryz.pinned (OpenSpec.upto hierValuesSpec)

/-- 'grammarlablaw06.HierInherits', WHERE WHAT IT READS IS OF BULK AT MOST 1048576: true; the input reads as it did. -/
def hierInheritsUptoRow : OpenClaim := { program := "ytmidjldjkbljjaagreatdoor", sum := "b04a304de95bee3f9b0a7a8e649cb813f5e01f259fae350093396b3a70e7dca2", func := "grammarlab/grammarlablaw06.HierInherits", spec := "hierInherits", inPlace := ["internal/abi.NoEscape", "internal/bytealg.MakeNoZero"], unfollowed := true, recurses := true, named := ["math/bits.deBruijn64tab"], apart := false, laid := [("math/bits.deBruijn64tab", laid_math_bits_deBruijn64tab)], narrowed := true }
def HierInheritsUptoSaid : Prop := hierInheritsUptoRow.holds Tryz.pinned (OpenSpec.upto hierInheritsSpec)

/-- 'grammarlablaw06.HierTurns', WHERE WHAT IT READS IS OF BULK AT MOST 1048576: true; the input reads as it did. -/
def hierTurnsUptoRow : OpenClaim := { program := "ytmidjldjkbljjaagreatdoor", sum := "b04a304de95bee3f9b0a7a8e649cb813f5e01f259fae350093396b3a70e7dca2", func := "grammarlab/grammarlablaw06.HierTurns", spec := "hierTurns", inPlace := ["internal/abi.NoEscape", "internal/bytealg.MakeNoZero"], unfollowed := true, recurses := true, named := ["math/bits.deBruijn64tab"], apart := false, laid := [("math/bits.deBruijn64tab", laid_math_bits_deBruijn64tab)], narrowed := true }
def HierTurnsUptoSaid : Prop := hierTurnsUptoRow.holds Tryz.pinned (OpenSpec.upto hierTurnsSpec)

/-- 'grammarlablaw06.HierCodes', WHERE WHAT IT READS IS OF BULK AT MOST 1048576: true; the input reads as it did. -/
def hierCodesUptoRow : OpenClaim := { program := "ytmidjldjkbljjaagreatdoor", sum := "b04a304de95bee3f9b0a7a8e649cb813f5e01f259fae350093396b3a70e7dca2", func := "grammarlab/grammarlablaw06.HierCodes", spec := "hierCodes", inPlace := ["internal/abi.NoEscape", "internal/bytealg.MakeNoZero"], unfollowed := true, recurses := true, named := ["math/bits.deBruijn64tab"], apart := false, laid := [("math/bits.deBruijn64tab", laid_math_bits_deBruijn64tab)], narrowed := true }
def HierCodesUptoSaid : Prop := hierCodesUptoRow.holds Tryz.pinned (OpenSpec.upto hierCodesSpec)

end Rows
end Go.Proofs.YtmidjldjkbljjaaGreatDoor
