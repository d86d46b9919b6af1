/-
  NARROWER THAN 'FOR EVERY INPUT', by the rows' own cells (each row's printed sentence says how): RoundPlaces: laid · RoundNear: laid · RoundModes: laid · RoundFixes: laid · RoundDigits: laid · RoundAgain: laid · RoundSteps: laid.
  DERIVED. THE GIVEN ROWS OF THIS SEAT. 7 by the template 'for every input the law returns true; each argument reads behind the call as it read before'; 0 by the template 'total and deterministic' (their statements: YtpmhebdaphjinaaDoorTotals.lean).
  GIVEN WITH THE SEED: the statements are not yours to turn. If you find one false, say at which input.
  Laid BY PROGRAM, IN A SANDBOX (cutbox-rows.mjs): the forced cells as the released guide's own fill.sh prints them over the translation 6436e7394b89a147… (all of the seat's roots in one cut). By AI agents, Wed Nov 11 2026. No macro, syntax, notation, axiom, sorry.
-/
import Derived.Test.YtpmhebdaphjinaaDoorChecked
import GoSem.PinnedTables
import GoSem.Claim
import GoSem.ClaimJoined
import GoSem.ClaimMapViews
import Derived.JoinedTies
import Derived.KernelRfl
namespace Go.Proofs.YtpmhebdaphjinaaDoor
/- THE CELL 'sum', in the pinned program and in every row, IS THE sha256 OF THE DUMP (.gsa) THAT YtpmhebdaphjinaaDoorProg.lean LOADS. Nothing in Lean hashes anything: it is a label: what it is worth is what the hold of that sum in a sandbox is worth. -/
noncomputable def Tryd.pinned : Pinned := { name := "ytpmhebdaphjinaadoor", sum := "6436e7394b89a147753c494cf92056ca30b2b097b16108531bf5fee42f669b68", checked := Tryd.checked }
namespace Rows
def none {H : Type} : Left H := { results := [], args := [] }

/- WHAT THE LISTED PACKAGE-LEVEL VARIABLES READ AS WHEN THE CALL BEGINS. Each datum BY PROGRAM (the guide's laid-datum.mjs) off the statement by which the dump's own 'gosem.cut.vars' lays the variable. In a bare row this is a premise. The card (YtpmhebdaphjinaaDoorCards.lean) ties it to the program's text. -/
def laid_unicode_utf8_acceptRanges {H : Type} : DataW H := .agg [.agg [.lit (.int .u8 128), .lit (.int .u8 191)], .agg [.lit (.int .u8 160), .lit (.int .u8 191)], .agg [.lit (.int .u8 128), .lit (.int .u8 159)], .agg [.lit (.int .u8 144), .lit (.int .u8 191)], .agg [.lit (.int .u8 128), .lit (.int .u8 143)], .agg [.lit (.int .u8 0), .lit (.int .u8 0)], .agg [.lit (.int .u8 0), .lit (.int .u8 0)], .agg [.lit (.int .u8 0), .lit (.int .u8 0)], .agg [.lit (.int .u8 0), .lit (.int .u8 0)], .agg [.lit (.int .u8 0), .lit (.int .u8 0)], .agg [.lit (.int .u8 0), .lit (.int .u8 0)], .agg [.lit (.int .u8 0), .lit (.int .u8 0)], .agg [.lit (.int .u8 0), .lit (.int .u8 0)], .agg [.lit (.int .u8 0), .lit (.int .u8 0)], .agg [.lit (.int .u8 0), .lit (.int .u8 0)], .agg [.lit (.int .u8 0), .lit (.int .u8 0)]]
/-- One of Go's own tables, pinned by name: the form's constant. -/
def laid_unicode_utf8_first : DataW Unit := Go.Pinned.utf8First

/-- 'idiomlaw03.RoundPlaces': WHATEVER THE INPUT: true; the input reads as it did. -/
def roundPlacesSpec : ChangeSpec := { name := "roundPlaces", fn := fun _ => fun
  | [d1, d2, d3] => { results := [.lit (.bool true)], args := [d1, d2, d3] }
  | _ => none }
def roundPlacesRow : OpenClaim := { program := "ytpmhebdaphjinaadoor", sum := "6436e7394b89a147753c494cf92056ca30b2b097b16108531bf5fee42f669b68", func := "idiom/idiomlaw03.RoundPlaces", spec := "roundPlaces", inPlace := ["internal/bytealg.IndexByteString", "internal/bytealg.IndexString", "internal/abi.NoEscape", "internal/bytealg.MakeNoZero"], named := ["unicode/utf8.first", "unicode/utf8.acceptRanges", "internal/bytealg.MaxLen"], apart := false, laid := [("unicode/utf8.acceptRanges", laid_unicode_utf8_acceptRanges), ("unicode/utf8.first", laid_unicode_utf8_first)] }
def RoundPlacesSaid : Prop := roundPlacesRow.holds Tryd.pinned (OpenSpec.ofChange roundPlacesSpec)

/-- ITS FALSE NEIGHBOUR: 'it returns false'. Refute it at one input. -/
def roundPlacesWrong : ChangeSpec := { name := "roundPlaces", fn := fun _ => fun
  | [d1, d2, d3] => { results := [.lit (.bool false)], args := [d1, d2, d3] }
  | _ => none }
def RoundPlacesWrongFalsely : Prop := roundPlacesRow.holds Tryd.pinned (OpenSpec.ofChange roundPlacesWrong)

/-- 'idiomlaw03.RoundNear': WHATEVER THE INPUT: true; the input reads as it did. -/
def roundNearSpec : ChangeSpec := { name := "roundNear", fn := fun _ => fun
  | [d1, d2, d3] => { results := [.lit (.bool true)], args := [d1, d2, d3] }
  | _ => none }
def roundNearRow : OpenClaim := { program := "ytpmhebdaphjinaadoor", sum := "6436e7394b89a147753c494cf92056ca30b2b097b16108531bf5fee42f669b68", func := "idiom/idiomlaw03.RoundNear", spec := "roundNear", inPlace := ["internal/bytealg.IndexByteString", "internal/bytealg.IndexString", "internal/abi.NoEscape", "internal/bytealg.MakeNoZero"], named := ["unicode/utf8.first", "unicode/utf8.acceptRanges", "internal/bytealg.MaxLen"], apart := false, laid := [("unicode/utf8.acceptRanges", laid_unicode_utf8_acceptRanges), ("unicode/utf8.first", laid_unicode_utf8_first)] }
def RoundNearSaid : Prop := roundNearRow.holds Tryd.pinned (OpenSpec.ofChange roundNearSpec)

/-- ITS FALSE NEIGHBOUR: 'it returns false'. Refute it at one input. -/
def roundNearWrong : ChangeSpec := { name := "roundNear", fn := fun _ => fun
  | [d1, d2, d3] => { results := [.lit (.bool false)], args := [d1, d2, d3] }
  | _ => none }
def RoundNearWrongFalsely : Prop := roundNearRow.holds Tryd.pinned (OpenSpec.ofChange roundNearWrong)

/-- 'idiomlaw03.RoundModes': WHATEVER THE INPUT: true; the input reads as it did. -/
def roundModesSpec : ChangeSpec := { name := "roundModes", fn := fun _ => fun
  | [d1, d2] => { results := [.lit (.bool true)], args := [d1, d2] }
  | _ => none }
def roundModesRow : OpenClaim := { program := "ytpmhebdaphjinaadoor", sum := "6436e7394b89a147753c494cf92056ca30b2b097b16108531bf5fee42f669b68", func := "idiom/idiomlaw03.RoundModes", spec := "roundModes", inPlace := ["internal/bytealg.IndexByteString", "internal/bytealg.IndexString", "internal/abi.NoEscape", "internal/bytealg.MakeNoZero"], named := ["unicode/utf8.first", "unicode/utf8.acceptRanges", "internal/bytealg.MaxLen"], apart := false, laid := [("unicode/utf8.acceptRanges", laid_unicode_utf8_acceptRanges), ("unicode/utf8.first", laid_unicode_utf8_first)] }
def RoundModesSaid : Prop := roundModesRow.holds Tryd.pinned (OpenSpec.ofChange roundModesSpec)

/-- ITS FALSE NEIGHBOUR: 'it returns false'. Refute it at one input. -/
def roundModesWrong : ChangeSpec := { name := "roundModes", fn := fun _ => fun
  | [d1, d2] => { results := [.lit (.bool false)], args := [d1, d2] }
  | _ => none }
def RoundModesWrongFalsely : Prop := roundModesRow.holds Tryd.pinned (OpenSpec.ofChange roundModesWrong)

/-- 'idiomlaw03.RoundFixes': WHATEVER THE INPUT: true; the input reads as it did. -/
def roundFixesSpec : ChangeSpec := { name := "roundFixes", fn := fun _ => fun
  | [d1, d2, d3] => { results := [.lit (.bool true)], args := [d1, d2, d3] }
  | _ => none }
def roundFixesRow : OpenClaim := { program := "ytpmhebdaphjinaadoor", sum := "6436e7394b89a147753c494cf92056ca30b2b097b16108531bf5fee42f669b68", func := "idiom/idiomlaw03.RoundFixes", spec := "roundFixes", inPlace := ["internal/bytealg.IndexByteString", "internal/bytealg.IndexString", "internal/abi.NoEscape", "internal/bytealg.MakeNoZero"], named := ["unicode/utf8.first", "unicode/utf8.acceptRanges", "internal/bytealg.MaxLen"], apart := false, laid := [("unicode/utf8.acceptRanges", laid_unicode_utf8_acceptRanges), ("unicode/utf8.first", laid_unicode_utf8_first)] }
def RoundFixesSaid : Prop := roundFixesRow.holds Tryd.pinned (OpenSpec.ofChange roundFixesSpec)

/-- ITS FALSE NEIGHBOUR: 'it returns false'. Refute it at one input. -/
def roundFixesWrong : ChangeSpec := { name := "roundFixes", fn := fun _ => fun
  | [d1, d2, d3] => { results := [.lit (.bool false)], args := [d1, d2, d3] }
  | _ => none }
def RoundFixesWrongFalsely : Prop := roundFixesRow.holds Tryd.pinned (OpenSpec.ofChange roundFixesWrong)

/-- 'idiomlaw03.RoundDigits': WHATEVER THE INPUT: true; the input reads as it did. -/
def roundDigitsSpec : ChangeSpec := { name := "roundDigits", fn := fun _ => fun
  | [d1, d2, d3] => { results := [.lit (.bool true)], args := [d1, d2, d3] }
  | _ => none }
def roundDigitsRow : OpenClaim := { program := "ytpmhebdaphjinaadoor", sum := "6436e7394b89a147753c494cf92056ca30b2b097b16108531bf5fee42f669b68", func := "idiom/idiomlaw03.RoundDigits", spec := "roundDigits", inPlace := ["internal/bytealg.IndexByteString", "internal/bytealg.IndexString", "internal/abi.NoEscape", "internal/bytealg.MakeNoZero"], named := ["unicode/utf8.first", "unicode/utf8.acceptRanges", "internal/bytealg.MaxLen"], apart := false, laid := [("unicode/utf8.acceptRanges", laid_unicode_utf8_acceptRanges), ("unicode/utf8.first", laid_unicode_utf8_first)] }
def RoundDigitsSaid : Prop := roundDigitsRow.holds Tryd.pinned (OpenSpec.ofChange roundDigitsSpec)

/-- ITS FALSE NEIGHBOUR: 'it returns false'. Refute it at one input. -/
def roundDigitsWrong : ChangeSpec := { name := "roundDigits", fn := fun _ => fun
  | [d1, d2, d3] => { results := [.lit (.bool false)], args := [d1, d2, d3] }
  | _ => none }
def RoundDigitsWrongFalsely : Prop := roundDigitsRow.holds Tryd.pinned (OpenSpec.ofChange roundDigitsWrong)

/-- 'idiomlaw03.RoundAgain': WHATEVER THE INPUT: true; the input reads as it did. -/
def roundAgainSpec : ChangeSpec := { name := "roundAgain", fn := fun _ => fun
  | [d1, d2, d3] => { results := [.lit (.bool true)], args := [d1, d2, d3] }
  | _ => none }
def roundAgainRow : OpenClaim := { program := "ytpmhebdaphjinaadoor", sum := "6436e7394b89a147753c494cf92056ca30b2b097b16108531bf5fee42f669b68", func := "idiom/idiomlaw03.RoundAgain", spec := "roundAgain", inPlace := ["internal/bytealg.IndexByteString", "internal/bytealg.IndexString", "internal/abi.NoEscape", "internal/bytealg.MakeNoZero"], named := ["unicode/utf8.first", "unicode/utf8.acceptRanges", "internal/bytealg.MaxLen"], apart := false, laid := [("unicode/utf8.acceptRanges", laid_unicode_utf8_acceptRanges), ("unicode/utf8.first", laid_unicode_utf8_first)] }
def RoundAgainSaid : Prop := roundAgainRow.holds Tryd.pinned (OpenSpec.ofChange roundAgainSpec)

/-- ITS FALSE NEIGHBOUR: 'it returns false'. Refute it at one input. -/
def roundAgainWrong : ChangeSpec := { name := "roundAgain", fn := fun _ => fun
  | [d1, d2, d3] => { results := [.lit (.bool false)], args := [d1, d2, d3] }
  | _ => none }
def RoundAgainWrongFalsely : Prop := roundAgainRow.holds Tryd.pinned (OpenSpec.ofChange roundAgainWrong)

/-- 'idiomlaw03.RoundSteps': WHATEVER THE INPUT: true; the input reads as it did. -/
def roundStepsSpec : ChangeSpec := { name := "roundSteps", fn := fun _ => fun
  | [d1, d2, d3] => { results := [.lit (.bool true)], args := [d1, d2, d3] }
  | _ => none }
def roundStepsRow : OpenClaim := { program := "ytpmhebdaphjinaadoor", sum := "6436e7394b89a147753c494cf92056ca30b2b097b16108531bf5fee42f669b68", func := "idiom/idiomlaw03.RoundSteps", spec := "roundSteps", inPlace := ["internal/bytealg.IndexByteString", "internal/bytealg.IndexString", "internal/abi.NoEscape", "internal/bytealg.MakeNoZero"], named := ["unicode/utf8.first", "unicode/utf8.acceptRanges", "internal/bytealg.MaxLen"], apart := false, laid := [("unicode/utf8.acceptRanges", laid_unicode_utf8_acceptRanges), ("unicode/utf8.first", laid_unicode_utf8_first)] }
def RoundStepsSaid : Prop := roundStepsRow.holds Tryd.pinned (OpenSpec.ofChange roundStepsSpec)

/-- ITS FALSE NEIGHBOUR: 'it returns false'. Refute it at one input. -/
def roundStepsWrong : ChangeSpec := { name := "roundSteps", fn := fun _ => fun
  | [d1, d2, d3] => { results := [.lit (.bool false)], args := [d1, d2, d3] }
  | _ => none }
def RoundStepsWrongFalsely : Prop := roundStepsRow.holds Tryd.pinned (OpenSpec.ofChange roundStepsWrong)

/- THE SECOND FORM. 'bulk': how many values and letters a reading holds, each counted each time it is reached (what is shared counts as often as it is met; a slice's spare places count too). A statement '..UptoSaid' is the law's where the arguments, and the package variables that the reading takes, are together of bulk at most 1048576: NARROWER than '..Said'. Prove '..Said' where nothing that the law and all that it calls make is longer than what came in: it says more and counts as full. Else prove '..UptoSaid'. A law counts once. -/
mutual
def uptoBulk {H : Type} : DataW H → Nat
  | .lit (.string bytes) => bytes.length + 1
  | .lit _ => 1
  | .nil => 1
  | .ptr d => uptoBulk d + 1
  | .slice elems spare => uptoBulkAll elems + uptoBulkAll spare + 1
  | .agg parts => uptoBulkAll parts + 1
  | .iface _ d => uptoBulk d + 1
  | .map entries => uptoBulkEntries entries + 1
  | .held _ => 1
def uptoBulkAll {H : Type} : List (DataW H) → Nat
  | [] => 0
  | d :: r => uptoBulk d + uptoBulkAll r
def uptoBulkEntries {H : Type} : List (Lit × DataW H) → Nat
  | [] => 0
  | x :: r => uptoBulkEntry x + uptoBulkEntries r
def uptoBulkEntry {H : Type} : Lit × DataW H → Nat
  | (.string bytes, d) => bytes.length + uptoBulk d + 1
  | (_, d) => uptoBulk d + 1
 end
def uptoSmall : (H : Type) → List (DataW H) → Bool := fun _ ds => decide (uptoBulkAll ds ≤ 1048576)
def OpenSpec.upto (s : _root_.Go.ChangeSpec) : _root_.Go.OpenSpec := { _root_.Go.OpenSpec.ofChange s with cond := some uptoSmall }

/-- 'idiomlaw03.RoundPlaces', WHERE WHAT IT READS IS OF BULK AT MOST 1048576: true; the input reads as it did. -/
def roundPlacesUptoRow : OpenClaim := { program := "ytpmhebdaphjinaadoor", sum := "6436e7394b89a147753c494cf92056ca30b2b097b16108531bf5fee42f669b68", func := "idiom/idiomlaw03.RoundPlaces", spec := "roundPlaces", inPlace := ["internal/bytealg.IndexByteString", "internal/bytealg.IndexString", "internal/abi.NoEscape", "internal/bytealg.MakeNoZero"], named := ["unicode/utf8.first", "unicode/utf8.acceptRanges", "internal/bytealg.MaxLen"], apart := false, laid := [("unicode/utf8.acceptRanges", laid_unicode_utf8_acceptRanges), ("unicode/utf8.first", laid_unicode_utf8_first)], narrowed := true }
def RoundPlacesUptoSaid : Prop := roundPlacesUptoRow.holds Tryd.pinned (OpenSpec.upto roundPlacesSpec)

/-- 'idiomlaw03.RoundNear', WHERE WHAT IT READS IS OF BULK AT MOST 1048576: true; the input reads as it did. -/
def roundNearUptoRow : OpenClaim := { program := "ytpmhebdaphjinaadoor", sum := "6436e7394b89a147753c494cf92056ca30b2b097b16108531bf5fee42f669b68", func := "idiom/idiomlaw03.RoundNear", spec := "roundNear", inPlace := ["internal/bytealg.IndexByteString", "internal/bytealg.IndexString", "internal/abi.NoEscape", "internal/bytealg.MakeNoZero"], named := ["unicode/utf8.first", "unicode/utf8.acceptRanges", "internal/bytealg.MaxLen"], apart := false, laid := [("unicode/utf8.acceptRanges", laid_unicode_utf8_acceptRanges), ("unicode/utf8.first", laid_unicode_utf8_first)], narrowed := true }
def RoundNearUptoSaid : Prop := roundNearUptoRow.holds Tryd.pinned (OpenSpec.upto roundNearSpec)

/-- 'idiomlaw03.RoundModes', WHERE WHAT IT READS IS OF BULK AT MOST 1048576: true; the input reads as it did. -/
def roundModesUptoRow : OpenClaim := { program := "ytpmhebdaphjinaadoor", sum := "6436e7394b89a147753c494cf92056ca30b2b097b16108531bf5fee42f669b68", func := "idiom/idiomlaw03.RoundModes", spec := "roundModes", inPlace := ["internal/bytealg.IndexByteString", "internal/bytealg.IndexString", "internal/abi.NoEscape", "internal/bytealg.MakeNoZero"], named := ["unicode/utf8.first", "unicode/utf8.acceptRanges", "internal/bytealg.MaxLen"], apart := false, laid := [("unicode/utf8.acceptRanges", laid_unicode_utf8_acceptRanges), ("unicode/utf8.first", laid_unicode_utf8_first)], narrowed := true }
def RoundModesUptoSaid : Prop := roundModesUptoRow.holds Tryd.pinned (OpenSpec.upto roundModesSpec)

/-- 'idiomlaw03.RoundFixes', WHERE WHAT IT READS IS OF BULK AT MOST 1048576: true; the input reads as it did. -/
def roundFixesUptoRow : OpenClaim := { program := "ytpmhebdaphjinaadoor", sum := "6436e7394b89a147753c494cf92056ca30b2b097b16108531bf5fee42f669b68", func := "idiom/idiomlaw03.RoundFixes", spec := "roundFixes", inPlace := ["internal/bytealg.IndexByteString", "internal/bytealg.IndexString", "internal/abi.NoEscape", "internal/bytealg.MakeNoZero"], named := ["unicode/utf8.first", "unicode/utf8.acceptRanges", "internal/bytealg.MaxLen"], apart := false, laid := [("unicode/utf8.acceptRanges", laid_unicode_utf8_acceptRanges), ("unicode/utf8.first", laid_unicode_utf8_first)], narrowed := true }
def RoundFixesUptoSaid : Prop := roundFixesUptoRow.holds Tryd.pinned (OpenSpec.upto roundFixesSpec)

/-- 'idiomlaw03.RoundDigits', WHERE WHAT IT READS IS OF BULK AT MOST 1048576: true; the input reads as it did. -/
def roundDigitsUptoRow : OpenClaim := { program := "ytpmhebdaphjinaadoor", sum := "6436e7394b89a147753c494cf92056ca30b2b097b16108531bf5fee42f669b68", func := "idiom/idiomlaw03.RoundDigits", spec := "roundDigits", inPlace := ["internal/bytealg.IndexByteString", "internal/bytealg.IndexString", "internal/abi.NoEscape", "internal/bytealg.MakeNoZero"], named := ["unicode/utf8.first", "unicode/utf8.acceptRanges", "internal/bytealg.MaxLen"], apart := false, laid := [("unicode/utf8.acceptRanges", laid_unicode_utf8_acceptRanges), ("unicode/utf8.first", laid_unicode_utf8_first)], narrowed := true }
def RoundDigitsUptoSaid : Prop := roundDigitsUptoRow.holds Tryd.pinned (OpenSpec.upto roundDigitsSpec)

/-- 'idiomlaw03.RoundAgain', WHERE WHAT IT READS IS OF BULK AT MOST 1048576: true; the input reads as it did. -/
def roundAgainUptoRow : OpenClaim := { program := "ytpmhebdaphjinaadoor", sum := "6436e7394b89a147753c494cf92056ca30b2b097b16108531bf5fee42f669b68", func := "idiom/idiomlaw03.RoundAgain", spec := "roundAgain", inPlace := ["internal/bytealg.IndexByteString", "internal/bytealg.IndexString", "internal/abi.NoEscape", "internal/bytealg.MakeNoZero"], named := ["unicode/utf8.first", "unicode/utf8.acceptRanges", "internal/bytealg.MaxLen"], apart := false, laid := [("unicode/utf8.acceptRanges", laid_unicode_utf8_acceptRanges), ("unicode/utf8.first", laid_unicode_utf8_first)], narrowed := true }
def RoundAgainUptoSaid : Prop := roundAgainUptoRow.holds Tryd.pinned (OpenSpec.upto roundAgainSpec)

/-- 'idiomlaw03.RoundSteps', WHERE WHAT IT READS IS OF BULK AT MOST 1048576: true; the input reads as it did. -/
def roundStepsUptoRow : OpenClaim := { program := "ytpmhebdaphjinaadoor", sum := "6436e7394b89a147753c494cf92056ca30b2b097b16108531bf5fee42f669b68", func := "idiom/idiomlaw03.RoundSteps", spec := "roundSteps", inPlace := ["internal/bytealg.IndexByteString", "internal/bytealg.IndexString", "internal/abi.NoEscape", "internal/bytealg.MakeNoZero"], named := ["unicode/utf8.first", "unicode/utf8.acceptRanges", "internal/bytealg.MaxLen"], apart := false, laid := [("unicode/utf8.acceptRanges", laid_unicode_utf8_acceptRanges), ("unicode/utf8.first", laid_unicode_utf8_first)], narrowed := true }
def RoundStepsUptoSaid : Prop := roundStepsUptoRow.holds Tryd.pinned (OpenSpec.upto roundStepsSpec)

end Rows
end Go.Proofs.YtpmhebdaphjinaaDoor
