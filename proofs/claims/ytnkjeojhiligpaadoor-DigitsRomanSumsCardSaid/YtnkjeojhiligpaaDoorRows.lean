/-
  NARROWER THAN 'FOR EVERY INPUT', by the rows' own cells (each row's printed sentence says how): DigitsRenders: laid · DigitsReads: laid · DigitsRomans: laid · DigitsRomanSums: laid · DigitsBack: laid · DigitsUnlike: laid · DigitsRise: laid.
  DERIVED. THE GIVEN ROWS OF THIS SEAT. 7 by the template 'for every input the law returns true; each argument reads behind the call as it read before'; 0 by the template 'total and deterministic' (their statements: YtnkjeojhiligpaaDoorTotals.lean).
  GIVEN WITH THE SEED: the statements are not yours to turn. If you find one false, say at which input.
  Laid BY PROGRAM, IN A SANDBOX (cutbox-rows.mjs): the forced cells as the released guide's own fill.sh prints them over the translation 63d7ad738df6b7f0… (all of the seat's roots in one cut). By AI agents, Wed Nov 11 2026. No macro, syntax, notation, axiom, sorry.
-/
import Derived.Test.YtnkjeojhiligpaaDoorChecked
import GoSem.PinnedTables
import GoSem.Claim
import GoSem.ClaimJoined
import GoSem.ClaimMapViews
import Derived.JoinedTies
import Derived.KernelRfl
namespace Go.Proofs.YtnkjeojhiligpaaDoor
/- THE CELL 'sum', in the pinned program and in every row, IS THE sha256 OF THE DUMP (.gsa) THAT YtnkjeojhiligpaaDoorProg.lean LOADS. Nothing in Lean hashes anything: it is a label: what it is worth is what the hold of that sum in a sandbox is worth. -/
noncomputable def Tryd.pinned : Pinned := { name := "ytnkjeojhiligpaadoor", sum := "63d7ad738df6b7f08767786f9015550dc1a35ee0e35d2b4a5469dff7588c9c2e", checked := Tryd.checked }
namespace Rows
def none {H : Type} : Left H := { results := [], args := [] }

/- WHAT THE LISTED PACKAGE-LEVEL VARIABLES READ AS WHEN THE CALL BEGINS. Each datum BY PROGRAM (the guide's laid-datum.mjs) off the statement by which the dump's own 'gosem.cut.vars' lays the variable. In a bare row this is a premise. The card (YtnkjeojhiligpaaDoorCards.lean) ties it to the program's text. -/
def laid_unicode_utf8_acceptRanges {H : Type} : DataW H := .agg [.agg [.lit (.int .u8 128), .lit (.int .u8 191)], .agg [.lit (.int .u8 160), .lit (.int .u8 191)], .agg [.lit (.int .u8 128), .lit (.int .u8 159)], .agg [.lit (.int .u8 144), .lit (.int .u8 191)], .agg [.lit (.int .u8 128), .lit (.int .u8 143)], .agg [.lit (.int .u8 0), .lit (.int .u8 0)], .agg [.lit (.int .u8 0), .lit (.int .u8 0)], .agg [.lit (.int .u8 0), .lit (.int .u8 0)], .agg [.lit (.int .u8 0), .lit (.int .u8 0)], .agg [.lit (.int .u8 0), .lit (.int .u8 0)], .agg [.lit (.int .u8 0), .lit (.int .u8 0)], .agg [.lit (.int .u8 0), .lit (.int .u8 0)], .agg [.lit (.int .u8 0), .lit (.int .u8 0)], .agg [.lit (.int .u8 0), .lit (.int .u8 0)], .agg [.lit (.int .u8 0), .lit (.int .u8 0)], .agg [.lit (.int .u8 0), .lit (.int .u8 0)]]
/-- One of Go's own tables, pinned by name: the form's constant. -/
def laid_unicode_CaseRanges : DataW Unit := Go.Pinned.caseRanges
/-- One of Go's own tables, pinned by name: the form's constant. -/
def laid_unicode_utf8_first : DataW Unit := Go.Pinned.utf8First

/-- 'idiomlaw08.DigitsRenders': WHATEVER THE INPUT: true; the input reads as it did. -/
def digitsRendersSpec : ChangeSpec := { name := "digitsRenders", fn := fun _ => fun
  | [d1, d2] => { results := [.lit (.bool true)], args := [d1, d2] }
  | _ => none }
def digitsRendersRow : OpenClaim := { program := "ytnkjeojhiligpaadoor", sum := "63d7ad738df6b7f08767786f9015550dc1a35ee0e35d2b4a5469dff7588c9c2e", func := "idiom/idiomlaw08.DigitsRenders", spec := "digitsRenders", inPlace := ["internal/abi.NoEscape", "internal/bytealg.MakeNoZero"], unfollowed := true, recurses := true, named := ["unicode/utf8.first", "unicode/utf8.acceptRanges", "unicode.CaseRanges"], apart := false, laid := [("unicode/utf8.acceptRanges", laid_unicode_utf8_acceptRanges), ("unicode.CaseRanges", laid_unicode_CaseRanges), ("unicode/utf8.first", laid_unicode_utf8_first)] }
def DigitsRendersSaid : Prop := digitsRendersRow.holds Tryd.pinned (OpenSpec.ofChange digitsRendersSpec)

/-- ITS FALSE NEIGHBOUR: 'it returns false'. Refute it at one input. -/
def digitsRendersWrong : ChangeSpec := { name := "digitsRenders", fn := fun _ => fun
  | [d1, d2] => { results := [.lit (.bool false)], args := [d1, d2] }
  | _ => none }
def DigitsRendersWrongFalsely : Prop := digitsRendersRow.holds Tryd.pinned (OpenSpec.ofChange digitsRendersWrong)

/-- 'idiomlaw08.DigitsReads': WHATEVER THE INPUT: true; the input reads as it did. -/
def digitsReadsSpec : ChangeSpec := { name := "digitsReads", fn := fun _ => fun
  | [d1, d2] => { results := [.lit (.bool true)], args := [d1, d2] }
  | _ => none }
def digitsReadsRow : OpenClaim := { program := "ytnkjeojhiligpaadoor", sum := "63d7ad738df6b7f08767786f9015550dc1a35ee0e35d2b4a5469dff7588c9c2e", func := "idiom/idiomlaw08.DigitsReads", spec := "digitsReads", inPlace := ["internal/abi.NoEscape", "internal/bytealg.MakeNoZero"], unfollowed := true, recurses := true, named := ["unicode/utf8.first", "unicode/utf8.acceptRanges", "unicode.CaseRanges"], apart := false, laid := [("unicode/utf8.acceptRanges", laid_unicode_utf8_acceptRanges), ("unicode.CaseRanges", laid_unicode_CaseRanges), ("unicode/utf8.first", laid_unicode_utf8_first)] }
def DigitsReadsSaid : Prop := digitsReadsRow.holds Tryd.pinned (OpenSpec.ofChange digitsReadsSpec)

/-- ITS FALSE NEIGHBOUR: 'it returns false'. Refute it at one input. -/
def digitsReadsWrong : ChangeSpec := { name := "digitsReads", fn := fun _ => fun
  | [d1, d2] => { results := [.lit (.bool false)], args := [d1, d2] }
  | _ => none }
def DigitsReadsWrongFalsely : Prop := digitsReadsRow.holds Tryd.pinned (OpenSpec.ofChange digitsReadsWrong)

/-- 'idiomlaw08.DigitsRomans': WHATEVER THE INPUT: true; the input reads as it did. -/
def digitsRomansSpec : ChangeSpec := { name := "digitsRomans", fn := fun _ => fun
  | [d1, d2, d3] => { results := [.lit (.bool true)], args := [d1, d2, d3] }
  | _ => none }
def digitsRomansRow : OpenClaim := { program := "ytnkjeojhiligpaadoor", sum := "63d7ad738df6b7f08767786f9015550dc1a35ee0e35d2b4a5469dff7588c9c2e", func := "idiom/idiomlaw08.DigitsRomans", spec := "digitsRomans", inPlace := ["internal/abi.NoEscape", "internal/bytealg.MakeNoZero", "internal/bytealg.IndexByteString", "internal/bytealg.IndexString"], unfollowed := true, recurses := true, named := ["unicode/utf8.first", "unicode/utf8.acceptRanges", "unicode.CaseRanges", "internal/bytealg.MaxLen"], apart := false, laid := [("unicode/utf8.acceptRanges", laid_unicode_utf8_acceptRanges), ("unicode.CaseRanges", laid_unicode_CaseRanges), ("unicode/utf8.first", laid_unicode_utf8_first)] }
def DigitsRomansSaid : Prop := digitsRomansRow.holds Tryd.pinned (OpenSpec.ofChange digitsRomansSpec)

/-- ITS FALSE NEIGHBOUR: 'it returns false'. Refute it at one input. -/
def digitsRomansWrong : ChangeSpec := { name := "digitsRomans", fn := fun _ => fun
  | [d1, d2, d3] => { results := [.lit (.bool false)], args := [d1, d2, d3] }
  | _ => none }
def DigitsRomansWrongFalsely : Prop := digitsRomansRow.holds Tryd.pinned (OpenSpec.ofChange digitsRomansWrong)

/-- 'idiomlaw08.DigitsRomanSums': WHATEVER THE INPUT: true; the input reads as it did. -/
def digitsRomanSumsSpec : ChangeSpec := { name := "digitsRomanSums", fn := fun _ => fun
  | [d1, d2, d3] => { results := [.lit (.bool true)], args := [d1, d2, d3] }
  | _ => none }
def digitsRomanSumsRow : OpenClaim := { program := "ytnkjeojhiligpaadoor", sum := "63d7ad738df6b7f08767786f9015550dc1a35ee0e35d2b4a5469dff7588c9c2e", func := "idiom/idiomlaw08.DigitsRomanSums", spec := "digitsRomanSums", inPlace := ["internal/abi.NoEscape", "internal/bytealg.MakeNoZero", "internal/bytealg.IndexByteString", "internal/bytealg.IndexString"], unfollowed := true, recurses := true, named := ["unicode/utf8.first", "unicode/utf8.acceptRanges", "unicode.CaseRanges", "internal/bytealg.MaxLen"], apart := false, laid := [("unicode/utf8.acceptRanges", laid_unicode_utf8_acceptRanges), ("unicode.CaseRanges", laid_unicode_CaseRanges), ("unicode/utf8.first", laid_unicode_utf8_first)] }
def DigitsRomanSumsSaid : Prop := digitsRomanSumsRow.holds Tryd.pinned (OpenSpec.ofChange digitsRomanSumsSpec)

/-- ITS FALSE NEIGHBOUR: 'it returns false'. Refute it at one input. -/
def digitsRomanSumsWrong : ChangeSpec := { name := "digitsRomanSums", fn := fun _ => fun
  | [d1, d2, d3] => { results := [.lit (.bool false)], args := [d1, d2, d3] }
  | _ => none }
def DigitsRomanSumsWrongFalsely : Prop := digitsRomanSumsRow.holds Tryd.pinned (OpenSpec.ofChange digitsRomanSumsWrong)

/-- 'idiomlaw08.DigitsBack': WHATEVER THE INPUT: true; the input reads as it did. -/
def digitsBackSpec : ChangeSpec := { name := "digitsBack", fn := fun _ => fun
  | [d1, d2, d3] => { results := [.lit (.bool true)], args := [d1, d2, d3] }
  | _ => none }
def digitsBackRow : OpenClaim := { program := "ytnkjeojhiligpaadoor", sum := "63d7ad738df6b7f08767786f9015550dc1a35ee0e35d2b4a5469dff7588c9c2e", func := "idiom/idiomlaw08.DigitsBack", spec := "digitsBack", inPlace := ["internal/abi.NoEscape", "internal/bytealg.MakeNoZero"], unfollowed := true, recurses := true, named := ["unicode/utf8.first", "unicode/utf8.acceptRanges", "unicode.CaseRanges"], apart := false, laid := [("unicode/utf8.acceptRanges", laid_unicode_utf8_acceptRanges), ("unicode.CaseRanges", laid_unicode_CaseRanges), ("unicode/utf8.first", laid_unicode_utf8_first)] }
def DigitsBackSaid : Prop := digitsBackRow.holds Tryd.pinned (OpenSpec.ofChange digitsBackSpec)

/-- ITS FALSE NEIGHBOUR: 'it returns false'. Refute it at one input. -/
def digitsBackWrong : ChangeSpec := { name := "digitsBack", fn := fun _ => fun
  | [d1, d2, d3] => { results := [.lit (.bool false)], args := [d1, d2, d3] }
  | _ => none }
def DigitsBackWrongFalsely : Prop := digitsBackRow.holds Tryd.pinned (OpenSpec.ofChange digitsBackWrong)

/-- 'idiomlaw08.DigitsUnlike': WHATEVER THE INPUT: true; the input reads as it did. -/
def digitsUnlikeSpec : ChangeSpec := { name := "digitsUnlike", fn := fun _ => fun
  | [d1, d2, d3] => { results := [.lit (.bool true)], args := [d1, d2, d3] }
  | _ => none }
def digitsUnlikeRow : OpenClaim := { program := "ytnkjeojhiligpaadoor", sum := "63d7ad738df6b7f08767786f9015550dc1a35ee0e35d2b4a5469dff7588c9c2e", func := "idiom/idiomlaw08.DigitsUnlike", spec := "digitsUnlike", inPlace := ["internal/abi.NoEscape", "internal/bytealg.MakeNoZero"], unfollowed := true, recurses := true, named := ["unicode/utf8.first", "unicode/utf8.acceptRanges", "unicode.CaseRanges"], apart := false, laid := [("unicode/utf8.acceptRanges", laid_unicode_utf8_acceptRanges), ("unicode.CaseRanges", laid_unicode_CaseRanges), ("unicode/utf8.first", laid_unicode_utf8_first)] }
def DigitsUnlikeSaid : Prop := digitsUnlikeRow.holds Tryd.pinned (OpenSpec.ofChange digitsUnlikeSpec)

/-- ITS FALSE NEIGHBOUR: 'it returns false'. Refute it at one input. -/
def digitsUnlikeWrong : ChangeSpec := { name := "digitsUnlike", fn := fun _ => fun
  | [d1, d2, d3] => { results := [.lit (.bool false)], args := [d1, d2, d3] }
  | _ => none }
def DigitsUnlikeWrongFalsely : Prop := digitsUnlikeRow.holds Tryd.pinned (OpenSpec.ofChange digitsUnlikeWrong)

/-- 'idiomlaw08.DigitsRise': WHATEVER THE INPUT: true; the input reads as it did. -/
def digitsRiseSpec : ChangeSpec := { name := "digitsRise", fn := fun _ => fun
  | [d1, d2, d3] => { results := [.lit (.bool true)], args := [d1, d2, d3] }
  | _ => none }
def digitsRiseRow : OpenClaim := { program := "ytnkjeojhiligpaadoor", sum := "63d7ad738df6b7f08767786f9015550dc1a35ee0e35d2b4a5469dff7588c9c2e", func := "idiom/idiomlaw08.DigitsRise", spec := "digitsRise", inPlace := ["internal/abi.NoEscape", "internal/bytealg.MakeNoZero"], unfollowed := true, recurses := true, named := ["unicode/utf8.first", "unicode/utf8.acceptRanges", "unicode.CaseRanges"], apart := false, laid := [("unicode/utf8.acceptRanges", laid_unicode_utf8_acceptRanges), ("unicode.CaseRanges", laid_unicode_CaseRanges), ("unicode/utf8.first", laid_unicode_utf8_first)] }
def DigitsRiseSaid : Prop := digitsRiseRow.holds Tryd.pinned (OpenSpec.ofChange digitsRiseSpec)

/-- ITS FALSE NEIGHBOUR: 'it returns false'. Refute it at one input. -/
def digitsRiseWrong : ChangeSpec := { name := "digitsRise", fn := fun _ => fun
  | [d1, d2, d3] => { results := [.lit (.bool false)], args := [d1, d2, d3] }
  | _ => none }
def DigitsRiseWrongFalsely : Prop := digitsRiseRow.holds Tryd.pinned (OpenSpec.ofChange digitsRiseWrong)

/- THE SECOND FORM. 'bulk': how many values and letters a reading holds, each counted each time it is reached (what is shared counts as often as it is met; a slice's spare places count too). A statement '..UptoSaid' is the law's where the arguments, and the package variables that the reading takes, are together of bulk at most 1048576: NARROWER than '..Said'. Prove '..Said' where nothing that the law and all that it calls make is longer than what came in: it says more and counts as full. Else prove '..UptoSaid'. A law counts once. -/
mutual
def uptoBulk {H : Type} : DataW H → Nat
  | .lit (.string bytes) => bytes.length + 1
  | .lit _ => 1
  | .nil => 1
  | .ptr d => uptoBulk d + 1
  | .slice elems spare => uptoBulkAll elems + uptoBulkAll spare + 1
  | .agg parts => uptoBulkAll parts + 1
  | .iface _ d => uptoBulk d + 1
  | .map entries => uptoBulkEntries entries + 1
  | .held _ => 1
def uptoBulkAll {H : Type} : List (DataW H) → Nat
  | [] => 0
  | d :: r => uptoBulk d + uptoBulkAll r
def uptoBulkEntries {H : Type} : List (Lit × DataW H) → Nat
  | [] => 0
  | x :: r => uptoBulkEntry x + uptoBulkEntries r
def uptoBulkEntry {H : Type} : Lit × DataW H → Nat
  | (.string bytes, d) => bytes.length + uptoBulk d + 1
  | (_, d) => uptoBulk d + 1
 end
def uptoSmall : (H : Type) → List (DataW H) → Bool := fun _ ds => decide (uptoBulkAll ds ≤ 1048576)
def OpenSpec.upto (s : _root_.Go.ChangeSpec) : _root_.Go.OpenSpec := { _root_.Go.OpenSpec.ofChange s with cond := some uptoSmall }

/-- 'idiomlaw08.DigitsRenders', WHERE WHAT IT READS IS OF BULK AT MOST 1048576: true; the input reads as it did. -/
def digitsRendersUptoRow : OpenClaim := { program := "ytnkjeojhiligpaadoor", sum := "63d7ad738df6b7f08767786f9015550dc1a35ee0e35d2b4a5469dff7588c9c2e", func := "idiom/idiomlaw08.DigitsRenders", spec := "digitsRenders", inPlace := ["internal/abi.NoEscape", "internal/bytealg.MakeNoZero"], unfollowed := true, recurses := true, named := ["unicode/utf8.first", "unicode/utf8.acceptRanges", "unicode.CaseRanges"], apart := false, laid := [("unicode/utf8.acceptRanges", laid_unicode_utf8_acceptRanges), ("unicode.CaseRanges", laid_unicode_CaseRanges), ("unicode/utf8.first", laid_unicode_utf8_first)], narrowed := true }
def DigitsRendersUptoSaid : Prop := digitsRendersUptoRow.holds Tryd.pinned (OpenSpec.upto digitsRendersSpec)

/-- 'idiomlaw08.DigitsReads', WHERE WHAT IT READS IS OF BULK AT MOST 1048576: true; the input reads as it did. -/
def digitsReadsUptoRow : OpenClaim := { program := "ytnkjeojhiligpaadoor", sum := "63d7ad738df6b7f08767786f9015550dc1a35ee0e35d2b4a5469dff7588c9c2e", func := "idiom/idiomlaw08.DigitsReads", spec := "digitsReads", inPlace := ["internal/abi.NoEscape", "internal/bytealg.MakeNoZero"], unfollowed := true, recurses := true, named := ["unicode/utf8.first", "unicode/utf8.acceptRanges", "unicode.CaseRanges"], apart := false, laid := [("unicode/utf8.acceptRanges", laid_unicode_utf8_acceptRanges), ("unicode.CaseRanges", laid_unicode_CaseRanges), ("unicode/utf8.first", laid_unicode_utf8_first)], narrowed := true }
def DigitsReadsUptoSaid : Prop := digitsReadsUptoRow.holds Tryd.pinned (OpenSpec.upto digitsReadsSpec)

/-- 'idiomlaw08.DigitsRomans', WHERE WHAT IT READS IS OF BULK AT MOST 1048576: true; the input reads as it did. -/
def digitsRomansUptoRow : OpenClaim := { program := "ytnkjeojhiligpaadoor", sum := "63d7ad738df6b7f08767786f9015550dc1a35ee0e35d2b4a5469dff7588c9c2e", func := "idiom/idiomlaw08.DigitsRomans", spec := "digitsRomans", inPlace := ["internal/abi.NoEscape", "internal/bytealg.MakeNoZero", "internal/bytealg.IndexByteString", "internal/bytealg.IndexString"], unfollowed := true, recurses := true, named := ["unicode/utf8.first", "unicode/utf8.acceptRanges", "unicode.CaseRanges", "internal/bytealg.MaxLen"], apart := false, laid := [("unicode/utf8.acceptRanges", laid_unicode_utf8_acceptRanges), ("unicode.CaseRanges", laid_unicode_CaseRanges), ("unicode/utf8.first", laid_unicode_utf8_first)], narrowed := true }
def DigitsRomansUptoSaid : Prop := digitsRomansUptoRow.holds Tryd.pinned (OpenSpec.upto digitsRomansSpec)

/-- 'idiomlaw08.DigitsRomanSums', WHERE WHAT IT READS IS OF BULK AT MOST 1048576: true; the input reads as it did. -/
def digitsRomanSumsUptoRow : OpenClaim := { program := "ytnkjeojhiligpaadoor", sum := "63d7ad738df6b7f08767786f9015550dc1a35ee0e35d2b4a5469dff7588c9c2e", func := "idiom/idiomlaw08.DigitsRomanSums", spec := "digitsRomanSums", inPlace := ["internal/abi.NoEscape", "internal/bytealg.MakeNoZero", "internal/bytealg.IndexByteString", "internal/bytealg.IndexString"], unfollowed := true, recurses := true, named := ["unicode/utf8.first", "unicode/utf8.acceptRanges", "unicode.CaseRanges", "internal/bytealg.MaxLen"], apart := false, laid := [("unicode/utf8.acceptRanges", laid_unicode_utf8_acceptRanges), ("unicode.CaseRanges", laid_unicode_CaseRanges), ("unicode/utf8.first", laid_unicode_utf8_first)], narrowed := true }
def DigitsRomanSumsUptoSaid : Prop := digitsRomanSumsUptoRow.holds Tryd.pinned (OpenSpec.upto digitsRomanSumsSpec)

/-- 'idiomlaw08.DigitsBack', WHERE WHAT IT READS IS OF BULK AT MOST 1048576: true; the input reads as it did. -/
def digitsBackUptoRow : OpenClaim := { program := "ytnkjeojhiligpaadoor", sum := "63d7ad738df6b7f08767786f9015550dc1a35ee0e35d2b4a5469dff7588c9c2e", func := "idiom/idiomlaw08.DigitsBack", spec := "digitsBack", inPlace := ["internal/abi.NoEscape", "internal/bytealg.MakeNoZero"], unfollowed := true, recurses := true, named := ["unicode/utf8.first", "unicode/utf8.acceptRanges", "unicode.CaseRanges"], apart := false, laid := [("unicode/utf8.acceptRanges", laid_unicode_utf8_acceptRanges), ("unicode.CaseRanges", laid_unicode_CaseRanges), ("unicode/utf8.first", laid_unicode_utf8_first)], narrowed := true }
def DigitsBackUptoSaid : Prop := digitsBackUptoRow.holds Tryd.pinned (OpenSpec.upto digitsBackSpec)

/-- 'idiomlaw08.DigitsUnlike', WHERE WHAT IT READS IS OF BULK AT MOST 1048576: true; the input reads as it did. -/
def digitsUnlikeUptoRow : OpenClaim := { program := "ytnkjeojhiligpaadoor", sum := "63d7ad738df6b7f08767786f9015550dc1a35ee0e35d2b4a5469dff7588c9c2e", func := "idiom/idiomlaw08.DigitsUnlike", spec := "digitsUnlike", inPlace := ["internal/abi.NoEscape", "internal/bytealg.MakeNoZero"], unfollowed := true, recurses := true, named := ["unicode/utf8.first", "unicode/utf8.acceptRanges", "unicode.CaseRanges"], apart := false, laid := [("unicode/utf8.acceptRanges", laid_unicode_utf8_acceptRanges), ("unicode.CaseRanges", laid_unicode_CaseRanges), ("unicode/utf8.first", laid_unicode_utf8_first)], narrowed := true }
def DigitsUnlikeUptoSaid : Prop := digitsUnlikeUptoRow.holds Tryd.pinned (OpenSpec.upto digitsUnlikeSpec)

/-- 'idiomlaw08.DigitsRise', WHERE WHAT IT READS IS OF BULK AT MOST 1048576: true; the input reads as it did. -/
def digitsRiseUptoRow : OpenClaim := { program := "ytnkjeojhiligpaadoor", sum := "63d7ad738df6b7f08767786f9015550dc1a35ee0e35d2b4a5469dff7588c9c2e", func := "idiom/idiomlaw08.DigitsRise", spec := "digitsRise", inPlace := ["internal/abi.NoEscape", "internal/bytealg.MakeNoZero"], unfollowed := true, recurses := true, named := ["unicode/utf8.first", "unicode/utf8.acceptRanges", "unicode.CaseRanges"], apart := false, laid := [("unicode/utf8.acceptRanges", laid_unicode_utf8_acceptRanges), ("unicode.CaseRanges", laid_unicode_CaseRanges), ("unicode/utf8.first", laid_unicode_utf8_first)], narrowed := true }
def DigitsRiseUptoSaid : Prop := digitsRiseUptoRow.holds Tryd.pinned (OpenSpec.upto digitsRiseSpec)

end Rows
end Go.Proofs.YtnkjeojhiligpaaDoor
