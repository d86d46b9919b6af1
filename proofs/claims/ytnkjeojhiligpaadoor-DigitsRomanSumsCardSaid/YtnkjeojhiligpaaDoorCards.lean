/-
  DERIVED. GIVEN WITH THE SEED: THE CARDS: each row of YtnkjeojhiligpaaDoorRows.lean that lists a variable, with what it lists TIED to the program's text (the seventh form; the later family's looks); each row that meets fmt, with fmt's text TOLD by the authors' own Lean function (tested against real Go, not proved from fmt's source: count such statements apart). THE CARD IS WHAT COUNTS. Prove the row's statement (the work); the ties are given (YtnkjeojhiligpaaDoorTie.lean); close each card by the builder's one call (the guide's Derived/Test/ToyasCard.lean, 'card_holds'). Laid BY PROGRAM, IN A SANDBOX (cutbox-door.mjs). By AI agents, Wed Nov 11 2026. No macro, syntax, notation, axiom, sorry.
-/
import Derived.Test.YtnkjeojhiligpaaDoorRows
import GoSem.ClaimSeven
namespace Go.Proofs.YtnkjeojhiligpaaDoor
namespace Rows

/-- THE TIED CARD OF 'idiomlaw08.DigitsRenders'. -/
def digitsRendersCard : Claim7 := { stood := { row := digitsRendersRow, standIns := [], harness := (true, "30971e952273ed11676e63844ba5558f4837e1b4c742203e38d151b13d274578"), looks := false }, kinds := [], alts := [], laidByText := true, laidKinds := [.data, .pinned, .pinned], laidTests := true, laidLooks := .later }
def DigitsRendersCardSaid : Prop := Claim7.holds Tryd.pinned (.plain (OpenSpec.ofChange digitsRendersSpec)) digitsRendersCard

/-- THE TIED CARD OF 'idiomlaw08.DigitsReads'. -/
def digitsReadsCard : Claim7 := { stood := { row := digitsReadsRow, standIns := [], harness := (true, "30971e952273ed11676e63844ba5558f4837e1b4c742203e38d151b13d274578"), looks := false }, kinds := [], alts := [], laidByText := true, laidKinds := [.data, .pinned, .pinned], laidTests := true, laidLooks := .later }
def DigitsReadsCardSaid : Prop := Claim7.holds Tryd.pinned (.plain (OpenSpec.ofChange digitsReadsSpec)) digitsReadsCard

/-- THE TIED CARD OF 'idiomlaw08.DigitsRomans'. -/
def digitsRomansCard : Claim7 := { stood := { row := digitsRomansRow, standIns := [], harness := (true, "30971e952273ed11676e63844ba5558f4837e1b4c742203e38d151b13d274578"), looks := false }, kinds := [], alts := [], laidByText := true, laidKinds := [.data, .pinned, .pinned], laidTests := true, laidLooks := .later }
def DigitsRomansCardSaid : Prop := Claim7.holds Tryd.pinned (.plain (OpenSpec.ofChange digitsRomansSpec)) digitsRomansCard

/-- THE TIED CARD OF 'idiomlaw08.DigitsRomanSums'. -/
def digitsRomanSumsCard : Claim7 := { stood := { row := digitsRomanSumsRow, standIns := [], harness := (true, "30971e952273ed11676e63844ba5558f4837e1b4c742203e38d151b13d274578"), looks := false }, kinds := [], alts := [], laidByText := true, laidKinds := [.data, .pinned, .pinned], laidTests := true, laidLooks := .later }
def DigitsRomanSumsCardSaid : Prop := Claim7.holds Tryd.pinned (.plain (OpenSpec.ofChange digitsRomanSumsSpec)) digitsRomanSumsCard

/-- THE TIED CARD OF 'idiomlaw08.DigitsBack'. -/
def digitsBackCard : Claim7 := { stood := { row := digitsBackRow, standIns := [], harness := (true, "30971e952273ed11676e63844ba5558f4837e1b4c742203e38d151b13d274578"), looks := false }, kinds := [], alts := [], laidByText := true, laidKinds := [.data, .pinned, .pinned], laidTests := true, laidLooks := .later }
def DigitsBackCardSaid : Prop := Claim7.holds Tryd.pinned (.plain (OpenSpec.ofChange digitsBackSpec)) digitsBackCard

/-- THE TIED CARD OF 'idiomlaw08.DigitsUnlike'. -/
def digitsUnlikeCard : Claim7 := { stood := { row := digitsUnlikeRow, standIns := [], harness := (true, "30971e952273ed11676e63844ba5558f4837e1b4c742203e38d151b13d274578"), looks := false }, kinds := [], alts := [], laidByText := true, laidKinds := [.data, .pinned, .pinned], laidTests := true, laidLooks := .later }
def DigitsUnlikeCardSaid : Prop := Claim7.holds Tryd.pinned (.plain (OpenSpec.ofChange digitsUnlikeSpec)) digitsUnlikeCard

/-- THE TIED CARD OF 'idiomlaw08.DigitsRise'. -/
def digitsRiseCard : Claim7 := { stood := { row := digitsRiseRow, standIns := [], harness := (true, "30971e952273ed11676e63844ba5558f4837e1b4c742203e38d151b13d274578"), looks := false }, kinds := [], alts := [], laidByText := true, laidKinds := [.data, .pinned, .pinned], laidTests := true, laidLooks := .later }
def DigitsRiseCardSaid : Prop := Claim7.holds Tryd.pinned (.plain (OpenSpec.ofChange digitsRiseSpec)) digitsRiseCard

/-- THE SECOND FORM's CARD OF 'idiomlaw08.DigitsRenders'. -/
def digitsRendersUptoCard : Claim7 := { stood := { row := digitsRendersUptoRow, standIns := [], harness := (true, "30971e952273ed11676e63844ba5558f4837e1b4c742203e38d151b13d274578"), looks := false }, kinds := [], alts := [], laidByText := true, laidKinds := [.data, .pinned, .pinned], laidTests := true, laidLooks := .later }
def DigitsRendersUptoCardSaid : Prop := Claim7.holds Tryd.pinned (.plain (OpenSpec.upto digitsRendersSpec)) digitsRendersUptoCard

/-- THE SECOND FORM's CARD OF 'idiomlaw08.DigitsReads'. -/
def digitsReadsUptoCard : Claim7 := { stood := { row := digitsReadsUptoRow, standIns := [], harness := (true, "30971e952273ed11676e63844ba5558f4837e1b4c742203e38d151b13d274578"), looks := false }, kinds := [], alts := [], laidByText := true, laidKinds := [.data, .pinned, .pinned], laidTests := true, laidLooks := .later }
def DigitsReadsUptoCardSaid : Prop := Claim7.holds Tryd.pinned (.plain (OpenSpec.upto digitsReadsSpec)) digitsReadsUptoCard

/-- THE SECOND FORM's CARD OF 'idiomlaw08.DigitsRomans'. -/
def digitsRomansUptoCard : Claim7 := { stood := { row := digitsRomansUptoRow, standIns := [], harness := (true, "30971e952273ed11676e63844ba5558f4837e1b4c742203e38d151b13d274578"), looks := false }, kinds := [], alts := [], laidByText := true, laidKinds := [.data, .pinned, .pinned], laidTests := true, laidLooks := .later }
def DigitsRomansUptoCardSaid : Prop := Claim7.holds Tryd.pinned (.plain (OpenSpec.upto digitsRomansSpec)) digitsRomansUptoCard

/-- THE SECOND FORM's CARD OF 'idiomlaw08.DigitsRomanSums'. -/
def digitsRomanSumsUptoCard : Claim7 := { stood := { row := digitsRomanSumsUptoRow, standIns := [], harness := (true, "30971e952273ed11676e63844ba5558f4837e1b4c742203e38d151b13d274578"), looks := false }, kinds := [], alts := [], laidByText := true, laidKinds := [.data, .pinned, .pinned], laidTests := true, laidLooks := .later }
def DigitsRomanSumsUptoCardSaid : Prop := Claim7.holds Tryd.pinned (.plain (OpenSpec.upto digitsRomanSumsSpec)) digitsRomanSumsUptoCard

/-- THE SECOND FORM's CARD OF 'idiomlaw08.DigitsBack'. -/
def digitsBackUptoCard : Claim7 := { stood := { row := digitsBackUptoRow, standIns := [], harness := (true, "30971e952273ed11676e63844ba5558f4837e1b4c742203e38d151b13d274578"), looks := false }, kinds := [], alts := [], laidByText := true, laidKinds := [.data, .pinned, .pinned], laidTests := true, laidLooks := .later }
def DigitsBackUptoCardSaid : Prop := Claim7.holds Tryd.pinned (.plain (OpenSpec.upto digitsBackSpec)) digitsBackUptoCard

/-- THE SECOND FORM's CARD OF 'idiomlaw08.DigitsUnlike'. -/
def digitsUnlikeUptoCard : Claim7 := { stood := { row := digitsUnlikeUptoRow, standIns := [], harness := (true, "30971e952273ed11676e63844ba5558f4837e1b4c742203e38d151b13d274578"), looks := false }, kinds := [], alts := [], laidByText := true, laidKinds := [.data, .pinned, .pinned], laidTests := true, laidLooks := .later }
def DigitsUnlikeUptoCardSaid : Prop := Claim7.holds Tryd.pinned (.plain (OpenSpec.upto digitsUnlikeSpec)) digitsUnlikeUptoCard

/-- THE SECOND FORM's CARD OF 'idiomlaw08.DigitsRise'. -/
def digitsRiseUptoCard : Claim7 := { stood := { row := digitsRiseUptoRow, standIns := [], harness := (true, "30971e952273ed11676e63844ba5558f4837e1b4c742203e38d151b13d274578"), looks := false }, kinds := [], alts := [], laidByText := true, laidKinds := [.data, .pinned, .pinned], laidTests := true, laidLooks := .later }
def DigitsRiseUptoCardSaid : Prop := Claim7.holds Tryd.pinned (.plain (OpenSpec.upto digitsRiseSpec)) digitsRiseUptoCard
end Rows
end Go.Proofs.YtnkjeojhiligpaaDoor
