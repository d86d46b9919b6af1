/-
  DERIVED. GIVEN WITH THE SEED: THE CARDS: each row of YtigikjihagmokaaDoorRows.lean that lists a variable, with what it lists TIED to the program's text (the seventh form; the later family's looks); each row that meets fmt, with fmt's text TOLD by the authors' own Lean function (tested against real Go, not proved from fmt's source: count such statements apart). THE CARD IS WHAT COUNTS. Prove the row's statement (the work); the ties are given (YtigikjihagmokaaDoorTie.lean); close each card by the builder's one call (the guide's Derived/Test/ToyasCard.lean, 'card_holds'). Laid BY PROGRAM, IN A SANDBOX (cutbox-door.mjs). By AI agents, Wed Nov 11 2026. No macro, syntax, notation, axiom, sorry.
-/
import Derived.Test.YtigikjihagmokaaDoorRows
import GoSem.ClaimSeven
namespace Go.Proofs.YtigikjihagmokaaDoor
namespace Rows

/-- THE TIED CARD OF 'idiomlaw01.RunesKinds'. -/
def runesKindsCard : Claim7 := { stood := { row := runesKindsRow, standIns := [], harness := (true, "db180a8fbe5abcdb772cdfb66f86918546a4adfbbd5f5a9f967cacb95ddd0520"), looks := true }, kinds := [], alts := [], laidByText := true, laidKinds := [.data, .data, .data, .data, .sentinel, .sentinel, .pinned], laidTests := true, laidLooks := .later }
def RunesKindsCardSaid : Prop := Claim7.holds Tryd.pinned (.plain (OpenSpec.ofChange runesKindsSpec)) runesKindsCard

/-- THE TIED CARD OF 'idiomlaw01.RunesIdents'. -/
def runesIdentsCard : Claim7 := { stood := { row := runesIdentsRow, standIns := [], harness := (true, "db180a8fbe5abcdb772cdfb66f86918546a4adfbbd5f5a9f967cacb95ddd0520"), looks := true }, kinds := [], alts := [], laidByText := true, laidKinds := [.data, .data, .data, .data, .sentinel, .sentinel, .pinned], laidTests := true, laidLooks := .later }
def RunesIdentsCardSaid : Prop := Claim7.holds Tryd.pinned (.plain (OpenSpec.ofChange runesIdentsSpec)) runesIdentsCard

/-- THE TIED CARD OF 'idiomlaw01.RunesFills'. -/
def runesFillsCard : Claim7 := { stood := { row := runesFillsRow, standIns := [], harness := (true, "db180a8fbe5abcdb772cdfb66f86918546a4adfbbd5f5a9f967cacb95ddd0520"), looks := true }, kinds := [], alts := [], laidByText := true, laidKinds := [.data, .data, .data, .data, .sentinel, .sentinel, .pinned], laidTests := true, laidLooks := .later }
def RunesFillsCardSaid : Prop := Claim7.holds Tryd.pinned (.plain (OpenSpec.ofChange runesFillsSpec)) runesFillsCard

/-- THE TIED CARD OF 'idiomlaw01.RunesEscapes'. -/
def runesEscapesCard : Claim7 := { stood := { row := runesEscapesRow, standIns := [], harness := (true, "db180a8fbe5abcdb772cdfb66f86918546a4adfbbd5f5a9f967cacb95ddd0520"), looks := true }, kinds := [], alts := [], laidByText := true, laidKinds := [.data, .data, .data, .data, .sentinel, .sentinel, .pinned], laidTests := true, laidLooks := .later }
def RunesEscapesCardSaid : Prop := Claim7.holds Tryd.pinned (.plain (OpenSpec.ofChange runesEscapesSpec)) runesEscapesCard

/-- THE TIED CARD OF 'idiomlaw01.RunesTrims'. -/
def runesTrimsCard : Claim7 := { stood := { row := runesTrimsRow, standIns := [], harness := (true, "db180a8fbe5abcdb772cdfb66f86918546a4adfbbd5f5a9f967cacb95ddd0520"), looks := true }, kinds := [], alts := [], laidByText := true, laidKinds := [.data, .data, .data, .data, .sentinel, .sentinel, .pinned], laidTests := true, laidLooks := .later }
def RunesTrimsCardSaid : Prop := Claim7.holds Tryd.pinned (.plain (OpenSpec.ofChange runesTrimsSpec)) runesTrimsCard

/-- THE TIED CARD OF 'idiomlaw01.RunesValid'. -/
def runesValidCard : Claim7 := { stood := { row := runesValidRow, standIns := [], harness := (true, "db180a8fbe5abcdb772cdfb66f86918546a4adfbbd5f5a9f967cacb95ddd0520"), looks := true }, kinds := [], alts := [], laidByText := true, laidKinds := [.data, .data, .data, .data, .sentinel, .sentinel, .pinned], laidTests := true, laidLooks := .later }
def RunesValidCardSaid : Prop := Claim7.holds Tryd.pinned (.plain (OpenSpec.ofChange runesValidSpec)) runesValidCard

/-- THE TIED CARD OF 'idiomlaw01.RunesRepairs'. -/
def runesRepairsCard : Claim7 := { stood := { row := runesRepairsRow, standIns := [], harness := (true, "db180a8fbe5abcdb772cdfb66f86918546a4adfbbd5f5a9f967cacb95ddd0520"), looks := true }, kinds := [], alts := [], laidByText := true, laidKinds := [.data, .data, .data, .data, .sentinel, .sentinel, .pinned], laidTests := true, laidLooks := .later }
def RunesRepairsCardSaid : Prop := Claim7.holds Tryd.pinned (.plain (OpenSpec.ofChange runesRepairsSpec)) runesRepairsCard

/-- THE TIED CARD OF 'idiomlaw01.RunesUnescapes'. -/
def runesUnescapesCard : Claim7 := { stood := { row := runesUnescapesRow, standIns := [], harness := (true, "db180a8fbe5abcdb772cdfb66f86918546a4adfbbd5f5a9f967cacb95ddd0520"), looks := true }, kinds := [], alts := [], laidByText := true, laidKinds := [.data, .data, .data, .data, .sentinel, .sentinel, .pinned], laidTests := true, laidLooks := .later }
def RunesUnescapesCardSaid : Prop := Claim7.holds Tryd.pinned (.plain (OpenSpec.ofChange runesUnescapesSpec)) runesUnescapesCard

/-- THE TIED CARD OF 'idiomlaw01.RunesBack'. -/
def runesBackCard : Claim7 := { stood := { row := runesBackRow, standIns := [], harness := (true, "db180a8fbe5abcdb772cdfb66f86918546a4adfbbd5f5a9f967cacb95ddd0520"), looks := true }, kinds := [], alts := [], laidByText := true, laidKinds := [.data, .data, .data, .data, .sentinel, .sentinel, .pinned], laidTests := true, laidLooks := .later }
def RunesBackCardSaid : Prop := Claim7.holds Tryd.pinned (.plain (OpenSpec.ofChange runesBackSpec)) runesBackCard

/-- THE SECOND FORM's CARD OF 'idiomlaw01.RunesKinds'. -/
def runesKindsUptoCard : Claim7 := { stood := { row := runesKindsUptoRow, standIns := [], harness := (true, "db180a8fbe5abcdb772cdfb66f86918546a4adfbbd5f5a9f967cacb95ddd0520"), looks := true }, kinds := [], alts := [], laidByText := true, laidKinds := [.data, .data, .data, .data, .sentinel, .sentinel, .pinned], laidTests := true, laidLooks := .later }
def RunesKindsUptoCardSaid : Prop := Claim7.holds Tryd.pinned (.plain (OpenSpec.upto runesKindsSpec)) runesKindsUptoCard

/-- THE SECOND FORM's CARD OF 'idiomlaw01.RunesIdents'. -/
def runesIdentsUptoCard : Claim7 := { stood := { row := runesIdentsUptoRow, standIns := [], harness := (true, "db180a8fbe5abcdb772cdfb66f86918546a4adfbbd5f5a9f967cacb95ddd0520"), looks := true }, kinds := [], alts := [], laidByText := true, laidKinds := [.data, .data, .data, .data, .sentinel, .sentinel, .pinned], laidTests := true, laidLooks := .later }
def RunesIdentsUptoCardSaid : Prop := Claim7.holds Tryd.pinned (.plain (OpenSpec.upto runesIdentsSpec)) runesIdentsUptoCard

/-- THE SECOND FORM's CARD OF 'idiomlaw01.RunesFills'. -/
def runesFillsUptoCard : Claim7 := { stood := { row := runesFillsUptoRow, standIns := [], harness := (true, "db180a8fbe5abcdb772cdfb66f86918546a4adfbbd5f5a9f967cacb95ddd0520"), looks := true }, kinds := [], alts := [], laidByText := true, laidKinds := [.data, .data, .data, .data, .sentinel, .sentinel, .pinned], laidTests := true, laidLooks := .later }
def RunesFillsUptoCardSaid : Prop := Claim7.holds Tryd.pinned (.plain (OpenSpec.upto runesFillsSpec)) runesFillsUptoCard

/-- THE SECOND FORM's CARD OF 'idiomlaw01.RunesEscapes'. -/
def runesEscapesUptoCard : Claim7 := { stood := { row := runesEscapesUptoRow, standIns := [], harness := (true, "db180a8fbe5abcdb772cdfb66f86918546a4adfbbd5f5a9f967cacb95ddd0520"), looks := true }, kinds := [], alts := [], laidByText := true, laidKinds := [.data, .data, .data, .data, .sentinel, .sentinel, .pinned], laidTests := true, laidLooks := .later }
def RunesEscapesUptoCardSaid : Prop := Claim7.holds Tryd.pinned (.plain (OpenSpec.upto runesEscapesSpec)) runesEscapesUptoCard

/-- THE SECOND FORM's CARD OF 'idiomlaw01.RunesTrims'. -/
def runesTrimsUptoCard : Claim7 := { stood := { row := runesTrimsUptoRow, standIns := [], harness := (true, "db180a8fbe5abcdb772cdfb66f86918546a4adfbbd5f5a9f967cacb95ddd0520"), looks := true }, kinds := [], alts := [], laidByText := true, laidKinds := [.data, .data, .data, .data, .sentinel, .sentinel, .pinned], laidTests := true, laidLooks := .later }
def RunesTrimsUptoCardSaid : Prop := Claim7.holds Tryd.pinned (.plain (OpenSpec.upto runesTrimsSpec)) runesTrimsUptoCard

/-- THE SECOND FORM's CARD OF 'idiomlaw01.RunesValid'. -/
def runesValidUptoCard : Claim7 := { stood := { row := runesValidUptoRow, standIns := [], harness := (true, "db180a8fbe5abcdb772cdfb66f86918546a4adfbbd5f5a9f967cacb95ddd0520"), looks := true }, kinds := [], alts := [], laidByText := true, laidKinds := [.data, .data, .data, .data, .sentinel, .sentinel, .pinned], laidTests := true, laidLooks := .later }
def RunesValidUptoCardSaid : Prop := Claim7.holds Tryd.pinned (.plain (OpenSpec.upto runesValidSpec)) runesValidUptoCard

/-- THE SECOND FORM's CARD OF 'idiomlaw01.RunesRepairs'. -/
def runesRepairsUptoCard : Claim7 := { stood := { row := runesRepairsUptoRow, standIns := [], harness := (true, "db180a8fbe5abcdb772cdfb66f86918546a4adfbbd5f5a9f967cacb95ddd0520"), looks := true }, kinds := [], alts := [], laidByText := true, laidKinds := [.data, .data, .data, .data, .sentinel, .sentinel, .pinned], laidTests := true, laidLooks := .later }
def RunesRepairsUptoCardSaid : Prop := Claim7.holds Tryd.pinned (.plain (OpenSpec.upto runesRepairsSpec)) runesRepairsUptoCard

/-- THE SECOND FORM's CARD OF 'idiomlaw01.RunesUnescapes'. -/
def runesUnescapesUptoCard : Claim7 := { stood := { row := runesUnescapesUptoRow, standIns := [], harness := (true, "db180a8fbe5abcdb772cdfb66f86918546a4adfbbd5f5a9f967cacb95ddd0520"), looks := true }, kinds := [], alts := [], laidByText := true, laidKinds := [.data, .data, .data, .data, .sentinel, .sentinel, .pinned], laidTests := true, laidLooks := .later }
def RunesUnescapesUptoCardSaid : Prop := Claim7.holds Tryd.pinned (.plain (OpenSpec.upto runesUnescapesSpec)) runesUnescapesUptoCard

/-- THE SECOND FORM's CARD OF 'idiomlaw01.RunesBack'. -/
def runesBackUptoCard : Claim7 := { stood := { row := runesBackUptoRow, standIns := [], harness := (true, "db180a8fbe5abcdb772cdfb66f86918546a4adfbbd5f5a9f967cacb95ddd0520"), looks := true }, kinds := [], alts := [], laidByText := true, laidKinds := [.data, .data, .data, .data, .sentinel, .sentinel, .pinned], laidTests := true, laidLooks := .later }
def RunesBackUptoCardSaid : Prop := Claim7.holds Tryd.pinned (.plain (OpenSpec.upto runesBackSpec)) runesBackUptoCard
end Rows
end Go.Proofs.YtigikjihagmokaaDoor
