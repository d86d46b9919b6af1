/-
  DERIVED. GIVEN WITH THE SEED: THE CARDS: each row of YtpmhebdaphjinaaDoorRows.lean that lists a variable, with what it lists TIED to the program's text (the seventh form; the later family's looks); each row that meets fmt, with fmt's text TOLD by the authors' own Lean function (tested against real Go, not proved from fmt's source: count such statements apart). THE CARD IS WHAT COUNTS. Prove the row's statement (the work); the ties are given (YtpmhebdaphjinaaDoorTie.lean); close each card by the builder's one call (the guide's Derived/Test/ToyasCard.lean, 'card_holds'). Laid BY PROGRAM, IN A SANDBOX (cutbox-door.mjs). By AI agents, Wed Nov 11 2026. No macro, syntax, notation, axiom, sorry.
-/
import Derived.Test.YtpmhebdaphjinaaDoorRows
import GoSem.ClaimSeven
namespace Go.Proofs.YtpmhebdaphjinaaDoor
namespace Rows

/-- THE TIED CARD OF 'idiomlaw03.RoundPlaces'. -/
def roundPlacesCard : Claim7 := { stood := { row := roundPlacesRow, standIns := [], harness := (true, "17d58749583c6ff93f7a7890fc88333e8efeedf2355f967056b334c6e65c3903"), looks := false }, kinds := [], alts := [], laidByText := true, laidKinds := [.data, .pinned], laidTests := true, laidLooks := .later }
def RoundPlacesCardSaid : Prop := Claim7.holds Tryd.pinned (.plain (OpenSpec.ofChange roundPlacesSpec)) roundPlacesCard

/-- THE TIED CARD OF 'idiomlaw03.RoundNear'. -/
def roundNearCard : Claim7 := { stood := { row := roundNearRow, standIns := [], harness := (true, "17d58749583c6ff93f7a7890fc88333e8efeedf2355f967056b334c6e65c3903"), looks := false }, kinds := [], alts := [], laidByText := true, laidKinds := [.data, .pinned], laidTests := true, laidLooks := .later }
def RoundNearCardSaid : Prop := Claim7.holds Tryd.pinned (.plain (OpenSpec.ofChange roundNearSpec)) roundNearCard

/-- THE TIED CARD OF 'idiomlaw03.RoundModes'. -/
def roundModesCard : Claim7 := { stood := { row := roundModesRow, standIns := [], harness := (true, "17d58749583c6ff93f7a7890fc88333e8efeedf2355f967056b334c6e65c3903"), looks := false }, kinds := [], alts := [], laidByText := true, laidKinds := [.data, .pinned], laidTests := true, laidLooks := .later }
def RoundModesCardSaid : Prop := Claim7.holds Tryd.pinned (.plain (OpenSpec.ofChange roundModesSpec)) roundModesCard

/-- THE TIED CARD OF 'idiomlaw03.RoundFixes'. -/
def roundFixesCard : Claim7 := { stood := { row := roundFixesRow, standIns := [], harness := (true, "17d58749583c6ff93f7a7890fc88333e8efeedf2355f967056b334c6e65c3903"), looks := false }, kinds := [], alts := [], laidByText := true, laidKinds := [.data, .pinned], laidTests := true, laidLooks := .later }
def RoundFixesCardSaid : Prop := Claim7.holds Tryd.pinned (.plain (OpenSpec.ofChange roundFixesSpec)) roundFixesCard

/-- THE TIED CARD OF 'idiomlaw03.RoundDigits'. -/
def roundDigitsCard : Claim7 := { stood := { row := roundDigitsRow, standIns := [], harness := (true, "17d58749583c6ff93f7a7890fc88333e8efeedf2355f967056b334c6e65c3903"), looks := false }, kinds := [], alts := [], laidByText := true, laidKinds := [.data, .pinned], laidTests := true, laidLooks := .later }
def RoundDigitsCardSaid : Prop := Claim7.holds Tryd.pinned (.plain (OpenSpec.ofChange roundDigitsSpec)) roundDigitsCard

/-- THE TIED CARD OF 'idiomlaw03.RoundAgain'. -/
def roundAgainCard : Claim7 := { stood := { row := roundAgainRow, standIns := [], harness := (true, "17d58749583c6ff93f7a7890fc88333e8efeedf2355f967056b334c6e65c3903"), looks := false }, kinds := [], alts := [], laidByText := true, laidKinds := [.data, .pinned], laidTests := true, laidLooks := .later }
def RoundAgainCardSaid : Prop := Claim7.holds Tryd.pinned (.plain (OpenSpec.ofChange roundAgainSpec)) roundAgainCard

/-- THE TIED CARD OF 'idiomlaw03.RoundSteps'. -/
def roundStepsCard : Claim7 := { stood := { row := roundStepsRow, standIns := [], harness := (true, "17d58749583c6ff93f7a7890fc88333e8efeedf2355f967056b334c6e65c3903"), looks := false }, kinds := [], alts := [], laidByText := true, laidKinds := [.data, .pinned], laidTests := true, laidLooks := .later }
def RoundStepsCardSaid : Prop := Claim7.holds Tryd.pinned (.plain (OpenSpec.ofChange roundStepsSpec)) roundStepsCard

/-- THE SECOND FORM's CARD OF 'idiomlaw03.RoundPlaces'. -/
def roundPlacesUptoCard : Claim7 := { stood := { row := roundPlacesUptoRow, standIns := [], harness := (true, "17d58749583c6ff93f7a7890fc88333e8efeedf2355f967056b334c6e65c3903"), looks := false }, kinds := [], alts := [], laidByText := true, laidKinds := [.data, .pinned], laidTests := true, laidLooks := .later }
def RoundPlacesUptoCardSaid : Prop := Claim7.holds Tryd.pinned (.plain (OpenSpec.upto roundPlacesSpec)) roundPlacesUptoCard

/-- THE SECOND FORM's CARD OF 'idiomlaw03.RoundNear'. -/
def roundNearUptoCard : Claim7 := { stood := { row := roundNearUptoRow, standIns := [], harness := (true, "17d58749583c6ff93f7a7890fc88333e8efeedf2355f967056b334c6e65c3903"), looks := false }, kinds := [], alts := [], laidByText := true, laidKinds := [.data, .pinned], laidTests := true, laidLooks := .later }
def RoundNearUptoCardSaid : Prop := Claim7.holds Tryd.pinned (.plain (OpenSpec.upto roundNearSpec)) roundNearUptoCard

/-- THE SECOND FORM's CARD OF 'idiomlaw03.RoundModes'. -/
def roundModesUptoCard : Claim7 := { stood := { row := roundModesUptoRow, standIns := [], harness := (true, "17d58749583c6ff93f7a7890fc88333e8efeedf2355f967056b334c6e65c3903"), looks := false }, kinds := [], alts := [], laidByText := true, laidKinds := [.data, .pinned], laidTests := true, laidLooks := .later }
def RoundModesUptoCardSaid : Prop := Claim7.holds Tryd.pinned (.plain (OpenSpec.upto roundModesSpec)) roundModesUptoCard

/-- THE SECOND FORM's CARD OF 'idiomlaw03.RoundFixes'. -/
def roundFixesUptoCard : Claim7 := { stood := { row := roundFixesUptoRow, standIns := [], harness := (true, "17d58749583c6ff93f7a7890fc88333e8efeedf2355f967056b334c6e65c3903"), looks := false }, kinds := [], alts := [], laidByText := true, laidKinds := [.data, .pinned], laidTests := true, laidLooks := .later }
def RoundFixesUptoCardSaid : Prop := Claim7.holds Tryd.pinned (.plain (OpenSpec.upto roundFixesSpec)) roundFixesUptoCard

/-- THE SECOND FORM's CARD OF 'idiomlaw03.RoundDigits'. -/
def roundDigitsUptoCard : Claim7 := { stood := { row := roundDigitsUptoRow, standIns := [], harness := (true, "17d58749583c6ff93f7a7890fc88333e8efeedf2355f967056b334c6e65c3903"), looks := false }, kinds := [], alts := [], laidByText := true, laidKinds := [.data, .pinned], laidTests := true, laidLooks := .later }
def RoundDigitsUptoCardSaid : Prop := Claim7.holds Tryd.pinned (.plain (OpenSpec.upto roundDigitsSpec)) roundDigitsUptoCard

/-- THE SECOND FORM's CARD OF 'idiomlaw03.RoundAgain'. -/
def roundAgainUptoCard : Claim7 := { stood := { row := roundAgainUptoRow, standIns := [], harness := (true, "17d58749583c6ff93f7a7890fc88333e8efeedf2355f967056b334c6e65c3903"), looks := false }, kinds := [], alts := [], laidByText := true, laidKinds := [.data, .pinned], laidTests := true, laidLooks := .later }
def RoundAgainUptoCardSaid : Prop := Claim7.holds Tryd.pinned (.plain (OpenSpec.upto roundAgainSpec)) roundAgainUptoCard

/-- THE SECOND FORM's CARD OF 'idiomlaw03.RoundSteps'. -/
def roundStepsUptoCard : Claim7 := { stood := { row := roundStepsUptoRow, standIns := [], harness := (true, "17d58749583c6ff93f7a7890fc88333e8efeedf2355f967056b334c6e65c3903"), looks := false }, kinds := [], alts := [], laidByText := true, laidKinds := [.data, .pinned], laidTests := true, laidLooks := .later }
def RoundStepsUptoCardSaid : Prop := Claim7.holds Tryd.pinned (.plain (OpenSpec.upto roundStepsSpec)) roundStepsUptoCard
end Rows
end Go.Proofs.YtpmhebdaphjinaaDoor
