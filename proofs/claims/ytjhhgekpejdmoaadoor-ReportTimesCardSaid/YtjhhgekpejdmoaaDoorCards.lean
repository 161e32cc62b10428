/-
  DERIVED. GIVEN WITH THE SEED: THE CARDS: each row of YtjhhgekpejdmoaaDoorRows.lean that lists a variable, with what it lists TIED to the program's text (the seventh form; the later family's looks); each row that meets fmt, with fmt's text TOLD by the authors' own Lean function (tested against real Go, not proved from fmt's source: count such statements apart). THE CARD IS WHAT COUNTS. Prove the row's statement (the work); the ties are given (YtjhhgekpejdmoaaDoorTie.lean); close each card by the builder's one call (the guide's Derived/Test/ToyasCard.lean, 'card_holds'). Laid BY PROGRAM, IN A SANDBOX (cutbox-door.mjs). By AI agents, Wed Nov 11 2026. No macro, syntax, notation, axiom, sorry.
-/
import Derived.Test.YtjhhgekpejdmoaaDoorRows
import GoSem.ClaimSeven
namespace Go.Proofs.YtjhhgekpejdmoaaDoor
namespace Rows

/-- THE TIED CARD OF 'duffellaw34.ReportRatios'. -/
def reportRatiosCard : Claim7 := { stood := { row := reportRatiosRow, standIns := [], harness := (true, "55c1d78dc66969c6b36774b3cfba6b00e33cf54d25944adc8660d51ed5cfc069"), looks := false }, kinds := [], alts := [], laidByText := true, laidKinds := [.data, .data, .data], laidTests := true, laidLooks := .later }
def ReportRatiosCardSaid : Prop := Claim7.holds Tryd.pinned (.plain (OpenSpec.ofChange reportRatiosSpec)) reportRatiosCard

/-- THE TIED CARD OF 'duffellaw34.ReportWords'. -/
def reportWordsCard : Claim7 := { stood := { row := reportWordsRow, standIns := [], harness := (true, "55c1d78dc66969c6b36774b3cfba6b00e33cf54d25944adc8660d51ed5cfc069"), looks := false }, kinds := [], alts := [], laidByText := true, laidKinds := [.data, .data, .data], laidTests := true, laidLooks := .later }
def ReportWordsCardSaid : Prop := Claim7.holds Tryd.pinned (.plain (OpenSpec.ofChange reportWordsSpec)) reportWordsCard

/-- THE TIED CARD OF 'duffellaw34.ReportTimes'. -/
def reportTimesCard : Claim7 := { stood := { row := reportTimesRow, standIns := [], harness := (true, "55c1d78dc66969c6b36774b3cfba6b00e33cf54d25944adc8660d51ed5cfc069"), looks := false }, kinds := [], alts := [], laidByText := true, laidKinds := [.data, .data, .data], laidTests := true, laidLooks := .later }
def ReportTimesCardSaid : Prop := Claim7.holds Tryd.pinned (.plain (OpenSpec.ofChange reportTimesSpec)) reportTimesCard

/-- THE TIED CARD OF 'duffellaw34.ReportColumns'. -/
def reportColumnsCard : Claim7 := { stood := { row := reportColumnsRow, standIns := [], harness := (true, "55c1d78dc66969c6b36774b3cfba6b00e33cf54d25944adc8660d51ed5cfc069"), looks := false }, kinds := [], alts := [], laidByText := true, laidKinds := [.data, .data, .data, .data, .pinned], laidTests := true, laidLooks := .later }
def ReportColumnsCardSaid : Prop := Claim7.holds Tryd.pinned (.plain (OpenSpec.ofChange reportColumnsSpec)) reportColumnsCard

/-- THE SECOND FORM's CARD OF 'duffellaw34.ReportRatios'. -/
def reportRatiosUptoCard : Claim7 := { stood := { row := reportRatiosUptoRow, standIns := [], harness := (true, "55c1d78dc66969c6b36774b3cfba6b00e33cf54d25944adc8660d51ed5cfc069"), looks := false }, kinds := [], alts := [], laidByText := true, laidKinds := [.data, .data, .data], laidTests := true, laidLooks := .later }
def ReportRatiosUptoCardSaid : Prop := Claim7.holds Tryd.pinned (.plain (OpenSpec.upto reportRatiosSpec)) reportRatiosUptoCard

/-- THE SECOND FORM's CARD OF 'duffellaw34.ReportWords'. -/
def reportWordsUptoCard : Claim7 := { stood := { row := reportWordsUptoRow, standIns := [], harness := (true, "55c1d78dc66969c6b36774b3cfba6b00e33cf54d25944adc8660d51ed5cfc069"), looks := false }, kinds := [], alts := [], laidByText := true, laidKinds := [.data, .data, .data], laidTests := true, laidLooks := .later }
def ReportWordsUptoCardSaid : Prop := Claim7.holds Tryd.pinned (.plain (OpenSpec.upto reportWordsSpec)) reportWordsUptoCard

/-- THE SECOND FORM's CARD OF 'duffellaw34.ReportTimes'. -/
def reportTimesUptoCard : Claim7 := { stood := { row := reportTimesUptoRow, standIns := [], harness := (true, "55c1d78dc66969c6b36774b3cfba6b00e33cf54d25944adc8660d51ed5cfc069"), looks := false }, kinds := [], alts := [], laidByText := true, laidKinds := [.data, .data, .data], laidTests := true, laidLooks := .later }
def ReportTimesUptoCardSaid : Prop := Claim7.holds Tryd.pinned (.plain (OpenSpec.upto reportTimesSpec)) reportTimesUptoCard

/-- THE SECOND FORM's CARD OF 'duffellaw34.ReportColumns'. -/
def reportColumnsUptoCard : Claim7 := { stood := { row := reportColumnsUptoRow, standIns := [], harness := (true, "55c1d78dc66969c6b36774b3cfba6b00e33cf54d25944adc8660d51ed5cfc069"), looks := false }, kinds := [], alts := [], laidByText := true, laidKinds := [.data, .data, .data, .data, .pinned], laidTests := true, laidLooks := .later }
def ReportColumnsUptoCardSaid : Prop := Claim7.holds Tryd.pinned (.plain (OpenSpec.upto reportColumnsSpec)) reportColumnsUptoCard
end Rows
end Go.Proofs.YtjhhgekpejdmoaaDoor
