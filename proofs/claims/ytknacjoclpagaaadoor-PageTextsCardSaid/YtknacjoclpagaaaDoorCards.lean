/-
  DERIVED. GIVEN WITH THE SEED: THE CARDS: each row of YtknacjoclpagaaaDoorRows.lean that lists a variable, with what it lists TIED to the program's text (the seventh form; the later family's looks); each row that meets fmt, with fmt's text TOLD by the authors' own Lean function (tested against real Go, not proved from fmt's source: count such statements apart). THE CARD IS WHAT COUNTS. Prove the row's statement (the work); the ties are given (YtknacjoclpagaaaDoorTie.lean); close each card by the builder's one call (the guide's Derived/Test/ToyasCard.lean, 'card_holds'). Laid BY PROGRAM, IN A SANDBOX (cutbox-door.mjs). By AI agents, Wed Nov 11 2026. No macro, syntax, notation, axiom, sorry.
-/
import Derived.Test.YtknacjoclpagaaaDoorRows
import GoSem.ClaimSeven
namespace Go.Proofs.YtknacjoclpagaaaDoor
namespace Rows

/-- THE TIED CARD OF 'duffellaw21.PageBack'. -/
def pageBackCard : Claim7 := { stood := { row := pageBackRow, standIns := [], harness := (true, "4c73fbf9cf3a7f7f561333c8add34789b574b6d0235db431614af270342b485e"), looks := false }, kinds := [], alts := [], laidByText := true, laidKinds := [.data, .pinned], laidTests := true, laidLooks := .later }
def PageBackCardSaid : Prop := Claim7.holds Tryd.pinned (.plain (OpenSpec.ofChange pageBackSpec)) pageBackCard

/-- THE TIED CARD OF 'duffellaw21.PageTexts'. -/
def pageTextsCard : Claim7 := { stood := { row := pageTextsRow, standIns := [], harness := (true, "4c73fbf9cf3a7f7f561333c8add34789b574b6d0235db431614af270342b485e"), looks := false }, kinds := [], alts := [], laidByText := true, laidKinds := [.data, .pinned], laidTests := true, laidLooks := .later }
def PageTextsCardSaid : Prop := Claim7.holds Tryd.pinned (.plain (OpenSpec.ofChange pageTextsSpec)) pageTextsCard

/-- THE SECOND FORM's CARD OF 'duffellaw21.PageBack'. -/
def pageBackUptoCard : Claim7 := { stood := { row := pageBackUptoRow, standIns := [], harness := (true, "4c73fbf9cf3a7f7f561333c8add34789b574b6d0235db431614af270342b485e"), looks := false }, kinds := [], alts := [], laidByText := true, laidKinds := [.data, .pinned], laidTests := true, laidLooks := .later }
def PageBackUptoCardSaid : Prop := Claim7.holds Tryd.pinned (.plain (OpenSpec.upto pageBackSpec)) pageBackUptoCard

/-- THE SECOND FORM's CARD OF 'duffellaw21.PageTexts'. -/
def pageTextsUptoCard : Claim7 := { stood := { row := pageTextsUptoRow, standIns := [], harness := (true, "4c73fbf9cf3a7f7f561333c8add34789b574b6d0235db431614af270342b485e"), looks := false }, kinds := [], alts := [], laidByText := true, laidKinds := [.data, .pinned], laidTests := true, laidLooks := .later }
def PageTextsUptoCardSaid : Prop := Claim7.holds Tryd.pinned (.plain (OpenSpec.upto pageTextsSpec)) pageTextsUptoCard
end Rows
end Go.Proofs.YtknacjoclpagaaaDoor
