/-
  DERIVED. GIVEN WITH THE SEED: THE CARDS: each row of YtlliomkjnhbbbaaDoorRows.lean that lists a variable, with what it lists TIED to the program's text (the seventh form; the later family's looks); each row that meets fmt, with fmt's text TOLD by the authors' own Lean function (tested against real Go, not proved from fmt's source: count such statements apart). THE CARD IS WHAT COUNTS. Prove the row's statement (the work); the ties are given (YtlliomkjnhbbbaaDoorTie.lean); close each card by the builder's one call (the guide's Derived/Test/ToyasCard.lean, 'card_holds'). Laid BY PROGRAM, IN A SANDBOX (cutbox-door.mjs). By AI agents, Wed Nov 11 2026. No macro, syntax, notation, axiom, sorry.
-/
import Derived.Test.YtlliomkjnhbbbaaDoorRows
import GoSem.ClaimSeven
namespace Go.Proofs.YtlliomkjnhbbbaaDoor
namespace Rows

/-- THE TIED CARD OF 'duffellaw39.TextLines'. -/
def textLinesCard : Claim7 := { stood := { row := textLinesRow, standIns := [], harness := (true, "75aa5932eaa1f7e503fa004f32ae152f1fa23f81c5c0c72936aadcf0cbd7491e"), looks := false }, kinds := [], alts := [], laidByText := true, laidKinds := [.data, .pinned], laidTests := true, laidLooks := .later }
def TextLinesCardSaid : Prop := Claim7.holds Tryd.pinned (.plain (OpenSpec.ofChange textLinesSpec)) textLinesCard

/-- THE TIED CARD OF 'duffellaw39.TextBack'. -/
def textBackCard : Claim7 := { stood := { row := textBackRow, standIns := [], harness := (true, "75aa5932eaa1f7e503fa004f32ae152f1fa23f81c5c0c72936aadcf0cbd7491e"), looks := false }, kinds := [], alts := [], laidByText := true, laidKinds := [.data, .pinned], laidTests := true, laidLooks := .later }
def TextBackCardSaid : Prop := Claim7.holds Tryd.pinned (.plain (OpenSpec.ofChange textBackSpec)) textBackCard

/-- THE TIED CARD OF 'duffellaw39.TextTells'. -/
def textTellsCard : Claim7 := { stood := { row := textTellsRow, standIns := [], harness := (true, "75aa5932eaa1f7e503fa004f32ae152f1fa23f81c5c0c72936aadcf0cbd7491e"), looks := false }, kinds := [], alts := [], laidByText := true, laidKinds := [.data, .pinned], laidTests := true, laidLooks := .later }
def TextTellsCardSaid : Prop := Claim7.holds Tryd.pinned (.plain (OpenSpec.ofChange textTellsSpec)) textTellsCard

/-- THE TIED CARD OF 'duffellaw39.TextTabs'. -/
def textTabsCard : Claim7 := { stood := { row := textTabsRow, standIns := [], harness := (true, "75aa5932eaa1f7e503fa004f32ae152f1fa23f81c5c0c72936aadcf0cbd7491e"), looks := false }, kinds := [], alts := [], laidByText := true, laidKinds := [.data, .pinned], laidTests := true, laidLooks := .later }
def TextTabsCardSaid : Prop := Claim7.holds Tryd.pinned (.plain (OpenSpec.ofChange textTabsSpec)) textTabsCard

/-- THE TIED CARD OF 'duffellaw39.TextUntabs'. -/
def textUntabsCard : Claim7 := { stood := { row := textUntabsRow, standIns := [], harness := (true, "75aa5932eaa1f7e503fa004f32ae152f1fa23f81c5c0c72936aadcf0cbd7491e"), looks := false }, kinds := [], alts := [], laidByText := true, laidKinds := [.data, .pinned], laidTests := true, laidLooks := .later }
def TextUntabsCardSaid : Prop := Claim7.holds Tryd.pinned (.plain (OpenSpec.ofChange textUntabsSpec)) textUntabsCard

/-- THE SECOND FORM's CARD OF 'duffellaw39.TextLines'. -/
def textLinesUptoCard : Claim7 := { stood := { row := textLinesUptoRow, standIns := [], harness := (true, "75aa5932eaa1f7e503fa004f32ae152f1fa23f81c5c0c72936aadcf0cbd7491e"), looks := false }, kinds := [], alts := [], laidByText := true, laidKinds := [.data, .pinned], laidTests := true, laidLooks := .later }
def TextLinesUptoCardSaid : Prop := Claim7.holds Tryd.pinned (.plain (OpenSpec.upto textLinesSpec)) textLinesUptoCard

/-- THE SECOND FORM's CARD OF 'duffellaw39.TextBack'. -/
def textBackUptoCard : Claim7 := { stood := { row := textBackUptoRow, standIns := [], harness := (true, "75aa5932eaa1f7e503fa004f32ae152f1fa23f81c5c0c72936aadcf0cbd7491e"), looks := false }, kinds := [], alts := [], laidByText := true, laidKinds := [.data, .pinned], laidTests := true, laidLooks := .later }
def TextBackUptoCardSaid : Prop := Claim7.holds Tryd.pinned (.plain (OpenSpec.upto textBackSpec)) textBackUptoCard

/-- THE SECOND FORM's CARD OF 'duffellaw39.TextTells'. -/
def textTellsUptoCard : Claim7 := { stood := { row := textTellsUptoRow, standIns := [], harness := (true, "75aa5932eaa1f7e503fa004f32ae152f1fa23f81c5c0c72936aadcf0cbd7491e"), looks := false }, kinds := [], alts := [], laidByText := true, laidKinds := [.data, .pinned], laidTests := true, laidLooks := .later }
def TextTellsUptoCardSaid : Prop := Claim7.holds Tryd.pinned (.plain (OpenSpec.upto textTellsSpec)) textTellsUptoCard

/-- THE SECOND FORM's CARD OF 'duffellaw39.TextTabs'. -/
def textTabsUptoCard : Claim7 := { stood := { row := textTabsUptoRow, standIns := [], harness := (true, "75aa5932eaa1f7e503fa004f32ae152f1fa23f81c5c0c72936aadcf0cbd7491e"), looks := false }, kinds := [], alts := [], laidByText := true, laidKinds := [.data, .pinned], laidTests := true, laidLooks := .later }
def TextTabsUptoCardSaid : Prop := Claim7.holds Tryd.pinned (.plain (OpenSpec.upto textTabsSpec)) textTabsUptoCard

/-- THE SECOND FORM's CARD OF 'duffellaw39.TextUntabs'. -/
def textUntabsUptoCard : Claim7 := { stood := { row := textUntabsUptoRow, standIns := [], harness := (true, "75aa5932eaa1f7e503fa004f32ae152f1fa23f81c5c0c72936aadcf0cbd7491e"), looks := false }, kinds := [], alts := [], laidByText := true, laidKinds := [.data, .pinned], laidTests := true, laidLooks := .later }
def TextUntabsUptoCardSaid : Prop := Claim7.holds Tryd.pinned (.plain (OpenSpec.upto textUntabsSpec)) textUntabsUptoCard
end Rows
end Go.Proofs.YtlliomkjnhbbbaaDoor
