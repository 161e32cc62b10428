/-
  DERIVED. GIVEN WITH THE SEED: THE CARDS: each row of YtegfcemedkajkaaDoorRows.lean that lists a variable, with what it lists TIED to the program's text (the seventh form; the later family's looks); each row that meets fmt, with fmt's text TOLD by the authors' own Lean function (tested against real Go, not proved from fmt's source: count such statements apart). THE CARD IS WHAT COUNTS. Prove the row's statement (the work); the ties are given (YtegfcemedkajkaaDoorTie.lean); close each card by the builder's one call (the guide's Derived/Test/ToyasCard.lean, 'card_holds'). Laid BY PROGRAM, IN A SANDBOX (cutbox-door.mjs). By AI agents, Wed Nov 11 2026. No macro, syntax, notation, axiom, sorry.
-/
import Derived.Test.YtegfcemedkajkaaDoorRows
import GoSem.ClaimSeven
namespace Go.Proofs.YtegfcemedkajkaaDoor
namespace Rows

/-- THE TIED CARD OF 'duffellaw29.WildMatches'. -/
def wildMatchesCard : Claim7 := { stood := { row := wildMatchesRow, standIns := [], harness := (true, "44f4e47569a143cd0bc355277126d5e2a80ac9ff065e17c2101586de8ebe50b7"), looks := false }, kinds := [], alts := [], laidByText := true, laidKinds := [.data, .pinned], laidTests := true, laidLooks := .later }
def WildMatchesCardSaid : Prop := Claim7.holds Tryd.pinned (.plain (OpenSpec.ofChange wildMatchesSpec)) wildMatchesCard

/-- THE TIED CARD OF 'duffellaw29.WildPlain'. -/
def wildPlainCard : Claim7 := { stood := { row := wildPlainRow, standIns := [], harness := (true, "44f4e47569a143cd0bc355277126d5e2a80ac9ff065e17c2101586de8ebe50b7"), looks := false }, kinds := [], alts := [], laidByText := true, laidKinds := [.data, .pinned], laidTests := true, laidLooks := .later }
def WildPlainCardSaid : Prop := Claim7.holds Tryd.pinned (.plain (OpenSpec.ofChange wildPlainSpec)) wildPlainCard

/-- THE TIED CARD OF 'duffellaw29.WildJoins'. -/
def wildJoinsCard : Claim7 := { stood := { row := wildJoinsRow, standIns := [], harness := (true, "44f4e47569a143cd0bc355277126d5e2a80ac9ff065e17c2101586de8ebe50b7"), looks := false }, kinds := [], alts := [], laidByText := true, laidKinds := [.data, .pinned], laidTests := true, laidLooks := .later }
def WildJoinsCardSaid : Prop := Claim7.holds Tryd.pinned (.plain (OpenSpec.ofChange wildJoinsSpec)) wildJoinsCard

/-- THE TIED CARD OF 'duffellaw29.WildFolds'. -/
def wildFoldsCard : Claim7 := { stood := { row := wildFoldsRow, standIns := [], harness := (true, "44f4e47569a143cd0bc355277126d5e2a80ac9ff065e17c2101586de8ebe50b7"), looks := false }, kinds := [], alts := [], laidByText := true, laidKinds := [.data, .pinned], laidTests := true, laidLooks := .later }
def WildFoldsCardSaid : Prop := Claim7.holds Tryd.pinned (.plain (OpenSpec.ofChange wildFoldsSpec)) wildFoldsCard

/-- THE TIED CARD OF 'duffellaw29.WildCase'. -/
def wildCaseCard : Claim7 := { stood := { row := wildCaseRow, standIns := [], harness := (true, "44f4e47569a143cd0bc355277126d5e2a80ac9ff065e17c2101586de8ebe50b7"), looks := false }, kinds := [], alts := [], laidByText := true, laidKinds := [.data, .pinned], laidTests := true, laidLooks := .later }
def WildCaseCardSaid : Prop := Claim7.holds Tryd.pinned (.plain (OpenSpec.ofChange wildCaseSpec)) wildCaseCard

/-- THE TIED CARD OF 'duffellaw29.WildChooses'. -/
def wildChoosesCard : Claim7 := { stood := { row := wildChoosesRow, standIns := [], harness := (true, "44f4e47569a143cd0bc355277126d5e2a80ac9ff065e17c2101586de8ebe50b7"), looks := false }, kinds := [], alts := [], laidByText := true, laidKinds := [.data, .pinned], laidTests := true, laidLooks := .later }
def WildChoosesCardSaid : Prop := Claim7.holds Tryd.pinned (.plain (OpenSpec.ofChange wildChoosesSpec)) wildChoosesCard

/-- THE SECOND FORM's CARD OF 'duffellaw29.WildMatches'. -/
def wildMatchesUptoCard : Claim7 := { stood := { row := wildMatchesUptoRow, standIns := [], harness := (true, "44f4e47569a143cd0bc355277126d5e2a80ac9ff065e17c2101586de8ebe50b7"), looks := false }, kinds := [], alts := [], laidByText := true, laidKinds := [.data, .pinned], laidTests := true, laidLooks := .later }
def WildMatchesUptoCardSaid : Prop := Claim7.holds Tryd.pinned (.plain (OpenSpec.upto wildMatchesSpec)) wildMatchesUptoCard

/-- THE SECOND FORM's CARD OF 'duffellaw29.WildPlain'. -/
def wildPlainUptoCard : Claim7 := { stood := { row := wildPlainUptoRow, standIns := [], harness := (true, "44f4e47569a143cd0bc355277126d5e2a80ac9ff065e17c2101586de8ebe50b7"), looks := false }, kinds := [], alts := [], laidByText := true, laidKinds := [.data, .pinned], laidTests := true, laidLooks := .later }
def WildPlainUptoCardSaid : Prop := Claim7.holds Tryd.pinned (.plain (OpenSpec.upto wildPlainSpec)) wildPlainUptoCard

/-- THE SECOND FORM's CARD OF 'duffellaw29.WildJoins'. -/
def wildJoinsUptoCard : Claim7 := { stood := { row := wildJoinsUptoRow, standIns := [], harness := (true, "44f4e47569a143cd0bc355277126d5e2a80ac9ff065e17c2101586de8ebe50b7"), looks := false }, kinds := [], alts := [], laidByText := true, laidKinds := [.data, .pinned], laidTests := true, laidLooks := .later }
def WildJoinsUptoCardSaid : Prop := Claim7.holds Tryd.pinned (.plain (OpenSpec.upto wildJoinsSpec)) wildJoinsUptoCard

/-- THE SECOND FORM's CARD OF 'duffellaw29.WildFolds'. -/
def wildFoldsUptoCard : Claim7 := { stood := { row := wildFoldsUptoRow, standIns := [], harness := (true, "44f4e47569a143cd0bc355277126d5e2a80ac9ff065e17c2101586de8ebe50b7"), looks := false }, kinds := [], alts := [], laidByText := true, laidKinds := [.data, .pinned], laidTests := true, laidLooks := .later }
def WildFoldsUptoCardSaid : Prop := Claim7.holds Tryd.pinned (.plain (OpenSpec.upto wildFoldsSpec)) wildFoldsUptoCard

/-- THE SECOND FORM's CARD OF 'duffellaw29.WildCase'. -/
def wildCaseUptoCard : Claim7 := { stood := { row := wildCaseUptoRow, standIns := [], harness := (true, "44f4e47569a143cd0bc355277126d5e2a80ac9ff065e17c2101586de8ebe50b7"), looks := false }, kinds := [], alts := [], laidByText := true, laidKinds := [.data, .pinned], laidTests := true, laidLooks := .later }
def WildCaseUptoCardSaid : Prop := Claim7.holds Tryd.pinned (.plain (OpenSpec.upto wildCaseSpec)) wildCaseUptoCard

/-- THE SECOND FORM's CARD OF 'duffellaw29.WildChooses'. -/
def wildChoosesUptoCard : Claim7 := { stood := { row := wildChoosesUptoRow, standIns := [], harness := (true, "44f4e47569a143cd0bc355277126d5e2a80ac9ff065e17c2101586de8ebe50b7"), looks := false }, kinds := [], alts := [], laidByText := true, laidKinds := [.data, .pinned], laidTests := true, laidLooks := .later }
def WildChoosesUptoCardSaid : Prop := Claim7.holds Tryd.pinned (.plain (OpenSpec.upto wildChoosesSpec)) wildChoosesUptoCard
end Rows
end Go.Proofs.YtegfcemedkajkaaDoor
