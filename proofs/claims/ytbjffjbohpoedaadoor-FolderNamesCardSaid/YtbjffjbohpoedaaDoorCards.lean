/-
  DERIVED. GIVEN WITH THE SEED: THE CARDS: each row of YtbjffjbohpoedaaDoorRows.lean that lists a variable, with what it lists TIED to the program's text (the seventh form; the later family's looks); each row that meets fmt, with fmt's text TOLD by the authors' own Lean function (tested against real Go, not proved from fmt's source: count such statements apart). THE CARD IS WHAT COUNTS. Prove the row's statement (the work); the ties are given (YtbjffjbohpoedaaDoorTie.lean); close each card by the builder's one call (the guide's Derived/Test/ToyasCard.lean, 'card_holds'). Laid BY PROGRAM, IN A SANDBOX (cutbox-door.mjs). By AI agents, Wed Nov 11 2026. No macro, syntax, notation, axiom, sorry.
-/
import Derived.Test.YtbjffjbohpoedaaDoorRows
import GoSem.ClaimSeven
namespace Go.Proofs.YtbjffjbohpoedaaDoor
namespace Rows

/-- THE TIED CARD OF 'duffellaw30.FolderOrders'. -/
def folderOrdersCard : Claim7 := { stood := { row := folderOrdersRow, standIns := [], harness := (true, "ec12e2b3273a86be22ddd33c5ecd26dedc960399791a8fff79284a668c2600d2"), looks := false }, kinds := [], alts := [], laidByText := true, laidKinds := [.data, .pinned], laidTests := true, laidLooks := .later }
def FolderOrdersCardSaid : Prop := Claim7.holds Tryd.pinned (.plain (OpenSpec.ofChange folderOrdersSpec)) folderOrdersCard

/-- THE TIED CARD OF 'duffellaw30.FolderCleans'. -/
def folderCleansCard : Claim7 := { stood := { row := folderCleansRow, standIns := [], harness := (true, "ec12e2b3273a86be22ddd33c5ecd26dedc960399791a8fff79284a668c2600d2"), looks := false }, kinds := [], alts := [], laidByText := true, laidKinds := [.data, .pinned], laidTests := true, laidLooks := .later }
def FolderCleansCardSaid : Prop := Claim7.holds Tryd.pinned (.plain (OpenSpec.ofChange folderCleansSpec)) folderCleansCard

/-- THE TIED CARD OF 'duffellaw30.FolderNames'. -/
def folderNamesCard : Claim7 := { stood := { row := folderNamesRow, standIns := [], harness := (true, "ec12e2b3273a86be22ddd33c5ecd26dedc960399791a8fff79284a668c2600d2"), looks := false }, kinds := [], alts := [], laidByText := true, laidKinds := [.data, .pinned], laidTests := true, laidLooks := .later }
def FolderNamesCardSaid : Prop := Claim7.holds Tryd.pinned (.plain (OpenSpec.ofChange folderNamesSpec)) folderNamesCard

/-- THE TIED CARD OF 'duffellaw30.FolderLists'. -/
def folderListsCard : Claim7 := { stood := { row := folderListsRow, standIns := [], harness := (true, "ec12e2b3273a86be22ddd33c5ecd26dedc960399791a8fff79284a668c2600d2"), looks := false }, kinds := [], alts := [], laidByText := true, laidKinds := [.data, .pinned], laidTests := true, laidLooks := .later }
def FolderListsCardSaid : Prop := Claim7.holds Tryd.pinned (.plain (OpenSpec.ofChange folderListsSpec)) folderListsCard

/-- THE TIED CARD OF 'duffellaw30.FolderParents'. -/
def folderParentsCard : Claim7 := { stood := { row := folderParentsRow, standIns := [], harness := (true, "ec12e2b3273a86be22ddd33c5ecd26dedc960399791a8fff79284a668c2600d2"), looks := false }, kinds := [], alts := [], laidByText := true, laidKinds := [.data, .pinned], laidTests := true, laidLooks := .later }
def FolderParentsCardSaid : Prop := Claim7.holds Tryd.pinned (.plain (OpenSpec.ofChange folderParentsSpec)) folderParentsCard

/-- THE SECOND FORM's CARD OF 'duffellaw30.FolderOrders'. -/
def folderOrdersUptoCard : Claim7 := { stood := { row := folderOrdersUptoRow, standIns := [], harness := (true, "ec12e2b3273a86be22ddd33c5ecd26dedc960399791a8fff79284a668c2600d2"), looks := false }, kinds := [], alts := [], laidByText := true, laidKinds := [.data, .pinned], laidTests := true, laidLooks := .later }
def FolderOrdersUptoCardSaid : Prop := Claim7.holds Tryd.pinned (.plain (OpenSpec.upto folderOrdersSpec)) folderOrdersUptoCard

/-- THE SECOND FORM's CARD OF 'duffellaw30.FolderCleans'. -/
def folderCleansUptoCard : Claim7 := { stood := { row := folderCleansUptoRow, standIns := [], harness := (true, "ec12e2b3273a86be22ddd33c5ecd26dedc960399791a8fff79284a668c2600d2"), looks := false }, kinds := [], alts := [], laidByText := true, laidKinds := [.data, .pinned], laidTests := true, laidLooks := .later }
def FolderCleansUptoCardSaid : Prop := Claim7.holds Tryd.pinned (.plain (OpenSpec.upto folderCleansSpec)) folderCleansUptoCard

/-- THE SECOND FORM's CARD OF 'duffellaw30.FolderNames'. -/
def folderNamesUptoCard : Claim7 := { stood := { row := folderNamesUptoRow, standIns := [], harness := (true, "ec12e2b3273a86be22ddd33c5ecd26dedc960399791a8fff79284a668c2600d2"), looks := false }, kinds := [], alts := [], laidByText := true, laidKinds := [.data, .pinned], laidTests := true, laidLooks := .later }
def FolderNamesUptoCardSaid : Prop := Claim7.holds Tryd.pinned (.plain (OpenSpec.upto folderNamesSpec)) folderNamesUptoCard

/-- THE SECOND FORM's CARD OF 'duffellaw30.FolderLists'. -/
def folderListsUptoCard : Claim7 := { stood := { row := folderListsUptoRow, standIns := [], harness := (true, "ec12e2b3273a86be22ddd33c5ecd26dedc960399791a8fff79284a668c2600d2"), looks := false }, kinds := [], alts := [], laidByText := true, laidKinds := [.data, .pinned], laidTests := true, laidLooks := .later }
def FolderListsUptoCardSaid : Prop := Claim7.holds Tryd.pinned (.plain (OpenSpec.upto folderListsSpec)) folderListsUptoCard

/-- THE SECOND FORM's CARD OF 'duffellaw30.FolderParents'. -/
def folderParentsUptoCard : Claim7 := { stood := { row := folderParentsUptoRow, standIns := [], harness := (true, "ec12e2b3273a86be22ddd33c5ecd26dedc960399791a8fff79284a668c2600d2"), looks := false }, kinds := [], alts := [], laidByText := true, laidKinds := [.data, .pinned], laidTests := true, laidLooks := .later }
def FolderParentsUptoCardSaid : Prop := Claim7.holds Tryd.pinned (.plain (OpenSpec.upto folderParentsSpec)) folderParentsUptoCard
end Rows
end Go.Proofs.YtbjffjbohpoedaaDoor
