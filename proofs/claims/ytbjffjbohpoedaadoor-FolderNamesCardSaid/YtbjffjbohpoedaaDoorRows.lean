/-
  NARROWER THAN 'FOR EVERY INPUT', by the rows' own cells (each row's printed sentence says how): FolderOrders: laid · FolderCleans: laid · FolderNames: laid · FolderLists: laid · FolderParents: laid.
  DERIVED. THE GIVEN ROWS OF THIS SEAT. 5 by the template 'for every input the law returns true; each argument reads behind the call as it read before'; 0 by the template 'total and deterministic' (their statements: YtbjffjbohpoedaaDoorTotals.lean).
  GIVEN WITH THE SEED: the statements are not yours to turn. If you find one false, say at which input.
  Laid BY PROGRAM, IN A SANDBOX (cutbox-rows.mjs): the forced cells as the released guide's own fill.sh prints them over the translation 89a2006948b2fa56… (all of the seat's roots in one cut). By AI agents, Wed Nov 11 2026. No macro, syntax, notation, axiom, sorry.
-/
import Derived.Test.YtbjffjbohpoedaaDoorChecked
import GoSem.PinnedTables
import GoSem.Claim
import GoSem.ClaimJoined
import GoSem.ClaimMapViews
import Derived.JoinedTies
import Derived.KernelRfl
namespace Go.Proofs.YtbjffjbohpoedaaDoor
/- THE CELL 'sum', in the pinned program and in every row, IS THE sha256 OF THE DUMP (.gsa) THAT YtbjffjbohpoedaaDoorProg.lean LOADS. Nothing in Lean hashes anything: it is a label: what it is worth is what the hold of that sum in a sandbox is worth. -/
noncomputable def Tryd.pinned : Pinned := { name := "ytbjffjbohpoedaadoor", sum := "89a2006948b2fa5684a809ea7a14e9937655ce34f75bf05edc6490a6bb75a69c", checked := Tryd.checked }
namespace Rows
def none {H : Type} : Left H := { results := [], args := [] }

/- WHAT THE LISTED PACKAGE-LEVEL VARIABLES READ AS WHEN THE CALL BEGINS. Each datum BY PROGRAM (the guide's laid-datum.mjs) off the statement by which the dump's own 'gosem.cut.vars' lays the variable. In a bare row this is a premise. The card (YtbjffjbohpoedaaDoorCards.lean) ties it to the program's text. -/
def laid_unicode_utf8_acceptRanges {H : Type} : DataW H := .agg [.agg [.lit (.int .u8 128), .lit (.int .u8 191)], .agg [.lit (.int .u8 160), .lit (.int .u8 191)], .agg [.lit (.int .u8 128), .lit (.int .u8 159)], .agg [.lit (.int .u8 144), .lit (.int .u8 191)], .agg [.lit (.int .u8 128), .lit (.int .u8 143)], .agg [.lit (.int .u8 0), .lit (.int .u8 0)], .agg [.lit (.int .u8 0), .lit (.int .u8 0)], .agg [.lit (.int .u8 0), .lit (.int .u8 0)], .agg [.lit (.int .u8 0), .lit (.int .u8 0)], .agg [.lit (.int .u8 0), .lit (.int .u8 0)], .agg [.lit (.int .u8 0), .lit (.int .u8 0)], .agg [.lit (.int .u8 0), .lit (.int .u8 0)], .agg [.lit (.int .u8 0), .lit (.int .u8 0)], .agg [.lit (.int .u8 0), .lit (.int .u8 0)], .agg [.lit (.int .u8 0), .lit (.int .u8 0)], .agg [.lit (.int .u8 0), .lit (.int .u8 0)]]
/-- One of Go's own tables, pinned by name: the form's constant. -/
def laid_unicode_utf8_first : DataW Unit := Go.Pinned.utf8First

/-- 'duffellaw30.FolderOrders': WHATEVER THE INPUT: true; the input reads as it did. -/
def folderOrdersSpec : ChangeSpec := { name := "folderOrders", fn := fun _ => fun
  | [d1, d2, d3] => { results := [.lit (.bool true)], args := [d1, d2, d3] }
  | _ => none }
def folderOrdersRow : OpenClaim := { program := "ytbjffjbohpoedaadoor", sum := "89a2006948b2fa5684a809ea7a14e9937655ce34f75bf05edc6490a6bb75a69c", func := "duffel/duffellaw30.FolderOrders", spec := "folderOrders", inPlace := ["internal/bytealg.Count", "internal/bytealg.IndexByte", "internal/bytealg.Index", "internal/bytealg.Compare", "internal/bytealg.MakeNoZero"], unfollowed := true, recurses := true, named := ["unicode/utf8.first", "unicode/utf8.acceptRanges", "internal/bytealg.MaxLen"], apart := false, laid := [("unicode/utf8.acceptRanges", laid_unicode_utf8_acceptRanges), ("unicode/utf8.first", laid_unicode_utf8_first)] }
def FolderOrdersSaid : Prop := folderOrdersRow.holds Tryd.pinned (OpenSpec.ofChange folderOrdersSpec)

/-- ITS FALSE NEIGHBOUR: 'it returns false'. Refute it at one input. -/
def folderOrdersWrong : ChangeSpec := { name := "folderOrders", fn := fun _ => fun
  | [d1, d2, d3] => { results := [.lit (.bool false)], args := [d1, d2, d3] }
  | _ => none }
def FolderOrdersWrongFalsely : Prop := folderOrdersRow.holds Tryd.pinned (OpenSpec.ofChange folderOrdersWrong)

/-- 'duffellaw30.FolderCleans': WHATEVER THE INPUT: true; the input reads as it did. -/
def folderCleansSpec : ChangeSpec := { name := "folderCleans", fn := fun _ => fun
  | [d] => { results := [.lit (.bool true)], args := [d] }
  | _ => none }
def folderCleansRow : OpenClaim := { program := "ytbjffjbohpoedaadoor", sum := "89a2006948b2fa5684a809ea7a14e9937655ce34f75bf05edc6490a6bb75a69c", func := "duffel/duffellaw30.FolderCleans", spec := "folderCleans", inPlace := ["internal/bytealg.Count", "internal/bytealg.IndexByte", "internal/bytealg.Index", "internal/bytealg.MakeNoZero"], unfollowed := true, recurses := true, named := ["internal/bytealg.MaxLen", "unicode/utf8.first", "unicode/utf8.acceptRanges"], apart := false, laid := [("unicode/utf8.acceptRanges", laid_unicode_utf8_acceptRanges), ("unicode/utf8.first", laid_unicode_utf8_first)] }
def FolderCleansSaid : Prop := folderCleansRow.holds Tryd.pinned (OpenSpec.ofChange folderCleansSpec)

/-- ITS FALSE NEIGHBOUR: 'it returns false'. Refute it at one input. -/
def folderCleansWrong : ChangeSpec := { name := "folderCleans", fn := fun _ => fun
  | [d] => { results := [.lit (.bool false)], args := [d] }
  | _ => none }
def FolderCleansWrongFalsely : Prop := folderCleansRow.holds Tryd.pinned (OpenSpec.ofChange folderCleansWrong)

/-- 'duffellaw30.FolderNames': WHATEVER THE INPUT: true; the input reads as it did. -/
def folderNamesSpec : ChangeSpec := { name := "folderNames", fn := fun _ => fun
  | [d] => { results := [.lit (.bool true)], args := [d] }
  | _ => none }
def folderNamesRow : OpenClaim := { program := "ytbjffjbohpoedaadoor", sum := "89a2006948b2fa5684a809ea7a14e9937655ce34f75bf05edc6490a6bb75a69c", func := "duffel/duffellaw30.FolderNames", spec := "folderNames", inPlace := ["internal/bytealg.Count", "internal/bytealg.IndexByte", "internal/bytealg.Index", "internal/bytealg.MakeNoZero"], unfollowed := true, recurses := true, named := ["internal/bytealg.MaxLen", "unicode/utf8.first", "unicode/utf8.acceptRanges"], apart := false, laid := [("unicode/utf8.acceptRanges", laid_unicode_utf8_acceptRanges), ("unicode/utf8.first", laid_unicode_utf8_first)] }
def FolderNamesSaid : Prop := folderNamesRow.holds Tryd.pinned (OpenSpec.ofChange folderNamesSpec)

/-- ITS FALSE NEIGHBOUR: 'it returns false'. Refute it at one input. -/
def folderNamesWrong : ChangeSpec := { name := "folderNames", fn := fun _ => fun
  | [d] => { results := [.lit (.bool false)], args := [d] }
  | _ => none }
def FolderNamesWrongFalsely : Prop := folderNamesRow.holds Tryd.pinned (OpenSpec.ofChange folderNamesWrong)

/-- 'duffellaw30.FolderLists': WHATEVER THE INPUT: true; the input reads as it did. -/
def folderListsSpec : ChangeSpec := { name := "folderLists", fn := fun _ => fun
  | [d1, d2] => { results := [.lit (.bool true)], args := [d1, d2] }
  | _ => none }
def folderListsRow : OpenClaim := { program := "ytbjffjbohpoedaadoor", sum := "89a2006948b2fa5684a809ea7a14e9937655ce34f75bf05edc6490a6bb75a69c", func := "duffel/duffellaw30.FolderLists", spec := "folderLists", inPlace := ["internal/bytealg.Count", "internal/bytealg.IndexByte", "internal/bytealg.Index", "internal/bytealg.MakeNoZero", "internal/bytealg.Compare"], unfollowed := true, recurses := true, named := ["unicode/utf8.first", "unicode/utf8.acceptRanges", "internal/bytealg.MaxLen"], apart := false, laid := [("unicode/utf8.acceptRanges", laid_unicode_utf8_acceptRanges), ("unicode/utf8.first", laid_unicode_utf8_first)] }
def FolderListsSaid : Prop := folderListsRow.holds Tryd.pinned (OpenSpec.ofChange folderListsSpec)

/-- ITS FALSE NEIGHBOUR: 'it returns false'. Refute it at one input. -/
def folderListsWrong : ChangeSpec := { name := "folderLists", fn := fun _ => fun
  | [d1, d2] => { results := [.lit (.bool false)], args := [d1, d2] }
  | _ => none }
def FolderListsWrongFalsely : Prop := folderListsRow.holds Tryd.pinned (OpenSpec.ofChange folderListsWrong)

/-- 'duffellaw30.FolderParents': WHATEVER THE INPUT: true; the input reads as it did. -/
def folderParentsSpec : ChangeSpec := { name := "folderParents", fn := fun _ => fun
  | [d1, d2] => { results := [.lit (.bool true)], args := [d1, d2] }
  | _ => none }
def folderParentsRow : OpenClaim := { program := "ytbjffjbohpoedaadoor", sum := "89a2006948b2fa5684a809ea7a14e9937655ce34f75bf05edc6490a6bb75a69c", func := "duffel/duffellaw30.FolderParents", spec := "folderParents", inPlace := ["internal/bytealg.Count", "internal/bytealg.IndexByte", "internal/bytealg.Index", "internal/bytealg.MakeNoZero", "internal/bytealg.Compare"], unfollowed := true, recurses := true, named := ["unicode/utf8.first", "unicode/utf8.acceptRanges", "internal/bytealg.MaxLen"], apart := false, laid := [("unicode/utf8.acceptRanges", laid_unicode_utf8_acceptRanges), ("unicode/utf8.first", laid_unicode_utf8_first)] }
def FolderParentsSaid : Prop := folderParentsRow.holds Tryd.pinned (OpenSpec.ofChange folderParentsSpec)

/-- ITS FALSE NEIGHBOUR: 'it returns false'. Refute it at one input. -/
def folderParentsWrong : ChangeSpec := { name := "folderParents", fn := fun _ => fun
  | [d1, d2] => { results := [.lit (.bool false)], args := [d1, d2] }
  | _ => none }
def FolderParentsWrongFalsely : Prop := folderParentsRow.holds Tryd.pinned (OpenSpec.ofChange folderParentsWrong)

/- THE SECOND FORM. 'bulk': how many values and letters a reading holds, each counted each time it is reached (what is shared counts as often as it is met; a slice's spare places count too). A statement '..UptoSaid' is the law's where the arguments, and the package variables that the reading takes, are together of bulk at most 1048576: NARROWER than '..Said'. Prove '..Said' where nothing that the law and all that it calls make is longer than what came in: it says more and counts as full. Else prove '..UptoSaid'. A law counts once. -/
mutual
def uptoBulk {H : Type} : DataW H → Nat
  | .lit (.string bytes) => bytes.length + 1
  | .lit _ => 1
  | .nil => 1
  | .ptr d => uptoBulk d + 1
  | .slice elems spare => uptoBulkAll elems + uptoBulkAll spare + 1
  | .agg parts => uptoBulkAll parts + 1
  | .iface _ d => uptoBulk d + 1
  | .map entries => uptoBulkEntries entries + 1
  | .held _ => 1
def uptoBulkAll {H : Type} : List (DataW H) → Nat
  | [] => 0
  | d :: r => uptoBulk d + uptoBulkAll r
def uptoBulkEntries {H : Type} : List (Lit × DataW H) → Nat
  | [] => 0
  | x :: r => uptoBulkEntry x + uptoBulkEntries r
def uptoBulkEntry {H : Type} : Lit × DataW H → Nat
  | (.string bytes, d) => bytes.length + uptoBulk d + 1
  | (_, d) => uptoBulk d + 1
 end
def uptoSmall : (H : Type) → List (DataW H) → Bool := fun _ ds => decide (uptoBulkAll ds ≤ 1048576)
def OpenSpec.upto (s : _root_.Go.ChangeSpec) : _root_.Go.OpenSpec := { _root_.Go.OpenSpec.ofChange s with cond := some uptoSmall }

/-- 'duffellaw30.FolderOrders', WHERE WHAT IT READS IS OF BULK AT MOST 1048576: true; the input reads as it did. -/
def folderOrdersUptoRow : OpenClaim := { program := "ytbjffjbohpoedaadoor", sum := "89a2006948b2fa5684a809ea7a14e9937655ce34f75bf05edc6490a6bb75a69c", func := "duffel/duffellaw30.FolderOrders", spec := "folderOrders", inPlace := ["internal/bytealg.Count", "internal/bytealg.IndexByte", "internal/bytealg.Index", "internal/bytealg.Compare", "internal/bytealg.MakeNoZero"], unfollowed := true, recurses := true, named := ["unicode/utf8.first", "unicode/utf8.acceptRanges", "internal/bytealg.MaxLen"], apart := false, laid := [("unicode/utf8.acceptRanges", laid_unicode_utf8_acceptRanges), ("unicode/utf8.first", laid_unicode_utf8_first)], narrowed := true }
def FolderOrdersUptoSaid : Prop := folderOrdersUptoRow.holds Tryd.pinned (OpenSpec.upto folderOrdersSpec)

/-- 'duffellaw30.FolderCleans', WHERE WHAT IT READS IS OF BULK AT MOST 1048576: true; the input reads as it did. -/
def folderCleansUptoRow : OpenClaim := { program := "ytbjffjbohpoedaadoor", sum := "89a2006948b2fa5684a809ea7a14e9937655ce34f75bf05edc6490a6bb75a69c", func := "duffel/duffellaw30.FolderCleans", spec := "folderCleans", inPlace := ["internal/bytealg.Count", "internal/bytealg.IndexByte", "internal/bytealg.Index", "internal/bytealg.MakeNoZero"], unfollowed := true, recurses := true, named := ["internal/bytealg.MaxLen", "unicode/utf8.first", "unicode/utf8.acceptRanges"], apart := false, laid := [("unicode/utf8.acceptRanges", laid_unicode_utf8_acceptRanges), ("unicode/utf8.first", laid_unicode_utf8_first)], narrowed := true }
def FolderCleansUptoSaid : Prop := folderCleansUptoRow.holds Tryd.pinned (OpenSpec.upto folderCleansSpec)

/-- 'duffellaw30.FolderNames', WHERE WHAT IT READS IS OF BULK AT MOST 1048576: true; the input reads as it did. -/
def folderNamesUptoRow : OpenClaim := { program := "ytbjffjbohpoedaadoor", sum := "89a2006948b2fa5684a809ea7a14e9937655ce34f75bf05edc6490a6bb75a69c", func := "duffel/duffellaw30.FolderNames", spec := "folderNames", inPlace := ["internal/bytealg.Count", "internal/bytealg.IndexByte", "internal/bytealg.Index", "internal/bytealg.MakeNoZero"], unfollowed := true, recurses := true, named := ["internal/bytealg.MaxLen", "unicode/utf8.first", "unicode/utf8.acceptRanges"], apart := false, laid := [("unicode/utf8.acceptRanges", laid_unicode_utf8_acceptRanges), ("unicode/utf8.first", laid_unicode_utf8_first)], narrowed := true }
def FolderNamesUptoSaid : Prop := folderNamesUptoRow.holds Tryd.pinned (OpenSpec.upto folderNamesSpec)

/-- 'duffellaw30.FolderLists', WHERE WHAT IT READS IS OF BULK AT MOST 1048576: true; the input reads as it did. -/
def folderListsUptoRow : OpenClaim := { program := "ytbjffjbohpoedaadoor", sum := "89a2006948b2fa5684a809ea7a14e9937655ce34f75bf05edc6490a6bb75a69c", func := "duffel/duffellaw30.FolderLists", spec := "folderLists", inPlace := ["internal/bytealg.Count", "internal/bytealg.IndexByte", "internal/bytealg.Index", "internal/bytealg.MakeNoZero", "internal/bytealg.Compare"], unfollowed := true, recurses := true, named := ["unicode/utf8.first", "unicode/utf8.acceptRanges", "internal/bytealg.MaxLen"], apart := false, laid := [("unicode/utf8.acceptRanges", laid_unicode_utf8_acceptRanges), ("unicode/utf8.first", laid_unicode_utf8_first)], narrowed := true }
def FolderListsUptoSaid : Prop := folderListsUptoRow.holds Tryd.pinned (OpenSpec.upto folderListsSpec)

/-- 'duffellaw30.FolderParents', WHERE WHAT IT READS IS OF BULK AT MOST 1048576: true; the input reads as it did. -/
def folderParentsUptoRow : OpenClaim := { program := "ytbjffjbohpoedaadoor", sum := "89a2006948b2fa5684a809ea7a14e9937655ce34f75bf05edc6490a6bb75a69c", func := "duffel/duffellaw30.FolderParents", spec := "folderParents", inPlace := ["internal/bytealg.Count", "internal/bytealg.IndexByte", "internal/bytealg.Index", "internal/bytealg.MakeNoZero", "internal/bytealg.Compare"], unfollowed := true, recurses := true, named := ["unicode/utf8.first", "unicode/utf8.acceptRanges", "internal/bytealg.MaxLen"], apart := false, laid := [("unicode/utf8.acceptRanges", laid_unicode_utf8_acceptRanges), ("unicode/utf8.first", laid_unicode_utf8_first)], narrowed := true }
def FolderParentsUptoSaid : Prop := folderParentsUptoRow.holds Tryd.pinned (OpenSpec.upto folderParentsSpec)

end Rows
end Go.Proofs.YtbjffjbohpoedaaDoor
