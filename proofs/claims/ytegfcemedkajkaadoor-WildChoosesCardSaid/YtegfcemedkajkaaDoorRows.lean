/-
  NARROWER THAN 'FOR EVERY INPUT', by the rows' own cells (each row's printed sentence says how): WildMatches: laid · WildPlain: laid · WildJoins: laid · WildFolds: laid · WildCase: laid · WildChooses: laid.
  DERIVED. THE GIVEN ROWS OF THIS SEAT. 6 by the template 'for every input the law returns true; each argument reads behind the call as it read before'; 0 by the template 'total and deterministic' (their statements: YtegfcemedkajkaaDoorTotals.lean).
  GIVEN WITH THE SEED: the statements are not yours to turn. If you find one false, say at which input.
  Laid BY PROGRAM, IN A SANDBOX (cutbox-rows.mjs): the forced cells as the released guide's own fill.sh prints them over the translation 6fe95923415b318d… (all of the seat's roots in one cut). By AI agents, Wed Nov 11 2026. No macro, syntax, notation, axiom, sorry.
-/
import Derived.Test.YtegfcemedkajkaaDoorChecked
import GoSem.PinnedTables
import GoSem.Claim
import GoSem.ClaimJoined
import GoSem.ClaimMapViews
import Derived.JoinedTies
import Derived.KernelRfl
namespace Go.Proofs.YtegfcemedkajkaaDoor
/- THE CELL 'sum', in the pinned program and in every row, IS THE sha256 OF THE DUMP (.gsa) THAT YtegfcemedkajkaaDoorProg.lean LOADS. Nothing in Lean hashes anything: it is a label: what it is worth is what the hold of that sum in a sandbox is worth. -/
noncomputable def Tryd.pinned : Pinned := { name := "ytegfcemedkajkaadoor", sum := "6fe95923415b318da728bdfbe197b6897418c5a5a00d30f0b0262d44cd093d09", checked := Tryd.checked }
namespace Rows
def none {H : Type} : Left H := { results := [], args := [] }

/- WHAT THE LISTED PACKAGE-LEVEL VARIABLES READ AS WHEN THE CALL BEGINS. Each datum BY PROGRAM (the guide's laid-datum.mjs) off the statement by which the dump's own 'gosem.cut.vars' lays the variable. In a bare row this is a premise. The card (YtegfcemedkajkaaDoorCards.lean) ties it to the program's text. -/
def laid_unicode_utf8_acceptRanges {H : Type} : DataW H := .agg [.agg [.lit (.int .u8 128), .lit (.int .u8 191)], .agg [.lit (.int .u8 160), .lit (.int .u8 191)], .agg [.lit (.int .u8 128), .lit (.int .u8 159)], .agg [.lit (.int .u8 144), .lit (.int .u8 191)], .agg [.lit (.int .u8 128), .lit (.int .u8 143)], .agg [.lit (.int .u8 0), .lit (.int .u8 0)], .agg [.lit (.int .u8 0), .lit (.int .u8 0)], .agg [.lit (.int .u8 0), .lit (.int .u8 0)], .agg [.lit (.int .u8 0), .lit (.int .u8 0)], .agg [.lit (.int .u8 0), .lit (.int .u8 0)], .agg [.lit (.int .u8 0), .lit (.int .u8 0)], .agg [.lit (.int .u8 0), .lit (.int .u8 0)], .agg [.lit (.int .u8 0), .lit (.int .u8 0)], .agg [.lit (.int .u8 0), .lit (.int .u8 0)], .agg [.lit (.int .u8 0), .lit (.int .u8 0)], .agg [.lit (.int .u8 0), .lit (.int .u8 0)]]
/-- One of Go's own tables, pinned by name: the form's constant. -/
def laid_unicode_utf8_first : DataW Unit := Go.Pinned.utf8First

/-- 'duffellaw29.WildMatches': WHATEVER THE INPUT: true; the input reads as it did. -/
def wildMatchesSpec : ChangeSpec := { name := "wildMatches", fn := fun _ => fun
  | [d1, d2] => { results := [.lit (.bool true)], args := [d1, d2] }
  | _ => none }
def wildMatchesRow : OpenClaim := { program := "ytegfcemedkajkaadoor", sum := "6fe95923415b318da728bdfbe197b6897418c5a5a00d30f0b0262d44cd093d09", func := "duffel/duffellaw29.WildMatches", spec := "wildMatches", inPlace := ["internal/bytealg.Count", "internal/bytealg.IndexByte", "internal/bytealg.Index"], unfollowed := true, recurses := true, named := ["unicode/utf8.first", "unicode/utf8.acceptRanges", "internal/bytealg.MaxLen"], apart := false, laid := [("unicode/utf8.acceptRanges", laid_unicode_utf8_acceptRanges), ("unicode/utf8.first", laid_unicode_utf8_first)] }
def WildMatchesSaid : Prop := wildMatchesRow.holds Tryd.pinned (OpenSpec.ofChange wildMatchesSpec)

/-- ITS FALSE NEIGHBOUR: 'it returns false'. Refute it at one input. -/
def wildMatchesWrong : ChangeSpec := { name := "wildMatches", fn := fun _ => fun
  | [d1, d2] => { results := [.lit (.bool false)], args := [d1, d2] }
  | _ => none }
def WildMatchesWrongFalsely : Prop := wildMatchesRow.holds Tryd.pinned (OpenSpec.ofChange wildMatchesWrong)

/-- 'duffellaw29.WildPlain': WHATEVER THE INPUT: true; the input reads as it did. -/
def wildPlainSpec : ChangeSpec := { name := "wildPlain", fn := fun _ => fun
  | [d1, d2] => { results := [.lit (.bool true)], args := [d1, d2] }
  | _ => none }
def wildPlainRow : OpenClaim := { program := "ytegfcemedkajkaadoor", sum := "6fe95923415b318da728bdfbe197b6897418c5a5a00d30f0b0262d44cd093d09", func := "duffel/duffellaw29.WildPlain", spec := "wildPlain", inPlace := ["internal/bytealg.Count", "internal/bytealg.IndexByte", "internal/bytealg.Index"], unfollowed := true, recurses := true, named := ["unicode/utf8.first", "unicode/utf8.acceptRanges", "internal/bytealg.MaxLen"], apart := false, laid := [("unicode/utf8.acceptRanges", laid_unicode_utf8_acceptRanges), ("unicode/utf8.first", laid_unicode_utf8_first)] }
def WildPlainSaid : Prop := wildPlainRow.holds Tryd.pinned (OpenSpec.ofChange wildPlainSpec)

/-- ITS FALSE NEIGHBOUR: 'it returns false'. Refute it at one input. -/
def wildPlainWrong : ChangeSpec := { name := "wildPlain", fn := fun _ => fun
  | [d1, d2] => { results := [.lit (.bool false)], args := [d1, d2] }
  | _ => none }
def WildPlainWrongFalsely : Prop := wildPlainRow.holds Tryd.pinned (OpenSpec.ofChange wildPlainWrong)

/-- 'duffellaw29.WildJoins': WHATEVER THE INPUT: true; the input reads as it did. -/
def wildJoinsSpec : ChangeSpec := { name := "wildJoins", fn := fun _ => fun
  | [d1, d2, d3, d4] => { results := [.lit (.bool true)], args := [d1, d2, d3, d4] }
  | _ => none }
def wildJoinsRow : OpenClaim := { program := "ytegfcemedkajkaadoor", sum := "6fe95923415b318da728bdfbe197b6897418c5a5a00d30f0b0262d44cd093d09", func := "duffel/duffellaw29.WildJoins", spec := "wildJoins", inPlace := ["internal/bytealg.Count", "internal/bytealg.IndexByte", "internal/bytealg.Index"], unfollowed := true, recurses := true, named := ["unicode/utf8.first", "unicode/utf8.acceptRanges", "internal/bytealg.MaxLen"], apart := false, laid := [("unicode/utf8.acceptRanges", laid_unicode_utf8_acceptRanges), ("unicode/utf8.first", laid_unicode_utf8_first)] }
def WildJoinsSaid : Prop := wildJoinsRow.holds Tryd.pinned (OpenSpec.ofChange wildJoinsSpec)

/-- ITS FALSE NEIGHBOUR: 'it returns false'. Refute it at one input. -/
def wildJoinsWrong : ChangeSpec := { name := "wildJoins", fn := fun _ => fun
  | [d1, d2, d3, d4] => { results := [.lit (.bool false)], args := [d1, d2, d3, d4] }
  | _ => none }
def WildJoinsWrongFalsely : Prop := wildJoinsRow.holds Tryd.pinned (OpenSpec.ofChange wildJoinsWrong)

/-- 'duffellaw29.WildFolds': WHATEVER THE INPUT: true; the input reads as it did. -/
def wildFoldsSpec : ChangeSpec := { name := "wildFolds", fn := fun _ => fun
  | [d1, d2, d3] => { results := [.lit (.bool true)], args := [d1, d2, d3] }
  | _ => none }
def wildFoldsRow : OpenClaim := { program := "ytegfcemedkajkaadoor", sum := "6fe95923415b318da728bdfbe197b6897418c5a5a00d30f0b0262d44cd093d09", func := "duffel/duffellaw29.WildFolds", spec := "wildFolds", inPlace := ["internal/bytealg.Count", "internal/bytealg.IndexByte", "internal/bytealg.Index"], unfollowed := true, recurses := true, named := ["unicode/utf8.first", "unicode/utf8.acceptRanges", "internal/bytealg.MaxLen"], apart := false, laid := [("unicode/utf8.acceptRanges", laid_unicode_utf8_acceptRanges), ("unicode/utf8.first", laid_unicode_utf8_first)] }
def WildFoldsSaid : Prop := wildFoldsRow.holds Tryd.pinned (OpenSpec.ofChange wildFoldsSpec)

/-- ITS FALSE NEIGHBOUR: 'it returns false'. Refute it at one input. -/
def wildFoldsWrong : ChangeSpec := { name := "wildFolds", fn := fun _ => fun
  | [d1, d2, d3] => { results := [.lit (.bool false)], args := [d1, d2, d3] }
  | _ => none }
def WildFoldsWrongFalsely : Prop := wildFoldsRow.holds Tryd.pinned (OpenSpec.ofChange wildFoldsWrong)

/-- 'duffellaw29.WildCase': WHATEVER THE INPUT: true; the input reads as it did. -/
def wildCaseSpec : ChangeSpec := { name := "wildCase", fn := fun _ => fun
  | [d1, d2] => { results := [.lit (.bool true)], args := [d1, d2] }
  | _ => none }
def wildCaseRow : OpenClaim := { program := "ytegfcemedkajkaadoor", sum := "6fe95923415b318da728bdfbe197b6897418c5a5a00d30f0b0262d44cd093d09", func := "duffel/duffellaw29.WildCase", spec := "wildCase", inPlace := ["internal/bytealg.Count", "internal/bytealg.IndexByte", "internal/bytealg.Index"], unfollowed := true, recurses := true, named := ["unicode/utf8.first", "unicode/utf8.acceptRanges", "internal/bytealg.MaxLen"], apart := false, laid := [("unicode/utf8.acceptRanges", laid_unicode_utf8_acceptRanges), ("unicode/utf8.first", laid_unicode_utf8_first)] }
def WildCaseSaid : Prop := wildCaseRow.holds Tryd.pinned (OpenSpec.ofChange wildCaseSpec)

/-- ITS FALSE NEIGHBOUR: 'it returns false'. Refute it at one input. -/
def wildCaseWrong : ChangeSpec := { name := "wildCase", fn := fun _ => fun
  | [d1, d2] => { results := [.lit (.bool false)], args := [d1, d2] }
  | _ => none }
def WildCaseWrongFalsely : Prop := wildCaseRow.holds Tryd.pinned (OpenSpec.ofChange wildCaseWrong)

/-- 'duffellaw29.WildChooses': WHATEVER THE INPUT: true; the input reads as it did. -/
def wildChoosesSpec : ChangeSpec := { name := "wildChooses", fn := fun _ => fun
  | [d1, d2, d3] => { results := [.lit (.bool true)], args := [d1, d2, d3] }
  | _ => none }
def wildChoosesRow : OpenClaim := { program := "ytegfcemedkajkaadoor", sum := "6fe95923415b318da728bdfbe197b6897418c5a5a00d30f0b0262d44cd093d09", func := "duffel/duffellaw29.WildChooses", spec := "wildChooses", inPlace := ["internal/bytealg.Count", "internal/bytealg.IndexByte", "internal/bytealg.Index"], unfollowed := true, recurses := true, named := ["unicode/utf8.first", "unicode/utf8.acceptRanges", "internal/bytealg.MaxLen"], apart := false, laid := [("unicode/utf8.acceptRanges", laid_unicode_utf8_acceptRanges), ("unicode/utf8.first", laid_unicode_utf8_first)] }
def WildChoosesSaid : Prop := wildChoosesRow.holds Tryd.pinned (OpenSpec.ofChange wildChoosesSpec)

/-- ITS FALSE NEIGHBOUR: 'it returns false'. Refute it at one input. -/
def wildChoosesWrong : ChangeSpec := { name := "wildChooses", fn := fun _ => fun
  | [d1, d2, d3] => { results := [.lit (.bool false)], args := [d1, d2, d3] }
  | _ => none }
def WildChoosesWrongFalsely : Prop := wildChoosesRow.holds Tryd.pinned (OpenSpec.ofChange wildChoosesWrong)

/- THE SECOND FORM. 'bulk': how many values and letters a reading holds, each counted each time it is reached (what is shared counts as often as it is met; a slice's spare places count too). A statement '..UptoSaid' is the law's where the arguments, and the package variables that the reading takes, are together of bulk at most 1048576: NARROWER than '..Said'. Prove '..Said' where nothing that the law and all that it calls make is longer than what came in: it says more and counts as full. Else prove '..UptoSaid'. A law counts once. -/
mutual
def uptoBulk {H : Type} : DataW H → Nat
  | .lit (.string bytes) => bytes.length + 1
  | .lit _ => 1
  | .nil => 1
  | .ptr d => uptoBulk d + 1
  | .slice elems spare => uptoBulkAll elems + uptoBulkAll spare + 1
  | .agg parts => uptoBulkAll parts + 1
  | .iface _ d => uptoBulk d + 1
  | .map entries => uptoBulkEntries entries + 1
  | .held _ => 1
def uptoBulkAll {H : Type} : List (DataW H) → Nat
  | [] => 0
  | d :: r => uptoBulk d + uptoBulkAll r
def uptoBulkEntries {H : Type} : List (Lit × DataW H) → Nat
  | [] => 0
  | x :: r => uptoBulkEntry x + uptoBulkEntries r
def uptoBulkEntry {H : Type} : Lit × DataW H → Nat
  | (.string bytes, d) => bytes.length + uptoBulk d + 1
  | (_, d) => uptoBulk d + 1
 end
def uptoSmall : (H : Type) → List (DataW H) → Bool := fun _ ds => decide (uptoBulkAll ds ≤ 1048576)
def OpenSpec.upto (s : _root_.Go.ChangeSpec) : _root_.Go.OpenSpec := { _root_.Go.OpenSpec.ofChange s with cond := some uptoSmall }

/-- 'duffellaw29.WildMatches', WHERE WHAT IT READS IS OF BULK AT MOST 1048576: true; the input reads as it did. -/
def wildMatchesUptoRow : OpenClaim := { program := "ytegfcemedkajkaadoor", sum := "6fe95923415b318da728bdfbe197b6897418c5a5a00d30f0b0262d44cd093d09", func := "duffel/duffellaw29.WildMatches", spec := "wildMatches", inPlace := ["internal/bytealg.Count", "internal/bytealg.IndexByte", "internal/bytealg.Index"], unfollowed := true, recurses := true, named := ["unicode/utf8.first", "unicode/utf8.acceptRanges", "internal/bytealg.MaxLen"], apart := false, laid := [("unicode/utf8.acceptRanges", laid_unicode_utf8_acceptRanges), ("unicode/utf8.first", laid_unicode_utf8_first)], narrowed := true }
def WildMatchesUptoSaid : Prop := wildMatchesUptoRow.holds Tryd.pinned (OpenSpec.upto wildMatchesSpec)

/-- 'duffellaw29.WildPlain', WHERE WHAT IT READS IS OF BULK AT MOST 1048576: true; the input reads as it did. -/
def wildPlainUptoRow : OpenClaim := { program := "ytegfcemedkajkaadoor", sum := "6fe95923415b318da728bdfbe197b6897418c5a5a00d30f0b0262d44cd093d09", func := "duffel/duffellaw29.WildPlain", spec := "wildPlain", inPlace := ["internal/bytealg.Count", "internal/bytealg.IndexByte", "internal/bytealg.Index"], unfollowed := true, recurses := true, named := ["unicode/utf8.first", "unicode/utf8.acceptRanges", "internal/bytealg.MaxLen"], apart := false, laid := [("unicode/utf8.acceptRanges", laid_unicode_utf8_acceptRanges), ("unicode/utf8.first", laid_unicode_utf8_first)], narrowed := true }
def WildPlainUptoSaid : Prop := wildPlainUptoRow.holds Tryd.pinned (OpenSpec.upto wildPlainSpec)

/-- 'duffellaw29.WildJoins', WHERE WHAT IT READS IS OF BULK AT MOST 1048576: true; the input reads as it did. -/
def wildJoinsUptoRow : OpenClaim := { program := "ytegfcemedkajkaadoor", sum := "6fe95923415b318da728bdfbe197b6897418c5a5a00d30f0b0262d44cd093d09", func := "duffel/duffellaw29.WildJoins", spec := "wildJoins", inPlace := ["internal/bytealg.Count", "internal/bytealg.IndexByte", "internal/bytealg.Index"], unfollowed := true, recurses := true, named := ["unicode/utf8.first", "unicode/utf8.acceptRanges", "internal/bytealg.MaxLen"], apart := false, laid := [("unicode/utf8.acceptRanges", laid_unicode_utf8_acceptRanges), ("unicode/utf8.first", laid_unicode_utf8_first)], narrowed := true }
def WildJoinsUptoSaid : Prop := wildJoinsUptoRow.holds Tryd.pinned (OpenSpec.upto wildJoinsSpec)

/-- 'duffellaw29.WildFolds', WHERE WHAT IT READS IS OF BULK AT MOST 1048576: true; the input reads as it did. -/
def wildFoldsUptoRow : OpenClaim := { program := "ytegfcemedkajkaadoor", sum := "6fe95923415b318da728bdfbe197b6897418c5a5a00d30f0b0262d44cd093d09", func := "duffel/duffellaw29.WildFolds", spec := "wildFolds", inPlace := ["internal/bytealg.Count", "internal/bytealg.IndexByte", "internal/bytealg.Index"], unfollowed := true, recurses := true, named := ["unicode/utf8.first", "unicode/utf8.acceptRanges", "internal/bytealg.MaxLen"], apart := false, laid := [("unicode/utf8.acceptRanges", laid_unicode_utf8_acceptRanges), ("unicode/utf8.first", laid_unicode_utf8_first)], narrowed := true }
def WildFoldsUptoSaid : Prop := wildFoldsUptoRow.holds Tryd.pinned (OpenSpec.upto wildFoldsSpec)

/-- 'duffellaw29.WildCase', WHERE WHAT IT READS IS OF BULK AT MOST 1048576: true; the input reads as it did. -/
def wildCaseUptoRow : OpenClaim := { program := "ytegfcemedkajkaadoor", sum := "6fe95923415b318da728bdfbe197b6897418c5a5a00d30f0b0262d44cd093d09", func := "duffel/duffellaw29.WildCase", spec := "wildCase", inPlace := ["internal/bytealg.Count", "internal/bytealg.IndexByte", "internal/bytealg.Index"], unfollowed := true, recurses := true, named := ["unicode/utf8.first", "unicode/utf8.acceptRanges", "internal/bytealg.MaxLen"], apart := false, laid := [("unicode/utf8.acceptRanges", laid_unicode_utf8_acceptRanges), ("unicode/utf8.first", laid_unicode_utf8_first)], narrowed := true }
def WildCaseUptoSaid : Prop := wildCaseUptoRow.holds Tryd.pinned (OpenSpec.upto wildCaseSpec)

/-- 'duffellaw29.WildChooses', WHERE WHAT IT READS IS OF BULK AT MOST 1048576: true; the input reads as it did. -/
def wildChoosesUptoRow : OpenClaim := { program := "ytegfcemedkajkaadoor", sum := "6fe95923415b318da728bdfbe197b6897418c5a5a00d30f0b0262d44cd093d09", func := "duffel/duffellaw29.WildChooses", spec := "wildChooses", inPlace := ["internal/bytealg.Count", "internal/bytealg.IndexByte", "internal/bytealg.Index"], unfollowed := true, recurses := true, named := ["unicode/utf8.first", "unicode/utf8.acceptRanges", "internal/bytealg.MaxLen"], apart := false, laid := [("unicode/utf8.acceptRanges", laid_unicode_utf8_acceptRanges), ("unicode/utf8.first", laid_unicode_utf8_first)], narrowed := true }
def WildChoosesUptoSaid : Prop := wildChoosesUptoRow.holds Tryd.pinned (OpenSpec.upto wildChoosesSpec)

end Rows
end Go.Proofs.YtegfcemedkajkaaDoor
