/-
  No cell of these rows narrows 'for every input' (looked for: loops, veiled, ifaces, maps, wideKeys, modest, calm, conditions, laid).
  DERIVED. THE GIVEN ROWS OF THIS SEAT. 4 by the template 'for every input the law returns true; each argument reads behind the call as it read before'; 0 by the template 'total and deterministic' (their statements: YtbbmcfbfkpnelaaTotals.lean).
  GIVEN WITH THE SEED: the statements are not yours to turn. If you find one false, say at which input.
  Laid BY PROGRAM, IN A SANDBOX (cutbox-rows.mjs): the forced cells as the released guide's own fill.sh prints them over the translation 1cb315ccbb86682a… (all of the seat's roots in one cut). By AI agents, Wed Nov 11 2026. No macro, syntax, notation, axiom, sorry.
-/
import Derived.Test.YtbbmcfbfkpnelaaChecked
import GoSem.Claim
import GoSem.ClaimJoined
import GoSem.ClaimMapViews
import Derived.JoinedTies
import Derived.KernelRfl
namespace Go.Proofs.Ytbbmcfbfkpnelaa
/- THE CELL 'sum', in the pinned program and in every row, IS THE sha256 OF THE DUMP (.gsa) THAT YtbbmcfbfkpnelaaProg.lean LOADS. Nothing in Lean hashes anything: it is a label: what it is worth is what the hold of that sum in a sandbox is worth. -/
noncomputable def Try.pinned : Pinned := { name := "ytbbmcfbfkpnelaa", sum := "1cb315ccbb86682ac97dfdb2b009a8b4c64c2bd5fe8a11faa498b0ddc995733f", checked := Try.checked }
namespace Rows
def none {H : Type} : Left H := { results := [], args := [] }

/-- 'duffellaw40.ProbeLogs': WHATEVER THE INPUT: true; the input reads as it did. -/
def probeLogsSpec : ChangeSpec := { name := "probeLogs", fn := fun _ => fun
  | [d1, d2, d3] => { results := [.lit (.bool true)], args := [d1, d2, d3] }
  | _ => none }
def probeLogsRow : OpenClaim := { program := "ytbbmcfbfkpnelaa", sum := "1cb315ccbb86682ac97dfdb2b009a8b4c64c2bd5fe8a11faa498b0ddc995733f", func := "duffel/duffellaw40.ProbeLogs", spec := "probeLogs", plainKeys := false, apart := false }
def ProbeLogsSaid : Prop := probeLogsRow.holds Try.pinned (OpenSpec.ofChange probeLogsSpec)

/-- ITS FALSE NEIGHBOUR: 'it returns false'. Refute it at one input. -/
def probeLogsWrong : ChangeSpec := { name := "probeLogs", fn := fun _ => fun
  | [d1, d2, d3] => { results := [.lit (.bool false)], args := [d1, d2, d3] }
  | _ => none }
def ProbeLogsWrongFalsely : Prop := probeLogsRow.holds Try.pinned (OpenSpec.ofChange probeLogsWrong)

/-- 'duffellaw40.ProbeBounds': WHATEVER THE INPUT: true; the input reads as it did. -/
def probeBoundsSpec : ChangeSpec := { name := "probeBounds", fn := fun _ => fun
  | [d1, d2, d3, d4] => { results := [.lit (.bool true)], args := [d1, d2, d3, d4] }
  | _ => none }
def probeBoundsRow : OpenClaim := { program := "ytbbmcfbfkpnelaa", sum := "1cb315ccbb86682ac97dfdb2b009a8b4c64c2bd5fe8a11faa498b0ddc995733f", func := "duffel/duffellaw40.ProbeBounds", spec := "probeBounds", plainKeys := false, apart := false }
def ProbeBoundsSaid : Prop := probeBoundsRow.holds Try.pinned (OpenSpec.ofChange probeBoundsSpec)

/-- ITS FALSE NEIGHBOUR: 'it returns false'. Refute it at one input. -/
def probeBoundsWrong : ChangeSpec := { name := "probeBounds", fn := fun _ => fun
  | [d1, d2, d3, d4] => { results := [.lit (.bool false)], args := [d1, d2, d3, d4] }
  | _ => none }
def ProbeBoundsWrongFalsely : Prop := probeBoundsRow.holds Try.pinned (OpenSpec.ofChange probeBoundsWrong)

/-- 'duffellaw40.ProbeCounts': WHATEVER THE INPUT: true; the input reads as it did. -/
def probeCountsSpec : ChangeSpec := { name := "probeCounts", fn := fun _ => fun
  | [d1, d2] => { results := [.lit (.bool true)], args := [d1, d2] }
  | _ => none }
def probeCountsRow : OpenClaim := { program := "ytbbmcfbfkpnelaa", sum := "1cb315ccbb86682ac97dfdb2b009a8b4c64c2bd5fe8a11faa498b0ddc995733f", func := "duffel/duffellaw40.ProbeCounts", spec := "probeCounts", plainKeys := false, apart := false }
def ProbeCountsSaid : Prop := probeCountsRow.holds Try.pinned (OpenSpec.ofChange probeCountsSpec)

/-- ITS FALSE NEIGHBOUR: 'it returns false'. Refute it at one input. -/
def probeCountsWrong : ChangeSpec := { name := "probeCounts", fn := fun _ => fun
  | [d1, d2] => { results := [.lit (.bool false)], args := [d1, d2] }
  | _ => none }
def ProbeCountsWrongFalsely : Prop := probeCountsRow.holds Try.pinned (OpenSpec.ofChange probeCountsWrong)

/-- 'duffellaw40.ProbeAdvises': WHATEVER THE INPUT: true; the input reads as it did. -/
def probeAdvisesSpec : ChangeSpec := { name := "probeAdvises", fn := fun _ => fun
  | [d] => { results := [.lit (.bool true)], args := [d] }
  | _ => none }
def probeAdvisesRow : OpenClaim := { program := "ytbbmcfbfkpnelaa", sum := "1cb315ccbb86682ac97dfdb2b009a8b4c64c2bd5fe8a11faa498b0ddc995733f", func := "duffel/duffellaw40.ProbeAdvises", spec := "probeAdvises", plainKeys := false, apart := false }
def ProbeAdvisesSaid : Prop := probeAdvisesRow.holds Try.pinned (OpenSpec.ofChange probeAdvisesSpec)

/-- ITS FALSE NEIGHBOUR: 'it returns false'. Refute it at one input. -/
def probeAdvisesWrong : ChangeSpec := { name := "probeAdvises", fn := fun _ => fun
  | [d] => { results := [.lit (.bool false)], args := [d] }
  | _ => none }
def ProbeAdvisesWrongFalsely : Prop := probeAdvisesRow.holds Try.pinned (OpenSpec.ofChange probeAdvisesWrong)

/- THE SECOND FORM. 'bulk': how many values and letters a reading holds, each counted each time it is reached (what is shared counts as often as it is met; a slice's spare places count too). A statement '..UptoSaid' is the law's where the arguments, and the package variables that the reading takes, are together of bulk at most 1048576: NARROWER than '..Said'. Prove '..Said' where nothing that the law and all that it calls make is longer than what came in: it says more and counts as full. Else prove '..UptoSaid'. A law counts once. -/
mutual
def uptoBulk {H : Type} : DataW H → Nat
  | .lit (.string bytes) => bytes.length + 1
  | .lit _ => 1
  | .nil => 1
  | .ptr d => uptoBulk d + 1
  | .slice elems spare => uptoBulkAll elems + uptoBulkAll spare + 1
  | .agg parts => uptoBulkAll parts + 1
  | .iface _ d => uptoBulk d + 1
  | .map entries => uptoBulkEntries entries + 1
  | .held _ => 1
def uptoBulkAll {H : Type} : List (DataW H) → Nat
  | [] => 0
  | d :: r => uptoBulk d + uptoBulkAll r
def uptoBulkEntries {H : Type} : List (Lit × DataW H) → Nat
  | [] => 0
  | x :: r => uptoBulkEntry x + uptoBulkEntries r
def uptoBulkEntry {H : Type} : Lit × DataW H → Nat
  | (.string bytes, d) => bytes.length + uptoBulk d + 1
  | (_, d) => uptoBulk d + 1
 end
def uptoSmall : (H : Type) → List (DataW H) → Bool := fun _ ds => decide (uptoBulkAll ds ≤ 1048576)
def OpenSpec.upto (s : _root_.Go.ChangeSpec) : _root_.Go.OpenSpec := { _root_.Go.OpenSpec.ofChange s with cond := some uptoSmall }

/-- 'duffellaw40.ProbeLogs', WHERE WHAT IT READS IS OF BULK AT MOST 1048576: true; the input reads as it did. -/
def probeLogsUptoRow : OpenClaim := { program := "ytbbmcfbfkpnelaa", sum := "1cb315ccbb86682ac97dfdb2b009a8b4c64c2bd5fe8a11faa498b0ddc995733f", func := "duffel/duffellaw40.ProbeLogs", spec := "probeLogs", plainKeys := false, apart := false, narrowed := true }
def ProbeLogsUptoSaid : Prop := probeLogsUptoRow.holds Try.pinned (OpenSpec.upto probeLogsSpec)

/-- 'duffellaw40.ProbeBounds', WHERE WHAT IT READS IS OF BULK AT MOST 1048576: true; the input reads as it did. -/
def probeBoundsUptoRow : OpenClaim := { program := "ytbbmcfbfkpnelaa", sum := "1cb315ccbb86682ac97dfdb2b009a8b4c64c2bd5fe8a11faa498b0ddc995733f", func := "duffel/duffellaw40.ProbeBounds", spec := "probeBounds", plainKeys := false, apart := false, narrowed := true }
def ProbeBoundsUptoSaid : Prop := probeBoundsUptoRow.holds Try.pinned (OpenSpec.upto probeBoundsSpec)

/-- 'duffellaw40.ProbeCounts', WHERE WHAT IT READS IS OF BULK AT MOST 1048576: true; the input reads as it did. -/
def probeCountsUptoRow : OpenClaim := { program := "ytbbmcfbfkpnelaa", sum := "1cb315ccbb86682ac97dfdb2b009a8b4c64c2bd5fe8a11faa498b0ddc995733f", func := "duffel/duffellaw40.ProbeCounts", spec := "probeCounts", plainKeys := false, apart := false, narrowed := true }
def ProbeCountsUptoSaid : Prop := probeCountsUptoRow.holds Try.pinned (OpenSpec.upto probeCountsSpec)

/-- 'duffellaw40.ProbeAdvises', WHERE WHAT IT READS IS OF BULK AT MOST 1048576: true; the input reads as it did. -/
def probeAdvisesUptoRow : OpenClaim := { program := "ytbbmcfbfkpnelaa", sum := "1cb315ccbb86682ac97dfdb2b009a8b4c64c2bd5fe8a11faa498b0ddc995733f", func := "duffel/duffellaw40.ProbeAdvises", spec := "probeAdvises", plainKeys := false, apart := false, narrowed := true }
def ProbeAdvisesUptoSaid : Prop := probeAdvisesUptoRow.holds Try.pinned (OpenSpec.upto probeAdvisesSpec)

end Rows
end Go.Proofs.Ytbbmcfbfkpnelaa
