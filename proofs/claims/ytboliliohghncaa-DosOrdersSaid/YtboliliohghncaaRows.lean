/-
  No cell of these rows narrows 'for every input' (looked for: loops, veiled, ifaces, maps, wideKeys, modest, calm, conditions, laid).
  DERIVED. THE GIVEN ROWS OF THIS SEAT. 5 by the template 'for every input the law returns true; each argument reads behind the call as it read before'; 0 by the template 'total and deterministic' (their statements: YtboliliohghncaaTotals.lean).
  GIVEN WITH THE SEED: the statements are not yours to turn. If you find one false, say at which input.
  Laid BY PROGRAM, IN A SANDBOX (cutbox-rows.mjs): the forced cells as the released guide's own fill.sh prints them over the translation 45b95bf1f56057d0… (all of the seat's roots in one cut). By AI agents, Wed Nov 11 2026. No macro, syntax, notation, axiom, sorry.
-/
import Derived.Test.YtboliliohghncaaChecked
import GoSem.Claim
import GoSem.ClaimJoined
import GoSem.ClaimMapViews
import Derived.JoinedTies
import Derived.KernelRfl
namespace Go.Proofs.Ytboliliohghncaa
/- THE CELL 'sum', in the pinned program and in every row, IS THE sha256 OF THE DUMP (.gsa) THAT YtboliliohghncaaProg.lean LOADS. Nothing in Lean hashes anything: it is a label: what it is worth is what the hold of that sum in a sandbox is worth. -/
noncomputable def Try.pinned : Pinned := { name := "ytboliliohghncaa", sum := "45b95bf1f56057d070b4f53d5a167b12efc0e58643e1b909f03be4c05e9f31e6", checked := Try.checked }
namespace Rows
def none {H : Type} : Left H := { results := [], args := [] }

/-- 'duffellaw22.DosNumbers': WHATEVER THE INPUT: true; the input reads as it did. -/
def dosNumbersSpec : ChangeSpec := { name := "dosNumbers", fn := fun _ => fun
  | [d1, d2] => { results := [.lit (.bool true)], args := [d1, d2] }
  | _ => none }
def dosNumbersRow : OpenClaim := { program := "ytboliliohghncaa", sum := "45b95bf1f56057d070b4f53d5a167b12efc0e58643e1b909f03be4c05e9f31e6", func := "duffel/duffellaw22.DosNumbers", spec := "dosNumbers", apart := false }
def DosNumbersSaid : Prop := dosNumbersRow.holds Try.pinned (OpenSpec.ofChange dosNumbersSpec)

/-- ITS FALSE NEIGHBOUR: 'it returns false'. Refute it at one input. -/
def dosNumbersWrong : ChangeSpec := { name := "dosNumbers", fn := fun _ => fun
  | [d1, d2] => { results := [.lit (.bool false)], args := [d1, d2] }
  | _ => none }
def DosNumbersWrongFalsely : Prop := dosNumbersRow.holds Try.pinned (OpenSpec.ofChange dosNumbersWrong)

/-- 'duffellaw22.DosBack': WHATEVER THE INPUT: true; the input reads as it did. -/
def dosBackSpec : ChangeSpec := { name := "dosBack", fn := fun _ => fun
  | [d1, d2, d3] => { results := [.lit (.bool true)], args := [d1, d2, d3] }
  | _ => none }
def dosBackRow : OpenClaim := { program := "ytboliliohghncaa", sum := "45b95bf1f56057d070b4f53d5a167b12efc0e58643e1b909f03be4c05e9f31e6", func := "duffel/duffellaw22.DosBack", spec := "dosBack", apart := false }
def DosBackSaid : Prop := dosBackRow.holds Try.pinned (OpenSpec.ofChange dosBackSpec)

/-- ITS FALSE NEIGHBOUR: 'it returns false'. Refute it at one input. -/
def dosBackWrong : ChangeSpec := { name := "dosBack", fn := fun _ => fun
  | [d1, d2, d3] => { results := [.lit (.bool false)], args := [d1, d2, d3] }
  | _ => none }
def DosBackWrongFalsely : Prop := dosBackRow.holds Try.pinned (OpenSpec.ofChange dosBackWrong)

/-- 'duffellaw22.DosTimes': WHATEVER THE INPUT: true; the input reads as it did. -/
def dosTimesSpec : ChangeSpec := { name := "dosTimes", fn := fun _ => fun
  | [d] => { results := [.lit (.bool true)], args := [d] }
  | _ => none }
def dosTimesRow : OpenClaim := { program := "ytboliliohghncaa", sum := "45b95bf1f56057d070b4f53d5a167b12efc0e58643e1b909f03be4c05e9f31e6", func := "duffel/duffellaw22.DosTimes", spec := "dosTimes", apart := false }
def DosTimesSaid : Prop := dosTimesRow.holds Try.pinned (OpenSpec.ofChange dosTimesSpec)

/-- ITS FALSE NEIGHBOUR: 'it returns false'. Refute it at one input. -/
def dosTimesWrong : ChangeSpec := { name := "dosTimes", fn := fun _ => fun
  | [d] => { results := [.lit (.bool false)], args := [d] }
  | _ => none }
def DosTimesWrongFalsely : Prop := dosTimesRow.holds Try.pinned (OpenSpec.ofChange dosTimesWrong)

/-- 'duffellaw22.DosAttrs': WHATEVER THE INPUT: true; the input reads as it did. -/
def dosAttrsSpec : ChangeSpec := { name := "dosAttrs", fn := fun _ => fun
  | [d1, d2, d3] => { results := [.lit (.bool true)], args := [d1, d2, d3] }
  | _ => none }
def dosAttrsRow : OpenClaim := { program := "ytboliliohghncaa", sum := "45b95bf1f56057d070b4f53d5a167b12efc0e58643e1b909f03be4c05e9f31e6", func := "duffel/duffellaw22.DosAttrs", spec := "dosAttrs", apart := false }
def DosAttrsSaid : Prop := dosAttrsRow.holds Try.pinned (OpenSpec.ofChange dosAttrsSpec)

/-- ITS FALSE NEIGHBOUR: 'it returns false'. Refute it at one input. -/
def dosAttrsWrong : ChangeSpec := { name := "dosAttrs", fn := fun _ => fun
  | [d1, d2, d3] => { results := [.lit (.bool false)], args := [d1, d2, d3] }
  | _ => none }
def DosAttrsWrongFalsely : Prop := dosAttrsRow.holds Try.pinned (OpenSpec.ofChange dosAttrsWrong)

/-- 'duffellaw22.DosOrders': WHATEVER THE INPUT: true; the input reads as it did. -/
def dosOrdersSpec : ChangeSpec := { name := "dosOrders", fn := fun _ => fun
  | [d1, d2] => { results := [.lit (.bool true)], args := [d1, d2] }
  | _ => none }
def dosOrdersRow : OpenClaim := { program := "ytboliliohghncaa", sum := "45b95bf1f56057d070b4f53d5a167b12efc0e58643e1b909f03be4c05e9f31e6", func := "duffel/duffellaw22.DosOrders", spec := "dosOrders", apart := false }
def DosOrdersSaid : Prop := dosOrdersRow.holds Try.pinned (OpenSpec.ofChange dosOrdersSpec)

/-- ITS FALSE NEIGHBOUR: 'it returns false'. Refute it at one input. -/
def dosOrdersWrong : ChangeSpec := { name := "dosOrders", fn := fun _ => fun
  | [d1, d2] => { results := [.lit (.bool false)], args := [d1, d2] }
  | _ => none }
def DosOrdersWrongFalsely : Prop := dosOrdersRow.holds Try.pinned (OpenSpec.ofChange dosOrdersWrong)

/- THE SECOND FORM. 'bulk': how many values and letters a reading holds, each counted each time it is reached (what is shared counts as often as it is met; a slice's spare places count too). A statement '..UptoSaid' is the law's where the arguments, and the package variables that the reading takes, are together of bulk at most 1048576: NARROWER than '..Said'. Prove '..Said' where nothing that the law and all that it calls make is longer than what came in: it says more and counts as full. Else prove '..UptoSaid'. A law counts once. -/
mutual
def uptoBulk {H : Type} : DataW H → Nat
  | .lit (.string bytes) => bytes.length + 1
  | .lit _ => 1
  | .nil => 1
  | .ptr d => uptoBulk d + 1
  | .slice elems spare => uptoBulkAll elems + uptoBulkAll spare + 1
  | .agg parts => uptoBulkAll parts + 1
  | .iface _ d => uptoBulk d + 1
  | .map entries => uptoBulkEntries entries + 1
  | .held _ => 1
def uptoBulkAll {H : Type} : List (DataW H) → Nat
  | [] => 0
  | d :: r => uptoBulk d + uptoBulkAll r
def uptoBulkEntries {H : Type} : List (Lit × DataW H) → Nat
  | [] => 0
  | x :: r => uptoBulkEntry x + uptoBulkEntries r
def uptoBulkEntry {H : Type} : Lit × DataW H → Nat
  | (.string bytes, d) => bytes.length + uptoBulk d + 1
  | (_, d) => uptoBulk d + 1
 end
def uptoSmall : (H : Type) → List (DataW H) → Bool := fun _ ds => decide (uptoBulkAll ds ≤ 1048576)
def OpenSpec.upto (s : _root_.Go.ChangeSpec) : _root_.Go.OpenSpec := { _root_.Go.OpenSpec.ofChange s with cond := some uptoSmall }

/-- 'duffellaw22.DosNumbers', WHERE WHAT IT READS IS OF BULK AT MOST 1048576: true; the input reads as it did. -/
def dosNumbersUptoRow : OpenClaim := { program := "ytboliliohghncaa", sum := "45b95bf1f56057d070b4f53d5a167b12efc0e58643e1b909f03be4c05e9f31e6", func := "duffel/duffellaw22.DosNumbers", spec := "dosNumbers", apart := false, narrowed := true }
def DosNumbersUptoSaid : Prop := dosNumbersUptoRow.holds Try.pinned (OpenSpec.upto dosNumbersSpec)

/-- 'duffellaw22.DosBack', WHERE WHAT IT READS IS OF BULK AT MOST 1048576: true; the input reads as it did. -/
def dosBackUptoRow : OpenClaim := { program := "ytboliliohghncaa", sum := "45b95bf1f56057d070b4f53d5a167b12efc0e58643e1b909f03be4c05e9f31e6", func := "duffel/duffellaw22.DosBack", spec := "dosBack", apart := false, narrowed := true }
def DosBackUptoSaid : Prop := dosBackUptoRow.holds Try.pinned (OpenSpec.upto dosBackSpec)

/-- 'duffellaw22.DosTimes', WHERE WHAT IT READS IS OF BULK AT MOST 1048576: true; the input reads as it did. -/
def dosTimesUptoRow : OpenClaim := { program := "ytboliliohghncaa", sum := "45b95bf1f56057d070b4f53d5a167b12efc0e58643e1b909f03be4c05e9f31e6", func := "duffel/duffellaw22.DosTimes", spec := "dosTimes", apart := false, narrowed := true }
def DosTimesUptoSaid : Prop := dosTimesUptoRow.holds Try.pinned (OpenSpec.upto dosTimesSpec)

/-- 'duffellaw22.DosAttrs', WHERE WHAT IT READS IS OF BULK AT MOST 1048576: true; the input reads as it did. -/
def dosAttrsUptoRow : OpenClaim := { program := "ytboliliohghncaa", sum := "45b95bf1f56057d070b4f53d5a167b12efc0e58643e1b909f03be4c05e9f31e6", func := "duffel/duffellaw22.DosAttrs", spec := "dosAttrs", apart := false, narrowed := true }
def DosAttrsUptoSaid : Prop := dosAttrsUptoRow.holds Try.pinned (OpenSpec.upto dosAttrsSpec)

/-- 'duffellaw22.DosOrders', WHERE WHAT IT READS IS OF BULK AT MOST 1048576: true; the input reads as it did. -/
def dosOrdersUptoRow : OpenClaim := { program := "ytboliliohghncaa", sum := "45b95bf1f56057d070b4f53d5a167b12efc0e58643e1b909f03be4c05e9f31e6", func := "duffel/duffellaw22.DosOrders", spec := "dosOrders", apart := false, narrowed := true }
def DosOrdersUptoSaid : Prop := dosOrdersUptoRow.holds Try.pinned (OpenSpec.upto dosOrdersSpec)

end Rows
end Go.Proofs.Ytboliliohghncaa
