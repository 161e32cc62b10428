/- Words of mine: literals of bytes that are only read. -/
import Derived.Test.YtlemagpmhenmmaaWMore
import Derived.Lib.SlBytesConst
import Derived.Laws.Rows
import Derived.Carry
namespace Go.Proofs.Ytlemagpmhenmmaa.MyWords
open Go.RowKit Go.Proofs.YtlemagpmhenmmaaW.PrintWords Go.Proofs.YtlemagpmhenmmaaW.PrintLast Go.Proofs.YtlemagpmhenmmaaW.PrintMore
theorem cell_new (w : World) (C : Array Value) (t : TypeId) (fr : Nat × Nat) (j : Nat) : (w.alloc (.cells C t fr)).cell? ⟨w.heap.size, j, none⟩ = C[j]? :=
  cell_of_row _ _ j C t fr (heap_alloc_new w _)
/-- A new block holds these numbers: it reads as them. -/
theorem C_new (k : IntKind) (w : World) (xs : List Int) (t : TypeId) (fr : Nat × Nat) (hm : xs.length ≤ 9223372036854775807) :
    Kd.C (Kd.int k) (w.alloc (.cells (xs.map (Value.int k)).toArray t fr)) (some ⟨w.heap.size, 0, none⟩) xs.length xs := by
  refine Kd.C_of_reads (d := (0 : Int)) ⟨rfl, hm, fun _ => ⟨_, rfl, fun j hj => ?_⟩⟩
  have e : (⟨w.heap.size, 0, none⟩ : Addr).add j = ⟨w.heap.size, j, none⟩ := by unfold Addr.add; split <;> simp_all
  rw [e, cell_new]
  simp [List.getD, hj]
end Go.Proofs.Ytlemagpmhenmmaa.MyWords
