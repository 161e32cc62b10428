/- Words of mine: literals of bytes that are only read. -/
import Derived.Test.YtbjffjbohpoedaaDoorWMore
import Derived.Lib.SlBytesConst
import Derived.Laws.Rows
import Derived.Carry
namespace Go.Proofs.YtbjffjbohpoedaaDoor.MyWords
open Go.RowKit Go.Proofs.YtbjffjbohpoedaaDoorW.PrintWords Go.Proofs.YtbjffjbohpoedaaDoorW.PrintLast Go.Proofs.YtbjffjbohpoedaaDoorW.PrintMore
theorem cell_new (w : World) (C : Array Value) (t : TypeId) (fr : Nat × Nat) (j : Nat) : (w.alloc (.cells C t fr)).cell? ⟨w.heap.size, j, none⟩ = C[j]? :=
  cell_of_row _ _ j C t fr (heap_alloc_new w _)
/-- A new block holds these numbers: it reads as them. -/
theorem C_new (k : IntKind) (w : World) (xs : List Int) (t : TypeId) (fr : Nat × Nat) (hm : xs.length ≤ 9223372036854775807) :
    Kd.C (Kd.int k) (w.alloc (.cells (xs.map (Value.int k)).toArray t fr)) (some ⟨w.heap.size, 0, none⟩) xs.length xs := by
  refine Kd.C_of_reads (d := (0 : Int)) ⟨rfl, hm, fun _ => ⟨_, rfl, fun j hj => ?_⟩⟩
  have e : (⟨w.heap.size, 0, none⟩ : Addr).add j = ⟨w.heap.size, j, none⟩ := by unfold Addr.add; split <;> simp_all
  rw [e, cell_new]
  simp [List.getD, hj]
/-- 'xs[:j]', its list a letter. -/
theorem take_letter {P : Program} (k : IntKind) (t e : TypeId) (kl : IntKind) (ht : P.underlying t = some (.slice e)) (hi : (P.info? e).map (·.size) = some 1) (A : Option Addr) (c : Nat) (xs : List Int) (j : Int) (h0 : 0 ≤ j) (hm : j ≤ xs.length) (hc : xs.length ≤ c) :
    ∃ ys : List Int, Hid (ys = xs.take j.toNat) ∧ (∀ W : World, (Instr.slice t (.slice A xs.length c) none (some (.int kl j)) none).run P W = .ok (.slice A ys.length c) W) ∧
      Aside0 (∀ w : World, Kd.C (Kd.int k) w A xs.length xs → Kd.C (Kd.int k) w A ys.length ys) ∧ Aside0 (ys.length ≤ c) := by
  cases h : P.info? e with
  | none => simp [h] at hi
  | some i =>
    have hs : i.size = 1 := by simpa [h] using hi
    obtain ⟨h1, h2, h3⟩ := print_take_of (P := P) (Value.int k) (0 : Int) t e kl ht h hs A c xs j h0 hm hc
    exact ⟨_, rfl, h1, ⟨fun w hr => Kd.C_of_reads (h1 := fun _ => rfl) (h2 w (Kd.reads_of_C hr))⟩, ⟨h3⟩⟩
/-- 'xs[j:]', its list a letter. -/
theorem drop_letter {P : Program} (k : IntKind) (t e : TypeId) (kl : IntKind) (ht : P.underlying t = some (.slice e)) (hi : (P.info? e).map (·.size) = some 1) (A : Option Addr) (c : Nat) (xs : List Int) (j : Int) (h0 : 0 ≤ j) (hm : j ≤ xs.length) (hc : xs.length ≤ c) :
    ∃ (ys : List Int) (A' : Option Addr) (c' : Nat), Hid (ys = xs.drop j.toNat) ∧ (∀ W : World, (Instr.slice t (.slice A xs.length c) (some (.int kl j)) none none).run P W = .ok (.slice A' ys.length c') W) ∧
      Aside0 (∀ w : World, Kd.C (Kd.int k) w A xs.length xs → Kd.C (Kd.int k) w A' ys.length ys) ∧ Aside0 (ys.length ≤ c') := by
  cases h : P.info? e with
  | none => simp [h] at hi
  | some i =>
    have hs : i.size = 1 := by simpa [h] using hi
    obtain ⟨A', h1, h2, h3⟩ := print_drop_of (P := P) (Value.int k) (0 : Int) t e kl ht h hs A c xs j h0 hm hc
    exact ⟨_, A', _, rfl, h1, ⟨fun w hr => Kd.C_of_reads (h1 := fun _ => rfl) (h2 w (Kd.reads_of_C hr))⟩, ⟨h3⟩⟩
end Go.Proofs.YtbjffjbohpoedaaDoor.MyWords
