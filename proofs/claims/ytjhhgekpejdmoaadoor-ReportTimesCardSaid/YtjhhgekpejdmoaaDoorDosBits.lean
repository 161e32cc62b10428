/- dos.flags, dos.Bits, walked (any seat). -/
import Derived.Test.YtjhhgekpejdmoaaDoorMyCut
import Derived.Test.YtjhhgekpejdmoaaDoorWTab
import Derived.Laws.Rows
import Derived.Deep.QuietTactic
import Derived.BigQuiet
import Derived.Deep.LoopGhost
import Derived.RegionTactic
import Derived.ChangeAlike
import Derived.BigRegion
import Derived.Lib.EndianBits
namespace Go.Proofs.YtjhhgekpejdmoaaDoor.DosWalk
open Go.RowKit Go.Proofs.YtjhhgekpejdmoaaDoorW.PrintWords Go.Proofs.YtjhhgekpejdmoaaDoorW.PrintLast Go.Proofs.YtjhhgekpejdmoaaDoorW.PrintMore
set_option linter.unusedVariables false
set_option linter.unusedSimpArgs false
def ptrs (g : Nat) : Array Value := #[.pointer (some ⟨g, 0, none⟩), .pointer (some ⟨g, 1, none⟩), .pointer (some ⟨g, 2, none⟩), .pointer (some ⟨g, 3, none⟩), .pointer (some ⟨g, 4, none⟩), .pointer (some ⟨g, 5, none⟩)]
set_option maxHeartbeats 4000000 in
set_option maxRecDepth 100000 in
theorem flags_any (g : Nat) (w : World) :
    Calls Tryd.prog 51 #[.pointer (some ⟨g, 0, none⟩)] w fun e w' => e = .returned (.agg (ptrs g)) ∧ Below w.heap.size w w' := by
  go_enter Tryd.func51, Tryd.ntmps51
  go_wp2
  go_region
  go_wp2
  refine bodyPost_ret (v := .agg (ptrs g)) (results_cell_row rfl _ _ w.heap.size 64 _ (0, 0) _ rfl (heap_alloc_new w _) Tryd.underlying64 rfl (by kernel_rfl)) rfl ⟨rfl, below_drew (below_alloc (Below.refl _ _) _)⟩
theorem idx0 (g : Nat) : ∀ W : World, (Instr.index 64 (.agg #[.pointer (some ⟨g, 0, none⟩), .pointer (some ⟨g, 1, none⟩), .pointer (some ⟨g, 2, none⟩), .pointer (some ⟨g, 3, none⟩), .pointer (some ⟨g, 4, none⟩), .pointer (some ⟨g, 5, none⟩)]) (.int .i64 0)).run Tryd.prog W = .ok (.pointer (some ⟨g, 0, none⟩)) W := fun _ => by kernel_rfl
theorem idx1 (g : Nat) : ∀ W : World, (Instr.index 64 (.agg #[.pointer (some ⟨g, 0, none⟩), .pointer (some ⟨g, 1, none⟩), .pointer (some ⟨g, 2, none⟩), .pointer (some ⟨g, 3, none⟩), .pointer (some ⟨g, 4, none⟩), .pointer (some ⟨g, 5, none⟩)]) (.int .i64 1)).run Tryd.prog W = .ok (.pointer (some ⟨g, 1, none⟩)) W := fun _ => by kernel_rfl
theorem idx2 (g : Nat) : ∀ W : World, (Instr.index 64 (.agg #[.pointer (some ⟨g, 0, none⟩), .pointer (some ⟨g, 1, none⟩), .pointer (some ⟨g, 2, none⟩), .pointer (some ⟨g, 3, none⟩), .pointer (some ⟨g, 4, none⟩), .pointer (some ⟨g, 5, none⟩)]) (.int .i64 2)).run Tryd.prog W = .ok (.pointer (some ⟨g, 2, none⟩)) W := fun _ => by kernel_rfl
theorem idx3 (g : Nat) : ∀ W : World, (Instr.index 64 (.agg #[.pointer (some ⟨g, 0, none⟩), .pointer (some ⟨g, 1, none⟩), .pointer (some ⟨g, 2, none⟩), .pointer (some ⟨g, 3, none⟩), .pointer (some ⟨g, 4, none⟩), .pointer (some ⟨g, 5, none⟩)]) (.int .i64 3)).run Tryd.prog W = .ok (.pointer (some ⟨g, 3, none⟩)) W := fun _ => by kernel_rfl
theorem idx4 (g : Nat) : ∀ W : World, (Instr.index 64 (.agg #[.pointer (some ⟨g, 0, none⟩), .pointer (some ⟨g, 1, none⟩), .pointer (some ⟨g, 2, none⟩), .pointer (some ⟨g, 3, none⟩), .pointer (some ⟨g, 4, none⟩), .pointer (some ⟨g, 5, none⟩)]) (.int .i64 4)).run Tryd.prog W = .ok (.pointer (some ⟨g, 4, none⟩)) W := fun _ => by kernel_rfl
theorem idx5 (g : Nat) : ∀ W : World, (Instr.index 64 (.agg #[.pointer (some ⟨g, 0, none⟩), .pointer (some ⟨g, 1, none⟩), .pointer (some ⟨g, 2, none⟩), .pointer (some ⟨g, 3, none⟩), .pointer (some ⟨g, 4, none⟩), .pointer (some ⟨g, 5, none⟩)]) (.int .i64 5)).run Tryd.prog W = .ok (.pointer (some ⟨g, 5, none⟩)) W := fun _ => by kernel_rfl
/-- what the first i of them make -/
def sumTo (L : List Bool) : Nat → Int
  | 0 => 0
  | i + 1 => sumTo L i + if L.getD i false then 2 ^ i else 0
theorem sumTo_bd (L : List Bool) : ∀ i, 0 ≤ sumTo L i ∧ sumTo L i < 2 ^ i
  | 0 => by simp [sumTo]
  | i + 1 => by
    have h := sumTo_bd L i
    have hp : (2 : Int) ^ (i + 1) = 2 ^ i + 2 ^ i := by rw [Int.pow_succ]; omega
    unfold sumTo
    split <;> omega
def atJ (g : Nat) (j : Int) : Value := .pointer (some ⟨g, j.toNat, none⟩)
def BRel (w : World) (L : List Bool) (v3 v7 : Value) (w' : World) : Prop :=
  ∃ j : Int, v7 = .int .i64 j ∧ 0 ≤ j ∧ j ≤ 6 ∧ v3 = .int .i64 (sumTo L j.toNat) ∧ w'.heap[w.heap.size]? = some (.cells #[.bool (L.getD 0 false), .bool (L.getD 1 false), .bool (L.getD 2 false), .bool (L.getD 3 false), .bool (L.getD 4 false), .bool (L.getD 5 false)] 32 (0, 0)) ∧ Below w.heap.size w w'
theorem or_low (x : Int) (i : Nat) (hi : i ≤ 6) (h0 : 0 ≤ x) (h1 : x < 2 ^ i) : Go.bits .or .i64 x (2 ^ i) = x + 2 ^ i := by
  obtain ⟨a, rfl⟩ := Int.eq_ofNat_of_zero_le h0
  have h1' : a < 2 ^ i := by exact_mod_cast h1
  have hb := (bits_nat .i64 62 (by decide) (fun n a b => by rw [IntKind.wrap_i64]; omega) a (2 ^ i) (Nat.lt_of_lt_of_le h1' (Nat.pow_le_pow_right (by decide) (by omega))) (Nat.pow_lt_pow_right (by decide) (by omega))).2
  have e : a ||| 2 ^ i = a + 2 ^ i := by
    rw [Nat.or_comm, Nat.add_comm]
    have := Nat.two_pow_add_eq_or_of_lt h1' 1
    simpa using this.symm
  rw [e] at hb
  exact_mod_cast hb
set_option maxHeartbeats 16000000 in
set_option maxRecDepth 100000 in
theorem bits_any (a0 a1 a2 a3 a4 a5 : Bool) (w : World) :
    Calls Tryd.prog 36 #[.agg #[.bool a0, .bool a1, .bool a2, .bool a3, .bool a4, .bool a5]] w fun e w' => e = .returned (.int .i64 (sumTo [a0, a1, a2, a3, a4, a5] 6)) ∧ Below w.heap.size w w' := by
  have FL := Aside0.mk (fun W : World => flags_any w.heap.size W)
  go_enter Tryd.func36, Tryd.ntmps36
  go_wp2_with (go_at_call 51; (with_reducible refine (FL.out _).mono ?_); rintro e w1 ⟨rfl, hb1⟩; have HB1 := Aside0.mk hb1; clear hb1)
  have hblk := (HB1.out.block w.heap.size (by simp)).trans (heap_alloc_new w _)
  have HBL := Aside0.mk hblk
  have HB := Aside0.mk (below_step (below_alloc (Below.refl w.heap.size w) _) HB1.out)
  clear hblk HB1
  obtain ⟨L, hL⟩ : ∃ L : List Bool, L = [a0, a1, a2, a3, a4, a5] := ⟨_, rfl⟩
  have HL := Aside0.mk hL
  have hst : w1.heap[w.heap.size]? = some (.cells #[.bool (L.getD 0 false), .bool (L.getD 1 false), .bool (L.getD 2 false), .bool (L.getD 3 false), .bool (L.getD 4 false), .bool (L.getD 5 false)] 32 (0, 0)) := by rw [hL]; exact HBL.out
  have HST := Aside0.mk hst
  clear hL hst HBL
  unfold ptrs
  have i0 := idx0 w.heap.size
  have i1 := idx1 w.heap.size
  have i2 := idx2 w.heap.size
  have i3 := idx3 w.heap.size
  have i4 := idx4 w.heap.size
  have i5 := idx5 w.heap.size
  go_loopw [3, 7] (fun v3 v7 wr => BRel w L v3 v7 wr) (fun _ v7 _ => 6 - (intOf v7).toNat)
  case atStart => exact ⟨0, rfl, by omega, by omega, rfl, HST.out, HB.out⟩
  case round =>
    clear HST HB
    obtain ⟨j, rfl, hj0, hj6, rfl, hblk, hb⟩ := hrel
    have HBL := Aside0.mk hblk
    have HB := Aside0.mk hb
    clear hblk hb
    by_cases c : j < 6
    · have hs := sumTo_bd L j.toNat
      have hor := or_low (sumTo L j.toNat) j.toNat (by omega) hs.1 hs.2
      have hsucc : sumTo L (j.toNat + 1) = sumTo L j.toNat + if L.getD j.toNat false then 2 ^ j.toNat else 0 := rfl
      have hcell : wr.cell? ⟨w.heap.size, j.toNat, none⟩ = some (.bool (L.getD j.toNat false)) := by
        rw [cell_of_row wr _ _ _ _ _ HBL.out]
        obtain rfl | rfl | rfl | rfl | rfl | rfl : j = 0 ∨ j = 1 ∨ j = 2 ∨ j = 3 ∨ j = 4 ∨ j = 5 := by omega
        all_goals rfl
      generalize hB : L.getD j.toNat false = bb at *
      have HSU := Aside0.mk hsucc
      clear hs hsucc hB
      cases bb with
      | true =>
        obtain rfl | rfl | rfl | rfl | rfl | rfl : j = 0 ∨ j = 1 ∨ j = 2 ∨ j = 3 ∨ j = 4 ∨ j = 5 := by omega
        all_goals
          simp only [Int.reduceToNat, Int.toNat_zero, Int.toNat_one, Int.reducePow, Int.pow_zero] at hor hcell HSU ⊢
          go_wp2
          go_roundw
          case rel => exact ⟨_, rfl, by decide, by decide, congrArg (Value.int .i64) (HSU.out.trans (by simp)).symm, HBL.out, HB.out⟩
          case measure => simp [intOf]
      | false =>
        clear hor
        obtain rfl | rfl | rfl | rfl | rfl | rfl : j = 0 ∨ j = 1 ∨ j = 2 ∨ j = 3 ∨ j = 4 ∨ j = 5 := by omega
        all_goals
          simp only [Int.reduceToNat, Int.toNat_zero, Int.toNat_one, Int.reducePow, Int.pow_zero] at hcell HSU ⊢
          go_wp2
          go_roundw
          case rel => exact ⟨_, rfl, by decide, by decide, congrArg (Value.int .i64) (HSU.out.trans (by simp)).symm, HBL.out, HB.out⟩
          case measure => simp [intOf]
    · obtain rfl : j = 6 := by omega
      have e6 : sumTo L (6 : Int).toNat = sumTo [a0, a1, a2, a3, a4, a5] 6 := by rw [HL.out]; rfl
      rw [e6]
      clear c hj0 hj6 e6
      go_wp2
      go_ret
      exact ⟨rfl, HB.out⟩
end Go.Proofs.YtjhhgekpejdmoaaDoor.DosWalk
