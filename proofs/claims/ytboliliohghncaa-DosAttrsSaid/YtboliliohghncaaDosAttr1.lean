/- dos.Attrs, walked. -/
import Derived.Test.YtboliliohghncaaDosAttr0
import Derived.Deep.Heap
namespace Go.Proofs.Ytboliliohghncaa.DosWalk
open Go.RowKit Go.Proofs.YtboliliohghncaaW.PrintWords Go.Proofs.YtboliliohghncaaW.PrintLast Go.Proofs.YtboliliohghncaaW.PrintMore Go.Proofs.Ytboliliohghncaa.Dy
set_option linter.unusedVariables false
set_option linter.unusedSimpArgs false
theorem heap_set {w : World} {b i : Nat} {cs : Array Value} {t : TypeId} {fr : Nat × Nat} (h : w.heap[b]? = some (.cells cs t fr)) (v : Value) : (w.setCell ⟨b, i, none⟩ v).heap[b]? = some (.cells (cs.setIfInBounds i v) t fr) := by
  have hb : b < w.heap.size := (Array.getElem?_eq_some_iff.1 h).1
  have e := (Array.getElem?_eq_some_iff.1 h).2
  show (w.heap.modify b _)[b]? = _
  rw [Array.getElem?_modify, h]
  simp
/-- the bit i of x -/
def bitB (x : Int) (i : Nat) : Bool := x / 2 ^ i % 2 == 1
def m6 (x : Int) (j : Nat) (i : Nat) : Value := .bool (decide (i < j) && bitB x i)
def ARel (w : World) (x : Int) (v7 : Value) (w' : World) : Prop :=
  ∃ j : Int, v7 = .int .i64 j ∧ 0 ≤ j ∧ j ≤ 6 ∧ w'.heap[w.heap.size + 1]? = some (.cells #[m6 x j.toNat 0, m6 x j.toNat 1, m6 x j.toNat 2, m6 x j.toNat 3, m6 x j.toNat 4, m6 x j.toNat 5] 40 (0, 0)) ∧
    w'.heap[w.heap.size]? = some (.cells #[.bool false, .bool false, .bool false, .bool false, .bool false, .bool false] 40 (0, 0)) ∧ Below w.heap.size w w'
def aggB (x : Int) : Value := .agg #[.bool (bitB x 0), .bool (bitB x 1), .bool (bitB x 2), .bool (bitB x 3), .bool (bitB x 4), .bool (bitB x 5)]
theorem and_one (x : Int) : Go.bits .and .i64 x 1 = x % 2 := by
  have h1 : (BitVec.ofInt 64 x &&& BitVec.ofInt 64 1).toNat = (x % 2).toNat := by
    rw [BitVec.toNat_and]
    have e1 : (BitVec.ofInt 64 1).toNat = 1 := rfl
    rw [e1, Nat.and_one_is_mod, BitVec.toNat_ofInt]
    omega
  show IntKind.i64.wrap (((BitVec.ofInt 64 x &&& BitVec.ofInt 64 1).toNat : Nat) : Int) = _
  rw [h1, IntKind.wrap_i64]; omega
theorem store_bool {w : World} {g i : Nat} {cs : Array Value} {t : TypeId} (h : w.heap[g]? = some (.cells cs t (0, 0))) : w.frozen? ⟨g, i, none⟩ = false := by
  simp [World.frozen?, h]
set_option maxHeartbeats 16000000 in
set_option maxRecDepth 100000 in
theorem attrs_any (x : Int) (w : World) (h0 : -9223372036854775808 ≤ x) (h1 : x ≤ 9223372036854775807) :
    Calls Try.prog 18 #[.int .i64 x] w fun e w' => e = .returned (aggB x) ∧ Below w.heap.size w w' := by
  have FL := Aside0.mk (fun W : World => flags_any (w.heap.size + 1) W)
  go_enter Try.func18, Try.ntmps18
  go_wp2_with (go_at_call 24; (with_reducible refine (FL.out _).mono ?_); rintro e w1 ⟨rfl, hb1⟩; have HB1 := Aside0.mk hb1; clear hb1)
  have HS := Aside0.mk ((HB1.out.block (w.heap.size + 1) (by simp)).trans (heap_alloc2_new w _ _))
  have HR := Aside0.mk ((HB1.out.block w.heap.size (by simp; omega)).trans (heap_alloc2_old w _ _))
  have HB := Aside0.mk (below_step (((Below.refl w.heap.size w).alloc (Nat.le_refl _) _).alloc (by simp) _) HB1.out)
  clear HB1
  unfold ptrs
  have i0 := idx0 (w.heap.size + 1)
  have i1 := idx1 (w.heap.size + 1)
  have i2 := idx2 (w.heap.size + 1)
  have i3 := idx3 (w.heap.size + 1)
  have i4 := idx4 (w.heap.size + 1)
  have i5 := idx5 (w.heap.size + 1)
  have hand := and_one
  go_loopw [7] (fun v7 wr => ARel w x v7 wr) (fun v7 _ => 6 - (intOf v7).toNat)
  case atStart => exact ⟨0, rfl, by omega, by omega, HS.out, HR.out, HB.out⟩
  case round =>
    clear HS HR HB
    obtain ⟨j, rfl, hj0, hj6, hs, hr, hb⟩ := hrel
    have HS := Aside0.mk hs
    have HR := Aside0.mk hr
    have HB := Aside0.mk hb
    clear hs hr hb
    by_cases c : j < 6
    · have hcell : wr.cell? ⟨w.heap.size + 1, j.toNat, none⟩ = some (.bool (decide (j.toNat < j.toNat) && bitB x j.toNat)) := by
        rw [cell_of_row wr _ _ _ _ _ HS.out]
        obtain rfl | rfl | rfl | rfl | rfl | rfl : j = 0 ∨ j = 1 ∨ j = 2 ∨ j = 3 ∨ j = 4 ∨ j = 5 := by omega
        all_goals rfl
      have hfz : wr.frozen? ⟨w.heap.size + 1, j.toNat, none⟩ = false := store_bool HS.out
      have hset := fun v => heap_set (i := j.toNat) HS.out v
      have HSET := Aside0.mk hset
      clear hset
      obtain rfl | rfl | rfl | rfl | rfl | rfl : j = 0 ∨ j = 1 ∨ j = 2 ∨ j = 3 ∨ j = 4 ∨ j = 5 := by omega
      all_goals
        simp only [Int.reduceToNat, Int.toNat_zero, Int.toNat_one] at hcell hfz ⊢
        go_wp2
        go_roundw
        case rel => exact ⟨_, rfl, by decide, by decide, (HSET.out _).trans (by simp [m6, bitB]), (Go.Deep.blk_setCell_other _ _ _ _ (by simp)).trans HR.out, HB.out.setCell (by simp) _⟩
        case measure => simp [intOf]
    · obtain rfl : j = 6 := by omega
      clear c hj0 hj6
      have hs := HS.out
      have hr := HR.out
      have em : ∀ i, i < 6 → m6 x (6 : Int).toNat i = .bool (bitB x i) := fun i hi => by unfold m6; rw [show (6 : Int).toNat = 6 from rfl, decide_eq_true hi, Bool.true_and]
      rw [em 0 (by omega), em 1 (by omega), em 2 (by omega), em 3 (by omega), em 4 (by omega), em 5 (by omega)] at hs
      have c0 := (cell_of_row wr _ 0 _ _ _ hs).trans rfl
      have c1 := (cell_of_row wr _ 1 _ _ _ hs).trans rfl
      have c2 := (cell_of_row wr _ 2 _ _ _ hs).trans rfl
      have c3 := (cell_of_row wr _ 3 _ _ _ hs).trans rfl
      have c4 := (cell_of_row wr _ 4 _ _ _ hs).trans rfl
      have c5 := (cell_of_row wr _ 5 _ _ _ hs).trans rfl
      have d0 := (cell_of_row wr _ 0 _ _ _ hr).trans rfl
      have d1 := (cell_of_row wr _ 1 _ _ _ hr).trans rfl
      have d2 := (cell_of_row wr _ 2 _ _ _ hr).trans rfl
      have d3 := (cell_of_row wr _ 3 _ _ _ hr).trans rfl
      have d4 := (cell_of_row wr _ 4 _ _ _ hr).trans rfl
      have d5 := (cell_of_row wr _ 5 _ _ _ hr).trans rfl
      have z0 := store_bool (i := 0) hr
      have z1 := store_bool (i := 1) hr
      have z2 := store_bool (i := 2) hr
      have z3 := store_bool (i := 3) hr
      have z4 := store_bool (i := 4) hr
      have z5 := store_bool (i := 5) hr
      have HS := Aside0.mk hs
      have HR := Aside0.mk hr
      clear hs hr em
      have H6 := fun v0 v1 v2 v3 v4 v5 => heap_set (i := 5) (heap_set (i := 4) (heap_set (i := 3) (heap_set (i := 2) (heap_set (i := 1) (heap_set (i := 0) HR.out v0) v1) v2) v3) v4) v5
      have HH := Aside0.mk H6
      clear H6
      go_wp2
      refine bodyPost_ret (v := aggB x) (results_cell_row rfl _ _ w.heap.size 40 _ (0, 0) _ rfl ((HH.out _ _ _ _ _ _).trans rfl) Try.underlying40 rfl (by kernel_rfl)) rfl ⟨rfl, ?_⟩
      exact (((((HB.out.setCell (by simp) _).setCell (by simp) _).setCell (by simp) _).setCell (by simp) _).setCell (by simp) _).setCell (by simp) _
end Go.Proofs.Ytboliliohghncaa.DosWalk
