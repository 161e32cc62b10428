/- dos.Less, lives and the rest, as the second print takes them. -/
import Derived.Test.YtboliliohghncaaDosLess1
import Derived.Test.YtboliliohghncaaDosPlain
namespace Go.Proofs.Ytboliliohghncaa.DosWalk
open Go.RowKit Go.Proofs.YtboliliohghncaaW.PrintWords Go.Proofs.YtboliliohghncaaW.PrintLast Go.Proofs.YtboliliohghncaaW.PrintMore Go.Proofs.Ytboliliohghncaa.DL Go.Proofs.Ytboliliohghncaa.Dy
set_option linter.unusedVariables false
set_option linter.unusedSimpArgs false
set_option maxHeartbeats 4000000 in
theorem less_no1 (k : Nat) (a0 a1 a2 a3 a4 a5 b0 b1 b2 b3 b4 b5 r : Int) (w : World) (ha : dos_Check.f k a0 a1 a2 a3 a4 a5 = some r) (hr : r ≠ 0) :
    Calls Try.prog 20 #[.agg #[.int .i64 a0, .int .i64 a1, .int .i64 a2, .int .i64 a3, .int .i64 a4, .int .i64 a5], .agg #[.int .i64 b0, .int .i64 b1, .int .i64 b2, .int .i64 b3, .int .i64 b4, .int .i64 b5]] w
      fun e w' => e = .returned (.bool false) ∧ Below w.heap.size w w' := by
  have HA := Aside0.mk ha
  have c1 : (r != 0) = true := bne_iff_ne.mpr hr
  clear ha hr
  go_enter Try.func20, Try.ntmps20
  go_wp2_with (go_at_call 13; (with_reducible refine (dos_Check.calls k a0 a1 a2 a3 a4 a5 r _ HA.out).mono ?_); rintro e w1 ⟨rfl, hb1⟩; have HB1 := Aside0.mk hb1; clear hb1)
  go_ret
  exact ⟨rfl, below_step (((Below.refl _ _).alloc (Nat.le_refl _) _).alloc (by simp) _) HB1.out⟩
set_option maxHeartbeats 4000000 in
theorem less_no2 (k : Nat) (a0 a1 a2 a3 a4 a5 b0 b1 b2 b3 b4 b5 r : Int) (w : World) (ha : dos_Check.f k a0 a1 a2 a3 a4 a5 = some 0) (hb : dos_Check.f k b0 b1 b2 b3 b4 b5 = some r) (hr : r ≠ 0) :
    Calls Try.prog 20 #[.agg #[.int .i64 a0, .int .i64 a1, .int .i64 a2, .int .i64 a3, .int .i64 a4, .int .i64 a5], .agg #[.int .i64 b0, .int .i64 b1, .int .i64 b2, .int .i64 b3, .int .i64 b4, .int .i64 b5]] w
      fun e w' => e = .returned (.bool false) ∧ Below w.heap.size w w' := by
  have HA := Aside0.mk ha
  have HB := Aside0.mk hb
  have c1 : (r != 0) = true := bne_iff_ne.mpr hr
  clear ha hb hr
  go_enter Try.func20, Try.ntmps20
  go_wp2_with (first
    | (go_at_call 13; (with_reducible refine (dos_Check.calls k a0 a1 a2 a3 a4 a5 0 _ HA.out).mono ?_); rintro e w1 ⟨rfl, hb1⟩; clear HA; have HB1 := Aside0.mk hb1; have KB : Aside0 (w1.heap[w.heap.size + 1]? = some (.cells #[.int .i64 b0, .int .i64 b1, .int .i64 b2, .int .i64 b3, .int .i64 b4, .int .i64 b5] 23 (0, 0))) := ⟨(hb1.block (w.heap.size + 1) (by simp)).trans (heap_alloc2_new w _ _)⟩; have hb_0 : w1.cell? ⟨w.heap.size + 1, 0, none⟩ = some (.int .i64 b0) := (cell_of_row w1 _ 0 _ _ _ KB.out).trans rfl; have hb_1 : w1.cell? ⟨w.heap.size + 1, 1, none⟩ = some (.int .i64 b1) := (cell_of_row w1 _ 1 _ _ _ KB.out).trans rfl; have hb_2 : w1.cell? ⟨w.heap.size + 1, 2, none⟩ = some (.int .i64 b2) := (cell_of_row w1 _ 2 _ _ _ KB.out).trans rfl; have hb_3 : w1.cell? ⟨w.heap.size + 1, 3, none⟩ = some (.int .i64 b3) := (cell_of_row w1 _ 3 _ _ _ KB.out).trans rfl; have hb_4 : w1.cell? ⟨w.heap.size + 1, 4, none⟩ = some (.int .i64 b4) := (cell_of_row w1 _ 4 _ _ _ KB.out).trans rfl; have hb_5 : w1.cell? ⟨w.heap.size + 1, 5, none⟩ = some (.int .i64 b5) := (cell_of_row w1 _ 5 _ _ _ KB.out).trans rfl; clear hb1)
    | (go_at_call 13; (with_reducible refine (dos_Check.calls k b0 b1 b2 b3 b4 b5 r _ HB.out).mono ?_); rintro e w2 ⟨rfl, hb2⟩; have HB2 := Aside0.mk hb2; clear hb2))
  go_ret
  exact ⟨rfl, below_step (below_step (((Below.refl _ _).alloc (Nat.le_refl _) _).alloc (by simp) _) HB1.out) HB2.out⟩
theorem less_any (a0 a1 a2 a3 a4 a5 b0 b1 b2 b3 b4 b5 : Int) (w : World) :
    Calls Try.prog 20 #[.agg #[.int .i64 a0, .int .i64 a1, .int .i64 a2, .int .i64 a3, .int .i64 a4, .int .i64 a5], .agg #[.int .i64 b0, .int .i64 b1, .int .i64 b2, .int .i64 b3, .int .i64 b4, .int .i64 b5]] w
      fun e w' => e = .returned (.bool (lessZ a0 a1 a2 a3 a4 a5 b0 b1 b2 b3 b4 b5)) ∧ Below w.heap.size w w' := by
  have ca := check_eq 8 a0 a1 a2 a3 a4 a5
  have cb := check_eq 8 b0 b1 b2 b3 b4 b5
  unfold lessZ
  by_cases oa : okStamp a0 a1 a2 a3 a4 a5
  · rw [if_pos oa] at ca
    by_cases ob : okStamp b0 b1 b2 b3 b4 b5
    · rw [if_pos ob] at cb
      rw [if_pos ⟨oa, ob⟩]
      exact less_ok 10 a0 a1 a2 a3 a4 a5 b0 b1 b2 b3 b4 b5 w ca cb
    · rw [if_neg ob] at cb
      rw [if_neg (fun h => ob h.2)]
      exact less_no2 10 a0 a1 a2 a3 a4 a5 b0 b1 b2 b3 b4 b5 17 w ca cb (by decide)
  · rw [if_neg oa] at ca
    rw [if_neg (fun h => oa h.1)]
    exact less_no1 10 a0 a1 a2 a3 a4 a5 b0 b1 b2 b3 b4 b5 17 w ca (by decide)
end Go.Proofs.Ytboliliohghncaa.DosWalk
