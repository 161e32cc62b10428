/- DosOrders, walked: of two times one is ahead, if its numbers are less; a day later has one day more over. -/
import Derived.Test.YtboliliohghncaaDosLess2
namespace Go.Proofs.Ytboliliohghncaa.DosWalk
open Go.RowKit Go.Proofs.YtboliliohghncaaW.PrintWords Go.Proofs.YtboliliohghncaaW.PrintLast Go.Proofs.YtboliliohghncaaW.PrintMore Go.Proofs.Ytboliliohghncaa.DL Go.Proofs.Ytboliliohghncaa.Dy
set_option linter.unusedVariables false
set_option linter.unusedSimpArgs false
def TPost (w : World) (e : Ending) (w' : World) : Prop := e = .returned (.bool true) ∧ Below w.heap.size w w'
def stV (a0 a1 a2 a3 a4 a5 : Int) : Obj := .cells #[.int .i64 a0, .int .i64 a1, .int .i64 a2, .int .i64 a3, .int .i64 a4, .int .i64 a5] 23
/-- the two boxed stamps -/
structure TwoAt (w0 w : World) (a0 a1 a2 a3 a4 a5 b0 b1 b2 b3 b4 b5 : Int) : Prop where
  one : w.heap[w0.heap.size]? = some (stV a0 a1 a2 a3 a4 a5)
  two : w.heap[w0.heap.size + 1]? = some (stV b0 b1 b2 b3 b4 b5)
  bel : Below w0.heap.size w0 w
  big : w0.heap.size + 2 ≤ w.heap.size
section
variable {w0 w w1 : World} {a0 a1 a2 a3 a4 a5 b0 b1 b2 b3 b4 b5 : Int}
theorem TwoAt.start (w0 : World) (a0 a1 a2 a3 a4 a5 b0 b1 b2 b3 b4 b5 : Int) : TwoAt w0 ((w0.alloc (stV a0 a1 a2 a3 a4 a5)).alloc (stV b0 b1 b2 b3 b4 b5)) a0 a1 a2 a3 a4 a5 b0 b1 b2 b3 b4 b5 :=
  ⟨heap_alloc2_old _ _ _, heap_alloc2_new _ _ _, ((Below.refl _ _).alloc (Nat.le_refl _) _).alloc (by simp) _, by simp⟩
theorem TwoAt.on {B : Nat} (h : TwoAt w0 w a0 a1 a2 a3 a4 a5 b0 b1 b2 b3 b4 b5) (hb : Below B w w1) (hB : w0.heap.size + 2 ≤ B) : TwoAt w0 w1 a0 a1 a2 a3 a4 a5 b0 b1 b2 b3 b4 b5 :=
  ⟨(hb.block _ (by omega)).trans h.one, (hb.block _ (by omega)).trans h.two, h.bel.trans (hb.mono (by omega)), Nat.le_trans h.big hb.size⟩
theorem TwoAt.step (h : TwoAt w0 w a0 a1 a2 a3 a4 a5 b0 b1 b2 b3 b4 b5) (hb : Below w.heap.size w w1) : TwoAt w0 w1 a0 a1 a2 a3 a4 a5 b0 b1 b2 b3 b4 b5 := h.on hb h.big
theorem st_cells {g : Nat} (h : w.heap[g]? = some (stV a0 a1 a2 a3 a4 a5)) :
    w.cell? ⟨g, 0, none⟩ = some (.int .i64 a0) ∧ w.cell? ⟨g, 1, none⟩ = some (.int .i64 a1) ∧ w.cell? ⟨g, 2, none⟩ = some (.int .i64 a2) ∧ w.cell? ⟨g, 3, none⟩ = some (.int .i64 a3) ∧ w.cell? ⟨g, 4, none⟩ = some (.int .i64 a4) ∧ w.cell? ⟨g, 5, none⟩ = some (.int .i64 a5) :=
  ⟨(cell_of_row w g 0 _ _ _ h).trans rfl, (cell_of_row w g 1 _ _ _ h).trans rfl, (cell_of_row w g 2 _ _ _ h).trans rfl, (cell_of_row w g 3 _ _ _ h).trans rfl, (cell_of_row w g 4 _ _ _ h).trans rfl, (cell_of_row w g 5 _ _ _ h).trans rfl⟩
end
section
variable (a0 a1 a2 a3 a4 a5 : Int) (w : World)
theorem pack_c : Calls Try.prog 11 #[.agg #[.int .i64 a0, .int .i64 a1, .int .i64 a2, .int .i64 a3, .int .i64 a4, .int .i64 a5]] w fun e w' => e = .returned (.tuple #[.int .i64 (packZ a0 a1 a2 a3 a4 a5).1, .int .i64 (packZ a0 a1 a2 a3 a4 a5).2.1, .int .i64 (packZ a0 a1 a2 a3 a4 a5).2.2]) ∧ Below w.heap.size w w' :=
  dos_Pack.calls 10 a0 a1 a2 a3 a4 a5 _ _ _ w (pack_eq 8 a0 a1 a2 a3 a4 a5)
theorem check_c : Calls Try.prog 13 #[.agg #[.int .i64 a0, .int .i64 a1, .int .i64 a2, .int .i64 a3, .int .i64 a4, .int .i64 a5]] w fun e w' => e = .returned (.int .i64 (if okStamp a0 a1 a2 a3 a4 a5 then 0 else 17)) ∧ Below w.heap.size w w' :=
  dos_Check.calls 10 a0 a1 a2 a3 a4 a5 _ w (check_eq 8 a0 a1 a2 a3 a4 a5)
theorem days_c : Calls Try.prog 14 #[.agg #[.int .i64 a0, .int .i64 a1, .int .i64 a2, .int .i64 a3, .int .i64 a4, .int .i64 a5]] w fun e w' => e = .returned (.int .i64 (daysZ a0 a1 a2 a3 a4 a5)) ∧ Below w.heap.size w w' :=
  dos_Days.calls 20 a0 a1 a2 a3 a4 a5 _ w (days_z a0 a1 a2 a3 a4 a5)
end
theorem lives_c (w : World) : Calls Try.prog 10 #[] w fun e w' => e = .returned (.bool true) ∧ Below w.heap.size w w' := by
  have e : packZ 1980 1 1 0 0 0 = (0, 33, 0) := by decide
  have P := Aside0.mk (fun W : World => pack_c 1980 1 1 0 0 0 W)
  rw [e] at P
  go_enter Try.func10, Try.ntmps10
  go_wp2_with (go_at_call 11; (refine (P.out _).mono ?_); rintro e w1 ⟨rfl, hb1⟩; have HB1 := Aside0.mk hb1; clear hb1)
  go_ret
  exact ⟨rfl, HB1.out⟩
set_option maxHeartbeats 8000000 in
set_option maxRecDepth 100000 in
/-- one of the two is no time -/
theorem orders_no (a0 a1 a2 a3 a4 a5 b0 b1 b2 b3 b4 b5 : Int) (w : World) (h : ¬ (okStamp a0 a1 a2 a3 a4 a5 ∧ okStamp b0 b1 b2 b3 b4 b5)) :
    Calls Try.prog 7 #[.agg #[.int .i64 a0, .int .i64 a1, .int .i64 a2, .int .i64 a3, .int .i64 a4, .int .i64 a5], .agg #[.int .i64 b0, .int .i64 b1, .int .i64 b2, .int .i64 b3, .int .i64 b4, .int .i64 b5]] w (TPost w) := by
  have hl : lessZ a0 a1 a2 a3 a4 a5 b0 b1 b2 b3 b4 b5 = false := if_neg h
  have PA := Aside0.mk (fun W : World => pack_c a0 a1 a2 a3 a4 a5 W)
  have PB := Aside0.mk (fun W : World => pack_c b0 b1 b2 b3 b4 b5 W)
  have LE := Aside0.mk (fun W : World => less_any a0 a1 a2 a3 a4 a5 b0 b1 b2 b3 b4 b5 W)
  rw [hl] at LE
  have LV := Aside0.mk (fun W : World => lives_c W)
  have hp : ((packZ a0 a1 a2 a3 a4 a5).2.2 != 0 || (packZ b0 b1 b2 b3 b4 b5).2.2 != 0) = true := by
    unfold packZ
    by_cases oa : okStamp a0 a1 a2 a3 a4 a5
    · rw [if_neg (fun ob => h ⟨oa, ob⟩)]; simp
    · rw [if_neg oa]; rfl
  have TS := Aside0.mk (TwoAt.start w a0 a1 a2 a3 a4 a5 b0 b1 b2 b3 b4 b5)
  obtain ⟨ca0, ca1, ca2, ca3, ca4, ca5⟩ := st_cells TS.out.one
  obtain ⟨cb0, cb1, cb2, cb3, cb4, cb5⟩ := st_cells TS.out.two
  unfold stV at ca0 ca1 ca2 ca3 ca4 ca5 cb0 cb1 cb2 cb3 cb4 cb5
  generalize (packZ a0 a1 a2 a3 a4 a5) = pa at *
  generalize (packZ b0 b1 b2 b3 b4 b5) = pb at *
  obtain ⟨pa1, pa2, pa3⟩ := pa
  obtain ⟨pb1, pb2, pb3⟩ := pb
  clear hl h
  cases hpa : (pa3 != 0) with
  | true =>
    clear hp
    go_enter Try.func7, Try.ntmps7
    go_wp2_with (first
      | (go_at_call 11; (with_reducible refine (PA.out _).mono ?_); rintro e w1 ⟨rfl, hb1⟩; have T1 := Aside0.mk (TS.out.step hb1); clear hb1; obtain ⟨c1b0, c1b1, c1b2, c1b3, c1b4, c1b5⟩ := st_cells T1.out.two)
      | (go_at_call 11; (with_reducible refine (PB.out _).mono ?_); rintro e w2 ⟨rfl, hb2⟩; have T2 := Aside0.mk (T1.out.step hb2); clear hb2; obtain ⟨c2a0, c2a1, c2a2, c2a3, c2a4, c2a5⟩ := st_cells T2.out.one; obtain ⟨c2b0, c2b1, c2b2, c2b3, c2b4, c2b5⟩ := st_cells T2.out.two)
      | (go_at_call 20; (with_reducible refine (LE.out _).mono ?_); rintro e w3 ⟨rfl, hb3⟩; have T3 := Aside0.mk (T2.out.step hb3); clear hb3)
      | (go_at_call 10; (with_reducible refine (LV.out _).mono ?_); rintro e w4 ⟨rfl, hb4⟩; have T4 := Aside0.mk (T3.out.step hb4); clear hb4))
    go_ret
    exact ⟨rfl, T4.out.bel⟩
  | false =>
    rw [hpa, Bool.false_or] at hp
    go_enter Try.func7, Try.ntmps7
    go_wp2_with (first
      | (go_at_call 11; (with_reducible refine (PA.out _).mono ?_); rintro e w1 ⟨rfl, hb1⟩; have T1 := Aside0.mk (TS.out.step hb1); clear hb1; obtain ⟨c1b0, c1b1, c1b2, c1b3, c1b4, c1b5⟩ := st_cells T1.out.two)
      | (go_at_call 11; (with_reducible refine (PB.out _).mono ?_); rintro e w2 ⟨rfl, hb2⟩; have T2 := Aside0.mk (T1.out.step hb2); clear hb2; obtain ⟨c2a0, c2a1, c2a2, c2a3, c2a4, c2a5⟩ := st_cells T2.out.one; obtain ⟨c2b0, c2b1, c2b2, c2b3, c2b4, c2b5⟩ := st_cells T2.out.two)
      | (go_at_call 20; (with_reducible refine (LE.out _).mono ?_); rintro e w3 ⟨rfl, hb3⟩; have T3 := Aside0.mk (T2.out.step hb3); clear hb3)
      | (go_at_call 10; (with_reducible refine (LV.out _).mono ?_); rintro e w4 ⟨rfl, hb4⟩; have T4 := Aside0.mk (T3.out.step hb4); clear hb4))
    go_ret
    exact ⟨rfl, T4.out.bel⟩
end Go.Proofs.Ytboliliohghncaa.DosWalk
