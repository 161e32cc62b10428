/- record: done, WriteEnd, walked. -/
import Derived.Test.YtpmiofjhgmdghaaFieldRS
import Derived.Deep.RegionHeld3
namespace Go.Proofs.Ytpmiofjhgmdghaa.Fld
open Go.RowKit Go.Proofs.YtpmiofjhgmdghaaW.PrintWords Go.Proofs.YtpmiofjhgmdghaaW.PrintLast Go.Proofs.YtpmiofjhgmdghaaW.PrintMore
set_option linter.unusedVariables false
set_option linter.unusedSimpArgs false
def outOf (s : List Int × Int) : List Int := if s.2 = 0 then s.1 else []
def Mine2 (w : World) (L : List Int) (e : Int) (r : Ending) (w' : World) : Prop :=
  ∃ v, r = .returned (.tuple #[v, .int .i64 e]) ∧ w'.ownsRow w.heap.size 5 1 v L.length (nums .u8 L) ∧ Below w.heap.size w w'
set_option maxHeartbeats 4000000 in
theorem rec_done {w0 w : World} {v0 v : Value} {B g : Nat} {s : List Int × Int} {n : Nat} (h : RS w0 v0 w B g v s n) (hn : n ≤ 1000000000) :
    Calls Try.prog 45 #[.pointer (some ⟨g, 0, none⟩)] w (Mine2 w (outOf s) s.2) := by
  obtain ⟨L, e⟩ := s
  have h0 := Aside0.mk h.row
  have h1 := Aside0.mk (Nat.le_trans h.len hn)
  clear h hn
  unfold outOf
  by_cases he : e = 0
  · subst he
    rw [if_pos rfl]
    go_enter Try.func45, Try.ntmps45
    go_wp2_with (first
      | (go_at_call 62; refine (row_err _ B g v L 0 h0.out).mono ?_; rintro e w' ⟨rfl, hs⟩; subst hs)
      | (go_at_call 63; refine (row_bytes _ B g v L h0.out h1.out).mono ?_; rintro e w' ⟨v', rfl, hr, hk⟩))
    go_ret2
    exact ⟨_, rfl, hr, hk⟩
  · rw [if_neg he]
    have c1 : decide (e = 0) = false := decide_eq_false he
    go_enter Try.func45, Try.ntmps45
    go_wp2_with (go_at_call 62; refine (row_err _ B g v L e h0.out).mono ?_; rintro e w' ⟨rfl, hs⟩; subst hs)
    go_ret2
    exact ⟨_, rfl, own_nil _ _ _ _, Below.refl _ _⟩
def endS (a0 a1 a2 a3 a4 a5 : Int) (b : List Int) : List Int × Int :=
  stPut (st16 (st32 (st32 (st16 (st16 (st16 (st16 (st32 ([], 0) 101010256) a0) a1) a2) a3) a4) a5) (b.length : Int)) b
set_option maxHeartbeats 4000000 in
set_option maxRecDepth 100000 in
theorem rec_writeEnd (a0 a1 a2 a3 a4 a5 : Int) (A : Option Addr) (c : Nat) (b : List Int) (w : World) (hb : Kd.C (Kd.int .u8) w A b.length b) (h4 : 0 ≤ a4) (h5 : 0 ≤ a5) (hl : b.length ≤ 1000000) :
    Calls Try.prog 13 #[.agg #[.int .i64 a0, .int .i64 a1, .int .i64 a2, .int .i64 a3, .int .u32 a4, .int .u32 a5, .slice A b.length c]] w
      (Mine2 w (outOf (endS a0 a1 a2 a3 a4 a5 b)) (endS a0 a1 a2 a3 a4 a5 b).2) := by
  have HC := Aside0.mk hb
  have H4 := Aside0.mk h4
  have H5 := Aside0.mk h5
  have HL := Aside0.mk hl
  clear hb h4 h5 hl
  have HB : Aside0 (Below w.heap.size w (w.alloc (.cells #[.int .i64 a0, .int .i64 a1, .int .i64 a2, .int .i64 a3, .int .u32 a4, .int .u32 a5, .slice A b.length c] 29)).drew) := ⟨below_drew (below_alloc (Below.refl _ _) _)⟩
  have GB : Aside0 True := ⟨trivial⟩
  go_enter Try.func13, Try.ntmps13
  go_wp2_with fail
  go_region_held3 (fun w' => w'.cell? ⟨w.heap.size, 0, none⟩ = some (.int .i64 a0) ∧ w'.cell? ⟨w.heap.size, 1, none⟩ = some (.int .i64 a1) ∧ w'.cell? ⟨w.heap.size, 2, none⟩ = some (.int .i64 a2) ∧ w'.cell? ⟨w.heap.size, 3, none⟩ = some (.int .i64 a3) ∧ w'.cell? ⟨w.heap.size, 4, none⟩ = some (.int .u32 a4) ∧ w'.cell? ⟨w.heap.size, 5, none⟩ = some (.int .u32 a5) ∧ w'.cell? ⟨w.heap.size, 6, none⟩ = some (.slice A b.length c))
    (first
      | go_keep
      | (go_split_ands
         refine ⟨?_, ?_, ?_, ?_, ?_, ?_, ?_⟩
         all_goals (exact kp _ _ _ (by first | assumption | omega | (simp; done)) (by assumption))))
    (first
      | (go_at_call 42; refine (rs_new _).mono ?_; rintro e w1 ⟨g, v1, rfl, hr, hk⟩; have HR := Aside0.mk hr; have HB := Aside0.mk (HB.out.trans (hk.mono HB.out.size)); have kp := below_cells hk; clear hr hk)
      | (go_at_call 43; refine (rs_u32 (Aside0.out (by assumption)) (by first | decide | exact (Aside0.out (by assumption))) (by omega)).mono ?_; rintro e w1 ⟨v1, rfl, hr, hk⟩; have HR := Aside0.mk hr; have HB := Aside0.mk (HB.out.trans (hk.mono (by first | exact GB.out | (simp; done)))); have kp := below_cells hk; clear hr hk)
      | (go_at_call 44; refine (rs_u16 (Aside0.out (by assumption)) (by omega)).mono ?_; rintro e w1 ⟨v1, rfl, hr, hk⟩; have HR := Aside0.mk hr; have HB := Aside0.mk (HB.out.trans (hk.mono (by first | exact GB.out | (simp; done)))); have kp := below_cells hk; clear hr hk))
  go_split_ands
  have HR := Aside0.mk HR.out.drew
  have HB := Aside0.mk (below_drew HB.out)
  go_wp2_with fail
  go_region_held3 (fun w' => w'.cell? ⟨w.heap.size, 0, none⟩ = some (.int .i64 a0) ∧ w'.cell? ⟨w.heap.size, 1, none⟩ = some (.int .i64 a1) ∧ w'.cell? ⟨w.heap.size, 2, none⟩ = some (.int .i64 a2) ∧ w'.cell? ⟨w.heap.size, 3, none⟩ = some (.int .i64 a3) ∧ w'.cell? ⟨w.heap.size, 4, none⟩ = some (.int .u32 a4) ∧ w'.cell? ⟨w.heap.size, 5, none⟩ = some (.int .u32 a5) ∧ w'.cell? ⟨w.heap.size, 6, none⟩ = some (.slice A b.length c))
    (first
      | go_keep
      | (go_split_ands
         refine ⟨?_, ?_, ?_, ?_, ?_, ?_, ?_⟩
         all_goals (exact kp _ _ _ (by first | assumption | omega | (simp; done)) (by assumption))))
    (first
      | (go_at_call 43; refine (rs_u32 (Aside0.out (by assumption)) (by first | decide | exact (Aside0.out (by assumption))) (by omega)).mono ?_; rintro e w1 ⟨v1, rfl, hr, hk⟩; have HR := Aside0.mk hr; have HB := Aside0.mk (HB.out.trans (hk.mono (by first | exact GB.out | (simp; done)))); have kp := below_cells hk; clear hr hk)
      | (go_at_call 44; refine (rs_u16 (Aside0.out (by assumption)) (by omega)).mono ?_; rintro e w1 ⟨v1, rfl, hr, hk⟩; have HR := Aside0.mk hr; have HB := Aside0.mk (HB.out.trans (hk.mono (by first | exact GB.out | (simp; done)))); have kp := below_cells hk; clear hr hk)
      | (go_at_call 46; refine (rs_put (m := 1000000) (Aside0.out (by assumption)) (Kd.C_below (Aside0.out (by assumption)) HB.out) (Aside0.out (by assumption)) (by omega)).mono ?_; rintro e w1 ⟨v1, rfl, hr, hk⟩; have HR := Aside0.mk hr; have HB := Aside0.mk (HB.out.trans (hk.mono (by first | exact GB.out | (simp; done)))); have kp := below_cells hk; clear hr hk)
      | (go_at_call 45; refine (rec_done (Aside0.out (by assumption)) (by omega)).mono ?_; rintro e w1 ⟨v1, rfl, ho, hk⟩; have HO := Aside0.mk ho; have HO2 := Aside0.mk HB.out.size; have HB := Aside0.mk (HB.out.trans (hk.mono HB.out.size)); have kp := below_cells (hk.mono (Nat.le_of_lt (Nat.lt_of_le_of_lt HR.out.row.ge (blk_lt HR.out.row.blk)))); clear ho hk))
  go_split_ands
  go_wp2
  go_ret2
  exact ⟨_, rfl, own_weaken HO.out HO2.out, HB.out⟩
theorem R_of_own {w : World} {base : Nat} {v : Value} {L : List Int} (h : w.ownsRow base 5 1 v L.length (nums .u8 L)) : Kd.R (Kd.int .u8) 5 w base (fun _ => True) v L :=
  ⟨fun _ _ => trivial, nums .u8 L, h, Kd.reps_scalar L⟩
def end0 : List Int := [80, 75, 5, 6, 0, 0, 0, 0, 0, 0, 0, 0, 0, 0, 0, 0, 0, 0, 0, 0, 0, 0]
theorem end0_eq : outOf (endS 0 0 0 0 0 0 []) = end0 ∧ (endS 0 0 0 0 0 0 []).2 = 0 := by decide +kernel
end Go.Proofs.Ytpmiofjhgmdghaa.Fld
