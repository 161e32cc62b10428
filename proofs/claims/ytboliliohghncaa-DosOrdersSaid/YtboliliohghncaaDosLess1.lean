/- dos.Less, walked behind its two checks: of two lists of six numbers, the order of the first ones that differ. -/
import Derived.Test.YtboliliohghncaaDLx1
import Derived.Test.YtboliliohghncaaDosDays
import Derived.Test.YtboliliohghncaaWTab
import Derived.StillTailTactics
import Derived.Laws.Tables
import Derived.Laws.Rows
import Derived.Deep.QuietTactic
import Derived.BigQuiet
import Derived.Deep.RegionHeld3
import Derived.Deep.DeepCutAuto
import Derived.Handy
import Derived.ChangeKeysEq
import Derived.Laws.StructEq
import Derived.Deep.LoopGhost
namespace Go.Proofs.Ytboliliohghncaa.DosWalk
open Go.RowKit Go.Proofs.YtboliliohghncaaW.PrintWords Go.Proofs.YtboliliohghncaaW.PrintLast Go.Proofs.YtboliliohghncaaW.PrintMore Go.Proofs.Ytboliliohghncaa.DL Go.Proofs.Ytboliliohghncaa.Dy
set_option linter.unusedVariables false
set_option linter.unusedSimpArgs false
theorem items_step (xs ys : Array Value) (j : Nat) (is : List Nat) (a b : Int) (r : Bool) (W : World) (hx : xs[j]? = some (.int .i64 a)) (hy : ys[j]? = some (.int .i64 b)) (h : (Op.eqItems 9999 3 1 xs ys is).run Try.prog W = .ok r W) :
    (Op.eqItems 9999 3 1 xs ys (j :: is)).run Try.prog W = .ok (a == b && r) W := by
  have he : Try.prog.plainKey 3 = true := by kernel_rfl
  have p1 := run_part_plain (P := Try.prog) (w := W) he (off := j * 1) (by rw [Nat.mul_one]; exact hx)
  have p2 := run_part_plain (P := Try.prog) (w := W) he (off := j * 1) (by rw [Nat.mul_one]; exact hy)
  have p3 := run_equalIn_int (P := Try.prog) (w := W) 9998 3 .i64 .i64 a b Try.underlying3
  simp only [Op.eqItems, Sem.run_bind, p1, p2, p3, Result.andThen_ok]
  cases hab : a == b
  · simp
  · simpa using h
theorem eq_arr (a0 a1 a2 a3 a4 a5 b0 b1 b2 b3 b4 b5 : Int) (W : World) : (Op.equalIn 10000 53 (.agg #[.int .i64 a0, .int .i64 a1, .int .i64 a2, .int .i64 a3, .int .i64 a4, .int .i64 a5]) (.agg #[.int .i64 b0, .int .i64 b1, .int .i64 b2, .int .i64 b3, .int .i64 b4, .int .i64 b5])).run Try.prog W = .ok (a0 == b0 && (a1 == b1 && (a2 == b2 && (a3 == b3 && (a4 == b4 && (a5 == b5 && true)))))) W := by
  obtain ⟨i, hi⟩ : ∃ i, Try.prog.info? 3 = some i := Option.isSome_iff_exists.mp (by kernel_rfl)
  have hc : Try.prog.cellsOf 3 = 1 := by kernel_rfl
  refine (run_equalIn_array (P := Try.prog) W 9999 _ _ Try.underlying53 hi).trans ?_
  rw [hc]
  exact items_step _ _ 0 _ _ _ _ W rfl rfl (items_step _ _ 1 _ _ _ _ W rfl rfl (items_step _ _ 2 _ _ _ _ W rfl rfl (items_step _ _ 3 _ _ _ _ W rfl rfl (items_step _ _ 4 _ _ _ _ W rfl rfl (items_step _ _ 5 _ _ _ _ W rfl rfl (by simp [Op.eqItems]))))))
theorem lexB_at : ∀ (xs ys : List Int) (i : Nat), xs.length = ys.length → i < xs.length → (∀ j, j < i → xs.getD j 0 = ys.getD j 0) → xs.getD i 0 ≠ ys.getD i 0 → lexB xs ys = decide (xs.getD i 0 < ys.getD i 0)
  | x :: xs, y :: ys, 0, _, _, _, h => by
    have h' : ¬ x = y := h
    rw [lexB, if_neg h']; rfl
  | x :: xs, y :: ys, i + 1, hl, hi, ha, h => by
    have h0 : x = y := ha 0 (by omega)
    rw [lexB, if_pos h0, lexB_at xs ys i (by simpa using hl) (by simpa using hi) (fun j hj => ha (j + 1) (by omega)) h]; rfl
  | [], _, _, _, hi, _, _ => by simp at hi
  | _ :: _, [], _, hl, _, _, _ => by simp at hl
theorem lexB_same : ∀ xs : List Int, lexB xs xs = false
  | [] => rfl
  | x :: xs => by rw [lexB, if_pos rfl]; exact lexB_same xs
def LRel (w : World) (g h : Nat) (xs ys : List Int) (v : Value) (w' : World) : Prop :=
  ∃ i : Nat, v = .int .i64 (i : Int) ∧ i ≤ 5 ∧ (∀ j, j < i → xs.getD j 0 = ys.getD j 0) ∧ (∀ i, i < 6 → w'.cell? ⟨g, i, none⟩ = some (.int .i64 (xs.getD i 0))) ∧ (∀ i, i < 6 → w'.cell? ⟨h, i, none⟩ = some (.int .i64 (ys.getD i 0))) ∧ Below w.heap.size w w'
theorem cells6 {w : World} {g : Nat} {a0 a1 a2 a3 a4 a5 : Int} (hg : w.heap[g]? = some (.cells #[.int .i64 a0, .int .i64 a1, .int .i64 a2, .int .i64 a3, .int .i64 a4, .int .i64 a5] 53 (0, 0))) :
    ∀ i, i < 6 → w.cell? ⟨g, i, none⟩ = some (.int .i64 ([a0, a1, a2, a3, a4, a5].getD i 0)) := by
  intro i hi
  rw [cell_of_row w g i _ _ _ hg]
  match i, hi with
  | 0, _ => rfl
  | 1, _ => rfl
  | 2, _ => rfl
  | 3, _ => rfl
  | 4, _ => rfl
  | 5, _ => rfl
def arr6 (a0 a1 a2 a3 a4 a5 : Int) : Array Value := #[.int .i64 a0, .int .i64 a1, .int .i64 a2, .int .i64 a3, .int .i64 a4, .int .i64 a5]
def SixAt (w : World) (g : Nat) (a0 a1 a2 a3 a4 a5 : Int) : Prop :=
  w.cell? ⟨g, 0, none⟩ = some (.int .i64 a0) ∧ w.cell? ⟨g, 1, none⟩ = some (.int .i64 a1) ∧ w.cell? ⟨g, 2, none⟩ = some (.int .i64 a2) ∧ w.cell? ⟨g, 3, none⟩ = some (.int .i64 a3) ∧ w.cell? ⟨g, 4, none⟩ = some (.int .i64 a4) ∧ w.cell? ⟨g, 5, none⟩ = some (.int .i64 a5)
set_option maxHeartbeats 8000000 in
set_option maxRecDepth 100000 in
theorem less_ok (k : Nat) (a0 a1 a2 a3 a4 a5 b0 b1 b2 b3 b4 b5 : Int) (w : World) (ha : dos_Check.f k a0 a1 a2 a3 a4 a5 = some 0) (hb : dos_Check.f k b0 b1 b2 b3 b4 b5 = some 0) :
    Calls Try.prog 20 #[.agg #[.int .i64 a0, .int .i64 a1, .int .i64 a2, .int .i64 a3, .int .i64 a4, .int .i64 a5], .agg #[.int .i64 b0, .int .i64 b1, .int .i64 b2, .int .i64 b3, .int .i64 b4, .int .i64 b5]] w
      fun e w' => e = .returned (.bool (lexB [a0, a1, a2, a3, a4, a5] [b0, b1, b2, b3, b4, b5])) ∧ Below w.heap.size w w' := by
  have HA := Aside0.mk ha
  have HB := Aside0.mk hb
  clear ha hb
  obtain ⟨R, hR⟩ : ∃ R, lexB [a0, a1, a2, a3, a4, a5] [b0, b1, b2, b3, b4, b5] = R := ⟨_, rfl⟩
  rw [hR]
  have HRR := Aside0.mk hR
  clear hR
  go_enter Try.func20, Try.ntmps20
  go_wp2_with (first
    | (go_at_call 13; (with_reducible refine (dos_Check.calls k a0 a1 a2 a3 a4 a5 0 _ HA.out).mono ?_); rintro e w1 ⟨rfl, hb1⟩; have HB1 := Aside0.mk hb1; have KB : Aside0 (w1.heap[w.heap.size + 1]? = some (.cells #[.int .i64 b0, .int .i64 b1, .int .i64 b2, .int .i64 b3, .int .i64 b4, .int .i64 b5] 23 (0, 0))) := ⟨(hb1.block (w.heap.size + 1) (by simp)).trans (heap_alloc2_new w _ _)⟩; have KA : Aside0 (w1.heap[w.heap.size]? = some (.cells #[.int .i64 a0, .int .i64 a1, .int .i64 a2, .int .i64 a3, .int .i64 a4, .int .i64 a5] 23 (0, 0))) := ⟨(hb1.block w.heap.size (by simp; omega)).trans (heap_alloc2_old w _ _)⟩; have hb_0 : w1.cell? ⟨w.heap.size + 1, 0, none⟩ = some (.int .i64 b0) := (cell_of_row w1 _ 0 _ _ _ KB.out).trans rfl; have hb_1 : w1.cell? ⟨w.heap.size + 1, 1, none⟩ = some (.int .i64 b1) := (cell_of_row w1 _ 1 _ _ _ KB.out).trans rfl; have hb_2 : w1.cell? ⟨w.heap.size + 1, 2, none⟩ = some (.int .i64 b2) := (cell_of_row w1 _ 2 _ _ _ KB.out).trans rfl; have hb_3 : w1.cell? ⟨w.heap.size + 1, 3, none⟩ = some (.int .i64 b3) := (cell_of_row w1 _ 3 _ _ _ KB.out).trans rfl; have hb_4 : w1.cell? ⟨w.heap.size + 1, 4, none⟩ = some (.int .i64 b4) := (cell_of_row w1 _ 4 _ _ _ KB.out).trans rfl; have hb_5 : w1.cell? ⟨w.heap.size + 1, 5, none⟩ = some (.int .i64 b5) := (cell_of_row w1 _ 5 _ _ _ KB.out).trans rfl; clear hb1)
    | (go_at_call 13; (with_reducible refine (dos_Check.calls k b0 b1 b2 b3 b4 b5 0 _ HB.out).mono ?_); rintro e w2 ⟨rfl, hb2⟩; have HB2 := Aside0.mk hb2; have MB : Aside0 (w2.heap[w.heap.size + 1]? = some (.cells #[.int .i64 b0, .int .i64 b1, .int .i64 b2, .int .i64 b3, .int .i64 b4, .int .i64 b5] 23 (0, 0))) := ⟨(hb2.block (w.heap.size + 1) (by have := HB1.out.size; simp at this; omega)).trans KB.out⟩; have MA : Aside0 (w2.heap[w.heap.size]? = some (.cells #[.int .i64 a0, .int .i64 a1, .int .i64 a2, .int .i64 a3, .int .i64 a4, .int .i64 a5] 23 (0, 0))) := ⟨(hb2.block w.heap.size (by have := HB1.out.size; simp at this; omega)).trans KA.out⟩; clear hb2 hb_0 hb_1 hb_2 hb_3 hb_4 hb_5))
  have hbel : Below w.heap.size w w2 := below_step (below_step (((Below.refl _ _).alloc (Nat.le_refl _) _).alloc (by simp) _) HB1.out) HB2.out
  have hsz : w.heap.size + 1 < w2.heap.size := by have h1 := HB1.out.size; have h2 := HB2.out.size; simp at h1; omega
  have HBEL := Aside0.mk hbel
  have HSZ := Aside0.mk hsz
  clear hbel hsz HB1 HB2 KA KB
  have ca_0 : w2.cell? ⟨w.heap.size, 0, none⟩ = some (.int .i64 a0) := (cell_of_row w2 _ 0 _ _ _ MA.out).trans rfl
  have ca_1 : w2.cell? ⟨w.heap.size, 1, none⟩ = some (.int .i64 a1) := (cell_of_row w2 _ 1 _ _ _ MA.out).trans rfl
  have ca_2 : w2.cell? ⟨w.heap.size, 2, none⟩ = some (.int .i64 a2) := (cell_of_row w2 _ 2 _ _ _ MA.out).trans rfl
  have ca_3 : w2.cell? ⟨w.heap.size, 3, none⟩ = some (.int .i64 a3) := (cell_of_row w2 _ 3 _ _ _ MA.out).trans rfl
  have ca_4 : w2.cell? ⟨w.heap.size, 4, none⟩ = some (.int .i64 a4) := (cell_of_row w2 _ 4 _ _ _ MA.out).trans rfl
  have ca_5 : w2.cell? ⟨w.heap.size, 5, none⟩ = some (.int .i64 a5) := (cell_of_row w2 _ 5 _ _ _ MA.out).trans rfl
  have cb_0 : w2.cell? ⟨w.heap.size + 1, 0, none⟩ = some (.int .i64 b0) := (cell_of_row w2 _ 0 _ _ _ MB.out).trans rfl
  have cb_1 : w2.cell? ⟨w.heap.size + 1, 1, none⟩ = some (.int .i64 b1) := (cell_of_row w2 _ 1 _ _ _ MB.out).trans rfl
  have cb_2 : w2.cell? ⟨w.heap.size + 1, 2, none⟩ = some (.int .i64 b2) := (cell_of_row w2 _ 2 _ _ _ MB.out).trans rfl
  have cb_3 : w2.cell? ⟨w.heap.size + 1, 3, none⟩ = some (.int .i64 b3) := (cell_of_row w2 _ 3 _ _ _ MB.out).trans rfl
  have cb_4 : w2.cell? ⟨w.heap.size + 1, 4, none⟩ = some (.int .i64 b4) := (cell_of_row w2 _ 4 _ _ _ MB.out).trans rfl
  have cb_5 : w2.cell? ⟨w.heap.size + 1, 5, none⟩ = some (.int .i64 b5) := (cell_of_row w2 _ 5 _ _ _ MB.out).trans rfl
  go_upto_region 3 with fail
  go_cut [5, 6] (fun v5 v6 wx => ∃ g h : Nat, v5 = .pointer (some ⟨g, 0, none⟩) ∧ v6 = .pointer (some ⟨h, 0, none⟩) ∧ Aside0 (wx.heap[g]? = some (.cells (arr6 a0 a1 a2 a3 a4 a5) 53 (0, 0))) ∧ Aside0 (wx.heap[h]? = some (.cells (arr6 b0 b1 b2 b3 b4 b5) 53 (0, 0))) ∧ Aside0 (Below w.heap.size w wx))
  case first =>
    go_region_held3 (fun w' => w'.cell? ⟨w.heap.size, 0, none⟩ = some (.int .i64 a0) ∧ w'.cell? ⟨w.heap.size, 1, none⟩ = some (.int .i64 a1) ∧ w'.cell? ⟨w.heap.size, 2, none⟩ = some (.int .i64 a2) ∧ w'.cell? ⟨w.heap.size, 3, none⟩ = some (.int .i64 a3) ∧ w'.cell? ⟨w.heap.size, 4, none⟩ = some (.int .i64 a4) ∧ w'.cell? ⟨w.heap.size, 5, none⟩ = some (.int .i64 a5)
        ∧ w'.cell? ⟨w.heap.size + 1, 0, none⟩ = some (.int .i64 b0) ∧ w'.cell? ⟨w.heap.size + 1, 1, none⟩ = some (.int .i64 b1) ∧ w'.cell? ⟨w.heap.size + 1, 2, none⟩ = some (.int .i64 b2) ∧ w'.cell? ⟨w.heap.size + 1, 3, none⟩ = some (.int .i64 b3) ∧ w'.cell? ⟨w.heap.size + 1, 4, none⟩ = some (.int .i64 b4) ∧ w'.cell? ⟨w.heap.size + 1, 5, none⟩ = some (.int .i64 b5))
      (go_keep) (fail)
    · go_wp2_with fail
      go_meet
      exact ⟨_, _, rfl, rfl, ⟨heap_alloc2_old w2 _ _⟩, ⟨heap_alloc2_new w2 _ _⟩, ⟨below_drew (((HBEL.out).alloc (by have := HSZ.out; omega) _).alloc (by have := HSZ.out; simp; omega) _)⟩⟩
    · go_wp2_with fail
      go_meet
      exact ⟨_, _, rfl, rfl, ⟨heap_alloc2_new w2 _ _⟩, ⟨heap_alloc2_old w2 _ _⟩, ⟨below_drew (((HBEL.out).alloc (by have := HSZ.out; omega) _).alloc (by have := HSZ.out; simp; omega) _)⟩⟩
  case rest =>
    clear ca_0 ca_1 ca_2 ca_3 ca_4 ca_5 cb_0 cb_1 cb_2 cb_3 cb_4 cb_5 MA MB HBEL HSZ
    obtain ⟨g, h, rfl, rfl, GA, GB, HW⟩ := hcut
    unfold arr6 at GA GB
    have EQ := eq_arr a0 a1 a2 a3 a4 a5 b0 b1 b2 b3 b4 b5
    have CA := cells6 GA.out
    have CB := cells6 GB.out
    generalize hE : (a0 == b0 && (a1 == b1 && (a2 == b2 && (a3 == b3 && (a4 == b4 && (a5 == b5 && true)))))) = E at *
    cases E with
    | true =>
      have hs : lexB [a0, a1, a2, a3, a4, a5] [b0, b1, b2, b3, b4, b5] = false := by
        simp only [Bool.and_eq_true, beq_iff_eq, and_true] at hE
        obtain ⟨rfl, rfl, rfl, rfl, rfl, rfl⟩ := hE
        exact lexB_same _
      have hR : false = R := hs.symm.trans HRR.out
      subst hR
      clear hE CA CB hs
      go_wp2_with (first
        | (refine wpList_load_row rfl 53 (.tmp 5) rfl g rfl _ _ _ _ GA.out Try.underlying53 rfl (by kernel_rfl) ?_)
        | (refine wpList_load_row rfl 53 (.tmp 6) rfl h rfl _ _ _ _ GB.out Try.underlying53 rfl (by kernel_rfl) ?_))
      go_ret
      exact ⟨rfl, HW.out⟩
    | false =>
      have hd : ¬ ∀ j, j < 6 → [a0, a1, a2, a3, a4, a5].getD j 0 = [b0, b1, b2, b3, b4, b5].getD j 0 := by
        intro hall
        have h0 : a0 = b0 := hall 0 (by omega)
        have h1 : a1 = b1 := hall 1 (by omega)
        have h2 : a2 = b2 := hall 2 (by omega)
        have h3 : a3 = b3 := hall 3 (by omega)
        have h4 : a4 = b4 := hall 4 (by omega)
        have h5 : a5 = b5 := hall 5 (by omega)
        rw [h0, h1, h2, h3, h4, h5] at hE
        simp at hE
      obtain ⟨xs, hxs⟩ : ∃ xs : List Int, xs = [a0, a1, a2, a3, a4, a5] := ⟨_, rfl⟩
      obtain ⟨ys, hys⟩ : ∃ ys : List Int, ys = [b0, b1, b2, b3, b4, b5] := ⟨_, rfl⟩
      have hlx : xs.length = 6 := by rw [hxs]; rfl
      have hly : ys.length = 6 := by rw [hys]; rfl
      rw [← hxs] at hd CA
      rw [← hys] at hd CB
      have LX := Aside0.mk hlx
      have LY := Aside0.mk hly
      have HD := Aside0.mk hd
      have CA := Aside0.mk CA
      have CB := Aside0.mk CB
      have hpost : ∀ r, lexB xs ys = r → lexB [a0, a1, a2, a3, a4, a5] [b0, b1, b2, b3, b4, b5] = r := fun r hr => by rw [← hxs, ← hys]; exact hr
      have HP := Aside0.mk hpost
      clear hE hd hxs hys hlx hly hpost
      go_wp2_with (first
        | (refine wpList_load_row rfl 53 (.tmp 5) rfl g rfl _ _ _ _ GA.out Try.underlying53 rfl (by kernel_rfl) ?_)
        | (refine wpList_load_row rfl 53 (.tmp 6) rfl h rfl _ _ _ _ GB.out Try.underlying53 rfl (by kernel_rfl) ?_))
      clear EQ
      go_loopw [7] (fun v7 wr => LRel w g h xs ys v7 wr) (fun v7 _ => 6 - (intOf v7).toNat)
      case atStart => exact ⟨0, rfl, by omega, fun j hj => by omega, CA.out, CB.out, HW.out⟩
      case round =>
        clear CA CB HW GA GB
        obtain ⟨i, rfl, hi0, ha0, hca0, hcb0, hb0⟩ := hrel
        have HI := Aside0.mk hi0
        have HA := Aside0.mk ha0
        have HB := Aside0.mk hb0
        have ca := hca0 i (by omega)
        have cb := hcb0 i (by omega)
        have CA := Aside0.mk hca0
        have CB := Aside0.mk hcb0
        have q1 : i < 6 := by omega
        have q2 : (i : Int) < 6 := by omega
        have q3 : decide ((i : Int) < 6) = true := decide_eq_true (by omega)
        have q4 : IntKind.i64.wrap ((i : Int) + 1) = ((i + 1 : Nat) : Int) := by rw [IntKind.wrap_i64]; omega
        clear hi0 ha0 hb0 hca0 hcb0
        by_cases e : xs.getD i 0 = ys.getD i 0
        · have hi5 : i + 1 ≤ 5 := by
            have hn := HD.out
            by_cases c5 : i = 5
            · exfalso
              apply hn
              intro j hj
              by_cases c : j = i
              · rw [c]; exact e
              · exact HA.out j (by omega)
            · omega
          have HI5 := Aside0.mk hi5
          have HE := Aside0.mk e
          clear hi5 e
          generalize hx : xs.getD i 0 = x at *
          have hy : ys.getD i 0 = x := HE.out.symm
          rw [hy] at cb
          have HX := Aside0.mk hx
          have HY := Aside0.mk hy
          have b1 : (x == x) = true := beq_self_eq_true x
          clear hx hy HE
          go_wp2
          go_quiet (fail)
          go_wp2
          go_roundw
          case rel =>
            refine ⟨i + 1, by go_num, HI5.out, fun j hj => ?_, CA.out, CB.out, pw_below_drewN HB.out _⟩
            by_cases c : j = i
            · rw [c, HX.out, HY.out]
            · exact HA.out j (by omega)
          case measure => have := HI5.out; simp [intOf]; omega
        · have hl := HP.out _ (lexB_at xs ys i (by rw [LX.out, LY.out]) (by rw [LX.out]; exact q1) HA.out e)
          have HLX := Aside0.mk hl
          have b1 : (xs.getD i 0 == ys.getD i 0) = false := beq_eq_false_iff_ne.mpr e
          clear hl e
          generalize xs.getD i 0 = x at *
          generalize ys.getD i 0 = y at *
          go_wp2
          go_quiet (fail)
          go_wp2
          go_quiet (fail)
          go_wp2
          go_ret
          exact ⟨by rw [← HRR.out, HLX.out]; rfl, pw_below_drewN (pw_below_drewN HB.out _) _⟩
end Go.Proofs.Ytboliliohghncaa.DosWalk
