/- record: common, WriteLocal, WriteCentral, walked. -/
import Derived.Test.YtpmiofjhgmdghaaRecWrite0
import Derived.Deep.MidRow
namespace Go.Proofs.Ytpmiofjhgmdghaa.Fld
open Go.RowKit Go.Proofs.YtpmiofjhgmdghaaW.PrintWords Go.Proofs.YtpmiofjhgmdghaaW.PrintLast Go.Proofs.YtpmiofjhgmdghaaW.PrintMore
set_option linter.unusedVariables false
set_option linter.unusedSimpArgs false
theorem neRH_types : (107 : Nat) ≠ 37 := by decide
theorem ne8H_types : (5 : Nat) ≠ 37 := by decide
theorem box_keptH {w w' : World} {B g bx : Nat} {v v' : Value} {L : List Int} {e : Int} {cs : Array Value} (hb : w.heap[bx]? = some (.cells cs 37 (0, 0))) (hr : RowAt w B g v L e) (hk : RowKept w w' B g v v') : w'.heap[bx]? = some (.cells cs 37 (0, 0)) := by
  refine blk_kept hb hk.kept ?_
  rintro (h | h)
  · exact blk_ne hr.blk hb neRH_types h.symm
  · exact own_ne hr.own hb ne8H_types h.symm
theorem RowAt.below {w w' : World} {base g : Nat} {v : Value} {L : List Int} {e : Int} (h : RowAt w base g v L e) (hb : Below w.heap.size w w') : RowAt w' base g v L e := ⟨blk_below h.blk hb, pw_own_below h.own hb, h.ge⟩
theorem range_of {w : World} {g t : Nat} {cs : Array Value} (h : w.heap[g]? = some (.cells cs t (0, 0))) (l : List Value) (hl : ∀ (j : Nat) (v : Value), l[j]? = some v → cs[j]? = some v := by intro j v hj; rcases j with _ | _ | _ | _ | _ | _ | _ | _ | _ | _ | j <;> simp_all) : w.rangeAt g 0 l := fun j v hj => by
  rw [Nat.zero_add]
  exact (blk_cell h j).trans (hl j v hj)
def comS (s : List Int × Int) (a0 a1 a2 a3 a4 a5 a6 a7 : Int) (n8 n9 : Nat) : List Int × Int :=
  st16 (st16 (st32 (st32 (st32 (st16 (st16 (st16 (st16 (st16 s a0) a1) a2) a3) a4) a5) a6) a7) (n8 : Int)) (n9 : Int)
def CmPost (w : World) (B g : Nat) (s : List Int × Int) (n : Nat) (r : Ending) (w' : World) : Prop :=
  ∃ v', r = .returned (.tuple #[]) ∧ RS w' v' w' B g v' s n ∧ Below B w w'
set_option maxHeartbeats 8000000 in
set_option maxRecDepth 100000 in
theorem rec_common (w : World) (B g : Nat) (v : Value) (s : List Int × Int) (n : Nat) (a0 a1 a2 a3 a4 a5 a6 a7 : Int) (A8 A9 : Option Addr) (b8 b9 : List Int) (c8 c9 : Nat) (h : RS w v w B g v s n) (h5 : 0 ≤ a5) (h6 : 0 ≤ a6) (h7 : 0 ≤ a7) (hn : n ≤ 1000000) :
    Calls Try.prog 48 #[.pointer (some ⟨g, 0, none⟩), .agg #[.int .i64 a0, .int .i64 a1, .int .i64 a2, .int .i64 a3, .int .i64 a4, .int .u32 a5, .int .u32 a6, .int .u32 a7, .slice A8 b8.length c8, .slice A9 b9.length c9]] w (CmPost w B g (comS s a0 a1 a2 a3 a4 a5 a6 a7 b8.length b9.length) (n + 2 + 2 + 2 + 2 + 2 + 4 + 4 + 4 + 2 + 2)) := by
  have H5 := Aside0.mk h5
  have H6 := Aside0.mk h6
  have H7 := Aside0.mk h7
  have hbb : Below w.heap.size w (w.alloc (.cells #[.int .i64 a0, .int .i64 a1, .int .i64 a2, .int .i64 a3, .int .i64 a4, .int .u32 a5, .int .u32 a6, .int .u32 a7, .slice A8 b8.length c8, .slice A9 b9.length c9] 37)) := below_alloc (Below.refl _ _) _
  have HBX : Aside0 ((w.alloc (.cells #[.int .i64 a0, .int .i64 a1, .int .i64 a2, .int .i64 a3, .int .i64 a4, .int .u32 a5, .int .u32 a6, .int .u32 a7, .slice A8 b8.length c8, .slice A9 b9.length c9] 37)).drew.heap[w.heap.size]? = some (.cells #[.int .i64 a0, .int .i64 a1, .int .i64 a2, .int .i64 a3, .int .i64 a4, .int .u32 a5, .int .u32 a6, .int .u32 a7, .slice A8 b8.length c8, .slice A9 b9.length c9] 37 (0, 0))) := ⟨heap_alloc_new w _⟩
  have HR := Aside0.mk (RS.start (s := s) (h.row.below hbb).drew h.len)
  have HB : Aside0 (Below B w (w.alloc (.cells #[.int .i64 a0, .int .i64 a1, .int .i64 a2, .int .i64 a3, .int .i64 a4, .int .u32 a5, .int .u32 a6, .int .u32 a7, .slice A8 b8.length c8, .slice A9 b9.length c9] 37)).drew) := ⟨below_drew (hbb.mono (Nat.le_of_lt (Nat.lt_of_le_of_lt h.row.ge (blk_lt h.row.blk))))⟩
  clear h h5 h6 h7 hbb
  go_enter Try.func48, Try.ntmps48
  go_wp2_with fail
  go_region_held3 (fun w' => w'.cell? ⟨w.heap.size, 0, none⟩ = some (.int .i64 a0) ∧ w'.cell? ⟨w.heap.size, 1, none⟩ = some (.int .i64 a1) ∧ w'.cell? ⟨w.heap.size, 2, none⟩ = some (.int .i64 a2) ∧ w'.cell? ⟨w.heap.size, 3, none⟩ = some (.int .i64 a3) ∧ w'.cell? ⟨w.heap.size, 4, none⟩ = some (.int .i64 a4))
    (first | exact ⟨(blk_cell HBX.out 0).trans rfl, (blk_cell HBX.out 1).trans rfl, (blk_cell HBX.out 2).trans rfl, (blk_cell HBX.out 3).trans rfl, (blk_cell HBX.out 4).trans rfl⟩ | go_keep)
    (first
      | (go_at_call 44; (with_reducible refine (rs_u16 HR.out (by omega)).mono ?_); rintro e w9 ⟨v9, rfl, hr, hk⟩; have HBX := Aside0.mk (box_keptH HBX.out HR.out.row hr.kept); have HR := Aside0.mk (RS.start hr.row hr.len); have HB := Aside0.mk (HB.out.trans hk); clear hr hk)
      | fail)
  go_split_ands
  have HBX := Aside0.mk (show (World.drew _).heap[_]? = _ from HBX.out)
  have HR := Aside0.mk (RS.start (RowAt.drew HR.out.row) HR.out.len)
  have HB := Aside0.mk (below_drew HB.out)
  go_wp2_with fail
  go_region_held3 (fun w' => w'.cell? ⟨w.heap.size, 5, none⟩ = some (.int .u32 a5) ∧ w'.cell? ⟨w.heap.size, 6, none⟩ = some (.int .u32 a6) ∧ w'.cell? ⟨w.heap.size, 7, none⟩ = some (.int .u32 a7))
    (first | exact ⟨(blk_cell HBX.out 5).trans rfl, (blk_cell HBX.out 6).trans rfl, (blk_cell HBX.out 7).trans rfl⟩ | go_keep)
    (first
      | (go_at_call 43; (with_reducible refine (rs_u32 HR.out (by first | exact H5.out | exact H6.out | exact H7.out) (by omega)).mono ?_); rintro e w9 ⟨v9, rfl, hr, hk⟩; have HBX := Aside0.mk (box_keptH HBX.out HR.out.row hr.kept); have HR := Aside0.mk (RS.start hr.row hr.len); have HB := Aside0.mk (HB.out.trans hk); clear hr hk)
      | fail)
  go_split_ands
  have HBX := Aside0.mk (show (World.drew _).heap[_]? = _ from HBX.out)
  have HR := Aside0.mk (RS.start (RowAt.drew HR.out.row) HR.out.len)
  have HB := Aside0.mk (below_drew HB.out)
  go_wp2_with fail
  go_region_held3 (fun w' => w'.cell? ⟨w.heap.size, 8, none⟩ = some (.slice A8 b8.length c8) ∧ w'.cell? ⟨w.heap.size, 9, none⟩ = some (.slice A9 b9.length c9))
    (first | exact ⟨(blk_cell HBX.out 8).trans rfl, (blk_cell HBX.out 9).trans rfl⟩ | go_keep)
    (first
      | (go_at_call 44; (with_reducible refine (rs_u16 HR.out (by omega)).mono ?_); rintro e w9 ⟨v9, rfl, hr, hk⟩; have HBX := Aside0.mk (box_keptH HBX.out HR.out.row hr.kept); have HR := Aside0.mk (RS.start hr.row hr.len); have HB := Aside0.mk (HB.out.trans hk); clear hr hk)
      | fail)
  go_split_ands
  go_wp2
  go_end0
  exact ⟨_, rfl, HR.out, HB.out⟩
def locS (a0 a1 a2 a3 a4 a5 a6 a7 : Int) (b8 b9 : List Int) : List Int × Int :=
  stPut (stPut (comS (st32 ([], 0) 67324752) a0 a1 a2 a3 a4 a5 a6 a7 b8.length b9.length) b8) b9
def cenS (a0 a1 a2 a3 a4 a5 a6 a7 : Int) (b8 b9 : List Int) (a10 a11 a12 a13 a14 : Int) (b15 : List Int) : List Int × Int :=
  stPut (stPut (stPut (st32 (st32 (st16 (st16 (st16 (comS (st16 (st32 ([], 0) 33639248) a10) a0 a1 a2 a3 a4 a5 a6 a7 b8.length b9.length) (b15.length : Int)) a11) a12) a13) a14) b8) b9) b15
set_option maxHeartbeats 8000000 in
set_option maxRecDepth 100000 in
theorem rec_writeLocal (a0 a1 a2 a3 a4 a5 a6 a7 : Int) (A8 : Option Addr) (c8 : Nat) (b8 : List Int) (A9 : Option Addr) (c9 : Nat) (b9 : List Int) (w : World) (hc8 : Kd.C (Kd.int .u8) w A8 b8.length b8) (hl8 : b8.length ≤ 1000000) (hc9 : Kd.C (Kd.int .u8) w A9 b9.length b9) (hl9 : b9.length ≤ 1000000) (h5 : 0 ≤ a5) (h6 : 0 ≤ a6) (h7 : 0 ≤ a7) :
    Calls Try.prog 17 #[.agg #[.int .i64 a0, .int .i64 a1, .int .i64 a2, .int .i64 a3, .int .i64 a4, .int .u32 a5, .int .u32 a6, .int .u32 a7, .slice A8 b8.length c8, .slice A9 b9.length c9]] w (Mine2 w (outOf (locS a0 a1 a2 a3 a4 a5 a6 a7 b8 b9)) (locS a0 a1 a2 a3 a4 a5 a6 a7 b8 b9).2) := by
  have H5 := Aside0.mk h5
  have H6 := Aside0.mk h6
  have H7 := Aside0.mk h7
  have HC8 := Aside0.mk hc8
  have HC9 := Aside0.mk hc9
  have HBX : Aside0 ((w.alloc (.cells #[.int .i64 a0, .int .i64 a1, .int .i64 a2, .int .i64 a3, .int .i64 a4, .int .u32 a5, .int .u32 a6, .int .u32 a7, .slice A8 b8.length c8, .slice A9 b9.length c9] 37)).heap[w.heap.size]? = some (.cells #[.int .i64 a0, .int .i64 a1, .int .i64 a2, .int .i64 a3, .int .i64 a4, .int .u32 a5, .int .u32 a6, .int .u32 a7, .slice A8 b8.length c8, .slice A9 b9.length c9] 37 (0, 0))) := ⟨heap_alloc_new w _⟩
  have HB : Aside0 (Below w.heap.size w (w.alloc (.cells #[.int .i64 a0, .int .i64 a1, .int .i64 a2, .int .i64 a3, .int .i64 a4, .int .u32 a5, .int .u32 a6, .int .u32 a7, .slice A8 b8.length c8, .slice A9 b9.length c9] 37))) := ⟨below_alloc (Below.refl _ _) _⟩
  have HBLT : Aside0 (w.heap.size < (w.alloc (.cells #[.int .i64 a0, .int .i64 a1, .int .i64 a2, .int .i64 a3, .int .i64 a4, .int .u32 a5, .int .u32 a6, .int .u32 a7, .slice A8 b8.length c8, .slice A9 b9.length c9] 37)).heap.size) := ⟨by simp⟩
  have HBB : Aside0 (w.heap.size ≤ (w.alloc (.cells #[.int .i64 a0, .int .i64 a1, .int .i64 a2, .int .i64 a3, .int .i64 a4, .int .u32 a5, .int .u32 a6, .int .u32 a7, .slice A8 b8.length c8, .slice A9 b9.length c9] 37)).heap.size) := ⟨by simp⟩
  clear h5 h6 h7 hc8 hc9
  go_enter Try.func17, Try.ntmps17
  go_wp2_with (first
    | (go_at_call 42; (with_reducible refine (rs_new _).mono ?_); rintro e w1 ⟨g, v1, rfl, hr, hk⟩; have HBX := Aside0.mk (blk_below HBX.out hk); have HR := Aside0.mk hr; have HB := Aside0.mk (HB.out.trans (hk.mono HB.out.size)); clear hr hk)
    | (go_at_call 43; (with_reducible refine (rs_u32 HR.out (by first | decide | decide) (by omega)).mono ?_); rintro e w9 ⟨v9, rfl, hr, hk⟩; have HBX := Aside0.mk ((hk.block _ HBLT.out).trans HBX.out); have HR := Aside0.mk (RS.start hr.row hr.len); have HB := Aside0.mk (HB.out.trans (hk.mono HBB.out)); clear hr hk)
    | ((with_reducible refine gate_dst (N := 8) rfl ?_); refine wpList_load_row rfl 37 (.tmp 1) rfl w.heap.size rfl 37 _ _ _ HBX.out Try.underlying37 rfl (by kernel_rfl) ?_)
    | (go_at_call 48; (with_reducible refine (rec_common _ _ _ _ _ _ a0 a1 a2 a3 a4 a5 a6 a7 A8 A9 b8 b9 c8 c9 HR.out H5.out H6.out H7.out (by omega)).mono ?_); rintro e w9 ⟨v9, rfl, hr, hk⟩; have HBX := Aside0.mk ((hk.block _ HBLT.out).trans HBX.out); have HR := Aside0.mk (RS.start hr.row hr.len); have HB := Aside0.mk (HB.out.trans (hk.mono HBB.out)); clear hr hk))
  have HBX := Aside0.mk (show (World.drew _).heap[_]? = _ from HBX.out)
  have HR := Aside0.mk (RS.start (RowAt.drew HR.out.row) HR.out.len)
  have HB := Aside0.mk (below_drew HB.out)
  go_wp2_with fail
  go_region_held3 (fun w' => w'.cell? ⟨w.heap.size, 8, none⟩ = some (.slice A8 b8.length c8) ∧ w'.cell? ⟨w.heap.size, 9, none⟩ = some (.slice A9 b9.length c9))
    (first | exact ⟨(blk_cell HBX.out 8).trans rfl, (blk_cell HBX.out 9).trans rfl⟩ | go_keep)
    (first
      | (go_at_call 46; (with_reducible refine (rs_put (m := b8.length) HR.out (Kd.C_below HC8.out HB.out) (Nat.le_refl _) (by omega)).mono ?_); rintro e w9 ⟨v9, rfl, hr, hk⟩; have HBX := Aside0.mk ((hk.block _ HBLT.out).trans HBX.out); have HR := Aside0.mk (RS.start hr.row hr.len); have HB := Aside0.mk (HB.out.trans (hk.mono HBB.out)); clear hr hk)
      | (go_at_call 46; (with_reducible refine (rs_put (m := b9.length) HR.out (Kd.C_below HC9.out HB.out) (Nat.le_refl _) (by omega)).mono ?_); rintro e w9 ⟨v9, rfl, hr, hk⟩; have HBX := Aside0.mk ((hk.block _ HBLT.out).trans HBX.out); have HR := Aside0.mk (RS.start hr.row hr.len); have HB := Aside0.mk (HB.out.trans (hk.mono HBB.out)); clear hr hk)
      | (go_at_call 45; (with_reducible refine (rec_done HR.out (by omega)).mono ?_); rintro e w9 ⟨v9, rfl, ho, hk⟩; have HBX := Aside0.mk (blk_below HBX.out hk); have HO := Aside0.mk ho; have HO2 := Aside0.mk HB.out.size; have HB := Aside0.mk (HB.out.trans (hk.mono HB.out.size)); clear ho hk)
      | fail)
  go_split_ands
  go_wp2
  go_ret2
  exact ⟨_, rfl, own_weaken HO.out HO2.out, HB.out⟩
set_option maxHeartbeats 8000000 in
set_option maxRecDepth 100000 in
theorem rec_writeCentral (a0 a1 a2 a3 a4 a5 a6 a7 : Int) (A8 : Option Addr) (c8 : Nat) (b8 : List Int) (A9 : Option Addr) (c9 : Nat) (b9 : List Int) (a10 a11 a12 a13 a14 : Int) (A15 : Option Addr) (c15 : Nat) (b15 : List Int) (w : World) (hc8 : Kd.C (Kd.int .u8) w A8 b8.length b8) (hl8 : b8.length ≤ 1000000) (hc9 : Kd.C (Kd.int .u8) w A9 b9.length b9) (hl9 : b9.length ≤ 1000000) (hc15 : Kd.C (Kd.int .u8) w A15 b15.length b15) (hl15 : b15.length ≤ 1000000) (h5 : 0 ≤ a5) (h6 : 0 ≤ a6) (h7 : 0 ≤ a7) (h13 : 0 ≤ a13) (h14 : 0 ≤ a14) :
    Calls Try.prog 20 #[.agg #[.int .i64 a0, .int .i64 a1, .int .i64 a2, .int .i64 a3, .int .i64 a4, .int .u32 a5, .int .u32 a6, .int .u32 a7, .slice A8 b8.length c8, .slice A9 b9.length c9, .int .i64 a10, .int .i64 a11, .int .i64 a12, .int .u32 a13, .int .u32 a14, .slice A15 b15.length c15]] w (Mine2 w (outOf (cenS a0 a1 a2 a3 a4 a5 a6 a7 b8 b9 a10 a11 a12 a13 a14 b15)) (cenS a0 a1 a2 a3 a4 a5 a6 a7 b8 b9 a10 a11 a12 a13 a14 b15).2) := by
  have H5 := Aside0.mk h5
  have H6 := Aside0.mk h6
  have H7 := Aside0.mk h7
  have H13 := Aside0.mk h13
  have H14 := Aside0.mk h14
  have HC8 := Aside0.mk hc8
  have HC9 := Aside0.mk hc9
  have HC15 := Aside0.mk hc15
  have HBX : Aside0 ((w.alloc (.cells #[.int .i64 a0, .int .i64 a1, .int .i64 a2, .int .i64 a3, .int .i64 a4, .int .u32 a5, .int .u32 a6, .int .u32 a7, .slice A8 b8.length c8, .slice A9 b9.length c9, .int .i64 a10, .int .i64 a11, .int .i64 a12, .int .u32 a13, .int .u32 a14, .slice A15 b15.length c15] 39)).drew.heap[w.heap.size]? = some (.cells #[.int .i64 a0, .int .i64 a1, .int .i64 a2, .int .i64 a3, .int .i64 a4, .int .u32 a5, .int .u32 a6, .int .u32 a7, .slice A8 b8.length c8, .slice A9 b9.length c9, .int .i64 a10, .int .i64 a11, .int .i64 a12, .int .u32 a13, .int .u32 a14, .slice A15 b15.length c15] 39 (0, 0))) := ⟨heap_alloc_new w _⟩
  have HB : Aside0 (Below w.heap.size w (w.alloc (.cells #[.int .i64 a0, .int .i64 a1, .int .i64 a2, .int .i64 a3, .int .i64 a4, .int .u32 a5, .int .u32 a6, .int .u32 a7, .slice A8 b8.length c8, .slice A9 b9.length c9, .int .i64 a10, .int .i64 a11, .int .i64 a12, .int .u32 a13, .int .u32 a14, .slice A15 b15.length c15] 39)).drew) := ⟨below_drew (below_alloc (Below.refl _ _) _)⟩
  have HBLT : Aside0 (w.heap.size < (w.alloc (.cells #[.int .i64 a0, .int .i64 a1, .int .i64 a2, .int .i64 a3, .int .i64 a4, .int .u32 a5, .int .u32 a6, .int .u32 a7, .slice A8 b8.length c8, .slice A9 b9.length c9, .int .i64 a10, .int .i64 a11, .int .i64 a12, .int .u32 a13, .int .u32 a14, .slice A15 b15.length c15] 39)).drew.heap.size) := ⟨by simp⟩
  have HBB : Aside0 (w.heap.size ≤ (w.alloc (.cells #[.int .i64 a0, .int .i64 a1, .int .i64 a2, .int .i64 a3, .int .i64 a4, .int .u32 a5, .int .u32 a6, .int .u32 a7, .slice A8 b8.length c8, .slice A9 b9.length c9, .int .i64 a10, .int .i64 a11, .int .i64 a12, .int .u32 a13, .int .u32 a14, .slice A15 b15.length c15] 39)).drew.heap.size) := ⟨by simp⟩
  clear h5 h6 h7 h13 h14 hc8 hc9 hc15
  go_enter Try.func20, Try.ntmps20
  go_wp2_with fail
  go_region_held3 (fun w' => w'.cell? ⟨w.heap.size, 10, none⟩ = some (.int .i64 a10))
    (first | exact (blk_cell HBX.out 10).trans rfl | go_keep)
    (first
      | (go_at_call 42; (with_reducible refine (rs_new _).mono ?_); rintro e w1 ⟨g, v1, rfl, hr, hk⟩; have HBX := Aside0.mk (blk_below HBX.out hk); have HR := Aside0.mk hr; have HB := Aside0.mk (HB.out.trans (hk.mono HB.out.size)); clear hr hk)
      | (go_at_call 43; (with_reducible refine (rs_u32 HR.out (by first | decide | decide) (by omega)).mono ?_); rintro e w9 ⟨v9, rfl, hr, hk⟩; have HBX := Aside0.mk ((hk.block _ HBLT.out).trans HBX.out); have HR := Aside0.mk (RS.start hr.row hr.len); have HB := Aside0.mk (HB.out.trans (hk.mono HBB.out)); clear hr hk)
      | (go_at_call 44; (with_reducible refine (rs_u16 HR.out (by omega)).mono ?_); rintro e w9 ⟨v9, rfl, hr, hk⟩; have HBX := Aside0.mk ((hk.block _ HBLT.out).trans HBX.out); have HR := Aside0.mk (RS.start hr.row hr.len); have HB := Aside0.mk (HB.out.trans (hk.mono HBB.out)); clear hr hk)
      | fail)
  go_split_ands
  have HMID := Aside0.mk (range_of HBX.out [.int .i64 a0, .int .i64 a1, .int .i64 a2, .int .i64 a3, .int .i64 a4, .int .u32 a5, .int .u32 a6, .int .u32 a7, .slice A8 b8.length c8, .slice A9 b9.length c9])
  go_wp2_with (first
    | ((with_reducible refine gate_dst (N := 12) rfl ?_); refine wpList_load_mid rfl 37 (.tmp 11) rfl w.heap.size 0 rfl [.int .i64 a0, .int .i64 a1, .int .i64 a2, .int .i64 a3, .int .i64 a4, .int .u32 a5, .int .u32 a6, .int .u32 a7, .slice A8 b8.length c8, .slice A9 b9.length c9] _ HMID.out Try.underlying37 rfl (by kernel_rfl) ?_)
    | (go_at_call 48; (with_reducible refine (rec_common _ _ _ _ _ _ a0 a1 a2 a3 a4 a5 a6 a7 A8 A9 b8 b9 c8 c9 HR.out H5.out H6.out H7.out (by omega)).mono ?_); rintro e w9 ⟨v9, rfl, hr, hk⟩; have HBX := Aside0.mk ((hk.block _ HBLT.out).trans HBX.out); have HR := Aside0.mk (RS.start hr.row hr.len); have HB := Aside0.mk (HB.out.trans (hk.mono HBB.out)); clear hr hk))
  have HBX := Aside0.mk (show (World.drew _).heap[_]? = _ from HBX.out)
  have HR := Aside0.mk (RS.start (RowAt.drew HR.out.row) HR.out.len)
  have HB := Aside0.mk (below_drew HB.out)
  go_wp2_with fail
  go_region_held3 (fun w' => w'.cell? ⟨w.heap.size, 15, none⟩ = some (.slice A15 b15.length c15) ∧ w'.cell? ⟨w.heap.size, 11, none⟩ = some (.int .i64 a11) ∧ w'.cell? ⟨w.heap.size, 12, none⟩ = some (.int .i64 a12) ∧ w'.cell? ⟨w.heap.size, 13, none⟩ = some (.int .u32 a13) ∧ w'.cell? ⟨w.heap.size, 14, none⟩ = some (.int .u32 a14))
    (first | exact ⟨(blk_cell HBX.out 15).trans rfl, (blk_cell HBX.out 11).trans rfl, (blk_cell HBX.out 12).trans rfl, (blk_cell HBX.out 13).trans rfl, (blk_cell HBX.out 14).trans rfl⟩ | go_keep)
    (first
      | (go_at_call 44; (with_reducible refine (rs_u16 HR.out (by omega)).mono ?_); rintro e w9 ⟨v9, rfl, hr, hk⟩; have HBX := Aside0.mk ((hk.block _ HBLT.out).trans HBX.out); have HR := Aside0.mk (RS.start hr.row hr.len); have HB := Aside0.mk (HB.out.trans (hk.mono HBB.out)); clear hr hk)
      | (go_at_call 43; (with_reducible refine (rs_u32 HR.out (by first | exact H13.out | exact H14.out | decide) (by omega)).mono ?_); rintro e w9 ⟨v9, rfl, hr, hk⟩; have HBX := Aside0.mk ((hk.block _ HBLT.out).trans HBX.out); have HR := Aside0.mk (RS.start hr.row hr.len); have HB := Aside0.mk (HB.out.trans (hk.mono HBB.out)); clear hr hk)
      | fail)
  go_split_ands
  have HBX := Aside0.mk (show (World.drew _).heap[_]? = _ from HBX.out)
  have HR := Aside0.mk (RS.start (RowAt.drew HR.out.row) HR.out.len)
  have HB := Aside0.mk (below_drew HB.out)
  go_wp2_with fail
  go_region_held3 (fun w' => w'.cell? ⟨w.heap.size, 8, none⟩ = some (.slice A8 b8.length c8) ∧ w'.cell? ⟨w.heap.size, 9, none⟩ = some (.slice A9 b9.length c9) ∧ w'.cell? ⟨w.heap.size, 15, none⟩ = some (.slice A15 b15.length c15))
    (first | exact ⟨(blk_cell HBX.out 8).trans rfl, (blk_cell HBX.out 9).trans rfl, (blk_cell HBX.out 15).trans rfl⟩ | go_keep)
    (first
      | (go_at_call 46; (with_reducible refine (rs_put (m := b8.length) HR.out (Kd.C_below HC8.out HB.out) (Nat.le_refl _) (by omega)).mono ?_); rintro e w9 ⟨v9, rfl, hr, hk⟩; have HBX := Aside0.mk ((hk.block _ HBLT.out).trans HBX.out); have HR := Aside0.mk (RS.start hr.row hr.len); have HB := Aside0.mk (HB.out.trans (hk.mono HBB.out)); clear hr hk)
      | (go_at_call 46; (with_reducible refine (rs_put (m := b9.length) HR.out (Kd.C_below HC9.out HB.out) (Nat.le_refl _) (by omega)).mono ?_); rintro e w9 ⟨v9, rfl, hr, hk⟩; have HBX := Aside0.mk ((hk.block _ HBLT.out).trans HBX.out); have HR := Aside0.mk (RS.start hr.row hr.len); have HB := Aside0.mk (HB.out.trans (hk.mono HBB.out)); clear hr hk)
      | (go_at_call 46; (with_reducible refine (rs_put (m := b15.length) HR.out (Kd.C_below HC15.out HB.out) (Nat.le_refl _) (by omega)).mono ?_); rintro e w9 ⟨v9, rfl, hr, hk⟩; have HBX := Aside0.mk ((hk.block _ HBLT.out).trans HBX.out); have HR := Aside0.mk (RS.start hr.row hr.len); have HB := Aside0.mk (HB.out.trans (hk.mono HBB.out)); clear hr hk)
      | (go_at_call 45; (with_reducible refine (rec_done HR.out (by omega)).mono ?_); rintro e w9 ⟨v9, rfl, ho, hk⟩; have HBX := Aside0.mk (blk_below HBX.out hk); have HO := Aside0.mk ho; have HO2 := Aside0.mk HB.out.size; have HB := Aside0.mk (HB.out.trans (hk.mono HB.out.size)); clear ho hk)
      | fail)
  go_split_ands
  go_wp2
  go_ret2
  exact ⟨_, rfl, own_weaken HO.out HO2.out, HB.out⟩
end Go.Proofs.Ytpmiofjhgmdghaa.Fld
