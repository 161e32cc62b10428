-- written by a program of mine (a changed copy of the printer): not the kit's print
import Derived.Test.YtpmiofjhgmdghaaRWx0
import Derived.Test.YtpmiofjhgmdghaaRWx1
namespace Go.Proofs.Ytpmiofjhgmdghaa.RW
open Go.Proofs.Ytpmiofjhgmdghaa.MyCut
open Go.RowKit Go.Proofs.YtpmiofjhgmdghaaW.PrintWords Go.Proofs.YtpmiofjhgmdghaaW.PrintLast Go.Proofs.YtpmiofjhgmdghaaW.PrintMore
attribute [local go_sem] max2_int min2_int max_two min_two max_three min_three max_four min_four   -- for this text's walks alone
set_option linter.unusedVariables false
set_option linter.unusedSimpArgs false

/-! ### duffelref24_Central: function 21 -/
def duffelref24_Central.j0 : Nat → List Int → List Int → Bool → Int → Int → Int → Int → Int → Int → Int → Int → List Int → List Int → Int → Int → Int → Int → Int → List Int → Int → Int → Int → Int → Int → Int → Int → Int → List Int → List Int → Option (List Int × Int)
  | 0, _, _, _, _, _, _, _, _, _, _, _, _, _, _, _, _, _, _, _, _, _, _, _, _, _, _, _, _, _ => none
  | k + 1, x5, x7, x51, x160000, x160001, x160002, x160003, x160004, x160005, x160006, x160007, x160008, x160009, x160010, x160011, x160012, x160013, x160014, x160015, x161000, x161001, x161002, x161003, x161004, x161005, x161006, x161007, x161008, x161009 => if x51 = true then (some (([] : List Int), 18)) else ((duffelref24_words.f k (([33639248] : List Int))).bind fun t178 => ((duffelref24_words.f k (([x161005, x161006, x161007] : List Int))).bind fun t184 => ((duffelref24_words.f k (([x160013, x160014] : List Int))).bind fun t190 => ((duffelref24_join.f k (([t178, x5, t184, x7, t190, x161008, x161009, x160015] : List (List Int)))).bind fun t196 => (some (t196, 0))))))
def duffelref24_Central.f (k : Nat) (a0_0 : Int) (a0_1 : Int) (a0_2 : Int) (a0_3 : Int) (a0_4 : Int) (a0_5 : Int) (a0_6 : Int) (a0_7 : Int) (l0_8 : List Int) (l0_9 : List Int) (a0_10 : Int) (a0_11 : Int) (a0_12 : Int) (a0_13 : Int) (a0_14 : Int) (l0_15 : List Int) : Option (List Int × Int) := (duffelref24_halves.f k (([a0_10, a0_0, a0_1, a0_2, a0_3, a0_4] : List Int))).bind fun bt164 => ((duffelref24_halves.f k (([(l0_8.length : Int), (l0_9.length : Int), (l0_15.length : Int), a0_11, a0_12] : List Int))).bind fun bt171 => (if bt164.2 = true then (duffelref24_Central.j0 k bt164.1 bt171.1 (!bt171.2) a0_0 a0_1 a0_2 a0_3 a0_4 a0_5 a0_6 a0_7 l0_8 l0_9 a0_10 a0_11 a0_12 a0_13 a0_14 l0_15 a0_0 a0_1 a0_2 a0_3 a0_4 a0_5 a0_6 a0_7 l0_8 l0_9) else (duffelref24_Central.j0 k bt164.1 bt171.1 true a0_0 a0_1 a0_2 a0_3 a0_4 a0_5 a0_6 a0_7 l0_8 l0_9 a0_10 a0_11 a0_12 a0_13 a0_14 l0_15 a0_0 a0_1 a0_2 a0_3 a0_4 a0_5 a0_6 a0_7 l0_8 l0_9)))
theorem duffelref24_Central.mono_l : ∀ k, (∀ y0 y1 y2 y3 y4 y5 y6 y7 y8 y9 y10 y11 y12 y13 y14 y15 y16 y17 y18 y19 y20 y21 y22 y23 y24 y25 y26 y27 y28, LeO (duffelref24_Central.j0 k y0 y1 y2 y3 y4 y5 y6 y7 y8 y9 y10 y11 y12 y13 y14 y15 y16 y17 y18 y19 y20 y21 y22 y23 y24 y25 y26 y27 y28) (duffelref24_Central.j0 (k + 1) y0 y1 y2 y3 y4 y5 y6 y7 y8 y9 y10 y11 y12 y13 y14 y15 y16 y17 y18 y19 y20 y21 y22 y23 y24 y25 y26 y27 y28))
  | 0 => fun _ _ _ _ _ _ _ _ _ _ _ _ _ _ _ _ _ _ _ _ _ _ _ _ _ _ _ _ _ r h => by simp [duffelref24_Central.j0] at h
  | k + 1 => by
    have ih0 := duffelref24_Central.mono_l k
    · intro y0 y1 y2 y3 y4 y5 y6 y7 y8 y9 y10 y11 y12 y13 y14 y15 y16 y17 y18 y19 y20 y21 y22 y23 y24 y25 y26 y27 y28
      unfold duffelref24_Central.j0
      repeat' first
      | (with_reducible exact ih0 _ _ _ _ _ _ _ _ _ _ _ _ _ _ _ _ _ _ _ _ _ _ _ _ _ _ _ _ _)
      | (with_reducible exact duffelref24_halves.mono _ _)
      | (with_reducible exact duffelref24_join.mono _ _)
      | (with_reducible exact duffelref24_words.mono _ _)
      | (with_reducible exact LeO.refl _)
      | (with_reducible exact LeO.none _)
      | (with_reducible refine LeO.ite ?_ ?_)
      | (with_reducible refine LeO.bind ?_ (fun _ => ?_))
      | exact ih0 _ _ _ _ _ _ _ _ _ _ _ _ _ _ _ _ _ _ _ _ _ _ _ _ _ _ _ _ _
      | exact duffelref24_halves.mono _ _
      | exact duffelref24_join.mono _ _
      | exact duffelref24_words.mono _ _
      | exact LeO.none _
      | refine LeO.ite ?_ ?_
      | refine LeO.bind ?_ (fun _ => ?_)
theorem duffelref24_Central.mono : ∀ a0 a1 a2 a3 a4 a5 a6 a7 a8 a9 a10 a11 a12 a13 a14 a15 k, LeO (duffelref24_Central.f k a0 a1 a2 a3 a4 a5 a6 a7 a8 a9 a10 a11 a12 a13 a14 a15) (duffelref24_Central.f (k + 1) a0 a1 a2 a3 a4 a5 a6 a7 a8 a9 a10 a11 a12 a13 a14 a15) := by
  intro a0 a1 a2 a3 a4 a5 a6 a7 a8 a9 a10 a11 a12 a13 a14 a15 k
  have ih0 := duffelref24_Central.mono_l k
  unfold duffelref24_Central.f
  repeat' first
      | (with_reducible exact ih0 _ _ _ _ _ _ _ _ _ _ _ _ _ _ _ _ _ _ _ _ _ _ _ _ _ _ _ _ _)
      | (with_reducible exact duffelref24_halves.mono _ _)
      | (with_reducible exact duffelref24_join.mono _ _)
      | (with_reducible exact duffelref24_words.mono _ _)
      | (with_reducible exact LeO.refl _)
      | (with_reducible exact LeO.none _)
      | (with_reducible refine LeO.ite ?_ ?_)
      | (with_reducible refine LeO.bind ?_ (fun _ => ?_))
      | exact ih0 _ _ _ _ _ _ _ _ _ _ _ _ _ _ _ _ _ _ _ _ _ _ _ _ _ _ _ _ _
      | exact duffelref24_halves.mono _ _
      | exact duffelref24_join.mono _ _
      | exact duffelref24_words.mono _ _
      | exact LeO.none _
      | refine LeO.ite ?_ ?_
      | refine LeO.bind ?_ (fun _ => ?_)
def duffelref24_Central.T6 : Bool × List (List Nat × List Nat) := (true, [([], []), ([0], [0]), ([], []), ([], []), ([3], [3]), ([], []), ([5], [5]), ([], []), ([7], [7]), ([4, 6, 8], [4, 6, 8]), ([9, 1], [9]), ([], []), ([], []), ([12], [12]), ([], []), ([14], [14]), ([13, 15], [13, 15]), ([16, 10], [16]), ([], []), ([18], [18]), ([], []), ([20], [20]), ([], []), ([22], [22]), ([1, 2, 10, 11, 17, 19, 21, 23], [1, 2, 10, 11, 17, 19, 21, 23]), ([24, 17], [24]), ([25, 25, 0, 1, 2, 3, 4, 5, 6, 7, 8, 9, 10, 11, 12, 13, 14, 15, 16, 17, 18, 19, 20, 21, 22, 23, 24, 25], [25]), ([26, 0, 1, 2, 3, 4, 5, 6, 7, 8, 9, 10, 11, 12, 13, 14, 15, 16, 17, 18, 19, 20, 21, 22, 23, 24, 25, 26], [])])
def duffelref24_Central.B6 : List Nat := [0, 1, 0, 0, 8, 0, 32, 0, 128, 504, 1019, 0, 0, 4096, 0, 16384, 61440, 129019, 0, 262144, 0, 1048576, 0, 4194304, 16777215, 33554431, 67108863, 134217727]
theorem duffelref24_Central.tab6 : rtab .any (opsOf Try.f21 6) = duffelref24_Central.T6 := by kernel_rfl
theorem duffelref24_Central.bits6 : waitsOk duffelref24_Central.T6.2 duffelref24_Central.B6 = true := by kernel_rfl
set_option maxHeartbeats 8000000 in
set_option maxRecDepth 100000 in
theorem duffelref24_Central.calls (k : Nat) (a0_0 : Int) (a0_1 : Int) (a0_2 : Int) (a0_3 : Int) (a0_4 : Int) (a0_5 : Int) (a0_6 : Int) (a0_7 : Int) (P0_8_ : Nat → Prop) (A0_8 : Option Addr) (c0_8 : Nat) (l0_8 : List Int) (P0_9_ : Nat → Prop) (A0_9 : Option Addr) (c0_9 : Nat) (l0_9 : List Int) (a0_10 : Int) (a0_11 : Int) (a0_12 : Int) (a0_13 : Int) (a0_14 : Int) (P0_15_ : Nat → Prop) (A0_15 : Option Addr) (c0_15 : Nat) (l0_15 : List Int) (r1 : List Int) (r2 : Int) (w : World) (hs0_8 : Kd.V (Kd.int .u8) 5 w w.heap.size (fun k_ => P0_8_ k_) (.slice A0_8 l0_8.length c0_8) l0_8) (hs0_9 : Kd.V (Kd.int .u8) 5 w w.heap.size (fun k_ => P0_9_ k_) (.slice A0_9 l0_9.length c0_9) l0_9) (hs0_15 : Kd.V (Kd.int .u8) 5 w w.heap.size (fun k_ => P0_15_ k_) (.slice A0_15 l0_15.length c0_15) l0_15) (h : duffelref24_Central.f k a0_0 a0_1 a0_2 a0_3 a0_4 a0_5 a0_6 a0_7 l0_8 l0_9 a0_10 a0_11 a0_12 a0_13 a0_14 l0_15 = some (r1, r2)) :
    Calls Try.prog 21 #[.agg #[.int .i64 a0_0, .int .i64 a0_1, .int .i64 a0_2, .int .i64 a0_3, .int .i64 a0_4, .int .u32 a0_5, .int .u32 a0_6, .int .u32 a0_7, .slice A0_8 l0_8.length c0_8, .slice A0_9 l0_9.length c0_9, .int .i64 a0_10, .int .i64 a0_11, .int .i64 a0_12, .int .u32 a0_13, .int .u32 a0_14, .slice A0_15 l0_15.length c0_15]] w fun e w' => ∃ v0_ : Value, e = .returned (.tuple #[v0_, .int .i64 r2]) ∧ Kd.R (Kd.int .u8) 5 w' w.heap.size (fun k_ => (w.heap.size ≤ k_)) v0_ r1 ∧ Below w.heap.size w w' := by
  have hu39 := Try.underlying39
  have hu37 := Try.underlying37
  have HO0_8 := Aside0.mk (show Kd.V (Kd.int .u8) 5 w w.heap.size (fun k_ => ((P0_8_ k_ ∨ P0_9_ k_ ∨ P0_15_ k_) ∨ w.heap.size ≤ k_)) (.slice A0_8 l0_8.length c0_8) l0_8 from Kd.V_mono hs0_8 (fun k_ hk => .inl (.inl hk)))
  have HO0_9 := Aside0.mk (show Kd.V (Kd.int .u8) 5 w w.heap.size (fun k_ => ((P0_8_ k_ ∨ P0_9_ k_ ∨ P0_15_ k_) ∨ w.heap.size ≤ k_)) (.slice A0_9 l0_9.length c0_9) l0_9 from Kd.V_mono hs0_9 (fun k_ hk => .inl (.inr (.inl hk))))
  have HO0_15 := Aside0.mk (show Kd.V (Kd.int .u8) 5 w w.heap.size (fun k_ => ((P0_8_ k_ ∨ P0_9_ k_ ∨ P0_15_ k_) ∨ w.heap.size ≤ k_)) (.slice A0_15 l0_15.length c0_15) l0_15 from Kd.V_mono hs0_15 (fun k_ hk => .inl (.inr (.inr hk))))
  have HB := Aside0.mk (Below.refl w.heap.size w)
  have H : ((duffelref24_halves.f k (([a0_10, a0_0, a0_1, a0_2, a0_3, a0_4] : List Int))).bind fun bt164 => ((duffelref24_halves.f k (([(l0_8.length : Int), (l0_9.length : Int), (l0_15.length : Int), a0_11, a0_12] : List Int))).bind fun bt171 => (if bt164.2 = true then (duffelref24_Central.j0 k bt164.1 bt171.1 (!bt171.2) a0_0 a0_1 a0_2 a0_3 a0_4 a0_5 a0_6 a0_7 l0_8 l0_9 a0_10 a0_11 a0_12 a0_13 a0_14 l0_15 a0_0 a0_1 a0_2 a0_3 a0_4 a0_5 a0_6 a0_7 l0_8 l0_9) else (duffelref24_Central.j0 k bt164.1 bt171.1 true a0_0 a0_1 a0_2 a0_3 a0_4 a0_5 a0_6 a0_7 l0_8 l0_9 a0_10 a0_11 a0_12 a0_13 a0_14 l0_15 a0_0 a0_1 a0_2 a0_3 a0_4 a0_5 a0_6 a0_7 l0_8 l0_9)))) = some (r1, r2) := h
  clear h
  obtain ⟨y161, hy161⟩ : ∃ y_ : List Int, y_ = (([a0_10, a0_0, a0_1, a0_2, a0_3, a0_4] : List Int)) := ⟨_, rfl⟩
  replace H : ((duffelref24_halves.f k y161).bind fun bt164 => ((duffelref24_halves.f k (([(l0_8.length : Int), (l0_9.length : Int), (l0_15.length : Int), a0_11, a0_12] : List Int))).bind fun bt171 => (if bt164.2 = true then (duffelref24_Central.j0 k bt164.1 bt171.1 (!bt171.2) a0_0 a0_1 a0_2 a0_3 a0_4 a0_5 a0_6 a0_7 l0_8 l0_9 a0_10 a0_11 a0_12 a0_13 a0_14 l0_15 a0_0 a0_1 a0_2 a0_3 a0_4 a0_5 a0_6 a0_7 l0_8 l0_9) else (duffelref24_Central.j0 k bt164.1 bt171.1 true a0_0 a0_1 a0_2 a0_3 a0_4 a0_5 a0_6 a0_7 l0_8 l0_9 a0_10 a0_11 a0_12 a0_13 a0_14 l0_15 a0_0 a0_1 a0_2 a0_3 a0_4 a0_5 a0_6 a0_7 l0_8 l0_9)))) = some (r1, r2) := by first | (rw [hy161]; with_reducible exact H) | (have H2_ := (Option.bind_some _ _).symm.trans H; rw [hy161]; with_reducible exact H2_) | (have H2_ := (Option.bind_some _ _).symm.trans H; with_reducible exact H2_) | with_reducible exact H | (rw [hy161]; exact H) | exact H
  have Ny161 := Aside0.mk hy161
  clear hy161
  replace H := Option.bind_eq_some_iff.mp H
  obtain ⟨⟨t164, t165⟩, A20, H⟩ := H
  replace H : ((duffelref24_halves.f k (([(l0_8.length : Int), (l0_9.length : Int), (l0_15.length : Int), a0_11, a0_12] : List Int))).bind fun bt171 => (if t165 = true then (duffelref24_Central.j0 k t164 bt171.1 (!bt171.2) a0_0 a0_1 a0_2 a0_3 a0_4 a0_5 a0_6 a0_7 l0_8 l0_9 a0_10 a0_11 a0_12 a0_13 a0_14 l0_15 a0_0 a0_1 a0_2 a0_3 a0_4 a0_5 a0_6 a0_7 l0_8 l0_9) else (duffelref24_Central.j0 k t164 bt171.1 true a0_0 a0_1 a0_2 a0_3 a0_4 a0_5 a0_6 a0_7 l0_8 l0_9 a0_10 a0_11 a0_12 a0_13 a0_14 l0_15 a0_0 a0_1 a0_2 a0_3 a0_4 a0_5 a0_6 a0_7 l0_8 l0_9))) = some (r1, r2) := H
  have A2 := Aside0.mk A20
  clear A20
  obtain ⟨y168, hy168⟩ : ∃ y_ : List Int, y_ = (([(l0_8.length : Int), (l0_9.length : Int), (l0_15.length : Int), a0_11, a0_12] : List Int)) := ⟨_, rfl⟩
  replace H : ((duffelref24_halves.f k y168).bind fun bt171 => (if t165 = true then (duffelref24_Central.j0 k t164 bt171.1 (!bt171.2) a0_0 a0_1 a0_2 a0_3 a0_4 a0_5 a0_6 a0_7 l0_8 l0_9 a0_10 a0_11 a0_12 a0_13 a0_14 l0_15 a0_0 a0_1 a0_2 a0_3 a0_4 a0_5 a0_6 a0_7 l0_8 l0_9) else (duffelref24_Central.j0 k t164 bt171.1 true a0_0 a0_1 a0_2 a0_3 a0_4 a0_5 a0_6 a0_7 l0_8 l0_9 a0_10 a0_11 a0_12 a0_13 a0_14 l0_15 a0_0 a0_1 a0_2 a0_3 a0_4 a0_5 a0_6 a0_7 l0_8 l0_9))) = some (r1, r2) := by first | (rw [hy168]; with_reducible exact H) | (have H2_ := (Option.bind_some _ _).symm.trans H; rw [hy168]; with_reducible exact H2_) | (have H2_ := (Option.bind_some _ _).symm.trans H; with_reducible exact H2_) | with_reducible exact H | (rw [hy168]; exact H) | exact H
  have Ny168 := Aside0.mk hy168
  clear hy168
  replace H := Option.bind_eq_some_iff.mp H
  obtain ⟨⟨t171, t172⟩, A30, H⟩ := H
  replace H : (if t165 = true then (duffelref24_Central.j0 k t164 t171 (!t172) a0_0 a0_1 a0_2 a0_3 a0_4 a0_5 a0_6 a0_7 l0_8 l0_9 a0_10 a0_11 a0_12 a0_13 a0_14 l0_15 a0_0 a0_1 a0_2 a0_3 a0_4 a0_5 a0_6 a0_7 l0_8 l0_9) else (duffelref24_Central.j0 k t164 t171 true a0_0 a0_1 a0_2 a0_3 a0_4 a0_5 a0_6 a0_7 l0_8 l0_9 a0_10 a0_11 a0_12 a0_13 a0_14 l0_15 a0_0 a0_1 a0_2 a0_3 a0_4 a0_5 a0_6 a0_7 l0_8 l0_9)) = some (r1, r2) := H
  have A3 := Aside0.mk A30
  clear A30
  have HC4 := Aside0.mk H
  clear H
  go_enter Try.func21, Try.ntmps21
  go_upto_region 4 with (first | ((with_reducible refine gate_dst (N := 1) rfl ?_); refine box_event ?hg (N := 1) ?hd (cs := #[.int .i64 a0_0, .int .i64 a0_1, .int .i64 a0_2, .int .i64 a0_3, .int .i64 a0_4, .int .u32 a0_5, .int .u32 a0_6, .int .u32 a0_7, .slice A0_8 l0_8.length c0_8, .slice A0_9 l0_9.length c0_9, .int .i64 a0_10, .int .i64 a0_11, .int .i64 a0_12, .int .u32 a0_13, .int .u32 a0_14, .slice A0_15 l0_15.length c0_15]) (t := 39) ?hr ?_; (case hd => rfl); (case hg => rfl); (case hr => first | (go_simp; done) | (go_simp; rfl)); intro gb159 hg w5 hbox hb; have n0_ := Aside0.mk (Kd.V_below (Kd.V_elderB (by (with_reducible repeat (first | apply Kd.V_alloc | apply Kd.V_drewN | apply Kd.V_drew)); exact HO0_8.out) gb159 (Nat.le_of_eq hg.symm)) hb); have n1_ := Aside0.mk (Kd.V_below (Kd.V_elderB (by (with_reducible repeat (first | apply Kd.V_alloc | apply Kd.V_drewN | apply Kd.V_drew)); exact HO0_9.out) gb159 (Nat.le_of_eq hg.symm)) hb); have n2_ := Aside0.mk (Kd.V_below (Kd.V_elderB (by (with_reducible repeat (first | apply Kd.V_alloc | apply Kd.V_drewN | apply Kd.V_drew)); exact HO0_15.out) gb159 (Nat.le_of_eq hg.symm)) hb); have n3_ := Aside0.mk (below_step (by repeat (first | (with_reducible first | exact HB.out | apply below_alloc | apply pw_below_drewN | apply below_drew1) | exact HB.out)) hb); have n4_ := Aside0.mk (hbox); have n5_ := Aside0.mk ((by rw [hg]; exact (below_size (by repeat (first | (with_reducible first | exact HB.out | apply below_alloc | apply pw_below_drewN | apply below_drew1) | exact HB.out))) : w.heap.size ≤ gb159)); have n6_ := Aside0.mk ((by rw [hg]; exact (below_size (by repeat (first | (with_reducible first | exact HB.out | apply below_alloc | apply pw_below_drewN | apply below_drew1) | exact HB.out))) : w.heap.size ≤ gb159)); clear HO0_8; clear HO0_9; clear HO0_15; clear HB; have HO0_8 := n0_; have HO0_9 := n1_; have HO0_15 := n2_; have HB := n3_; have BK159 := n4_; have GW159 := n5_; have GE159 := n6_; clear n0_ n1_ n2_ n3_ n4_ n5_ n6_; clear hb hbox hg; have hcz6_0 : w5.cell? ⟨gb159, 0, none⟩ = some (.int .i64 a0_0) := (blk_cell BK159.out 0).trans rfl; have hcz6_1 : w5.cell? ⟨gb159, 1, none⟩ = some (.int .i64 a0_1) := (blk_cell BK159.out 1).trans rfl; have hcz6_2 : w5.cell? ⟨gb159, 2, none⟩ = some (.int .i64 a0_2) := (blk_cell BK159.out 2).trans rfl; have hcz6_3 : w5.cell? ⟨gb159, 3, none⟩ = some (.int .i64 a0_3) := (blk_cell BK159.out 3).trans rfl; have hcz6_4 : w5.cell? ⟨gb159, 4, none⟩ = some (.int .i64 a0_4) := (blk_cell BK159.out 4).trans rfl; have hcz6_5 : w5.cell? ⟨gb159, 5, none⟩ = some (.int .u32 a0_5) := (blk_cell BK159.out 5).trans rfl; have hcz6_6 : w5.cell? ⟨gb159, 6, none⟩ = some (.int .u32 a0_6) := (blk_cell BK159.out 6).trans rfl; have hcz6_7 : w5.cell? ⟨gb159, 7, none⟩ = some (.int .u32 a0_7) := (blk_cell BK159.out 7).trans rfl; have hcz6_8 : w5.cell? ⟨gb159, 8, none⟩ = some (.slice A0_8 l0_8.length c0_8) := (blk_cell BK159.out 8).trans rfl; have hcz6_9 : w5.cell? ⟨gb159, 9, none⟩ = some (.slice A0_9 l0_9.length c0_9) := (blk_cell BK159.out 9).trans rfl; have hcz6_10 : w5.cell? ⟨gb159, 10, none⟩ = some (.int .i64 a0_10) := (blk_cell BK159.out 10).trans rfl; have hcz6_11 : w5.cell? ⟨gb159, 11, none⟩ = some (.int .i64 a0_11) := (blk_cell BK159.out 11).trans rfl; have hcz6_12 : w5.cell? ⟨gb159, 12, none⟩ = some (.int .i64 a0_12) := (blk_cell BK159.out 12).trans rfl; have hcz6_13 : w5.cell? ⟨gb159, 13, none⟩ = some (.int .u32 a0_13) := (blk_cell BK159.out 13).trans rfl; have hcz6_14 : w5.cell? ⟨gb159, 14, none⟩ = some (.int .u32 a0_14) := (blk_cell BK159.out 14).trans rfl; have hcz6_15 : w5.cell? ⟨gb159, 15, none⟩ = some (.slice A0_15 l0_15.length c0_15) := (blk_cell BK159.out 15).trans rfl; have hfz6_0 := blk_frozen BK159.out 0; have hfz6_1 := blk_frozen BK159.out 1; have hfz6_2 := blk_frozen BK159.out 2; have hfz6_3 := blk_frozen BK159.out 3; have hfz6_4 := blk_frozen BK159.out 4; have hfz6_5 := blk_frozen BK159.out 5; have hfz6_6 := blk_frozen BK159.out 6; have hfz6_7 := blk_frozen BK159.out 7; have hfz6_8 := blk_frozen BK159.out 8; have hfz6_9 := blk_frozen BK159.out 9; have hfz6_10 := blk_frozen BK159.out 10; have hfz6_11 := blk_frozen BK159.out 11; have hfz6_12 := blk_frozen BK159.out 12; have hfz6_13 := blk_frozen BK159.out 13; have hfz6_14 := blk_frozen BK159.out 14; have hfz6_15 := blk_frozen BK159.out 15) | ((with_reducible refine gate_dst (N := 4) rfl ?_); refine box_event ?hg (N := 4) ?hd (cs := #[.int .i64 0, .int .i64 0, .int .i64 0, .int .i64 0, .int .i64 0, .int .u32 0, .int .u32 0, .int .u32 0, .slice none 0 0, .slice none 0 0]) (t := 37) ?hr ?_; (case hd => rfl); (case hg => rfl); (case hr => first | (go_simp; done) | (go_simp; rfl)); intro gb160 hg w7 hbox hb; have n0_ := Aside0.mk (Kd.V_below (Kd.V_elderB (by (with_reducible repeat (first | apply Kd.V_alloc | apply Kd.V_drewN | apply Kd.V_drew)); exact HO0_8.out) gb160 (Nat.le_of_eq hg.symm)) hb); have n1_ := Aside0.mk (Kd.V_below (Kd.V_elderB (by (with_reducible repeat (first | apply Kd.V_alloc | apply Kd.V_drewN | apply Kd.V_drew)); exact HO0_9.out) gb160 (Nat.le_of_eq hg.symm)) hb); have n2_ := Aside0.mk (Kd.V_below (Kd.V_elderB (by (with_reducible repeat (first | apply Kd.V_alloc | apply Kd.V_drewN | apply Kd.V_drew)); exact HO0_15.out) gb160 (Nat.le_of_eq hg.symm)) hb); have n3_ := Aside0.mk (blk_below (g := gb159) (o := .cells #[.int .i64 a0_0, .int .i64 a0_1, .int .i64 a0_2, .int .i64 a0_3, .int .i64 a0_4, .int .u32 a0_5, .int .u32 a0_6, .int .u32 a0_7, .slice A0_8 l0_8.length c0_8, .slice A0_9 l0_9.length c0_9, .int .i64 a0_10, .int .i64 a0_11, .int .i64 a0_12, .int .u32 a0_13, .int .u32 a0_14, .slice A0_15 l0_15.length c0_15] 39 (0, 0)) (by (with_reducible repeat (first | refine blk_drewN ?_ _ | refine blk_drew ?_ | refine blk_alloc ?_ _)); exact BK159.out) hb); have n4_ := Aside0.mk (below_step (by repeat (first | (with_reducible first | exact HB.out | apply below_alloc | apply pw_below_drewN | apply below_drew1 | refine below_set ?_ GE159.out) | exact HB.out)) hb); have n5_ := Aside0.mk (hbox); have n6_ := Aside0.mk ((by rw [hg]; exact (below_size (by repeat (first | (with_reducible first | exact HB.out | apply below_alloc | apply pw_below_drewN | apply below_drew1 | refine below_set ?_ GE159.out) | exact HB.out))) : w.heap.size ≤ gb160)); have n7_ := Aside0.mk ((by rw [hg]; exact (below_size (by repeat (first | (with_reducible first | exact HB.out | apply below_alloc | apply pw_below_drewN | apply below_drew1 | refine below_set ?_ GE159.out) | exact HB.out))) : w.heap.size ≤ gb160)); have n8_ := Aside0.mk ((by rw [hg]; exact Nat.ne_of_lt (blk_lt (g := gb159) (o := .cells #[.int .i64 a0_0, .int .i64 a0_1, .int .i64 a0_2, .int .i64 a0_3, .int .i64 a0_4, .int .u32 a0_5, .int .u32 a0_6, .int .u32 a0_7, .slice A0_8 l0_8.length c0_8, .slice A0_9 l0_9.length c0_9, .int .i64 a0_10, .int .i64 a0_11, .int .i64 a0_12, .int .u32 a0_13, .int .u32 a0_14, .slice A0_15 l0_15.length c0_15] 39 (0, 0)) (by (with_reducible repeat (first | refine blk_drewN ?_ _ | refine blk_drew ?_ | refine blk_alloc ?_ _)); exact BK159.out)) : gb159 ≠ gb160)); have n9_ := Aside0.mk ((by rw [hg]; exact Nat.ne_of_gt (blk_lt (g := gb159) (o := .cells #[.int .i64 a0_0, .int .i64 a0_1, .int .i64 a0_2, .int .i64 a0_3, .int .i64 a0_4, .int .u32 a0_5, .int .u32 a0_6, .int .u32 a0_7, .slice A0_8 l0_8.length c0_8, .slice A0_9 l0_9.length c0_9, .int .i64 a0_10, .int .i64 a0_11, .int .i64 a0_12, .int .u32 a0_13, .int .u32 a0_14, .slice A0_15 l0_15.length c0_15] 39 (0, 0)) (by (with_reducible repeat (first | refine blk_drewN ?_ _ | refine blk_drew ?_ | refine blk_alloc ?_ _)); exact BK159.out)) : gb160 ≠ gb159)); clear HO0_8; clear HO0_9; clear HO0_15; clear BK159; clear HB; have HO0_8 := n0_; have HO0_9 := n1_; have HO0_15 := n2_; have BK159 := n3_; have HB := n4_; have BK160 := n5_; have GW160 := n6_; have GE160 := n7_; have NB159_160 := n8_; have NB160_159 := n9_; clear n0_ n1_ n2_ n3_ n4_ n5_ n6_ n7_ n8_ n9_; clear hb hbox hg; have hnb8 := NB160_159.out; have hnc8 := NB159_160.out; have hcz9_0 : w7.cell? ⟨gb160, 0, none⟩ = some (.int .i64 0) := (blk_cell BK160.out 0).trans rfl; have hcz9_1 : w7.cell? ⟨gb160, 1, none⟩ = some (.int .i64 0) := (blk_cell BK160.out 1).trans rfl; have hcz9_2 : w7.cell? ⟨gb160, 2, none⟩ = some (.int .i64 0) := (blk_cell BK160.out 2).trans rfl; have hcz9_3 : w7.cell? ⟨gb160, 3, none⟩ = some (.int .i64 0) := (blk_cell BK160.out 3).trans rfl; have hcz9_4 : w7.cell? ⟨gb160, 4, none⟩ = some (.int .i64 0) := (blk_cell BK160.out 4).trans rfl; have hcz9_5 : w7.cell? ⟨gb160, 5, none⟩ = some (.int .u32 0) := (blk_cell BK160.out 5).trans rfl; have hcz9_6 : w7.cell? ⟨gb160, 6, none⟩ = some (.int .u32 0) := (blk_cell BK160.out 6).trans rfl; have hcz9_7 : w7.cell? ⟨gb160, 7, none⟩ = some (.int .u32 0) := (blk_cell BK160.out 7).trans rfl; have hcz9_8 : w7.cell? ⟨gb160, 8, none⟩ = some (.slice none 0 0) := (blk_cell BK160.out 8).trans rfl; have hcz9_9 : w7.cell? ⟨gb160, 9, none⟩ = some (.slice none 0 0) := (blk_cell BK160.out 9).trans rfl; have hfz9_0 := blk_frozen BK160.out 0; have hfz9_1 := blk_frozen BK160.out 1; have hfz9_2 := blk_frozen BK160.out 2; have hfz9_3 := blk_frozen BK160.out 3; have hfz9_4 := blk_frozen BK160.out 4; have hfz9_5 := blk_frozen BK160.out 5; have hfz9_6 := blk_frozen BK160.out 6; have hfz9_7 := blk_frozen BK160.out 7; have hfz9_8 := blk_frozen BK160.out 8; have hfz9_9 := blk_frozen BK160.out 9; have hcz10_0 : w7.cell? ⟨gb159, 0, none⟩ = some (.int .i64 a0_0) := (blk_cell BK159.out 0).trans rfl; have hcz10_1 : w7.cell? ⟨gb159, 1, none⟩ = some (.int .i64 a0_1) := (blk_cell BK159.out 1).trans rfl; have hcz10_2 : w7.cell? ⟨gb159, 2, none⟩ = some (.int .i64 a0_2) := (blk_cell BK159.out 2).trans rfl; have hcz10_3 : w7.cell? ⟨gb159, 3, none⟩ = some (.int .i64 a0_3) := (blk_cell BK159.out 3).trans rfl; have hcz10_4 : w7.cell? ⟨gb159, 4, none⟩ = some (.int .i64 a0_4) := (blk_cell BK159.out 4).trans rfl; have hcz10_5 : w7.cell? ⟨gb159, 5, none⟩ = some (.int .u32 a0_5) := (blk_cell BK159.out 5).trans rfl; have hcz10_6 : w7.cell? ⟨gb159, 6, none⟩ = some (.int .u32 a0_6) := (blk_cell BK159.out 6).trans rfl; have hcz10_7 : w7.cell? ⟨gb159, 7, none⟩ = some (.int .u32 a0_7) := (blk_cell BK159.out 7).trans rfl; have hcz10_8 : w7.cell? ⟨gb159, 8, none⟩ = some (.slice A0_8 l0_8.length c0_8) := (blk_cell BK159.out 8).trans rfl; have hcz10_9 : w7.cell? ⟨gb159, 9, none⟩ = some (.slice A0_9 l0_9.length c0_9) := (blk_cell BK159.out 9).trans rfl; have hcz10_10 : w7.cell? ⟨gb159, 10, none⟩ = some (.int .i64 a0_10) := (blk_cell BK159.out 10).trans rfl; have hcz10_11 : w7.cell? ⟨gb159, 11, none⟩ = some (.int .i64 a0_11) := (blk_cell BK159.out 11).trans rfl; have hcz10_12 : w7.cell? ⟨gb159, 12, none⟩ = some (.int .i64 a0_12) := (blk_cell BK159.out 12).trans rfl; have hcz10_13 : w7.cell? ⟨gb159, 13, none⟩ = some (.int .u32 a0_13) := (blk_cell BK159.out 13).trans rfl; have hcz10_14 : w7.cell? ⟨gb159, 14, none⟩ = some (.int .u32 a0_14) := (blk_cell BK159.out 14).trans rfl; have hcz10_15 : w7.cell? ⟨gb159, 15, none⟩ = some (.slice A0_15 l0_15.length c0_15) := (blk_cell BK159.out 15).trans rfl; have hfz10_0 := blk_frozen BK159.out 0; have hfz10_1 := blk_frozen BK159.out 1; have hfz10_2 := blk_frozen BK159.out 2; have hfz10_3 := blk_frozen BK159.out 3; have hfz10_4 := blk_frozen BK159.out 4; have hfz10_5 := blk_frozen BK159.out 5; have hfz10_6 := blk_frozen BK159.out 6; have hfz10_7 := blk_frozen BK159.out 7; have hfz10_8 := blk_frozen BK159.out 8; have hfz10_9 := blk_frozen BK159.out 9; have hfz10_10 := blk_frozen BK159.out 10; have hfz10_11 := blk_frozen BK159.out 11; have hfz10_12 := blk_frozen BK159.out 12; have hfz10_13 := blk_frozen BK159.out 13; have hfz10_14 := blk_frozen BK159.out 14; have hfz10_15 := blk_frozen BK159.out 15) | ((with_reducible refine gate_dst (N := 24) rfl ?_); refine Kd.R_lit (Kd.int .i64) _ 3 ?hg (N := 24) ?hd (xs := ([a0_10, a0_0, a0_1, a0_2, a0_3, a0_4] : List Int)) (inner := [.int .i64 a0_10, .int .i64 a0_0, .int .i64 a0_1, .int .i64 a0_2, .int .i64 a0_3, .int .i64 a0_4]) (ok := fun _ => True) (okp := fun _ => True) ?hr ?hp (fun _ hk => hk) trivial (Below.refl _ _) (Nat.le_refl _) (by simp) ?_; (case hd => rfl); (case hg => rfl); (case hr => first | (go_simp; done) | (go_simp; rfl)); (case hp => exact (Reps.one (show Kd.M (Kd.int .i64) _ _ _ a0_10 [.int .i64 a0_10] from rfl) (Reps.one (show Kd.M (Kd.int .i64) _ _ _ a0_0 [.int .i64 a0_0] from rfl) (Reps.one (show Kd.M (Kd.int .i64) _ _ _ a0_1 [.int .i64 a0_1] from rfl) (Reps.one (show Kd.M (Kd.int .i64) _ _ _ a0_2 [.int .i64 a0_2] from rfl) (Reps.one (show Kd.M (Kd.int .i64) _ _ _ a0_3 [.int .i64 a0_3] from rfl) (Reps.one (show Kd.M (Kd.int .i64) _ _ _ a0_4 [.int .i64 a0_4] from rfl) (Reps.none _ _)))))))); intro v162 w11 ho12 hb hg_ hnew_; clear hg_ hnew_; (first | rw [← Ny161.out] at ho12 | (simp only [Int.reduceToNat] at ho12; rw [← Ny161.out] at ho12)); have n0_ := Aside0.mk (Kd.V_elder' (by (with_reducible repeat (first | apply Kd.V_alloc | apply Kd.V_drewN | apply Kd.V_drew)); exact (Kd.V_mono (Kd.V_far (p := ⟨gb160, 9, none⟩) (Kd.V_far (p := ⟨gb160, 8, none⟩) (Kd.V_far (p := ⟨gb160, 7, none⟩) (Kd.V_far (p := ⟨gb160, 6, none⟩) (Kd.V_far (p := ⟨gb160, 5, none⟩) (Kd.V_far (p := ⟨gb160, 4, none⟩) (Kd.V_far (p := ⟨gb160, 3, none⟩) (Kd.V_far (p := ⟨gb160, 2, none⟩) (Kd.V_far (p := ⟨gb160, 1, none⟩) (Kd.V_far (p := ⟨gb160, 0, none⟩) (Kd.V_mono HO0_8.out (fun k_ hk => (⟨hk, hk.2⟩ : _ ∧ k_ ≠ gb160))) (fun _ hk => hk.2) (.int .i64 a0_0)) (fun _ hk => hk.2) (.int .i64 a0_1)) (fun _ hk => hk.2) (.int .i64 a0_2)) (fun _ hk => hk.2) (.int .i64 a0_3)) (fun _ hk => hk.2) (.int .i64 a0_4)) (fun _ hk => hk.2) (.int .u32 a0_5)) (fun _ hk => hk.2) (.int .u32 a0_6)) (fun _ hk => hk.2) (.int .u32 a0_7)) (fun _ hk => hk.2) (.slice A0_8 l0_8.length c0_8)) (fun _ hk => hk.2) (.slice A0_9 l0_9.length c0_9)) (fun _ h_ => h_.1))) (Kd.R_base ho12) hb); have n1_ := Aside0.mk (Kd.V_elder' (by (with_reducible repeat (first | apply Kd.V_alloc | apply Kd.V_drewN | apply Kd.V_drew)); exact (Kd.V_mono (Kd.V_far (p := ⟨gb160, 9, none⟩) (Kd.V_far (p := ⟨gb160, 8, none⟩) (Kd.V_far (p := ⟨gb160, 7, none⟩) (Kd.V_far (p := ⟨gb160, 6, none⟩) (Kd.V_far (p := ⟨gb160, 5, none⟩) (Kd.V_far (p := ⟨gb160, 4, none⟩) (Kd.V_far (p := ⟨gb160, 3, none⟩) (Kd.V_far (p := ⟨gb160, 2, none⟩) (Kd.V_far (p := ⟨gb160, 1, none⟩) (Kd.V_far (p := ⟨gb160, 0, none⟩) (Kd.V_mono HO0_9.out (fun k_ hk => (⟨hk, hk.2⟩ : _ ∧ k_ ≠ gb160))) (fun _ hk => hk.2) (.int .i64 a0_0)) (fun _ hk => hk.2) (.int .i64 a0_1)) (fun _ hk => hk.2) (.int .i64 a0_2)) (fun _ hk => hk.2) (.int .i64 a0_3)) (fun _ hk => hk.2) (.int .i64 a0_4)) (fun _ hk => hk.2) (.int .u32 a0_5)) (fun _ hk => hk.2) (.int .u32 a0_6)) (fun _ hk => hk.2) (.int .u32 a0_7)) (fun _ hk => hk.2) (.slice A0_8 l0_8.length c0_8)) (fun _ hk => hk.2) (.slice A0_9 l0_9.length c0_9)) (fun _ h_ => h_.1))) (Kd.R_base ho12) hb); have n2_ := Aside0.mk (Kd.V_elder' (by (with_reducible repeat (first | apply Kd.V_alloc | apply Kd.V_drewN | apply Kd.V_drew)); exact (Kd.V_mono (Kd.V_far (p := ⟨gb160, 9, none⟩) (Kd.V_far (p := ⟨gb160, 8, none⟩) (Kd.V_far (p := ⟨gb160, 7, none⟩) (Kd.V_far (p := ⟨gb160, 6, none⟩) (Kd.V_far (p := ⟨gb160, 5, none⟩) (Kd.V_far (p := ⟨gb160, 4, none⟩) (Kd.V_far (p := ⟨gb160, 3, none⟩) (Kd.V_far (p := ⟨gb160, 2, none⟩) (Kd.V_far (p := ⟨gb160, 1, none⟩) (Kd.V_far (p := ⟨gb160, 0, none⟩) (Kd.V_mono HO0_15.out (fun k_ hk => (⟨hk, hk.2⟩ : _ ∧ k_ ≠ gb160))) (fun _ hk => hk.2) (.int .i64 a0_0)) (fun _ hk => hk.2) (.int .i64 a0_1)) (fun _ hk => hk.2) (.int .i64 a0_2)) (fun _ hk => hk.2) (.int .i64 a0_3)) (fun _ hk => hk.2) (.int .i64 a0_4)) (fun _ hk => hk.2) (.int .u32 a0_5)) (fun _ hk => hk.2) (.int .u32 a0_6)) (fun _ hk => hk.2) (.int .u32 a0_7)) (fun _ hk => hk.2) (.slice A0_8 l0_8.length c0_8)) (fun _ hk => hk.2) (.slice A0_9 l0_9.length c0_9)) (fun _ h_ => h_.1))) (Kd.R_base ho12) hb); have n3_ := Aside0.mk (Kd.R_lower (Kd.R_newM (M := fun k_ => (w.heap.size ≤ k_)) ho12 (below_size (by repeat (first | (with_reducible first | exact HB.out | apply below_alloc | apply pw_below_drewN | apply below_drew1 | refine below_set ?_ GE159.out | refine below_set ?_ GE160.out) | exact HB.out))) (fun k_ h_ => h_)) (below_size (by repeat (first | (with_reducible first | exact HB.out | apply below_alloc | apply pw_below_drewN | apply below_drew1 | refine below_set ?_ GE159.out | refine below_set ?_ GE160.out) | exact HB.out)))); have n4_ := Aside0.mk (blk_below (g := gb159) (o := .cells #[.int .i64 a0_0, .int .i64 a0_1, .int .i64 a0_2, .int .i64 a0_3, .int .i64 a0_4, .int .u32 a0_5, .int .u32 a0_6, .int .u32 a0_7, .slice A0_8 l0_8.length c0_8, .slice A0_9 l0_9.length c0_9, .int .i64 a0_10, .int .i64 a0_11, .int .i64 a0_12, .int .u32 a0_13, .int .u32 a0_14, .slice A0_15 l0_15.length c0_15] 39 (0, 0)) (by (with_reducible repeat (first | refine blk_drewN ?_ _ | refine blk_drew ?_ | refine blk_alloc ?_ _)); refine blk_far ?_ NB159_160.out _; (with_reducible repeat (first | refine blk_drewN ?_ _ | refine blk_drew ?_ | refine blk_alloc ?_ _)); refine blk_far ?_ NB159_160.out _; (with_reducible repeat (first | refine blk_drewN ?_ _ | refine blk_drew ?_ | refine blk_alloc ?_ _)); refine blk_far ?_ NB159_160.out _; (with_reducible repeat (first | refine blk_drewN ?_ _ | refine blk_drew ?_ | refine blk_alloc ?_ _)); refine blk_far ?_ NB159_160.out _; (with_reducible repeat (first | refine blk_drewN ?_ _ | refine blk_drew ?_ | refine blk_alloc ?_ _)); refine blk_far ?_ NB159_160.out _; (with_reducible repeat (first | refine blk_drewN ?_ _ | refine blk_drew ?_ | refine blk_alloc ?_ _)); refine blk_far ?_ NB159_160.out _; (with_reducible repeat (first | refine blk_drewN ?_ _ | refine blk_drew ?_ | refine blk_alloc ?_ _)); refine blk_far ?_ NB159_160.out _; (with_reducible repeat (first | refine blk_drewN ?_ _ | refine blk_drew ?_ | refine blk_alloc ?_ _)); refine blk_far ?_ NB159_160.out _; (with_reducible repeat (first | refine blk_drewN ?_ _ | refine blk_drew ?_ | refine blk_alloc ?_ _)); refine blk_far ?_ NB159_160.out _; (with_reducible repeat (first | refine blk_drewN ?_ _ | refine blk_drew ?_ | refine blk_alloc ?_ _)); refine blk_far ?_ NB159_160.out _; (with_reducible repeat (first | refine blk_drewN ?_ _ | refine blk_drew ?_ | refine blk_alloc ?_ _)); exact BK159.out) hb); have n5_ := Aside0.mk (blk_below (g := gb160) (o := .cells #[.int .i64 a0_0, .int .i64 a0_1, .int .i64 a0_2, .int .i64 a0_3, .int .i64 a0_4, .int .u32 a0_5, .int .u32 a0_6, .int .u32 a0_7, .slice A0_8 l0_8.length c0_8, .slice A0_9 l0_9.length c0_9] 37 (0, 0)) (by (with_reducible repeat (first | refine blk_drewN ?_ _ | refine blk_drew ?_ | refine blk_alloc ?_ _)); refine blk_put (cs := #[.int .i64 a0_0, .int .i64 a0_1, .int .i64 a0_2, .int .i64 a0_3, .int .i64 a0_4, .int .u32 a0_5, .int .u32 a0_6, .int .u32 a0_7, .slice A0_8 l0_8.length c0_8, .slice none 0 0]) ?_ 9 _ rfl; (with_reducible repeat (first | refine blk_drewN ?_ _ | refine blk_drew ?_ | refine blk_alloc ?_ _)); refine blk_put (cs := #[.int .i64 a0_0, .int .i64 a0_1, .int .i64 a0_2, .int .i64 a0_3, .int .i64 a0_4, .int .u32 a0_5, .int .u32 a0_6, .int .u32 a0_7, .slice none 0 0, .slice none 0 0]) ?_ 8 _ rfl; (with_reducible repeat (first | refine blk_drewN ?_ _ | refine blk_drew ?_ | refine blk_alloc ?_ _)); refine blk_put (cs := #[.int .i64 a0_0, .int .i64 a0_1, .int .i64 a0_2, .int .i64 a0_3, .int .i64 a0_4, .int .u32 a0_5, .int .u32 a0_6, .int .u32 0, .slice none 0 0, .slice none 0 0]) ?_ 7 _ rfl; (with_reducible repeat (first | refine blk_drewN ?_ _ | refine blk_drew ?_ | refine blk_alloc ?_ _)); refine blk_put (cs := #[.int .i64 a0_0, .int .i64 a0_1, .int .i64 a0_2, .int .i64 a0_3, .int .i64 a0_4, .int .u32 a0_5, .int .u32 0, .int .u32 0, .slice none 0 0, .slice none 0 0]) ?_ 6 _ rfl; (with_reducible repeat (first | refine blk_drewN ?_ _ | refine blk_drew ?_ | refine blk_alloc ?_ _)); refine blk_put (cs := #[.int .i64 a0_0, .int .i64 a0_1, .int .i64 a0_2, .int .i64 a0_3, .int .i64 a0_4, .int .u32 0, .int .u32 0, .int .u32 0, .slice none 0 0, .slice none 0 0]) ?_ 5 _ rfl; (with_reducible repeat (first | refine blk_drewN ?_ _ | refine blk_drew ?_ | refine blk_alloc ?_ _)); refine blk_put (cs := #[.int .i64 a0_0, .int .i64 a0_1, .int .i64 a0_2, .int .i64 a0_3, .int .i64 0, .int .u32 0, .int .u32 0, .int .u32 0, .slice none 0 0, .slice none 0 0]) ?_ 4 _ rfl; (with_reducible repeat (first | refine blk_drewN ?_ _ | refine blk_drew ?_ | refine blk_alloc ?_ _)); refine blk_put (cs := #[.int .i64 a0_0, .int .i64 a0_1, .int .i64 a0_2, .int .i64 0, .int .i64 0, .int .u32 0, .int .u32 0, .int .u32 0, .slice none 0 0, .slice none 0 0]) ?_ 3 _ rfl; (with_reducible repeat (first | refine blk_drewN ?_ _ | refine blk_drew ?_ | refine blk_alloc ?_ _)); refine blk_put (cs := #[.int .i64 a0_0, .int .i64 a0_1, .int .i64 0, .int .i64 0, .int .i64 0, .int .u32 0, .int .u32 0, .int .u32 0, .slice none 0 0, .slice none 0 0]) ?_ 2 _ rfl; (with_reducible repeat (first | refine blk_drewN ?_ _ | refine blk_drew ?_ | refine blk_alloc ?_ _)); refine blk_put (cs := #[.int .i64 a0_0, .int .i64 0, .int .i64 0, .int .i64 0, .int .i64 0, .int .u32 0, .int .u32 0, .int .u32 0, .slice none 0 0, .slice none 0 0]) ?_ 1 _ rfl; (with_reducible repeat (first | refine blk_drewN ?_ _ | refine blk_drew ?_ | refine blk_alloc ?_ _)); refine blk_put (cs := #[.int .i64 0, .int .i64 0, .int .i64 0, .int .i64 0, .int .i64 0, .int .u32 0, .int .u32 0, .int .u32 0, .slice none 0 0, .slice none 0 0]) ?_ 0 _ rfl; (with_reducible repeat (first | refine blk_drewN ?_ _ | refine blk_drew ?_ | refine blk_alloc ?_ _)); exact BK160.out) hb); have n6_ := Aside0.mk (below_step (by repeat (first | (with_reducible first | exact HB.out | apply below_alloc | apply pw_below_drewN | apply below_drew1 | refine below_set ?_ GE159.out | refine below_set ?_ GE160.out) | exact HB.out)) hb); clear HO0_8; clear HO0_9; clear HO0_15; clear BK159; clear BK160; clear HB; have HO0_8 := n0_; have HO0_9 := n1_; have HO0_15 := n2_; have HO163 := n3_; have BK159 := n4_; have BK160 := n5_; have HB := n6_; clear n0_ n1_ n2_ n3_ n4_ n5_ n6_; clear hb ho12; obtain ⟨Ao13, co13, eo13⟩ := Kd.R_slice HO163.out; subst eo13) | ((with_reducible refine gate_callee (f := 49) rfl ?_); refine goesL_ (some 25) rfl rfl Try.func49 (by kernel_rfl) rfl #[.slice Ao13 y161.length co13] rfl (by (try simp only [List.map_toArray, List.map_cons, List.map_nil]); first | done | rfl | (simp only [List.length_drop, List.length_take]; rfl)) ?_; (with_reducible refine (duffelref24_halves.calls k _ _ y161 t164 t165 _ ?side1 ?side2 A2.out).mono ?_); (case side1 => repeat (first | exact (Kd.R_reads' HO163.out).2.2 | (with_reducible refine Kd.C_alloc ?_ _) | (with_reducible refine Kd.C_drewN ?_ _) | (with_reducible refine Kd.C_drew ?_))); (case side2 => exact (Kd.R_reads' HO163.out).2.1); rintro e w14 ⟨v166, rfl, ho0, hb⟩; (try clear A2); refine ⟨_, rfl, ?_⟩; have n0_ := Aside0.mk (Kd.V_elder' (by (with_reducible repeat (first | apply Kd.V_alloc | apply Kd.V_drewN | apply Kd.V_drew)); exact HO0_8.out) (Kd.R_base ho0) hb); have n1_ := Aside0.mk (Kd.V_elder' (by (with_reducible repeat (first | apply Kd.V_alloc | apply Kd.V_drewN | apply Kd.V_drew)); exact HO0_9.out) (Kd.R_base ho0) hb); have n2_ := Aside0.mk (Kd.V_elder' (by (with_reducible repeat (first | apply Kd.V_alloc | apply Kd.V_drewN | apply Kd.V_drew)); exact HO0_15.out) (Kd.R_base ho0) hb); have n3_ := Aside0.mk (Kd.R_below (by (with_reducible repeat (first | apply Kd.R_alloc | apply Kd.R_drewN | apply Kd.R_drew)); exact HO163.out) hb); have n4_ := Aside0.mk (Kd.R_lower (Kd.R_newM (M := fun k_ => (w.heap.size ≤ k_)) ho0 (below_size (by repeat (first | (with_reducible first | exact HB.out | apply below_alloc | apply pw_below_drewN | apply below_drew1 | refine below_set ?_ GE159.out | refine below_set ?_ GE160.out) | exact HB.out))) (fun k_ h_ => h_)) (below_size (by repeat (first | (with_reducible first | exact HB.out | apply below_alloc | apply pw_below_drewN | apply below_drew1 | refine below_set ?_ GE159.out | refine below_set ?_ GE160.out) | exact HB.out)))); have n5_ := Aside0.mk (blk_below (g := gb159) (o := .cells #[.int .i64 a0_0, .int .i64 a0_1, .int .i64 a0_2, .int .i64 a0_3, .int .i64 a0_4, .int .u32 a0_5, .int .u32 a0_6, .int .u32 a0_7, .slice A0_8 l0_8.length c0_8, .slice A0_9 l0_9.length c0_9, .int .i64 a0_10, .int .i64 a0_11, .int .i64 a0_12, .int .u32 a0_13, .int .u32 a0_14, .slice A0_15 l0_15.length c0_15] 39 (0, 0)) (by (with_reducible repeat (first | refine blk_drewN ?_ _ | refine blk_drew ?_ | refine blk_alloc ?_ _)); exact BK159.out) hb); have n6_ := Aside0.mk (blk_below (g := gb160) (o := .cells #[.int .i64 a0_0, .int .i64 a0_1, .int .i64 a0_2, .int .i64 a0_3, .int .i64 a0_4, .int .u32 a0_5, .int .u32 a0_6, .int .u32 a0_7, .slice A0_8 l0_8.length c0_8, .slice A0_9 l0_9.length c0_9] 37 (0, 0)) (by (with_reducible repeat (first | refine blk_drewN ?_ _ | refine blk_drew ?_ | refine blk_alloc ?_ _)); exact BK160.out) hb); have n7_ := Aside0.mk (below_step (by repeat (first | (with_reducible first | exact HB.out | apply below_alloc | apply pw_below_drewN | apply below_drew1 | refine below_set ?_ GE159.out | refine below_set ?_ GE160.out) | exact HB.out)) hb); clear HO0_8; clear HO0_9; clear HO0_15; clear HO163; clear BK159; clear BK160; clear HB; have HO0_8 := n0_; have HO0_9 := n1_; have HO0_15 := n2_; have HO163 := n3_; have HO167 := n4_; have BK159 := n5_; have BK160 := n6_; have HB := n7_; clear n0_ n1_ n2_ n3_ n4_ n5_ n6_ n7_; (try clear hb); (try clear hb2); (try clear hk); (try clear hi); (try clear ho0); have hcz15_0 : w14.cell? ⟨gb160, 0, none⟩ = some (.int .i64 a0_0) := (blk_cell BK160.out 0).trans rfl; have hcz15_1 : w14.cell? ⟨gb160, 1, none⟩ = some (.int .i64 a0_1) := (blk_cell BK160.out 1).trans rfl; have hcz15_2 : w14.cell? ⟨gb160, 2, none⟩ = some (.int .i64 a0_2) := (blk_cell BK160.out 2).trans rfl; have hcz15_3 : w14.cell? ⟨gb160, 3, none⟩ = some (.int .i64 a0_3) := (blk_cell BK160.out 3).trans rfl; have hcz15_4 : w14.cell? ⟨gb160, 4, none⟩ = some (.int .i64 a0_4) := (blk_cell BK160.out 4).trans rfl; have hcz15_5 : w14.cell? ⟨gb160, 5, none⟩ = some (.int .u32 a0_5) := (blk_cell BK160.out 5).trans rfl; have hcz15_6 : w14.cell? ⟨gb160, 6, none⟩ = some (.int .u32 a0_6) := (blk_cell BK160.out 6).trans rfl; have hcz15_7 : w14.cell? ⟨gb160, 7, none⟩ = some (.int .u32 a0_7) := (blk_cell BK160.out 7).trans rfl; have hcz15_8 : w14.cell? ⟨gb160, 8, none⟩ = some (.slice A0_8 l0_8.length c0_8) := (blk_cell BK160.out 8).trans rfl; have hcz15_9 : w14.cell? ⟨gb160, 9, none⟩ = some (.slice A0_9 l0_9.length c0_9) := (blk_cell BK160.out 9).trans rfl; have hfz15_0 := blk_frozen BK160.out 0; have hfz15_1 := blk_frozen BK160.out 1; have hfz15_2 := blk_frozen BK160.out 2; have hfz15_3 := blk_frozen BK160.out 3; have hfz15_4 := blk_frozen BK160.out 4; have hfz15_5 := blk_frozen BK160.out 5; have hfz15_6 := blk_frozen BK160.out 6; have hfz15_7 := blk_frozen BK160.out 7; have hfz15_8 := blk_frozen BK160.out 8; have hfz15_9 := blk_frozen BK160.out 9; have hcz16_0 : w14.cell? ⟨gb159, 0, none⟩ = some (.int .i64 a0_0) := (blk_cell BK159.out 0).trans rfl; have hcz16_1 : w14.cell? ⟨gb159, 1, none⟩ = some (.int .i64 a0_1) := (blk_cell BK159.out 1).trans rfl; have hcz16_2 : w14.cell? ⟨gb159, 2, none⟩ = some (.int .i64 a0_2) := (blk_cell BK159.out 2).trans rfl; have hcz16_3 : w14.cell? ⟨gb159, 3, none⟩ = some (.int .i64 a0_3) := (blk_cell BK159.out 3).trans rfl; have hcz16_4 : w14.cell? ⟨gb159, 4, none⟩ = some (.int .i64 a0_4) := (blk_cell BK159.out 4).trans rfl; have hcz16_5 : w14.cell? ⟨gb159, 5, none⟩ = some (.int .u32 a0_5) := (blk_cell BK159.out 5).trans rfl; have hcz16_6 : w14.cell? ⟨gb159, 6, none⟩ = some (.int .u32 a0_6) := (blk_cell BK159.out 6).trans rfl; have hcz16_7 : w14.cell? ⟨gb159, 7, none⟩ = some (.int .u32 a0_7) := (blk_cell BK159.out 7).trans rfl; have hcz16_8 : w14.cell? ⟨gb159, 8, none⟩ = some (.slice A0_8 l0_8.length c0_8) := (blk_cell BK159.out 8).trans rfl; have hcz16_9 : w14.cell? ⟨gb159, 9, none⟩ = some (.slice A0_9 l0_9.length c0_9) := (blk_cell BK159.out 9).trans rfl; have hcz16_10 : w14.cell? ⟨gb159, 10, none⟩ = some (.int .i64 a0_10) := (blk_cell BK159.out 10).trans rfl; have hcz16_11 : w14.cell? ⟨gb159, 11, none⟩ = some (.int .i64 a0_11) := (blk_cell BK159.out 11).trans rfl; have hcz16_12 : w14.cell? ⟨gb159, 12, none⟩ = some (.int .i64 a0_12) := (blk_cell BK159.out 12).trans rfl; have hcz16_13 : w14.cell? ⟨gb159, 13, none⟩ = some (.int .u32 a0_13) := (blk_cell BK159.out 13).trans rfl; have hcz16_14 : w14.cell? ⟨gb159, 14, none⟩ = some (.int .u32 a0_14) := (blk_cell BK159.out 14).trans rfl; have hcz16_15 : w14.cell? ⟨gb159, 15, none⟩ = some (.slice A0_15 l0_15.length c0_15) := (blk_cell BK159.out 15).trans rfl; have hfz16_0 := blk_frozen BK159.out 0; have hfz16_1 := blk_frozen BK159.out 1; have hfz16_2 := blk_frozen BK159.out 2; have hfz16_3 := blk_frozen BK159.out 3; have hfz16_4 := blk_frozen BK159.out 4; have hfz16_5 := blk_frozen BK159.out 5; have hfz16_6 := blk_frozen BK159.out 6; have hfz16_7 := blk_frozen BK159.out 7; have hfz16_8 := blk_frozen BK159.out 8; have hfz16_9 := blk_frozen BK159.out 9; have hfz16_10 := blk_frozen BK159.out 10; have hfz16_11 := blk_frozen BK159.out 11; have hfz16_12 := blk_frozen BK159.out 12; have hfz16_13 := blk_frozen BK159.out 13; have hfz16_14 := blk_frozen BK159.out 14; have hfz16_15 := blk_frozen BK159.out 15) | ((with_reducible refine gate_dst (N := 42) rfl ?_); refine Kd.R_lit (Kd.int .i64) _ 3 ?hg (N := 42) ?hd (xs := ([(l0_8.length : Int), (l0_9.length : Int), (l0_15.length : Int), a0_11, a0_12] : List Int)) (inner := [.int .i64 (l0_8.length : Int), .int .i64 (l0_9.length : Int), .int .i64 (l0_15.length : Int), .int .i64 a0_11, .int .i64 a0_12]) (ok := fun _ => True) (okp := fun _ => True) ?hr ?hp (fun _ hk => hk) trivial (Below.refl _ _) (Nat.le_refl _) (by simp) ?_; (case hd => rfl); (case hg => rfl); (case hr => first | (go_simp; done) | (go_simp; rfl)); (case hp => exact (Reps.one (show Kd.M (Kd.int .i64) _ _ _ (l0_8.length : Int) [.int .i64 (l0_8.length : Int)] from rfl) (Reps.one (show Kd.M (Kd.int .i64) _ _ _ (l0_9.length : Int) [.int .i64 (l0_9.length : Int)] from rfl) (Reps.one (show Kd.M (Kd.int .i64) _ _ _ (l0_15.length : Int) [.int .i64 (l0_15.length : Int)] from rfl) (Reps.one (show Kd.M (Kd.int .i64) _ _ _ a0_11 [.int .i64 a0_11] from rfl) (Reps.one (show Kd.M (Kd.int .i64) _ _ _ a0_12 [.int .i64 a0_12] from rfl) (Reps.none _ _))))))); intro v169 w17 ho18 hb hg_ hnew_; clear hg_ hnew_; (first | rw [← Ny168.out] at ho18 | (simp only [Int.reduceToNat] at ho18; rw [← Ny168.out] at ho18)); have n0_ := Aside0.mk (Kd.V_elder' (by (with_reducible repeat (first | apply Kd.V_alloc | apply Kd.V_drewN | apply Kd.V_drew)); exact HO0_8.out) (Kd.R_base ho18) hb); have n1_ := Aside0.mk (Kd.V_elder' (by (with_reducible repeat (first | apply Kd.V_alloc | apply Kd.V_drewN | apply Kd.V_drew)); exact HO0_9.out) (Kd.R_base ho18) hb); have n2_ := Aside0.mk (Kd.V_elder' (by (with_reducible repeat (first | apply Kd.V_alloc | apply Kd.V_drewN | apply Kd.V_drew)); exact HO0_15.out) (Kd.R_base ho18) hb); have n3_ := Aside0.mk (Kd.R_elder' (by (with_reducible repeat (first | apply Kd.R_alloc | apply Kd.R_drewN | apply Kd.R_drew)); exact HO163.out) (Kd.R_base ho18) hb); have n4_ := Aside0.mk (Kd.R_below (by (with_reducible repeat (first | apply Kd.R_alloc | apply Kd.R_drewN | apply Kd.R_drew)); exact HO167.out) hb); have n5_ := Aside0.mk (Kd.R_lower (Kd.R_new' (Kd.R_newM (M := fun k_ => (w.heap.size ≤ k_)) ho18 (below_size (by repeat (first | (with_reducible first | exact HB.out | apply below_alloc | apply pw_below_drewN | apply below_drew1 | refine below_set ?_ GE159.out | refine below_set ?_ GE160.out) | exact HB.out))) (fun k_ h_ => h_)) (Kd.R_lt (by (with_reducible repeat (first | apply Kd.R_alloc | apply Kd.R_drewN | apply Kd.R_drew)); exact HO163.out))) (below_size (by repeat (first | (with_reducible first | exact HB.out | apply below_alloc | apply pw_below_drewN | apply below_drew1 | refine below_set ?_ GE159.out | refine below_set ?_ GE160.out) | exact HB.out)))); have n6_ := Aside0.mk (blk_below (g := gb159) (o := .cells #[.int .i64 a0_0, .int .i64 a0_1, .int .i64 a0_2, .int .i64 a0_3, .int .i64 a0_4, .int .u32 a0_5, .int .u32 a0_6, .int .u32 a0_7, .slice A0_8 l0_8.length c0_8, .slice A0_9 l0_9.length c0_9, .int .i64 a0_10, .int .i64 a0_11, .int .i64 a0_12, .int .u32 a0_13, .int .u32 a0_14, .slice A0_15 l0_15.length c0_15] 39 (0, 0)) (by (with_reducible repeat (first | refine blk_drewN ?_ _ | refine blk_drew ?_ | refine blk_alloc ?_ _)); exact BK159.out) hb); have n7_ := Aside0.mk (blk_below (g := gb160) (o := .cells #[.int .i64 a0_0, .int .i64 a0_1, .int .i64 a0_2, .int .i64 a0_3, .int .i64 a0_4, .int .u32 a0_5, .int .u32 a0_6, .int .u32 a0_7, .slice A0_8 l0_8.length c0_8, .slice A0_9 l0_9.length c0_9] 37 (0, 0)) (by (with_reducible repeat (first | refine blk_drewN ?_ _ | refine blk_drew ?_ | refine blk_alloc ?_ _)); exact BK160.out) hb); have n8_ := Aside0.mk (below_step (by repeat (first | (with_reducible first | exact HB.out | apply below_alloc | apply pw_below_drewN | apply below_drew1 | refine below_set ?_ GE159.out | refine below_set ?_ GE160.out) | exact HB.out)) hb); clear HO0_8; clear HO0_9; clear HO0_15; clear HO163; clear HO167; clear BK159; clear BK160; clear HB; have HO0_8 := n0_; have HO0_9 := n1_; have HO0_15 := n2_; have HO163 := n3_; have HO167 := n4_; have HO170 := n5_; have BK159 := n6_; have BK160 := n7_; have HB := n8_; clear n0_ n1_ n2_ n3_ n4_ n5_ n6_ n7_ n8_; clear hb ho18; obtain ⟨Ao19, co19, eo19⟩ := Kd.R_slice HO170.out; subst eo19) | ((with_reducible refine gate_callee (f := 49) rfl ?_); refine goesL_ (some 43) rfl rfl Try.func49 (by kernel_rfl) rfl #[.slice Ao19 y168.length co19] rfl (by (try simp only [List.map_toArray, List.map_cons, List.map_nil]); first | done | rfl | (simp only [List.length_drop, List.length_take]; rfl)) ?_; (with_reducible refine (duffelref24_halves.calls k _ _ y168 t171 t172 _ ?side1 ?side2 A3.out).mono ?_); (case side1 => repeat (first | exact (Kd.R_reads' HO170.out).2.2 | (with_reducible refine Kd.C_alloc ?_ _) | (with_reducible refine Kd.C_drewN ?_ _) | (with_reducible refine Kd.C_drew ?_))); (case side2 => exact (Kd.R_reads' HO170.out).2.1); rintro e w20 ⟨v173, rfl, ho0, hb⟩; (try clear A3); refine ⟨_, rfl, ?_⟩; have n0_ := Aside0.mk (Kd.V_elder' (by (with_reducible repeat (first | apply Kd.V_alloc | apply Kd.V_drewN | apply Kd.V_drew)); exact HO0_8.out) (Kd.R_base ho0) hb); have n1_ := Aside0.mk (Kd.V_elder' (by (with_reducible repeat (first | apply Kd.V_alloc | apply Kd.V_drewN | apply Kd.V_drew)); exact HO0_9.out) (Kd.R_base ho0) hb); have n2_ := Aside0.mk (Kd.V_elder' (by (with_reducible repeat (first | apply Kd.V_alloc | apply Kd.V_drewN | apply Kd.V_drew)); exact HO0_15.out) (Kd.R_base ho0) hb); have n3_ := Aside0.mk (Kd.R_below (by (with_reducible repeat (first | apply Kd.R_alloc | apply Kd.R_drewN | apply Kd.R_drew)); exact HO163.out) hb); have n4_ := Aside0.mk (Kd.R_elder' (by (with_reducible repeat (first | apply Kd.R_alloc | apply Kd.R_drewN | apply Kd.R_drew)); exact HO167.out) (Kd.R_base ho0) hb); have n5_ := Aside0.mk (Kd.R_below (by (with_reducible repeat (first | apply Kd.R_alloc | apply Kd.R_drewN | apply Kd.R_drew)); exact HO170.out) hb); have n6_ := Aside0.mk (Kd.R_lower (Kd.R_new' (Kd.R_newM (M := fun k_ => (w.heap.size ≤ k_)) ho0 (below_size (by repeat (first | (with_reducible first | exact HB.out | apply below_alloc | apply pw_below_drewN | apply below_drew1 | refine below_set ?_ GE159.out | refine below_set ?_ GE160.out) | exact HB.out))) (fun k_ h_ => h_)) (Kd.R_lt (by (with_reducible repeat (first | apply Kd.R_alloc | apply Kd.R_drewN | apply Kd.R_drew)); exact HO167.out))) (below_size (by repeat (first | (with_reducible first | exact HB.out | apply below_alloc | apply pw_below_drewN | apply below_drew1 | refine below_set ?_ GE159.out | refine below_set ?_ GE160.out) | exact HB.out)))); have n7_ := Aside0.mk (blk_below (g := gb159) (o := .cells #[.int .i64 a0_0, .int .i64 a0_1, .int .i64 a0_2, .int .i64 a0_3, .int .i64 a0_4, .int .u32 a0_5, .int .u32 a0_6, .int .u32 a0_7, .slice A0_8 l0_8.length c0_8, .slice A0_9 l0_9.length c0_9, .int .i64 a0_10, .int .i64 a0_11, .int .i64 a0_12, .int .u32 a0_13, .int .u32 a0_14, .slice A0_15 l0_15.length c0_15] 39 (0, 0)) (by (with_reducible repeat (first | refine blk_drewN ?_ _ | refine blk_drew ?_ | refine blk_alloc ?_ _)); exact BK159.out) hb); have n8_ := Aside0.mk (blk_below (g := gb160) (o := .cells #[.int .i64 a0_0, .int .i64 a0_1, .int .i64 a0_2, .int .i64 a0_3, .int .i64 a0_4, .int .u32 a0_5, .int .u32 a0_6, .int .u32 a0_7, .slice A0_8 l0_8.length c0_8, .slice A0_9 l0_9.length c0_9] 37 (0, 0)) (by (with_reducible repeat (first | refine blk_drewN ?_ _ | refine blk_drew ?_ | refine blk_alloc ?_ _)); exact BK160.out) hb); have n9_ := Aside0.mk (below_step (by repeat (first | (with_reducible first | exact HB.out | apply below_alloc | apply pw_below_drewN | apply below_drew1 | refine below_set ?_ GE159.out | refine below_set ?_ GE160.out) | exact HB.out)) hb); clear HO0_8; clear HO0_9; clear HO0_15; clear HO163; clear HO167; clear HO170; clear BK159; clear BK160; clear HB; have HO0_8 := n0_; have HO0_9 := n1_; have HO0_15 := n2_; have HO163 := n3_; have HO167 := n4_; have HO170 := n5_; have HO174 := n6_; have BK159 := n7_; have BK160 := n8_; have HB := n9_; clear n0_ n1_ n2_ n3_ n4_ n5_ n6_ n7_ n8_ n9_; (try clear hb); (try clear hb2); (try clear hk); (try clear hi); (try clear ho0)))
  (try simp only [Act.put, List.setIfInBounds_toArray, List.set_cons_zero, List.set_cons_succ])
  go_cut [51] (fun v51 wc => ∃ (kq : Nat) (x51_3 : Bool), v51 = .bool x51_3 ∧ Aside0 (duffelref24_Central.j0 kq t164 t171 x51_3 a0_0 a0_1 a0_2 a0_3 a0_4 a0_5 a0_6 a0_7 l0_8 l0_9 a0_10 a0_11 a0_12 a0_13 a0_14 l0_15 a0_0 a0_1 a0_2 a0_3 a0_4 a0_5 a0_6 a0_7 l0_8 l0_9 = some (r1, r2)) ∧ Aside0 (kq ≤ k) ∧ Aside0 (Kd.R (Kd.int .u8) 5 wc w.heap.size (fun k_ => (w.heap.size ≤ k_) ∧ some k_ ≠ (v173 : Value).ownBlock) v166 t164) ∧ Aside0 (Kd.R (Kd.int .u8) 5 wc w.heap.size (fun k_ => (w.heap.size ≤ k_) ∧ some k_ ≠ (v166 : Value).ownBlock) v173 t171) ∧ Aside0 (Kd.V (Kd.int .u8) 5 wc w.heap.size (fun k_ => ((P0_8_ k_ ∨ P0_9_ k_ ∨ P0_15_ k_) ∨ w.heap.size ≤ k_) ∧ some k_ ≠ (v166 : Value).ownBlock ∧ some k_ ≠ (v173 : Value).ownBlock ∧ k_ ≠ gb159 ∧ k_ ≠ gb160) (.slice A0_8 l0_8.length c0_8) l0_8) ∧ Aside0 (Kd.V (Kd.int .u8) 5 wc w.heap.size (fun k_ => ((P0_8_ k_ ∨ P0_9_ k_ ∨ P0_15_ k_) ∨ w.heap.size ≤ k_) ∧ some k_ ≠ (v166 : Value).ownBlock ∧ some k_ ≠ (v173 : Value).ownBlock ∧ k_ ≠ gb159 ∧ k_ ≠ gb160) (.slice A0_9 l0_9.length c0_9) l0_9) ∧ Aside0 (Kd.V (Kd.int .u8) 5 wc w.heap.size (fun k_ => ((P0_8_ k_ ∨ P0_9_ k_ ∨ P0_15_ k_) ∨ w.heap.size ≤ k_) ∧ some k_ ≠ (v166 : Value).ownBlock ∧ some k_ ≠ (v173 : Value).ownBlock ∧ k_ ≠ gb159 ∧ k_ ≠ gb160) (.slice A0_15 l0_15.length c0_15) l0_15) ∧ Aside0 (Kd.V (Kd.int .u8) 5 wc w.heap.size (fun k_ => ((P0_8_ k_ ∨ P0_9_ k_ ∨ P0_15_ k_) ∨ w.heap.size ≤ k_) ∧ some k_ ≠ (v166 : Value).ownBlock ∧ some k_ ≠ (v173 : Value).ownBlock ∧ k_ ≠ gb159 ∧ k_ ≠ gb160) (.slice A0_8 l0_8.length c0_8) l0_8) ∧ Aside0 (Kd.V (Kd.int .u8) 5 wc w.heap.size (fun k_ => ((P0_8_ k_ ∨ P0_9_ k_ ∨ P0_15_ k_) ∨ w.heap.size ≤ k_) ∧ some k_ ≠ (v166 : Value).ownBlock ∧ some k_ ≠ (v173 : Value).ownBlock ∧ k_ ≠ gb159 ∧ k_ ≠ gb160) (.slice A0_9 l0_9.length c0_9) l0_9) ∧ Aside0 (wc.heap[gb159]? = some (.cells #[.int .i64 a0_0, .int .i64 a0_1, .int .i64 a0_2, .int .i64 a0_3, .int .i64 a0_4, .int .u32 a0_5, .int .u32 a0_6, .int .u32 a0_7, (.slice A0_8 l0_8.length c0_8), (.slice A0_9 l0_9.length c0_9), .int .i64 a0_10, .int .i64 a0_11, .int .i64 a0_12, .int .u32 a0_13, .int .u32 a0_14, (.slice A0_15 l0_15.length c0_15)] 39 (0, 0))) ∧ Aside0 (wc.heap[gb160]? = some (.cells #[.int .i64 a0_0, .int .i64 a0_1, .int .i64 a0_2, .int .i64 a0_3, .int .i64 a0_4, .int .u32 a0_5, .int .u32 a0_6, .int .u32 a0_7, (.slice A0_8 l0_8.length c0_8), (.slice A0_9 l0_9.length c0_9)] 37 (0, 0))) ∧ Aside0 (Below w.heap.size w wc))
  case first =>
    have H := HC4.out
    clear HC4
    by_cases c21 : t165 = true
    · subst c21
      have H1 : (duffelref24_Central.j0 k t164 t171 (!t172) a0_0 a0_1 a0_2 a0_3 a0_4 a0_5 a0_6 a0_7 l0_8 l0_9 a0_10 a0_11 a0_12 a0_13 a0_14 l0_15 a0_0 a0_1 a0_2 a0_3 a0_4 a0_5 a0_6 a0_7 l0_8 l0_9) = some (r1, r2) := by rw [if_pos rfl] at H; exact H
      clear H
      have H := H1
      clear H1
      have H' := Aside0.mk H
      clear H
      go_wp2
      go_meet
      case rel => exact ⟨_, (!t172), (by first | rfl | (simp; done) | (simp [*]; done)), H', ⟨by first | omega | exact Nat.le_refl _⟩, ⟨by (with_reducible repeat (first | apply Kd.R_alloc | apply Kd.R_drewN | apply Kd.R_drew)); exact Kd.R_mono HO167.out (fun _ hk => by first | exact ⟨hk.1.1, hk.2⟩ | simp_all)⟩, ⟨by (with_reducible repeat (first | apply Kd.R_alloc | apply Kd.R_drewN | apply Kd.R_drew)); exact Kd.R_mono HO174.out (fun _ hk => by first | exact ⟨hk.1.1, hk.2⟩ | simp_all)⟩, ⟨by (with_reducible repeat (first | apply Kd.V_alloc | apply Kd.V_drewN | apply Kd.V_drew)); exact Kd.V_mono HO0_8.out (fun _ hk => by first | exact ⟨hk.1.1.1.1.1.1, ⟨hk.1.1.2, ⟨hk.2, ⟨hk.1.1.1.1.1.2, hk.1.1.1.1.2⟩⟩⟩⟩ | simp_all)⟩, ⟨by (with_reducible repeat (first | apply Kd.V_alloc | apply Kd.V_drewN | apply Kd.V_drew)); exact Kd.V_mono HO0_9.out (fun _ hk => by first | exact ⟨hk.1.1.1.1.1.1, ⟨hk.1.1.2, ⟨hk.2, ⟨hk.1.1.1.1.1.2, hk.1.1.1.1.2⟩⟩⟩⟩ | simp_all)⟩, ⟨by (with_reducible repeat (first | apply Kd.V_alloc | apply Kd.V_drewN | apply Kd.V_drew)); exact Kd.V_mono HO0_15.out (fun _ hk => by first | exact ⟨hk.1.1.1.1.1.1, ⟨hk.1.1.2, ⟨hk.2, ⟨hk.1.1.1.1.1.2, hk.1.1.1.1.2⟩⟩⟩⟩ | simp_all)⟩, ⟨by (with_reducible repeat (first | apply Kd.V_alloc | apply Kd.V_drewN | apply Kd.V_drew)); exact Kd.V_mono HO0_8.out (fun _ hk => by first | exact ⟨hk.1.1.1.1.1.1, ⟨hk.1.1.2, ⟨hk.2, ⟨hk.1.1.1.1.1.2, hk.1.1.1.1.2⟩⟩⟩⟩ | simp_all)⟩, ⟨by (with_reducible repeat (first | apply Kd.V_alloc | apply Kd.V_drewN | apply Kd.V_drew)); exact Kd.V_mono HO0_9.out (fun _ hk => by first | exact ⟨hk.1.1.1.1.1.1, ⟨hk.1.1.2, ⟨hk.2, ⟨hk.1.1.1.1.1.2, hk.1.1.1.1.2⟩⟩⟩⟩ | simp_all)⟩, ⟨by (with_reducible repeat (first | refine blk_drewN ?_ _ | refine blk_drew ?_ | refine blk_alloc ?_ _)); exact BK159.out⟩, ⟨by (with_reducible repeat (first | refine blk_drewN ?_ _ | refine blk_drew ?_ | refine blk_alloc ?_ _)); exact BK160.out⟩, ⟨by repeat (first | (with_reducible first | exact HB.out | apply below_alloc | apply pw_below_drewN | apply below_drew1 | refine below_set ?_ GE159.out | refine below_set ?_ GE160.out) | exact HB.out)⟩⟩
    · replace c21 := Bool.eq_false_iff.mpr c21
      subst c21
      have H1 : (duffelref24_Central.j0 k t164 t171 true a0_0 a0_1 a0_2 a0_3 a0_4 a0_5 a0_6 a0_7 l0_8 l0_9 a0_10 a0_11 a0_12 a0_13 a0_14 l0_15 a0_0 a0_1 a0_2 a0_3 a0_4 a0_5 a0_6 a0_7 l0_8 l0_9) = some (r1, r2) := by rw [if_neg (show ¬ (false = true) by decide)] at H; exact H
      clear H
      have H := H1
      clear H1
      have H' := Aside0.mk H
      clear H
      go_wp2
      go_meet
      case rel => exact ⟨_, (true), (by first | rfl | (simp; done) | (simp [*]; done)), H', ⟨by first | omega | exact Nat.le_refl _⟩, ⟨by (with_reducible repeat (first | apply Kd.R_alloc | apply Kd.R_drewN | apply Kd.R_drew)); exact Kd.R_mono HO167.out (fun _ hk => by first | exact ⟨hk.1.1, hk.2⟩ | simp_all)⟩, ⟨by (with_reducible repeat (first | apply Kd.R_alloc | apply Kd.R_drewN | apply Kd.R_drew)); exact Kd.R_mono HO174.out (fun _ hk => by first | exact ⟨hk.1.1, hk.2⟩ | simp_all)⟩, ⟨by (with_reducible repeat (first | apply Kd.V_alloc | apply Kd.V_drewN | apply Kd.V_drew)); exact Kd.V_mono HO0_8.out (fun _ hk => by first | exact ⟨hk.1.1.1.1.1.1, ⟨hk.1.1.2, ⟨hk.2, ⟨hk.1.1.1.1.1.2, hk.1.1.1.1.2⟩⟩⟩⟩ | simp_all)⟩, ⟨by (with_reducible repeat (first | apply Kd.V_alloc | apply Kd.V_drewN | apply Kd.V_drew)); exact Kd.V_mono HO0_9.out (fun _ hk => by first | exact ⟨hk.1.1.1.1.1.1, ⟨hk.1.1.2, ⟨hk.2, ⟨hk.1.1.1.1.1.2, hk.1.1.1.1.2⟩⟩⟩⟩ | simp_all)⟩, ⟨by (with_reducible repeat (first | apply Kd.V_alloc | apply Kd.V_drewN | apply Kd.V_drew)); exact Kd.V_mono HO0_15.out (fun _ hk => by first | exact ⟨hk.1.1.1.1.1.1, ⟨hk.1.1.2, ⟨hk.2, ⟨hk.1.1.1.1.1.2, hk.1.1.1.1.2⟩⟩⟩⟩ | simp_all)⟩, ⟨by (with_reducible repeat (first | apply Kd.V_alloc | apply Kd.V_drewN | apply Kd.V_drew)); exact Kd.V_mono HO0_8.out (fun _ hk => by first | exact ⟨hk.1.1.1.1.1.1, ⟨hk.1.1.2, ⟨hk.2, ⟨hk.1.1.1.1.1.2, hk.1.1.1.1.2⟩⟩⟩⟩ | simp_all)⟩, ⟨by (with_reducible repeat (first | apply Kd.V_alloc | apply Kd.V_drewN | apply Kd.V_drew)); exact Kd.V_mono HO0_9.out (fun _ hk => by first | exact ⟨hk.1.1.1.1.1.1, ⟨hk.1.1.2, ⟨hk.2, ⟨hk.1.1.1.1.1.2, hk.1.1.1.1.2⟩⟩⟩⟩ | simp_all)⟩, ⟨by (with_reducible repeat (first | refine blk_drewN ?_ _ | refine blk_drew ?_ | refine blk_alloc ?_ _)); exact BK159.out⟩, ⟨by (with_reducible repeat (first | refine blk_drewN ?_ _ | refine blk_drew ?_ | refine blk_alloc ?_ _)); exact BK160.out⟩, ⟨by repeat (first | (with_reducible first | exact HB.out | apply below_alloc | apply pw_below_drewN | apply below_drew1 | refine below_set ?_ GE159.out | refine below_set ?_ GE160.out) | exact HB.out)⟩⟩
  case rest =>
    clear HC4
    try clear c2
    try clear p2
    try clear c4
    try clear c8
    try clear c21
    try clear hcz10_0
    try clear hcz10_1
    try clear hcz10_10
    try clear hcz10_11
    try clear hcz10_12
    try clear hcz10_13
    try clear hcz10_14
    try clear hcz10_15
    try clear hcz10_2
    try clear hcz10_3
    try clear hcz10_4
    try clear hcz10_5
    try clear hcz10_6
    try clear hcz10_7
    try clear hcz10_8
    try clear hcz10_9
    try clear hcz15_0
    try clear hcz15_1
    try clear hcz15_2
    try clear hcz15_3
    try clear hcz15_4
    try clear hcz15_5
    try clear hcz15_6
    try clear hcz15_7
    try clear hcz15_8
    try clear hcz15_9
    try clear hcz16_0
    try clear hcz16_1
    try clear hcz16_10
    try clear hcz16_11
    try clear hcz16_12
    try clear hcz16_13
    try clear hcz16_14
    try clear hcz16_15
    try clear hcz16_2
    try clear hcz16_3
    try clear hcz16_4
    try clear hcz16_5
    try clear hcz16_6
    try clear hcz16_7
    try clear hcz16_8
    try clear hcz16_9
    try clear hcz6_0
    try clear hcz6_1
    try clear hcz6_10
    try clear hcz6_11
    try clear hcz6_12
    try clear hcz6_13
    try clear hcz6_14
    try clear hcz6_15
    try clear hcz6_2
    try clear hcz6_3
    try clear hcz6_4
    try clear hcz6_5
    try clear hcz6_6
    try clear hcz6_7
    try clear hcz6_8
    try clear hcz6_9
    try clear hcz9_0
    try clear hcz9_1
    try clear hcz9_2
    try clear hcz9_3
    try clear hcz9_4
    try clear hcz9_5
    try clear hcz9_6
    try clear hcz9_7
    try clear hcz9_8
    try clear hcz9_9
    try clear hfz10_0
    try clear hfz10_1
    try clear hfz10_10
    try clear hfz10_11
    try clear hfz10_12
    try clear hfz10_13
    try clear hfz10_14
    try clear hfz10_15
    try clear hfz10_2
    try clear hfz10_3
    try clear hfz10_4
    try clear hfz10_5
    try clear hfz10_6
    try clear hfz10_7
    try clear hfz10_8
    try clear hfz10_9
    try clear hfz15_0
    try clear hfz15_1
    try clear hfz15_2
    try clear hfz15_3
    try clear hfz15_4
    try clear hfz15_5
    try clear hfz15_6
    try clear hfz15_7
    try clear hfz15_8
    try clear hfz15_9
    try clear hfz16_0
    try clear hfz16_1
    try clear hfz16_10
    try clear hfz16_11
    try clear hfz16_12
    try clear hfz16_13
    try clear hfz16_14
    try clear hfz16_15
    try clear hfz16_2
    try clear hfz16_3
    try clear hfz16_4
    try clear hfz16_5
    try clear hfz16_6
    try clear hfz16_7
    try clear hfz16_8
    try clear hfz16_9
    try clear hfz6_0
    try clear hfz6_1
    try clear hfz6_10
    try clear hfz6_11
    try clear hfz6_12
    try clear hfz6_13
    try clear hfz6_14
    try clear hfz6_15
    try clear hfz6_2
    try clear hfz6_3
    try clear hfz6_4
    try clear hfz6_5
    try clear hfz6_6
    try clear hfz6_7
    try clear hfz6_8
    try clear hfz6_9
    try clear hfz9_0
    try clear hfz9_1
    try clear hfz9_2
    try clear hfz9_3
    try clear hfz9_4
    try clear hfz9_5
    try clear hfz9_6
    try clear hfz9_7
    try clear hfz9_8
    try clear hfz9_9
    obtain ⟨kq, x51_3, rfl, HA, HJ3, HO_5, HO_7, HO_160008, HO_160009, HO_160015, HO_161008, HO_161009, BK159, BK160, HB⟩ := hcut
    cases kq with
    | zero => exact absurd HA.out (by simp [duffelref24_Central.j0])
    | succ kj3 =>
      have H := HA.out
      clear HA
      simp only [duffelref24_Central.j0] at H
      by_cases c22 : x51_3 = true
      · subst c22
        have H1 : (some (([] : List Int), 18)) = some (r1, r2) := by rw [if_pos rfl] at H; exact H
        clear H
        have H := H1
        clear H1
        simp only [Option.some.injEq, Prod.mk.injEq] at H
        obtain ⟨rfl, rfl⟩ := H
        go_wp2
        go_ret2
        exact ⟨_, by first | rfl | (simp [errW_none, errW_some] <;> rfl) | (simp [*, errW_none, errW_some] <;> rfl), by first | exact Kd.R_nil _ _ _ _ _ | exact Kd.N_nil _ _ _ _ _ | exact Kd.V_nil _ _ _ _ _ | exact Kd.Q_nil _ _ _ _ _ | exact Kd.S_nil _ _ _ _ _, by repeat (first | (with_reducible first | exact HB.out | apply below_alloc | apply pw_below_drewN | apply below_drew1 | refine below_set ?_ GE159.out | refine below_set ?_ GE160.out) | exact HB.out)⟩
      · replace c22 := Bool.eq_false_iff.mpr c22
        subst c22
        have H1 : ((duffelref24_words.f kj3 (([33639248] : List Int))).bind fun t178 => ((duffelref24_words.f kj3 (([a0_5, a0_6, a0_7] : List Int))).bind fun t184 => ((duffelref24_words.f kj3 (([a0_13, a0_14] : List Int))).bind fun t190 => ((duffelref24_join.f kj3 (([t178, t164, t184, t171, t190, l0_8, l0_9, l0_15] : List (List Int)))).bind fun t196 => (some (t196, 0)))))) = some (r1, r2) := by rw [if_neg (show ¬ (false = true) by decide)] at H; exact H
        clear H
        have H := H1
        clear H1
        obtain ⟨y175, hy175⟩ : ∃ y_ : List Int, y_ = (([33639248] : List Int)) := ⟨_, rfl⟩
        replace H : ((duffelref24_words.f kj3 y175).bind fun t178 => ((duffelref24_words.f kj3 (([a0_5, a0_6, a0_7] : List Int))).bind fun t184 => ((duffelref24_words.f kj3 (([a0_13, a0_14] : List Int))).bind fun t190 => ((duffelref24_join.f kj3 (([t178, t164, t184, t171, t190, l0_8, l0_9, l0_15] : List (List Int)))).bind fun t196 => (some (t196, 0)))))) = some (r1, r2) := by first | (rw [hy175]; with_reducible exact H) | (have H2_ := (Option.bind_some _ _).symm.trans H; rw [hy175]; with_reducible exact H2_) | (have H2_ := (Option.bind_some _ _).symm.trans H; with_reducible exact H2_) | with_reducible exact H | (rw [hy175]; exact H) | exact H
        have Ny175 := Aside0.mk hy175
        clear hy175
        replace H := Option.bind_eq_some_iff.mp H
        obtain ⟨t178, A230, H⟩ := H
        replace H : ((duffelref24_words.f kj3 (([a0_5, a0_6, a0_7] : List Int))).bind fun t184 => ((duffelref24_words.f kj3 (([a0_13, a0_14] : List Int))).bind fun t190 => ((duffelref24_join.f kj3 (([t178, t164, t184, t171, t190, l0_8, l0_9, l0_15] : List (List Int)))).bind fun t196 => (some (t196, 0))))) = some (r1, r2) := H
        have A23 := Aside0.mk A230
        clear A230
        obtain ⟨y181, hy181⟩ : ∃ y_ : List Int, y_ = (([a0_5, a0_6, a0_7] : List Int)) := ⟨_, rfl⟩
        replace H : ((duffelref24_words.f kj3 y181).bind fun t184 => ((duffelref24_words.f kj3 (([a0_13, a0_14] : List Int))).bind fun t190 => ((duffelref24_join.f kj3 (([t178, t164, t184, t171, t190, l0_8, l0_9, l0_15] : List (List Int)))).bind fun t196 => (some (t196, 0))))) = some (r1, r2) := by first | (rw [hy181]; with_reducible exact H) | (have H2_ := (Option.bind_some _ _).symm.trans H; rw [hy181]; with_reducible exact H2_) | (have H2_ := (Option.bind_some _ _).symm.trans H; with_reducible exact H2_) | with_reducible exact H | (rw [hy181]; exact H) | exact H
        have Ny181 := Aside0.mk hy181
        clear hy181
        replace H := Option.bind_eq_some_iff.mp H
        obtain ⟨t184, A240, H⟩ := H
        replace H : ((duffelref24_words.f kj3 (([a0_13, a0_14] : List Int))).bind fun t190 => ((duffelref24_join.f kj3 (([t178, t164, t184, t171, t190, l0_8, l0_9, l0_15] : List (List Int)))).bind fun t196 => (some (t196, 0)))) = some (r1, r2) := H
        have A24 := Aside0.mk A240
        clear A240
        obtain ⟨y187, hy187⟩ : ∃ y_ : List Int, y_ = (([a0_13, a0_14] : List Int)) := ⟨_, rfl⟩
        replace H : ((duffelref24_words.f kj3 y187).bind fun t190 => ((duffelref24_join.f kj3 (([t178, t164, t184, t171, t190, l0_8, l0_9, l0_15] : List (List Int)))).bind fun t196 => (some (t196, 0)))) = some (r1, r2) := by first | (rw [hy187]; with_reducible exact H) | (have H2_ := (Option.bind_some _ _).symm.trans H; rw [hy187]; with_reducible exact H2_) | (have H2_ := (Option.bind_some _ _).symm.trans H; with_reducible exact H2_) | with_reducible exact H | (rw [hy187]; exact H) | exact H
        have Ny187 := Aside0.mk hy187
        clear hy187
        replace H := Option.bind_eq_some_iff.mp H
        obtain ⟨t190, A250, H⟩ := H
        replace H : ((duffelref24_join.f kj3 (([t178, t164, t184, t171, t190, l0_8, l0_9, l0_15] : List (List Int)))).bind fun t196 => (some (t196, 0))) = some (r1, r2) := H
        have A25 := Aside0.mk A250
        clear A250
        obtain ⟨y193, hy193⟩ : ∃ y_ : List (List Int), y_ = (([t178, t164, t184, t171, t190, l0_8, l0_9, l0_15] : List (List Int))) := ⟨_, rfl⟩
        replace H : ((duffelref24_join.f kj3 y193).bind fun t196 => (some (t196, 0))) = some (r1, r2) := by first | (rw [hy193]; with_reducible exact H) | (have H2_ := (Option.bind_some _ _).symm.trans H; rw [hy193]; with_reducible exact H2_) | (have H2_ := (Option.bind_some _ _).symm.trans H; with_reducible exact H2_) | with_reducible exact H | (rw [hy193]; exact H) | exact H
        have Ny193 := Aside0.mk hy193
        clear hy193
        replace H := Option.bind_eq_some_iff.mp H
        obtain ⟨t196, A260, H⟩ := H
        replace H : (some (t196, 0)) = some (r1, r2) := H
        have A26 := Aside0.mk A260
        clear A260
        simp only [Option.some.injEq, Prod.mk.injEq] at H
        obtain ⟨rfl, rfl⟩ := H
        try go_wp2
        have n0_ := Aside0.mk (Kd.R_drew HO_5.out)
        have n1_ := Aside0.mk (Kd.R_drew HO_7.out)
        have n2_ := Aside0.mk (Kd.V_drew HO_160008.out)
        have n3_ := Aside0.mk (Kd.V_drew HO_160009.out)
        have n4_ := Aside0.mk (Kd.V_drew HO_160015.out)
        have n5_ := Aside0.mk (Kd.V_drew HO_161008.out)
        have n6_ := Aside0.mk (Kd.V_drew HO_161009.out)
        have n7_ := Aside0.mk (blk_drew BK159.out)
        have n8_ := Aside0.mk (blk_drew BK160.out)
        have n9_ := Aside0.mk (below_drew1 HB.out)
        clear HO_5
        clear HO_7
        clear HO_160008
        clear HO_160009
        clear HO_160015
        clear HO_161008
        clear HO_161009
        clear BK159
        clear BK160
        clear HB
        have HO_5 := n0_
        have HO_7 := n1_
        have HO_160008 := n2_
        have HO_160009 := n3_
        have HO_160015 := n4_
        have HO_161008 := n5_
        have HO_161009 := n6_
        have BK159 := n7_
        have BK160 := n8_
        have HB := n9_
        clear n0_ n1_ n2_ n3_ n4_ n5_ n6_ n7_ n8_ n9_
        refine start_ (n := 28) (S := fun w' => True) (ds := []) #[false, false, false, false, false, false, false, false, false, false, false, false, false, false, false, false, false, false, false, false, false, false, false, false, false, false, false, false] (by kernel_rfl) rfl rfl trivial (fun hHeld => ?_); refine with_tabW duffelref24_Central.tab6 duffelref24_Central.bits6 (fun HT_ HW_ => ?_)
        generalize wc.drew = w27 at HO_5 HO_7 HO_160008 HO_160009 HO_160015 HO_161008 HO_161009 BK159 BK160 HB hHeld ⊢
        refine pure_ (i := 2) (N := some 54) (v := ?_) (a' := ?_) #[false, false, true, false, false, false, false, false, false, false, false, false, false, false, false, false, false, false, false, false, false, false, false, false, false, false, false, false] rfl rfl (any_of HT_.out (by kernel_rfl)) (fun _ _ _ h => h) (Or.inl ⟨by rfl, ?_⟩) ?_ ?_
        rotate_left
        · intro w'
          go_simp
          with_reducible rfl
        rotate_left
        · simp only [Act.put, List.setIfInBounds_toArray, List.set_cons_zero, List.set_cons_succ, i64_w, i32_w]
          rfl
        refine pure_ (i := 3) (N := some 55) (v := ?_) (a' := ?_) #[false, false, true, true, false, false, false, false, false, false, false, false, false, false, false, false, false, false, false, false, false, false, false, false, false, false, false, false] rfl rfl (any_of HT_.out (by kernel_rfl)) (fun _ _ _ h => h) (Or.inl ⟨by rfl, ?_⟩) ?_ ?_
        rotate_left
        · intro w'
          go_simp
          with_reducible rfl
        rotate_left
        · simp only [Act.put, List.setIfInBounds_toArray, List.set_cons_zero, List.set_cons_succ, i64_w, i32_w]
          rfl
        refine pure_ (i := 5) (N := some 57) (v := ?_) (a' := ?_) #[false, false, true, true, false, true, false, false, false, false, false, false, false, false, false, false, false, false, false, false, false, false, false, false, false, false, false, false] rfl rfl (any_of HT_.out (by kernel_rfl)) (fun _ _ _ h => h) (Or.inl ⟨by rfl, ?_⟩) ?_ ?_
        rotate_left
        · intro w'
          go_simp
          with_reducible rfl
        rotate_left
        · simp only [Act.put, List.setIfInBounds_toArray, List.set_cons_zero, List.set_cons_succ, i64_w, i32_w]
          rfl
        refine pure_ (i := 7) (N := some 59) (v := ?_) (a' := ?_) #[false, false, true, true, false, true, false, true, false, false, false, false, false, false, false, false, false, false, false, false, false, false, false, false, false, false, false, false] rfl rfl (any_of HT_.out (by kernel_rfl)) (fun _ _ _ h => h) (Or.inl ⟨by rfl, ?_⟩) ?_ ?_
        rotate_left
        · intro w'
          go_simp
          with_reducible rfl
        rotate_left
        · simp only [Act.put, List.setIfInBounds_toArray, List.set_cons_zero, List.set_cons_succ, i64_w, i32_w]
          rfl
        refine pure_ (i := 11) (N := some 63) (v := ?_) (a' := ?_) #[false, false, true, true, false, true, false, true, false, false, false, true, false, false, false, false, false, false, false, false, false, false, false, false, false, false, false, false] rfl rfl (any_of HT_.out (by kernel_rfl)) (fun _ _ _ h => h) (Or.inl ⟨by rfl, ?_⟩) ?_ ?_
        rotate_left
        · intro w'
          go_simp
          with_reducible rfl
        rotate_left
        · simp only [Act.put, List.setIfInBounds_toArray, List.set_cons_zero, List.set_cons_succ, i64_w, i32_w]
          rfl
        refine pure_ (i := 12) (N := some 64) (v := ?_) (a' := ?_) #[false, false, true, true, false, true, false, true, false, false, false, true, true, false, false, false, false, false, false, false, false, false, false, false, false, false, false, false] rfl rfl (any_of HT_.out (by kernel_rfl)) (fun _ _ _ h => h) (Or.inl ⟨by rfl, ?_⟩) ?_ ?_
        rotate_left
        · intro w'
          go_simp
          with_reducible rfl
        rotate_left
        · simp only [Act.put, List.setIfInBounds_toArray, List.set_cons_zero, List.set_cons_succ, i64_w, i32_w]
          rfl
        refine pure_ (i := 14) (N := some 66) (v := ?_) (a' := ?_) #[false, false, true, true, false, true, false, true, false, false, false, true, true, false, true, false, false, false, false, false, false, false, false, false, false, false, false, false] rfl rfl (any_of HT_.out (by kernel_rfl)) (fun _ _ _ h => h) (Or.inl ⟨by rfl, ?_⟩) ?_ ?_
        rotate_left
        · intro w'
          go_simp
          with_reducible rfl
        rotate_left
        · simp only [Act.put, List.setIfInBounds_toArray, List.set_cons_zero, List.set_cons_succ, i64_w, i32_w]
          rfl
        refine pure_ (i := 18) (N := some 70) (v := ?_) (a' := ?_) #[false, false, true, true, false, true, false, true, false, false, false, true, true, false, true, false, false, false, true, false, false, false, false, false, false, false, false, false] rfl rfl (any_of HT_.out (by kernel_rfl)) (fun _ _ _ h => h) (Or.inl ⟨by rfl, ?_⟩) ?_ ?_
        rotate_left
        · intro w'
          go_simp
          with_reducible rfl
        rotate_left
        · simp only [Act.put, List.setIfInBounds_toArray, List.set_cons_zero, List.set_cons_succ, i64_w, i32_w]
          rfl
        refine pure_ (i := 20) (N := some 72) (v := ?_) (a' := ?_) #[false, false, true, true, false, true, false, true, false, false, false, true, true, false, true, false, false, false, true, false, true, false, false, false, false, false, false, false] rfl rfl (any_of HT_.out (by kernel_rfl)) (fun _ _ _ h => h) (Or.inl ⟨by rfl, ?_⟩) ?_ ?_
        rotate_left
        · intro w'
          go_simp
          with_reducible rfl
        rotate_left
        · simp only [Act.put, List.setIfInBounds_toArray, List.set_cons_zero, List.set_cons_succ, i64_w, i32_w]
          rfl
        refine pure_ (i := 22) (N := some 74) (v := ?_) (a' := ?_) #[false, false, true, true, false, true, false, true, false, false, false, true, true, false, true, false, false, false, true, false, true, false, true, false, false, false, false, false] rfl rfl (any_of HT_.out (by kernel_rfl)) (fun _ _ _ h => h) (Or.inl ⟨by rfl, ?_⟩) ?_ ?_
        rotate_left
        · intro w'
          go_simp
          with_reducible rfl
        rotate_left
        · simp only [Act.put, List.setIfInBounds_toArray, List.set_cons_zero, List.set_cons_succ, i64_w, i32_w]
          rfl
        refine inv_at [0, 1, 4, 6, 8, 9, 10, 13, 15, 16, 17, 19, 21, 23, 24, 25, 26, 27] (fun a0_ b a w' => ∃ (v176 : Value) (v179 : Value) (v182 : Value) (v185 : Value) (v188 : Value) (v191 : Value) (v194 : Value) (v197 : Value) (m26_ : Value), a = putSel a0_ b [(0, 52, v176), (1, 53, v179), (4, 56, .int .u32 a0_5), (6, 58, .int .u32 a0_6), (8, 60, .int .u32 a0_7), (9, 61, v182), (10, 62, v185), (13, 65, .int .u32 a0_13), (15, 67, .int .u32 a0_14), (16, 68, v188), (17, 69, v191), (19, 71, .slice A0_8 l0_8.length c0_8), (21, 73, .slice A0_9 l0_9.length c0_9), (23, 75, .slice A0_15 l0_15.length c0_15), (24, 76, v194), (25, 77, v197), (26, 2, m26_), (27, 3, .int .i64 0)] ∧ (b 24 = false → Kd.V (Kd.int .u8) 5 w' w.heap.size (fun k_ => ((P0_8_ k_ ∨ P0_9_ k_ ∨ P0_15_ k_) ∨ w.heap.size ≤ k_) ∧ some k_ ≠ (v166 : Value).ownBlock ∧ some k_ ≠ (v173 : Value).ownBlock ∧ k_ ≠ gb159 ∧ k_ ≠ gb160) (.slice A0_8 l0_8.length c0_8) l0_8) ∧ (b 24 = false → Kd.V (Kd.int .u8) 5 w' w.heap.size (fun k_ => ((P0_8_ k_ ∨ P0_9_ k_ ∨ P0_15_ k_) ∨ w.heap.size ≤ k_) ∧ some k_ ≠ (v166 : Value).ownBlock ∧ some k_ ≠ (v173 : Value).ownBlock ∧ k_ ≠ gb159 ∧ k_ ≠ gb160) (.slice A0_9 l0_9.length c0_9) l0_9) ∧ (b 24 = false → Kd.V (Kd.int .u8) 5 w' w.heap.size (fun k_ => ((P0_8_ k_ ∨ P0_9_ k_ ∨ P0_15_ k_) ∨ w.heap.size ≤ k_) ∧ some k_ ≠ (v166 : Value).ownBlock ∧ some k_ ≠ (v173 : Value).ownBlock ∧ k_ ≠ gb159 ∧ k_ ≠ gb160) (.slice A0_15 l0_15.length c0_15) l0_15) ∧ (b 24 = false → Kd.V (Kd.int .u8) 5 w' w.heap.size (fun k_ => ((P0_8_ k_ ∨ P0_9_ k_ ∨ P0_15_ k_) ∨ w.heap.size ≤ k_) ∧ some k_ ≠ (v166 : Value).ownBlock ∧ some k_ ≠ (v173 : Value).ownBlock ∧ k_ ≠ gb159 ∧ k_ ≠ gb160) (.slice A0_8 l0_8.length c0_8) l0_8) ∧ (b 24 = false → Kd.V (Kd.int .u8) 5 w' w.heap.size (fun k_ => ((P0_8_ k_ ∨ P0_9_ k_ ∨ P0_15_ k_) ∨ w.heap.size ≤ k_) ∧ some k_ ≠ (v166 : Value).ownBlock ∧ some k_ ≠ (v173 : Value).ownBlock ∧ k_ ≠ gb159 ∧ k_ ≠ gb160) (.slice A0_9 l0_9.length c0_9) l0_9) ∧ (b 24 = false → Kd.R (Kd.int .u8) 5 w' w.heap.size (fun k_ => (w.heap.size ≤ k_) ∧ some k_ ≠ (v173 : Value).ownBlock) v166 t164) ∧ (b 24 = false → Kd.R (Kd.int .u8) 5 w' w.heap.size (fun k_ => (w.heap.size ≤ k_) ∧ some k_ ≠ (v166 : Value).ownBlock) v173 t171) ∧ (w'.heap[gb159]? = some (.cells #[.int .i64 a0_0, .int .i64 a0_1, .int .i64 a0_2, .int .i64 a0_3, .int .i64 a0_4, .int .u32 a0_5, .int .u32 a0_6, .int .u32 a0_7, .slice A0_8 l0_8.length c0_8, .slice A0_9 l0_9.length c0_9, .int .i64 a0_10, .int .i64 a0_11, .int .i64 a0_12, .int .u32 a0_13, .int .u32 a0_14, .slice A0_15 l0_15.length c0_15] 39 (0, 0))) ∧ (w'.heap[gb160]? = some (.cells #[.int .i64 a0_0, .int .i64 a0_1, .int .i64 a0_2, .int .i64 a0_3, .int .i64 a0_4, .int .u32 a0_5, .int .u32 a0_6, .int .u32 a0_7, .slice A0_8 l0_8.length c0_8, .slice A0_9 l0_9.length c0_9] 37 (0, 0))) ∧ (Below w.heap.size w w') ∧ (b 0 = true → Kd.R (Kd.int .u32) 27 w' w.heap.size (fun k_ => (w.heap.size ≤ k_)) v176 y175) ∧ (b 1 = true → b 24 = false → Kd.R (Kd.int .u8) 5 w' w.heap.size (fun k_ => (w.heap.size ≤ k_) ∧ some k_ ≠ (v166 : Value).ownBlock ∧ some k_ ≠ (v173 : Value).ownBlock) v179 t178) ∧ (b 9 = true → Kd.R (Kd.int .u32) 27 w' w.heap.size (fun k_ => (w.heap.size ≤ k_)) v182 y181) ∧ (b 10 = true → b 24 = false → Kd.R (Kd.int .u8) 5 w' w.heap.size (fun k_ => (w.heap.size ≤ k_) ∧ some k_ ≠ (v166 : Value).ownBlock ∧ some k_ ≠ (v173 : Value).ownBlock) v185 t184) ∧ (b 16 = true → Kd.R (Kd.int .u32) 27 w' w.heap.size (fun k_ => (w.heap.size ≤ k_)) v188 y187) ∧ (b 17 = true → b 24 = false → Kd.R (Kd.int .u8) 5 w' w.heap.size (fun k_ => (w.heap.size ≤ k_) ∧ some k_ ≠ (v166 : Value).ownBlock ∧ some k_ ≠ (v173 : Value).ownBlock) v191 t190) ∧ (b 24 = true → Kd.N (Kd.slice 5 (Kd.int .u8)) 22 w' w.heap.size (fun k_ => ((P0_8_ k_ ∨ P0_9_ k_ ∨ P0_15_ k_) ∨ w.heap.size ≤ k_) ∧ k_ ≠ gb159 ∧ k_ ≠ gb160) v194 y193) ∧ (b 24 = true → Kd.V (Kd.int .u8) 5 w' w.heap.size (fun k_ => ((P0_8_ k_ ∨ P0_9_ k_ ∨ P0_15_ k_) ∨ w.heap.size ≤ k_) ∧ k_ ≠ gb159 ∧ k_ ≠ gb160) (.slice A0_8 l0_8.length c0_8) l0_8) ∧ (b 24 = true → Kd.V (Kd.int .u8) 5 w' w.heap.size (fun k_ => ((P0_8_ k_ ∨ P0_9_ k_ ∨ P0_15_ k_) ∨ w.heap.size ≤ k_) ∧ k_ ≠ gb159 ∧ k_ ≠ gb160) (.slice A0_9 l0_9.length c0_9) l0_9) ∧ (b 24 = true → Kd.V (Kd.int .u8) 5 w' w.heap.size (fun k_ => ((P0_8_ k_ ∨ P0_9_ k_ ∨ P0_15_ k_) ∨ w.heap.size ≤ k_) ∧ k_ ≠ gb159 ∧ k_ ≠ gb160) (.slice A0_15 l0_15.length c0_15) l0_15) ∧ (b 24 = true → Kd.V (Kd.int .u8) 5 w' w.heap.size (fun k_ => ((P0_8_ k_ ∨ P0_9_ k_ ∨ P0_15_ k_) ∨ w.heap.size ≤ k_) ∧ k_ ≠ gb159 ∧ k_ ≠ gb160) (.slice A0_8 l0_8.length c0_8) l0_8) ∧ (b 24 = true → Kd.V (Kd.int .u8) 5 w' w.heap.size (fun k_ => ((P0_8_ k_ ∨ P0_9_ k_ ∨ P0_15_ k_) ∨ w.heap.size ≤ k_) ∧ k_ ≠ gb159 ∧ k_ ≠ gb160) (.slice A0_9 l0_9.length c0_9) l0_9) ∧ (b 25 = true → Kd.R (Kd.int .u8) 5 w' w.heap.size (fun k_ => (w.heap.size ≤ k_)) v197 t196) ∧ (b 26 = true → (m26_ : Value) = v197)) HT_.out HW_.out (by kernel_rfl) (by kernel_rfl) ?_ ?_ ?_
        · exact ⟨.bool false, .bool false, .bool false, .bool false, .bool false, .bool false, .bool false, .bool false, .bool false, by simp only [putSel, Bool.false_eq_true, if_false], fun _ => HO_160008.out, fun _ => HO_160009.out, fun _ => HO_160015.out, fun _ => HO_161008.out, fun _ => HO_161009.out, fun _ => HO_5.out, fun _ => HO_7.out, BK159.out, BK160.out, HB.out, fun h_ => absurd h_ (by decide), fun h_ => absurd h_ (by decide), fun h_ => absurd h_ (by decide), fun h_ => absurd h_ (by decide), fun h_ => absurd h_ (by decide), fun h_ => absurd h_ (by decide), fun h_ => absurd h_ (by decide), fun h_ => absurd h_ (by decide), fun h_ => absurd h_ (by decide), fun h_ => absurd h_ (by decide), fun h_ => absurd h_ (by decide), fun h_ => absurd h_ (by decide), fun h_ => absurd h_ (by decide), fun h_ => absurd h_ (by decide)⟩
        · skip
          clear BK159 BK160 HB HO_160008 HO_160009 HO_160015 HO_161008 HO_161009 HO_5 HO_7
          refine steps_cons ?_ ?_
          · rintro b a w' ⟨v176, v179, v182, v185, v188, v191, v194, v197, m26_, ha, Q_HO_160008, Q_HO_160009, Q_HO_160015, Q_HO_161008, Q_HO_161009, Q_HO_5, Q_HO_7, Q_BK159, Q_BK160, Q_HB, Q_HO177, Q_HO180, Q_HO183, Q_HO186, Q_HO189, Q_HO192, Q_HO195, Q_HO_160008_e24, Q_HO_160009_e24, Q_HO_160015_e24, Q_HO_161008_e24, Q_HO_161009_e24, Q_HO198, Q_X26_⟩ hb_ hon hoff
            refine ⟨_, rfl, fun K hK => ?_⟩
            replace ha := Aside0.mk ha
            have HO_160008 := Aside0.mk (Q_HO_160008 (hoff 24 (by kernel_rfl)))
            have HO_160009 := Aside0.mk (Q_HO_160009 (hoff 24 (by kernel_rfl)))
            have HO_160015 := Aside0.mk (Q_HO_160015 (hoff 24 (by kernel_rfl)))
            have HO_161008 := Aside0.mk (Q_HO_161008 (hoff 24 (by kernel_rfl)))
            have HO_161009 := Aside0.mk (Q_HO_161009 (hoff 24 (by kernel_rfl)))
            have HO_5 := Aside0.mk (Q_HO_5 (hoff 24 (by kernel_rfl)))
            have HO_7 := Aside0.mk (Q_HO_7 (hoff 24 (by kernel_rfl)))
            have BK159 := Aside0.mk Q_BK159
            have BK160 := Aside0.mk Q_BK160
            have HB := Aside0.mk Q_HB
            refine Kd.R_lit_step (Kd.int .u32) _ 27 ?hg (N := 52) ?hd (xs := ([33639248] : List Int)) (inner := [.int .u32 33639248]) (ok := fun _ => True) (okp := fun _ => True) ?hr ?hp (fun _ hk => hk) trivial (Below.refl _ _) (Nat.le_refl _) (by simp) ?_; (case hd => rfl); (case hg => rfl); (case hr => first | (go_simp; done) | (go_simp; rfl)); (case hp => exact (Reps.one (show Kd.M (Kd.int .u32) _ _ _ 33639248 [.int .u32 33639248] from rfl) (Reps.none _ _)))
            intro v176 w28 ho29 hb hg_ hnew_
            clear hg_ hnew_
            (first | rw [← Ny175.out] at ho29 | (simp only [Int.reduceToNat] at ho29; rw [← Ny175.out] at ho29))
            have n0_ := Aside0.mk (Kd.R_below (by (with_reducible repeat (first | apply Kd.R_alloc | apply Kd.R_drewN | apply Kd.R_drew)); exact HO_5.out) hb)
            have n1_ := Aside0.mk (Kd.R_below (by (with_reducible repeat (first | apply Kd.R_alloc | apply Kd.R_drewN | apply Kd.R_drew)); exact HO_7.out) hb)
            have n2_ := Aside0.mk (Kd.V_elder' (by (with_reducible repeat (first | apply Kd.V_alloc | apply Kd.V_drewN | apply Kd.V_drew)); exact HO_160008.out) (Kd.R_base ho29) hb)
            have n3_ := Aside0.mk (Kd.V_elder' (by (with_reducible repeat (first | apply Kd.V_alloc | apply Kd.V_drewN | apply Kd.V_drew)); exact HO_160009.out) (Kd.R_base ho29) hb)
            have n4_ := Aside0.mk (Kd.V_elder' (by (with_reducible repeat (first | apply Kd.V_alloc | apply Kd.V_drewN | apply Kd.V_drew)); exact HO_160015.out) (Kd.R_base ho29) hb)
            have n5_ := Aside0.mk (Kd.V_elder' (by (with_reducible repeat (first | apply Kd.V_alloc | apply Kd.V_drewN | apply Kd.V_drew)); exact HO_161008.out) (Kd.R_base ho29) hb)
            have n6_ := Aside0.mk (Kd.V_elder' (by (with_reducible repeat (first | apply Kd.V_alloc | apply Kd.V_drewN | apply Kd.V_drew)); exact HO_161009.out) (Kd.R_base ho29) hb)
            have n7_ := Aside0.mk (Kd.R_lower (Kd.R_newM (M := fun k_ => (w.heap.size ≤ k_)) ho29 (below_size (by repeat (first | (with_reducible first | exact HB.out | apply below_alloc | apply pw_below_drewN | apply below_drew1 | refine below_set ?_ GE159.out | refine below_set ?_ GE160.out) | exact HB.out))) (fun k_ h_ => h_)) (below_size (by repeat (first | (with_reducible first | exact HB.out | apply below_alloc | apply pw_below_drewN | apply below_drew1 | refine below_set ?_ GE159.out | refine below_set ?_ GE160.out) | exact HB.out))))
            have n8_ := Aside0.mk (blk_below (g := gb159) (o := .cells #[.int .i64 a0_0, .int .i64 a0_1, .int .i64 a0_2, .int .i64 a0_3, .int .i64 a0_4, .int .u32 a0_5, .int .u32 a0_6, .int .u32 a0_7, .slice A0_8 l0_8.length c0_8, .slice A0_9 l0_9.length c0_9, .int .i64 a0_10, .int .i64 a0_11, .int .i64 a0_12, .int .u32 a0_13, .int .u32 a0_14, .slice A0_15 l0_15.length c0_15] 39 (0, 0)) (by (with_reducible repeat (first | refine blk_drewN ?_ _ | refine blk_drew ?_ | refine blk_alloc ?_ _)); exact BK159.out) hb)
            have n9_ := Aside0.mk (blk_below (g := gb160) (o := .cells #[.int .i64 a0_0, .int .i64 a0_1, .int .i64 a0_2, .int .i64 a0_3, .int .i64 a0_4, .int .u32 a0_5, .int .u32 a0_6, .int .u32 a0_7, .slice A0_8 l0_8.length c0_8, .slice A0_9 l0_9.length c0_9] 37 (0, 0)) (by (with_reducible repeat (first | refine blk_drewN ?_ _ | refine blk_drew ?_ | refine blk_alloc ?_ _)); exact BK160.out) hb)
            have n10_ := Aside0.mk (below_step (by repeat (first | (with_reducible first | exact HB.out | apply below_alloc | apply pw_below_drewN | apply below_drew1 | refine below_set ?_ GE159.out | refine below_set ?_ GE160.out) | exact HB.out)) hb)
            have z_HO183 := fun (h0_ : b 9 = true) => (show Kd.R (Kd.int .u32) 27 w28 w.heap.size (fun k_ => (w.heap.size ≤ k_)) v182 y181 from by first | exact (Kd.R_elder' (by (with_reducible repeat (first | apply Kd.R_alloc | apply Kd.R_drewN | apply Kd.R_drew)); exact (Q_HO183 h0_)) (Kd.R_base ho29) hb) | exact Kd.R_mono (Kd.R_elder' (by (with_reducible repeat (first | apply Kd.R_alloc | apply Kd.R_drewN | apply Kd.R_drew)); exact (Q_HO183 h0_)) (Kd.R_base ho29) hb) (fun _ h_ => by first | trivial | exact h_ | exact h_.1))
            have z_HO189 := fun (h0_ : b 16 = true) => (show Kd.R (Kd.int .u32) 27 w28 w.heap.size (fun k_ => (w.heap.size ≤ k_)) v188 y187 from by first | exact (Kd.R_elder' (by (with_reducible repeat (first | apply Kd.R_alloc | apply Kd.R_drewN | apply Kd.R_drew)); exact (Q_HO189 h0_)) (Kd.R_base ho29) hb) | exact Kd.R_mono (Kd.R_elder' (by (with_reducible repeat (first | apply Kd.R_alloc | apply Kd.R_drewN | apply Kd.R_drew)); exact (Q_HO189 h0_)) (Kd.R_base ho29) hb) (fun _ h_ => by first | trivial | exact h_ | exact h_.1))
            clear HO_5
            clear HO_7
            clear HO_160008
            clear HO_160009
            clear HO_160015
            clear HO_161008
            clear HO_161009
            clear BK159
            clear BK160
            clear HB
            have HO_5 := n0_
            have HO_7 := n1_
            have HO_160008 := n2_
            have HO_160009 := n3_
            have HO_160015 := n4_
            have HO_161008 := n5_
            have HO_161009 := n6_
            have HO177 := n7_
            have BK159 := n8_
            have BK160 := n9_
            have HB := n10_
            clear n0_ n1_ n2_ n3_ n4_ n5_ n6_ n7_ n8_ n9_ n10_
            clear hb ho29
            refine hK.out _ _ ⟨v176, v179, v182, v185, v188, v191, v194, v197, m26_, (by rw [ha.out]; exact putSel_upk 0 hb_ rfl rfl rfl), fun _ => (by (with_reducible repeat (first | apply Kd.V_alloc | apply Kd.V_drewN | apply Kd.V_drew)); exact Kd.V_mono HO_160008.out (fun _ hk => by first | exact ⟨hk.1.1, ⟨hk.2, ⟨hk.1.2.1, ⟨hk.1.2.2.1, ⟨hk.1.2.2.2.1, hk.1.2.2.2.2⟩⟩⟩⟩⟩ | simp_all)), fun _ => (by (with_reducible repeat (first | apply Kd.V_alloc | apply Kd.V_drewN | apply Kd.V_drew)); exact Kd.V_mono HO_160009.out (fun _ hk => by first | exact ⟨hk.1.1, ⟨hk.2, ⟨hk.1.2.1, ⟨hk.1.2.2.1, ⟨hk.1.2.2.2.1, hk.1.2.2.2.2⟩⟩⟩⟩⟩ | simp_all)), fun _ => (by (with_reducible repeat (first | apply Kd.V_alloc | apply Kd.V_drewN | apply Kd.V_drew)); exact Kd.V_mono HO_160015.out (fun _ hk => by first | exact ⟨hk.1.1, ⟨hk.2, ⟨hk.1.2.1, ⟨hk.1.2.2.1, ⟨hk.1.2.2.2.1, hk.1.2.2.2.2⟩⟩⟩⟩⟩ | simp_all)), fun _ => (by (with_reducible repeat (first | apply Kd.V_alloc | apply Kd.V_drewN | apply Kd.V_drew)); exact Kd.V_mono HO_161008.out (fun _ hk => by first | exact ⟨hk.1.1, ⟨hk.2, ⟨hk.1.2.1, ⟨hk.1.2.2.1, ⟨hk.1.2.2.2.1, hk.1.2.2.2.2⟩⟩⟩⟩⟩ | simp_all)), fun _ => (by (with_reducible repeat (first | apply Kd.V_alloc | apply Kd.V_drewN | apply Kd.V_drew)); exact Kd.V_mono HO_161009.out (fun _ hk => by first | exact ⟨hk.1.1, ⟨hk.2, ⟨hk.1.2.1, ⟨hk.1.2.2.1, ⟨hk.1.2.2.2.1, hk.1.2.2.2.2⟩⟩⟩⟩⟩ | simp_all)), fun _ => (by (with_reducible repeat (first | apply Kd.R_alloc | apply Kd.R_drewN | apply Kd.R_drew)); exact HO_5.out), fun _ => (by (with_reducible repeat (first | apply Kd.R_alloc | apply Kd.R_drewN | apply Kd.R_drew)); exact HO_7.out), (by (with_reducible repeat (first | refine blk_drewN ?_ _ | refine blk_drew ?_ | refine blk_alloc ?_ _)); exact BK159.out), (by (with_reducible repeat (first | refine blk_drewN ?_ _ | refine blk_drew ?_ | refine blk_alloc ?_ _)); exact BK160.out), (by repeat (first | (with_reducible first | exact HB.out | apply below_alloc | apply pw_below_drewN | apply below_drew1 | refine below_set ?_ GE159.out | refine below_set ?_ GE160.out) | exact HB.out)), fun _ => (by (with_reducible repeat (first | apply Kd.R_alloc | apply Kd.R_drewN | apply Kd.R_drew)); exact Kd.R_mono HO177.out (fun _ hk => hk.1)), fun h0_ _ => absurd ((hoff 1 (by kernel_rfl)).symm.trans h0_) (by decide), z_HO183, fun h0_ _ => absurd ((hoff 10 (by kernel_rfl)).symm.trans h0_) (by decide), z_HO189, fun h0_ _ => absurd ((hoff 17 (by kernel_rfl)).symm.trans h0_) (by decide), fun h0_ => absurd ((hoff 24 (by kernel_rfl)).symm.trans h0_) (by decide), fun h0_ => absurd ((hoff 24 (by kernel_rfl)).symm.trans h0_) (by decide), fun h0_ => absurd ((hoff 24 (by kernel_rfl)).symm.trans h0_) (by decide), fun h0_ => absurd ((hoff 24 (by kernel_rfl)).symm.trans h0_) (by decide), fun h0_ => absurd ((hoff 24 (by kernel_rfl)).symm.trans h0_) (by decide), fun h0_ => absurd ((hoff 24 (by kernel_rfl)).symm.trans h0_) (by decide), fun h0_ => absurd ((hoff 25 (by kernel_rfl)).symm.trans h0_) (by decide), fun h0_ => absurd ((hoff 26 (by kernel_rfl)).symm.trans h0_) (by decide)⟩
          refine steps_cons ?_ ?_
          · rintro b a w' ⟨v176, v179, v182, v185, v188, v191, v194, v197, m26_, ha, Q_HO_160008, Q_HO_160009, Q_HO_160015, Q_HO_161008, Q_HO_161009, Q_HO_5, Q_HO_7, Q_BK159, Q_BK160, Q_HB, Q_HO177, Q_HO180, Q_HO183, Q_HO186, Q_HO189, Q_HO192, Q_HO195, Q_HO_160008_e24, Q_HO_160009_e24, Q_HO_160015_e24, Q_HO_161008_e24, Q_HO_161009_e24, Q_HO198, Q_X26_⟩ hb_ hon hoff
            refine ⟨_, rfl, fun K hK => ?_⟩
            have e52 : a.tmps[52]? = some (v176) := by rw [ha]; exact putSel_on (e := (0, 52, v176)) 0 rfl rfl (hon 0 (by kernel_rfl)) rfl
            replace ha := Aside0.mk ha
            have HO_160008 := Aside0.mk (Q_HO_160008 (hoff 24 (by kernel_rfl)))
            have HO_160009 := Aside0.mk (Q_HO_160009 (hoff 24 (by kernel_rfl)))
            have HO_160015 := Aside0.mk (Q_HO_160015 (hoff 24 (by kernel_rfl)))
            have HO_161008 := Aside0.mk (Q_HO_161008 (hoff 24 (by kernel_rfl)))
            have HO_161009 := Aside0.mk (Q_HO_161009 (hoff 24 (by kernel_rfl)))
            have HO_5 := Aside0.mk (Q_HO_5 (hoff 24 (by kernel_rfl)))
            have HO_7 := Aside0.mk (Q_HO_7 (hoff 24 (by kernel_rfl)))
            have BK159 := Aside0.mk Q_BK159
            have BK160 := Aside0.mk Q_BK160
            have HB := Aside0.mk Q_HB
            have HO177 := Aside0.mk (Q_HO177 (hon 0 (by kernel_rfl)))
            obtain ⟨Ao31, co31, eo31⟩ := Kd.R_slice HO177.out
            (first | subst eo31 | (injection eo31 with f1_ f2_ f3_; have f4_ := f1_.symm; have f5_ := f3_.symm; clear f1_ f2_ f3_; subst f4_; subst f5_))
            refine goes_ Try.func51 (by kernel_rfl) rfl #[.slice Ao31 y175.length co31] (by rfl) rfl rfl (by first | (simp only [List.map_toArray, List.map_cons, List.map_nil, Act.eval, Array.getD_eq_getD_getElem?, Option.getD_some, e52]; done) | (simp only [List.map_toArray, List.map_cons, List.map_nil, Act.eval, Array.getD_eq_getD_getElem?, Option.getD_some, e52]; rfl)) ?_
            with_reducible refine (duffelref24_words.calls kj3 _ _ y175 t178 _ ?side1 ?side2 A23.out).mono ?_
            (case side1 => repeat (first | exact (Kd.R_reads' HO177.out).2.2 | (with_reducible refine Kd.C_alloc ?_ _) | (with_reducible refine Kd.C_drewN ?_ _) | (with_reducible refine Kd.C_drew ?_)))
            (case side2 => exact (Kd.R_reads' HO177.out).2.1)
            rintro e w32 ⟨v179, rfl, ho0, hb⟩
            refine ⟨_, rfl, ?_⟩
            have n0_ := Aside0.mk (Kd.R_elder' (by (with_reducible repeat (first | apply Kd.R_alloc | apply Kd.R_drewN | apply Kd.R_drew)); exact HO_5.out) (Kd.R_base ho0) hb)
            have n1_ := Aside0.mk (Kd.R_elder' (by (with_reducible repeat (first | apply Kd.R_alloc | apply Kd.R_drewN | apply Kd.R_drew)); exact HO_7.out) (Kd.R_base ho0) hb)
            have n2_ := Aside0.mk (Kd.V_elder' (by (with_reducible repeat (first | apply Kd.V_alloc | apply Kd.V_drewN | apply Kd.V_drew)); exact HO_160008.out) (Kd.R_base ho0) hb)
            have n3_ := Aside0.mk (Kd.V_elder' (by (with_reducible repeat (first | apply Kd.V_alloc | apply Kd.V_drewN | apply Kd.V_drew)); exact HO_160009.out) (Kd.R_base ho0) hb)
            have n4_ := Aside0.mk (Kd.V_elder' (by (with_reducible repeat (first | apply Kd.V_alloc | apply Kd.V_drewN | apply Kd.V_drew)); exact HO_160015.out) (Kd.R_base ho0) hb)
            have n5_ := Aside0.mk (Kd.V_elder' (by (with_reducible repeat (first | apply Kd.V_alloc | apply Kd.V_drewN | apply Kd.V_drew)); exact HO_161008.out) (Kd.R_base ho0) hb)
            have n6_ := Aside0.mk (Kd.V_elder' (by (with_reducible repeat (first | apply Kd.V_alloc | apply Kd.V_drewN | apply Kd.V_drew)); exact HO_161009.out) (Kd.R_base ho0) hb)
            have n7_ := Aside0.mk (Kd.R_below (by (with_reducible repeat (first | apply Kd.R_alloc | apply Kd.R_drewN | apply Kd.R_drew)); exact HO177.out) hb)
            have n8_ := Aside0.mk (Kd.R_lower (Kd.R_new' (Kd.R_new' (Kd.R_newM (M := fun k_ => (w.heap.size ≤ k_)) ho0 (below_size (by repeat (first | (with_reducible first | exact HB.out | apply below_alloc | apply pw_below_drewN | apply below_drew1 | refine below_set ?_ GE159.out | refine below_set ?_ GE160.out) | exact HB.out))) (fun k_ h_ => h_)) (Kd.R_lt (by (with_reducible repeat (first | apply Kd.R_alloc | apply Kd.R_drewN | apply Kd.R_drew)); exact HO_5.out))) (Kd.R_lt (by (with_reducible repeat (first | apply Kd.R_alloc | apply Kd.R_drewN | apply Kd.R_drew)); exact HO_7.out))) (below_size (by repeat (first | (with_reducible first | exact HB.out | apply below_alloc | apply pw_below_drewN | apply below_drew1 | refine below_set ?_ GE159.out | refine below_set ?_ GE160.out) | exact HB.out))))
            have n9_ := Aside0.mk (blk_below (g := gb159) (o := .cells #[.int .i64 a0_0, .int .i64 a0_1, .int .i64 a0_2, .int .i64 a0_3, .int .i64 a0_4, .int .u32 a0_5, .int .u32 a0_6, .int .u32 a0_7, .slice A0_8 l0_8.length c0_8, .slice A0_9 l0_9.length c0_9, .int .i64 a0_10, .int .i64 a0_11, .int .i64 a0_12, .int .u32 a0_13, .int .u32 a0_14, .slice A0_15 l0_15.length c0_15] 39 (0, 0)) (by (with_reducible repeat (first | refine blk_drewN ?_ _ | refine blk_drew ?_ | refine blk_alloc ?_ _)); exact BK159.out) hb)
            have n10_ := Aside0.mk (blk_below (g := gb160) (o := .cells #[.int .i64 a0_0, .int .i64 a0_1, .int .i64 a0_2, .int .i64 a0_3, .int .i64 a0_4, .int .u32 a0_5, .int .u32 a0_6, .int .u32 a0_7, .slice A0_8 l0_8.length c0_8, .slice A0_9 l0_9.length c0_9] 37 (0, 0)) (by (with_reducible repeat (first | refine blk_drewN ?_ _ | refine blk_drew ?_ | refine blk_alloc ?_ _)); exact BK160.out) hb)
            have n11_ := Aside0.mk (below_step (by repeat (first | (with_reducible first | exact HB.out | apply below_alloc | apply pw_below_drewN | apply below_drew1 | refine below_set ?_ GE159.out | refine below_set ?_ GE160.out) | exact HB.out)) hb)
            have z_HO183 := fun (h0_ : b 9 = true) => (show Kd.R (Kd.int .u32) 27 w32 w.heap.size (fun k_ => (w.heap.size ≤ k_)) v182 y181 from by first | exact (Kd.R_below (by (with_reducible repeat (first | apply Kd.R_alloc | apply Kd.R_drewN | apply Kd.R_drew)); exact (Q_HO183 h0_)) hb) | exact Kd.R_mono (Kd.R_below (by (with_reducible repeat (first | apply Kd.R_alloc | apply Kd.R_drewN | apply Kd.R_drew)); exact (Q_HO183 h0_)) hb) (fun _ h_ => by first | trivial | exact h_ | exact h_.1))
            have z_HO189 := fun (h0_ : b 16 = true) => (show Kd.R (Kd.int .u32) 27 w32 w.heap.size (fun k_ => (w.heap.size ≤ k_)) v188 y187 from by first | exact (Kd.R_below (by (with_reducible repeat (first | apply Kd.R_alloc | apply Kd.R_drewN | apply Kd.R_drew)); exact (Q_HO189 h0_)) hb) | exact Kd.R_mono (Kd.R_below (by (with_reducible repeat (first | apply Kd.R_alloc | apply Kd.R_drewN | apply Kd.R_drew)); exact (Q_HO189 h0_)) hb) (fun _ h_ => by first | trivial | exact h_ | exact h_.1))
            clear HO_5
            clear HO_7
            clear HO_160008
            clear HO_160009
            clear HO_160015
            clear HO_161008
            clear HO_161009
            clear HO177
            clear BK159
            clear BK160
            clear HB
            have HO_5 := n0_
            have HO_7 := n1_
            have HO_160008 := n2_
            have HO_160009 := n3_
            have HO_160015 := n4_
            have HO_161008 := n5_
            have HO_161009 := n6_
            have HO177 := n7_
            have HO180 := n8_
            have BK159 := n9_
            have BK160 := n10_
            have HB := n11_
            clear n0_ n1_ n2_ n3_ n4_ n5_ n6_ n7_ n8_ n9_ n10_ n11_
            (try clear hb)
            (try clear hb2)
            (try clear hk)
            (try clear hi)
            (try clear ho0)
            refine hK.out _ _ ⟨.slice Ao31 y175.length co31, v179, v182, v185, v188, v191, v194, v197, m26_, (by rw [ha.out]; exact putSel_upk 1 hb_ rfl rfl rfl), fun _ => (by (with_reducible repeat (first | apply Kd.V_alloc | apply Kd.V_drewN | apply Kd.V_drew)); exact Kd.V_mono HO_160008.out (fun _ hk => by first | exact ⟨hk.1.1, ⟨hk.1.2.1, ⟨hk.2, ⟨hk.1.2.2.1, ⟨hk.1.2.2.2.1, ⟨hk.1.2.2.2.2.1, hk.1.2.2.2.2.2⟩⟩⟩⟩⟩⟩ | simp_all)), fun _ => (by (with_reducible repeat (first | apply Kd.V_alloc | apply Kd.V_drewN | apply Kd.V_drew)); exact Kd.V_mono HO_160009.out (fun _ hk => by first | exact ⟨hk.1.1, ⟨hk.1.2.1, ⟨hk.2, ⟨hk.1.2.2.1, ⟨hk.1.2.2.2.1, ⟨hk.1.2.2.2.2.1, hk.1.2.2.2.2.2⟩⟩⟩⟩⟩⟩ | simp_all)), fun _ => (by (with_reducible repeat (first | apply Kd.V_alloc | apply Kd.V_drewN | apply Kd.V_drew)); exact Kd.V_mono HO_160015.out (fun _ hk => by first | exact ⟨hk.1.1, ⟨hk.1.2.1, ⟨hk.2, ⟨hk.1.2.2.1, ⟨hk.1.2.2.2.1, ⟨hk.1.2.2.2.2.1, hk.1.2.2.2.2.2⟩⟩⟩⟩⟩⟩ | simp_all)), fun _ => (by (with_reducible repeat (first | apply Kd.V_alloc | apply Kd.V_drewN | apply Kd.V_drew)); exact Kd.V_mono HO_161008.out (fun _ hk => by first | exact ⟨hk.1.1, ⟨hk.1.2.1, ⟨hk.2, ⟨hk.1.2.2.1, ⟨hk.1.2.2.2.1, ⟨hk.1.2.2.2.2.1, hk.1.2.2.2.2.2⟩⟩⟩⟩⟩⟩ | simp_all)), fun _ => (by (with_reducible repeat (first | apply Kd.V_alloc | apply Kd.V_drewN | apply Kd.V_drew)); exact Kd.V_mono HO_161009.out (fun _ hk => by first | exact ⟨hk.1.1, ⟨hk.1.2.1, ⟨hk.2, ⟨hk.1.2.2.1, ⟨hk.1.2.2.2.1, ⟨hk.1.2.2.2.2.1, hk.1.2.2.2.2.2⟩⟩⟩⟩⟩⟩ | simp_all)), fun _ => (by (with_reducible repeat (first | apply Kd.R_alloc | apply Kd.R_drewN | apply Kd.R_drew)); exact Kd.R_mono HO_5.out (fun _ hk => by first | exact ⟨hk.1.1, ⟨hk.2, hk.1.2⟩⟩ | simp_all)), fun _ => (by (with_reducible repeat (first | apply Kd.R_alloc | apply Kd.R_drewN | apply Kd.R_drew)); exact Kd.R_mono HO_7.out (fun _ hk => by first | exact ⟨hk.1.1, ⟨hk.2, hk.1.2⟩⟩ | simp_all)), (by (with_reducible repeat (first | refine blk_drewN ?_ _ | refine blk_drew ?_ | refine blk_alloc ?_ _)); exact BK159.out), (by (with_reducible repeat (first | refine blk_drewN ?_ _ | refine blk_drew ?_ | refine blk_alloc ?_ _)); exact BK160.out), (by repeat (first | (with_reducible first | exact HB.out | apply below_alloc | apply pw_below_drewN | apply below_drew1 | refine below_set ?_ GE159.out | refine below_set ?_ GE160.out) | exact HB.out)), fun _ => (by (with_reducible repeat (first | apply Kd.R_alloc | apply Kd.R_drewN | apply Kd.R_drew)); exact HO177.out), fun _ _ => (by (with_reducible repeat (first | apply Kd.R_alloc | apply Kd.R_drewN | apply Kd.R_drew)); exact Kd.R_mono HO180.out (fun _ hk => by first | exact ⟨hk.1.1.1, ⟨hk.1.2, hk.2⟩⟩ | simp_all)), z_HO183, fun h0_ _ => absurd ((hoff 10 (by kernel_rfl)).symm.trans h0_) (by decide), z_HO189, fun h0_ _ => absurd ((hoff 17 (by kernel_rfl)).symm.trans h0_) (by decide), fun h0_ => absurd ((hoff 24 (by kernel_rfl)).symm.trans h0_) (by decide), fun h0_ => absurd ((hoff 24 (by kernel_rfl)).symm.trans h0_) (by decide), fun h0_ => absurd ((hoff 24 (by kernel_rfl)).symm.trans h0_) (by decide), fun h0_ => absurd ((hoff 24 (by kernel_rfl)).symm.trans h0_) (by decide), fun h0_ => absurd ((hoff 24 (by kernel_rfl)).symm.trans h0_) (by decide), fun h0_ => absurd ((hoff 24 (by kernel_rfl)).symm.trans h0_) (by decide), fun h0_ => absurd ((hoff 25 (by kernel_rfl)).symm.trans h0_) (by decide), fun h0_ => absurd ((hoff 26 (by kernel_rfl)).symm.trans h0_) (by decide)⟩
          refine steps_cons ?_ ?_
          · rintro b a w' ⟨v176, v179, v182, v185, v188, v191, v194, v197, m26_, ha, Q_HO_160008, Q_HO_160009, Q_HO_160015, Q_HO_161008, Q_HO_161009, Q_HO_5, Q_HO_7, Q_BK159, Q_BK160, Q_HB, Q_HO177, Q_HO180, Q_HO183, Q_HO186, Q_HO189, Q_HO192, Q_HO195, Q_HO_160008_e24, Q_HO_160009_e24, Q_HO_160015_e24, Q_HO_161008_e24, Q_HO_161009_e24, Q_HO198, Q_X26_⟩ hb_ hon hoff
            refine ⟨_, rfl, fun K hK => ?_⟩
            have e55 : a.tmps[55]? = some (.pointer (some ⟨gb160, 5, none⟩)) := by rw [ha]; exact (putSel_off rfl).trans rfl
            replace ha := Aside0.mk ha
            have HO_160008 := Aside0.mk (Q_HO_160008 (hoff 24 (by kernel_rfl)))
            have HO_160009 := Aside0.mk (Q_HO_160009 (hoff 24 (by kernel_rfl)))
            have HO_160015 := Aside0.mk (Q_HO_160015 (hoff 24 (by kernel_rfl)))
            have HO_161008 := Aside0.mk (Q_HO_161008 (hoff 24 (by kernel_rfl)))
            have HO_161009 := Aside0.mk (Q_HO_161009 (hoff 24 (by kernel_rfl)))
            have HO_5 := Aside0.mk (Q_HO_5 (hoff 24 (by kernel_rfl)))
            have HO_7 := Aside0.mk (Q_HO_7 (hoff 24 (by kernel_rfl)))
            have BK159 := Aside0.mk Q_BK159
            have BK160 := Aside0.mk Q_BK160
            have HB := Aside0.mk Q_HB
            have hc0_ : w'.cell? ⟨gb160, 0, none⟩ = some (.int .i64 a0_0) := (blk_cell BK160.out 0).trans rfl
            have hc1_ : w'.cell? ⟨gb160, 1, none⟩ = some (.int .i64 a0_1) := (blk_cell BK160.out 1).trans rfl
            have hc2_ : w'.cell? ⟨gb160, 2, none⟩ = some (.int .i64 a0_2) := (blk_cell BK160.out 2).trans rfl
            have hc3_ : w'.cell? ⟨gb160, 3, none⟩ = some (.int .i64 a0_3) := (blk_cell BK160.out 3).trans rfl
            have hc4_ : w'.cell? ⟨gb160, 4, none⟩ = some (.int .i64 a0_4) := (blk_cell BK160.out 4).trans rfl
            have hc5_ : w'.cell? ⟨gb160, 5, none⟩ = some (.int .u32 a0_5) := (blk_cell BK160.out 5).trans rfl
            have hc6_ : w'.cell? ⟨gb160, 6, none⟩ = some (.int .u32 a0_6) := (blk_cell BK160.out 6).trans rfl
            have hc7_ : w'.cell? ⟨gb160, 7, none⟩ = some (.int .u32 a0_7) := (blk_cell BK160.out 7).trans rfl
            have hc8_ : w'.cell? ⟨gb160, 8, none⟩ = some (.slice A0_8 l0_8.length c0_8) := (blk_cell BK160.out 8).trans rfl
            have hc9_ : w'.cell? ⟨gb160, 9, none⟩ = some (.slice A0_9 l0_9.length c0_9) := (blk_cell BK160.out 9).trans rfl
            refine value_ (w1 := w') (v := .int .u32 a0_5) (by rfl) rfl ?_ ?_
            · go_simp
              (try simp only [i64_w])
              try rfl
            refine hK.out _ _ ⟨v176, v179, v182, v185, v188, v191, v194, v197, m26_, (by rw [ha.out]; exact putSel_upk 2 hb_ rfl rfl rfl), Q_HO_160008, Q_HO_160009, Q_HO_160015, Q_HO_161008, Q_HO_161009, Q_HO_5, Q_HO_7, Q_BK159, Q_BK160, Q_HB, Q_HO177, Q_HO180, fun h0_ => absurd ((hoff 9 (by kernel_rfl)).symm.trans h0_) (by decide), fun h0_ _ => absurd ((hoff 10 (by kernel_rfl)).symm.trans h0_) (by decide), Q_HO189, fun h0_ _ => absurd ((hoff 17 (by kernel_rfl)).symm.trans h0_) (by decide), fun h0_ => absurd ((hoff 24 (by kernel_rfl)).symm.trans h0_) (by decide), fun h0_ => absurd ((hoff 24 (by kernel_rfl)).symm.trans h0_) (by decide), fun h0_ => absurd ((hoff 24 (by kernel_rfl)).symm.trans h0_) (by decide), fun h0_ => absurd ((hoff 24 (by kernel_rfl)).symm.trans h0_) (by decide), fun h0_ => absurd ((hoff 24 (by kernel_rfl)).symm.trans h0_) (by decide), fun h0_ => absurd ((hoff 24 (by kernel_rfl)).symm.trans h0_) (by decide), fun h0_ => absurd ((hoff 25 (by kernel_rfl)).symm.trans h0_) (by decide), fun h0_ => absurd ((hoff 26 (by kernel_rfl)).symm.trans h0_) (by decide)⟩
          refine steps_cons ?_ ?_
          · rintro b a w' ⟨v176, v179, v182, v185, v188, v191, v194, v197, m26_, ha, Q_HO_160008, Q_HO_160009, Q_HO_160015, Q_HO_161008, Q_HO_161009, Q_HO_5, Q_HO_7, Q_BK159, Q_BK160, Q_HB, Q_HO177, Q_HO180, Q_HO183, Q_HO186, Q_HO189, Q_HO192, Q_HO195, Q_HO_160008_e24, Q_HO_160009_e24, Q_HO_160015_e24, Q_HO_161008_e24, Q_HO_161009_e24, Q_HO198, Q_X26_⟩ hb_ hon hoff
            refine ⟨_, rfl, fun K hK => ?_⟩
            have e57 : a.tmps[57]? = some (.pointer (some ⟨gb160, 6, none⟩)) := by rw [ha]; exact (putSel_off rfl).trans rfl
            replace ha := Aside0.mk ha
            have HO_160008 := Aside0.mk (Q_HO_160008 (hoff 24 (by kernel_rfl)))
            have HO_160009 := Aside0.mk (Q_HO_160009 (hoff 24 (by kernel_rfl)))
            have HO_160015 := Aside0.mk (Q_HO_160015 (hoff 24 (by kernel_rfl)))
            have HO_161008 := Aside0.mk (Q_HO_161008 (hoff 24 (by kernel_rfl)))
            have HO_161009 := Aside0.mk (Q_HO_161009 (hoff 24 (by kernel_rfl)))
            have HO_5 := Aside0.mk (Q_HO_5 (hoff 24 (by kernel_rfl)))
            have HO_7 := Aside0.mk (Q_HO_7 (hoff 24 (by kernel_rfl)))
            have BK159 := Aside0.mk Q_BK159
            have BK160 := Aside0.mk Q_BK160
            have HB := Aside0.mk Q_HB
            have hc0_ : w'.cell? ⟨gb160, 0, none⟩ = some (.int .i64 a0_0) := (blk_cell BK160.out 0).trans rfl
            have hc1_ : w'.cell? ⟨gb160, 1, none⟩ = some (.int .i64 a0_1) := (blk_cell BK160.out 1).trans rfl
            have hc2_ : w'.cell? ⟨gb160, 2, none⟩ = some (.int .i64 a0_2) := (blk_cell BK160.out 2).trans rfl
            have hc3_ : w'.cell? ⟨gb160, 3, none⟩ = some (.int .i64 a0_3) := (blk_cell BK160.out 3).trans rfl
            have hc4_ : w'.cell? ⟨gb160, 4, none⟩ = some (.int .i64 a0_4) := (blk_cell BK160.out 4).trans rfl
            have hc5_ : w'.cell? ⟨gb160, 5, none⟩ = some (.int .u32 a0_5) := (blk_cell BK160.out 5).trans rfl
            have hc6_ : w'.cell? ⟨gb160, 6, none⟩ = some (.int .u32 a0_6) := (blk_cell BK160.out 6).trans rfl
            have hc7_ : w'.cell? ⟨gb160, 7, none⟩ = some (.int .u32 a0_7) := (blk_cell BK160.out 7).trans rfl
            have hc8_ : w'.cell? ⟨gb160, 8, none⟩ = some (.slice A0_8 l0_8.length c0_8) := (blk_cell BK160.out 8).trans rfl
            have hc9_ : w'.cell? ⟨gb160, 9, none⟩ = some (.slice A0_9 l0_9.length c0_9) := (blk_cell BK160.out 9).trans rfl
            refine value_ (w1 := w') (v := .int .u32 a0_6) (by rfl) rfl ?_ ?_
            · go_simp
              (try simp only [i64_w])
              try rfl
            refine hK.out _ _ ⟨v176, v179, v182, v185, v188, v191, v194, v197, m26_, (by rw [ha.out]; exact putSel_upk 3 hb_ rfl rfl rfl), Q_HO_160008, Q_HO_160009, Q_HO_160015, Q_HO_161008, Q_HO_161009, Q_HO_5, Q_HO_7, Q_BK159, Q_BK160, Q_HB, Q_HO177, Q_HO180, fun h0_ => absurd ((hoff 9 (by kernel_rfl)).symm.trans h0_) (by decide), fun h0_ _ => absurd ((hoff 10 (by kernel_rfl)).symm.trans h0_) (by decide), Q_HO189, fun h0_ _ => absurd ((hoff 17 (by kernel_rfl)).symm.trans h0_) (by decide), fun h0_ => absurd ((hoff 24 (by kernel_rfl)).symm.trans h0_) (by decide), fun h0_ => absurd ((hoff 24 (by kernel_rfl)).symm.trans h0_) (by decide), fun h0_ => absurd ((hoff 24 (by kernel_rfl)).symm.trans h0_) (by decide), fun h0_ => absurd ((hoff 24 (by kernel_rfl)).symm.trans h0_) (by decide), fun h0_ => absurd ((hoff 24 (by kernel_rfl)).symm.trans h0_) (by decide), fun h0_ => absurd ((hoff 24 (by kernel_rfl)).symm.trans h0_) (by decide), fun h0_ => absurd ((hoff 25 (by kernel_rfl)).symm.trans h0_) (by decide), fun h0_ => absurd ((hoff 26 (by kernel_rfl)).symm.trans h0_) (by decide)⟩
          refine steps_cons ?_ ?_
          · rintro b a w' ⟨v176, v179, v182, v185, v188, v191, v194, v197, m26_, ha, Q_HO_160008, Q_HO_160009, Q_HO_160015, Q_HO_161008, Q_HO_161009, Q_HO_5, Q_HO_7, Q_BK159, Q_BK160, Q_HB, Q_HO177, Q_HO180, Q_HO183, Q_HO186, Q_HO189, Q_HO192, Q_HO195, Q_HO_160008_e24, Q_HO_160009_e24, Q_HO_160015_e24, Q_HO_161008_e24, Q_HO_161009_e24, Q_HO198, Q_X26_⟩ hb_ hon hoff
            refine ⟨_, rfl, fun K hK => ?_⟩
            have e59 : a.tmps[59]? = some (.pointer (some ⟨gb160, 7, none⟩)) := by rw [ha]; exact (putSel_off rfl).trans rfl
            replace ha := Aside0.mk ha
            have HO_160008 := Aside0.mk (Q_HO_160008 (hoff 24 (by kernel_rfl)))
            have HO_160009 := Aside0.mk (Q_HO_160009 (hoff 24 (by kernel_rfl)))
            have HO_160015 := Aside0.mk (Q_HO_160015 (hoff 24 (by kernel_rfl)))
            have HO_161008 := Aside0.mk (Q_HO_161008 (hoff 24 (by kernel_rfl)))
            have HO_161009 := Aside0.mk (Q_HO_161009 (hoff 24 (by kernel_rfl)))
            have HO_5 := Aside0.mk (Q_HO_5 (hoff 24 (by kernel_rfl)))
            have HO_7 := Aside0.mk (Q_HO_7 (hoff 24 (by kernel_rfl)))
            have BK159 := Aside0.mk Q_BK159
            have BK160 := Aside0.mk Q_BK160
            have HB := Aside0.mk Q_HB
            have hc0_ : w'.cell? ⟨gb160, 0, none⟩ = some (.int .i64 a0_0) := (blk_cell BK160.out 0).trans rfl
            have hc1_ : w'.cell? ⟨gb160, 1, none⟩ = some (.int .i64 a0_1) := (blk_cell BK160.out 1).trans rfl
            have hc2_ : w'.cell? ⟨gb160, 2, none⟩ = some (.int .i64 a0_2) := (blk_cell BK160.out 2).trans rfl
            have hc3_ : w'.cell? ⟨gb160, 3, none⟩ = some (.int .i64 a0_3) := (blk_cell BK160.out 3).trans rfl
            have hc4_ : w'.cell? ⟨gb160, 4, none⟩ = some (.int .i64 a0_4) := (blk_cell BK160.out 4).trans rfl
            have hc5_ : w'.cell? ⟨gb160, 5, none⟩ = some (.int .u32 a0_5) := (blk_cell BK160.out 5).trans rfl
            have hc6_ : w'.cell? ⟨gb160, 6, none⟩ = some (.int .u32 a0_6) := (blk_cell BK160.out 6).trans rfl
            have hc7_ : w'.cell? ⟨gb160, 7, none⟩ = some (.int .u32 a0_7) := (blk_cell BK160.out 7).trans rfl
            have hc8_ : w'.cell? ⟨gb160, 8, none⟩ = some (.slice A0_8 l0_8.length c0_8) := (blk_cell BK160.out 8).trans rfl
            have hc9_ : w'.cell? ⟨gb160, 9, none⟩ = some (.slice A0_9 l0_9.length c0_9) := (blk_cell BK160.out 9).trans rfl
            refine value_ (w1 := w') (v := .int .u32 a0_7) (by rfl) rfl ?_ ?_
            · go_simp
              (try simp only [i64_w])
              try rfl
            refine hK.out _ _ ⟨v176, v179, v182, v185, v188, v191, v194, v197, m26_, (by rw [ha.out]; exact putSel_upk 4 hb_ rfl rfl rfl), Q_HO_160008, Q_HO_160009, Q_HO_160015, Q_HO_161008, Q_HO_161009, Q_HO_5, Q_HO_7, Q_BK159, Q_BK160, Q_HB, Q_HO177, Q_HO180, fun h0_ => absurd ((hoff 9 (by kernel_rfl)).symm.trans h0_) (by decide), fun h0_ _ => absurd ((hoff 10 (by kernel_rfl)).symm.trans h0_) (by decide), Q_HO189, fun h0_ _ => absurd ((hoff 17 (by kernel_rfl)).symm.trans h0_) (by decide), fun h0_ => absurd ((hoff 24 (by kernel_rfl)).symm.trans h0_) (by decide), fun h0_ => absurd ((hoff 24 (by kernel_rfl)).symm.trans h0_) (by decide), fun h0_ => absurd ((hoff 24 (by kernel_rfl)).symm.trans h0_) (by decide), fun h0_ => absurd ((hoff 24 (by kernel_rfl)).symm.trans h0_) (by decide), fun h0_ => absurd ((hoff 24 (by kernel_rfl)).symm.trans h0_) (by decide), fun h0_ => absurd ((hoff 24 (by kernel_rfl)).symm.trans h0_) (by decide), fun h0_ => absurd ((hoff 25 (by kernel_rfl)).symm.trans h0_) (by decide), fun h0_ => absurd ((hoff 26 (by kernel_rfl)).symm.trans h0_) (by decide)⟩
          refine steps_cons ?_ ?_
          · rintro b a w' ⟨v176, v179, v182, v185, v188, v191, v194, v197, m26_, ha, Q_HO_160008, Q_HO_160009, Q_HO_160015, Q_HO_161008, Q_HO_161009, Q_HO_5, Q_HO_7, Q_BK159, Q_BK160, Q_HB, Q_HO177, Q_HO180, Q_HO183, Q_HO186, Q_HO189, Q_HO192, Q_HO195, Q_HO_160008_e24, Q_HO_160009_e24, Q_HO_160015_e24, Q_HO_161008_e24, Q_HO_161009_e24, Q_HO198, Q_X26_⟩ hb_ hon hoff
            refine ⟨_, rfl, fun K hK => ?_⟩
            have e56 : a.tmps[56]? = some (.int .u32 a0_5) := by rw [ha]; exact putSel_on (e := (4, 56, .int .u32 a0_5)) 2 rfl rfl (hon 4 (by kernel_rfl)) rfl
            have e58 : a.tmps[58]? = some (.int .u32 a0_6) := by rw [ha]; exact putSel_on (e := (6, 58, .int .u32 a0_6)) 3 rfl rfl (hon 6 (by kernel_rfl)) rfl
            have e60 : a.tmps[60]? = some (.int .u32 a0_7) := by rw [ha]; exact putSel_on (e := (8, 60, .int .u32 a0_7)) 4 rfl rfl (hon 8 (by kernel_rfl)) rfl
            replace ha := Aside0.mk ha
            have HO_160008 := Aside0.mk (Q_HO_160008 (hoff 24 (by kernel_rfl)))
            have HO_160009 := Aside0.mk (Q_HO_160009 (hoff 24 (by kernel_rfl)))
            have HO_160015 := Aside0.mk (Q_HO_160015 (hoff 24 (by kernel_rfl)))
            have HO_161008 := Aside0.mk (Q_HO_161008 (hoff 24 (by kernel_rfl)))
            have HO_161009 := Aside0.mk (Q_HO_161009 (hoff 24 (by kernel_rfl)))
            have HO_5 := Aside0.mk (Q_HO_5 (hoff 24 (by kernel_rfl)))
            have HO_7 := Aside0.mk (Q_HO_7 (hoff 24 (by kernel_rfl)))
            have BK159 := Aside0.mk Q_BK159
            have BK160 := Aside0.mk Q_BK160
            have HB := Aside0.mk Q_HB
            refine Kd.R_lit_step (Kd.int .u32) _ 27 ?hg (N := 61) ?hd (xs := ([a0_5, a0_6, a0_7] : List Int)) (inner := [.int .u32 a0_5, .int .u32 a0_6, .int .u32 a0_7]) (ok := fun _ => True) (okp := fun _ => True) ?hr ?hp (fun _ hk => hk) trivial (Below.refl _ _) (Nat.le_refl _) (by simp) ?_; (case hd => rfl); (case hg => rfl); (case hr => first | (go_simp; done) | (go_simp; rfl)); (case hp => exact (Reps.one (show Kd.M (Kd.int .u32) _ _ _ a0_5 [.int .u32 a0_5] from rfl) (Reps.one (show Kd.M (Kd.int .u32) _ _ _ a0_6 [.int .u32 a0_6] from rfl) (Reps.one (show Kd.M (Kd.int .u32) _ _ _ a0_7 [.int .u32 a0_7] from rfl) (Reps.none _ _)))))
            intro v182 w28 ho29 hb hg_ hnew_
            clear hg_ hnew_
            (first | rw [← Ny181.out] at ho29 | (simp only [Int.reduceToNat] at ho29; rw [← Ny181.out] at ho29))
            have n0_ := Aside0.mk (Kd.R_below (by (with_reducible repeat (first | apply Kd.R_alloc | apply Kd.R_drewN | apply Kd.R_drew)); exact HO_5.out) hb)
            have n1_ := Aside0.mk (Kd.R_below (by (with_reducible repeat (first | apply Kd.R_alloc | apply Kd.R_drewN | apply Kd.R_drew)); exact HO_7.out) hb)
            have n2_ := Aside0.mk (Kd.V_elder' (by (with_reducible repeat (first | apply Kd.V_alloc | apply Kd.V_drewN | apply Kd.V_drew)); exact HO_160008.out) (Kd.R_base ho29) hb)
            have n3_ := Aside0.mk (Kd.V_elder' (by (with_reducible repeat (first | apply Kd.V_alloc | apply Kd.V_drewN | apply Kd.V_drew)); exact HO_160009.out) (Kd.R_base ho29) hb)
            have n4_ := Aside0.mk (Kd.V_elder' (by (with_reducible repeat (first | apply Kd.V_alloc | apply Kd.V_drewN | apply Kd.V_drew)); exact HO_160015.out) (Kd.R_base ho29) hb)
            have n5_ := Aside0.mk (Kd.V_elder' (by (with_reducible repeat (first | apply Kd.V_alloc | apply Kd.V_drewN | apply Kd.V_drew)); exact HO_161008.out) (Kd.R_base ho29) hb)
            have n6_ := Aside0.mk (Kd.V_elder' (by (with_reducible repeat (first | apply Kd.V_alloc | apply Kd.V_drewN | apply Kd.V_drew)); exact HO_161009.out) (Kd.R_base ho29) hb)
            have n7_ := Aside0.mk (Kd.R_lower (Kd.R_newM (M := fun k_ => (w.heap.size ≤ k_)) ho29 (below_size (by repeat (first | (with_reducible first | exact HB.out | apply below_alloc | apply pw_below_drewN | apply below_drew1 | refine below_set ?_ GE159.out | refine below_set ?_ GE160.out) | exact HB.out))) (fun k_ h_ => h_)) (below_size (by repeat (first | (with_reducible first | exact HB.out | apply below_alloc | apply pw_below_drewN | apply below_drew1 | refine below_set ?_ GE159.out | refine below_set ?_ GE160.out) | exact HB.out))))
            have n8_ := Aside0.mk (blk_below (g := gb159) (o := .cells #[.int .i64 a0_0, .int .i64 a0_1, .int .i64 a0_2, .int .i64 a0_3, .int .i64 a0_4, .int .u32 a0_5, .int .u32 a0_6, .int .u32 a0_7, .slice A0_8 l0_8.length c0_8, .slice A0_9 l0_9.length c0_9, .int .i64 a0_10, .int .i64 a0_11, .int .i64 a0_12, .int .u32 a0_13, .int .u32 a0_14, .slice A0_15 l0_15.length c0_15] 39 (0, 0)) (by (with_reducible repeat (first | refine blk_drewN ?_ _ | refine blk_drew ?_ | refine blk_alloc ?_ _)); exact BK159.out) hb)
            have n9_ := Aside0.mk (blk_below (g := gb160) (o := .cells #[.int .i64 a0_0, .int .i64 a0_1, .int .i64 a0_2, .int .i64 a0_3, .int .i64 a0_4, .int .u32 a0_5, .int .u32 a0_6, .int .u32 a0_7, .slice A0_8 l0_8.length c0_8, .slice A0_9 l0_9.length c0_9] 37 (0, 0)) (by (with_reducible repeat (first | refine blk_drewN ?_ _ | refine blk_drew ?_ | refine blk_alloc ?_ _)); exact BK160.out) hb)
            have n10_ := Aside0.mk (below_step (by repeat (first | (with_reducible first | exact HB.out | apply below_alloc | apply pw_below_drewN | apply below_drew1 | refine below_set ?_ GE159.out | refine below_set ?_ GE160.out) | exact HB.out)) hb)
            have z_HO177 := fun (h0_ : b 0 = true) => (show Kd.R (Kd.int .u32) 27 w28 w.heap.size (fun k_ => (w.heap.size ≤ k_)) v176 y175 from by first | exact (Kd.R_elder' (by (with_reducible repeat (first | apply Kd.R_alloc | apply Kd.R_drewN | apply Kd.R_drew)); exact (Q_HO177 h0_)) (Kd.R_base ho29) hb) | exact Kd.R_mono (Kd.R_elder' (by (with_reducible repeat (first | apply Kd.R_alloc | apply Kd.R_drewN | apply Kd.R_drew)); exact (Q_HO177 h0_)) (Kd.R_base ho29) hb) (fun _ h_ => by first | trivial | exact h_ | exact h_.1))
            have z_HO180 := fun (h0_ : b 1 = true) (h1_ : b 24 = false) => (show Kd.R (Kd.int .u8) 5 w28 w.heap.size (fun k_ => (w.heap.size ≤ k_) ∧ some k_ ≠ (v166 : Value).ownBlock ∧ some k_ ≠ (v173 : Value).ownBlock) v179 t178 from by first | exact (Kd.R_below (by (with_reducible repeat (first | apply Kd.R_alloc | apply Kd.R_drewN | apply Kd.R_drew)); exact (Q_HO180 h0_ h1_)) hb) | exact Kd.R_mono (Kd.R_below (by (with_reducible repeat (first | apply Kd.R_alloc | apply Kd.R_drewN | apply Kd.R_drew)); exact (Q_HO180 h0_ h1_)) hb) (fun _ h_ => by first | trivial | exact h_ | exact h_.1))
            have z_HO189 := fun (h0_ : b 16 = true) => (show Kd.R (Kd.int .u32) 27 w28 w.heap.size (fun k_ => (w.heap.size ≤ k_)) v188 y187 from by first | exact (Kd.R_elder' (by (with_reducible repeat (first | apply Kd.R_alloc | apply Kd.R_drewN | apply Kd.R_drew)); exact (Q_HO189 h0_)) (Kd.R_base ho29) hb) | exact Kd.R_mono (Kd.R_elder' (by (with_reducible repeat (first | apply Kd.R_alloc | apply Kd.R_drewN | apply Kd.R_drew)); exact (Q_HO189 h0_)) (Kd.R_base ho29) hb) (fun _ h_ => by first | trivial | exact h_ | exact h_.1))
            clear HO_5
            clear HO_7
            clear HO_160008
            clear HO_160009
            clear HO_160015
            clear HO_161008
            clear HO_161009
            clear BK159
            clear BK160
            clear HB
            have HO_5 := n0_
            have HO_7 := n1_
            have HO_160008 := n2_
            have HO_160009 := n3_
            have HO_160015 := n4_
            have HO_161008 := n5_
            have HO_161009 := n6_
            have HO183 := n7_
            have BK159 := n8_
            have BK160 := n9_
            have HB := n10_
            clear n0_ n1_ n2_ n3_ n4_ n5_ n6_ n7_ n8_ n9_ n10_
            clear hb ho29
            refine hK.out _ _ ⟨v176, v179, v182, v185, v188, v191, v194, v197, m26_, (by rw [ha.out]; exact putSel_upk 5 hb_ rfl rfl rfl), fun _ => (by (with_reducible repeat (first | apply Kd.V_alloc | apply Kd.V_drewN | apply Kd.V_drew)); exact Kd.V_mono HO_160008.out (fun _ hk => by first | exact ⟨hk.1.1, ⟨hk.2, ⟨hk.1.2.1, ⟨hk.1.2.2.1, ⟨hk.1.2.2.2.1, hk.1.2.2.2.2⟩⟩⟩⟩⟩ | simp_all)), fun _ => (by (with_reducible repeat (first | apply Kd.V_alloc | apply Kd.V_drewN | apply Kd.V_drew)); exact Kd.V_mono HO_160009.out (fun _ hk => by first | exact ⟨hk.1.1, ⟨hk.2, ⟨hk.1.2.1, ⟨hk.1.2.2.1, ⟨hk.1.2.2.2.1, hk.1.2.2.2.2⟩⟩⟩⟩⟩ | simp_all)), fun _ => (by (with_reducible repeat (first | apply Kd.V_alloc | apply Kd.V_drewN | apply Kd.V_drew)); exact Kd.V_mono HO_160015.out (fun _ hk => by first | exact ⟨hk.1.1, ⟨hk.2, ⟨hk.1.2.1, ⟨hk.1.2.2.1, ⟨hk.1.2.2.2.1, hk.1.2.2.2.2⟩⟩⟩⟩⟩ | simp_all)), fun _ => (by (with_reducible repeat (first | apply Kd.V_alloc | apply Kd.V_drewN | apply Kd.V_drew)); exact Kd.V_mono HO_161008.out (fun _ hk => by first | exact ⟨hk.1.1, ⟨hk.2, ⟨hk.1.2.1, ⟨hk.1.2.2.1, ⟨hk.1.2.2.2.1, hk.1.2.2.2.2⟩⟩⟩⟩⟩ | simp_all)), fun _ => (by (with_reducible repeat (first | apply Kd.V_alloc | apply Kd.V_drewN | apply Kd.V_drew)); exact Kd.V_mono HO_161009.out (fun _ hk => by first | exact ⟨hk.1.1, ⟨hk.2, ⟨hk.1.2.1, ⟨hk.1.2.2.1, ⟨hk.1.2.2.2.1, hk.1.2.2.2.2⟩⟩⟩⟩⟩ | simp_all)), fun _ => (by (with_reducible repeat (first | apply Kd.R_alloc | apply Kd.R_drewN | apply Kd.R_drew)); exact HO_5.out), fun _ => (by (with_reducible repeat (first | apply Kd.R_alloc | apply Kd.R_drewN | apply Kd.R_drew)); exact HO_7.out), (by (with_reducible repeat (first | refine blk_drewN ?_ _ | refine blk_drew ?_ | refine blk_alloc ?_ _)); exact BK159.out), (by (with_reducible repeat (first | refine blk_drewN ?_ _ | refine blk_drew ?_ | refine blk_alloc ?_ _)); exact BK160.out), (by repeat (first | (with_reducible first | exact HB.out | apply below_alloc | apply pw_below_drewN | apply below_drew1 | refine below_set ?_ GE159.out | refine below_set ?_ GE160.out) | exact HB.out)), z_HO177, z_HO180, fun _ => (by (with_reducible repeat (first | apply Kd.R_alloc | apply Kd.R_drewN | apply Kd.R_drew)); exact Kd.R_mono HO183.out (fun _ hk => hk.1)), fun h0_ _ => absurd ((hoff 10 (by kernel_rfl)).symm.trans h0_) (by decide), z_HO189, fun h0_ _ => absurd ((hoff 17 (by kernel_rfl)).symm.trans h0_) (by decide), fun h0_ => absurd ((hoff 24 (by kernel_rfl)).symm.trans h0_) (by decide), fun h0_ => absurd ((hoff 24 (by kernel_rfl)).symm.trans h0_) (by decide), fun h0_ => absurd ((hoff 24 (by kernel_rfl)).symm.trans h0_) (by decide), fun h0_ => absurd ((hoff 24 (by kernel_rfl)).symm.trans h0_) (by decide), fun h0_ => absurd ((hoff 24 (by kernel_rfl)).symm.trans h0_) (by decide), fun h0_ => absurd ((hoff 24 (by kernel_rfl)).symm.trans h0_) (by decide), fun h0_ => absurd ((hoff 25 (by kernel_rfl)).symm.trans h0_) (by decide), fun h0_ => absurd ((hoff 26 (by kernel_rfl)).symm.trans h0_) (by decide)⟩
          refine steps_cons ?_ ?_
          · rintro b a w' ⟨v176, v179, v182, v185, v188, v191, v194, v197, m26_, ha, Q_HO_160008, Q_HO_160009, Q_HO_160015, Q_HO_161008, Q_HO_161009, Q_HO_5, Q_HO_7, Q_BK159, Q_BK160, Q_HB, Q_HO177, Q_HO180, Q_HO183, Q_HO186, Q_HO189, Q_HO192, Q_HO195, Q_HO_160008_e24, Q_HO_160009_e24, Q_HO_160015_e24, Q_HO_161008_e24, Q_HO_161009_e24, Q_HO198, Q_X26_⟩ hb_ hon hoff
            refine ⟨_, rfl, fun K hK => ?_⟩
            have e61 : a.tmps[61]? = some (v182) := by rw [ha]; exact putSel_on (e := (9, 61, v182)) 5 rfl rfl (hon 9 (by kernel_rfl)) rfl
            replace ha := Aside0.mk ha
            have HO_160008 := Aside0.mk (Q_HO_160008 (hoff 24 (by kernel_rfl)))
            have HO_160009 := Aside0.mk (Q_HO_160009 (hoff 24 (by kernel_rfl)))
            have HO_160015 := Aside0.mk (Q_HO_160015 (hoff 24 (by kernel_rfl)))
            have HO_161008 := Aside0.mk (Q_HO_161008 (hoff 24 (by kernel_rfl)))
            have HO_161009 := Aside0.mk (Q_HO_161009 (hoff 24 (by kernel_rfl)))
            have HO_5 := Aside0.mk (Q_HO_5 (hoff 24 (by kernel_rfl)))
            have HO_7 := Aside0.mk (Q_HO_7 (hoff 24 (by kernel_rfl)))
            have BK159 := Aside0.mk Q_BK159
            have BK160 := Aside0.mk Q_BK160
            have HB := Aside0.mk Q_HB
            have HO177 := Aside0.mk (Q_HO177 (hon 0 (by kernel_rfl)))
            have HO180 := Aside0.mk (Q_HO180 (hon 1 (by kernel_rfl)) (hoff 24 (by kernel_rfl)))
            have HO183 := Aside0.mk (Q_HO183 (hon 9 (by kernel_rfl)))
            obtain ⟨Ao35, co35, eo35⟩ := Kd.R_slice HO183.out
            (first | subst eo35 | (injection eo35 with f1_ f2_ f3_; have f4_ := f1_.symm; have f5_ := f3_.symm; clear f1_ f2_ f3_; subst f4_; subst f5_))
            refine goes_ Try.func51 (by kernel_rfl) rfl #[.slice Ao35 y181.length co35] (by rfl) rfl rfl (by first | (simp only [List.map_toArray, List.map_cons, List.map_nil, Act.eval, Array.getD_eq_getD_getElem?, Option.getD_some, e61]; done) | (simp only [List.map_toArray, List.map_cons, List.map_nil, Act.eval, Array.getD_eq_getD_getElem?, Option.getD_some, e61]; rfl)) ?_
            with_reducible refine (duffelref24_words.calls kj3 _ _ y181 t184 _ ?side1 ?side2 A24.out).mono ?_
            (case side1 => repeat (first | exact (Kd.R_reads' HO183.out).2.2 | (with_reducible refine Kd.C_alloc ?_ _) | (with_reducible refine Kd.C_drewN ?_ _) | (with_reducible refine Kd.C_drew ?_)))
            (case side2 => exact (Kd.R_reads' HO183.out).2.1)
            rintro e w36 ⟨v185, rfl, ho0, hb⟩
            refine ⟨_, rfl, ?_⟩
            have n0_ := Aside0.mk (Kd.R_elder' (by (with_reducible repeat (first | apply Kd.R_alloc | apply Kd.R_drewN | apply Kd.R_drew)); exact HO_5.out) (Kd.R_base ho0) hb)
            have n1_ := Aside0.mk (Kd.R_elder' (by (with_reducible repeat (first | apply Kd.R_alloc | apply Kd.R_drewN | apply Kd.R_drew)); exact HO_7.out) (Kd.R_base ho0) hb)
            have n2_ := Aside0.mk (Kd.V_elder' (by (with_reducible repeat (first | apply Kd.V_alloc | apply Kd.V_drewN | apply Kd.V_drew)); exact HO_160008.out) (Kd.R_base ho0) hb)
            have n3_ := Aside0.mk (Kd.V_elder' (by (with_reducible repeat (first | apply Kd.V_alloc | apply Kd.V_drewN | apply Kd.V_drew)); exact HO_160009.out) (Kd.R_base ho0) hb)
            have n4_ := Aside0.mk (Kd.V_elder' (by (with_reducible repeat (first | apply Kd.V_alloc | apply Kd.V_drewN | apply Kd.V_drew)); exact HO_160015.out) (Kd.R_base ho0) hb)
            have n5_ := Aside0.mk (Kd.V_elder' (by (with_reducible repeat (first | apply Kd.V_alloc | apply Kd.V_drewN | apply Kd.V_drew)); exact HO_161008.out) (Kd.R_base ho0) hb)
            have n6_ := Aside0.mk (Kd.V_elder' (by (with_reducible repeat (first | apply Kd.V_alloc | apply Kd.V_drewN | apply Kd.V_drew)); exact HO_161009.out) (Kd.R_base ho0) hb)
            have n7_ := Aside0.mk (Kd.R_below (by (with_reducible repeat (first | apply Kd.R_alloc | apply Kd.R_drewN | apply Kd.R_drew)); exact HO177.out) hb)
            have n8_ := Aside0.mk (Kd.R_elder' (by (with_reducible repeat (first | apply Kd.R_alloc | apply Kd.R_drewN | apply Kd.R_drew)); exact HO180.out) (Kd.R_base ho0) hb)
            have n9_ := Aside0.mk (Kd.R_below (by (with_reducible repeat (first | apply Kd.R_alloc | apply Kd.R_drewN | apply Kd.R_drew)); exact HO183.out) hb)
            have n10_ := Aside0.mk (Kd.R_lower (Kd.R_new' (Kd.R_new' (Kd.R_new' (Kd.R_newM (M := fun k_ => (w.heap.size ≤ k_)) ho0 (below_size (by repeat (first | (with_reducible first | exact HB.out | apply below_alloc | apply pw_below_drewN | apply below_drew1 | refine below_set ?_ GE159.out | refine below_set ?_ GE160.out) | exact HB.out))) (fun k_ h_ => h_)) (Kd.R_lt (by (with_reducible repeat (first | apply Kd.R_alloc | apply Kd.R_drewN | apply Kd.R_drew)); exact HO_5.out))) (Kd.R_lt (by (with_reducible repeat (first | apply Kd.R_alloc | apply Kd.R_drewN | apply Kd.R_drew)); exact HO_7.out))) (Kd.R_lt (by (with_reducible repeat (first | apply Kd.R_alloc | apply Kd.R_drewN | apply Kd.R_drew)); exact HO180.out))) (below_size (by repeat (first | (with_reducible first | exact HB.out | apply below_alloc | apply pw_below_drewN | apply below_drew1 | refine below_set ?_ GE159.out | refine below_set ?_ GE160.out) | exact HB.out))))
            have n11_ := Aside0.mk (blk_below (g := gb159) (o := .cells #[.int .i64 a0_0, .int .i64 a0_1, .int .i64 a0_2, .int .i64 a0_3, .int .i64 a0_4, .int .u32 a0_5, .int .u32 a0_6, .int .u32 a0_7, .slice A0_8 l0_8.length c0_8, .slice A0_9 l0_9.length c0_9, .int .i64 a0_10, .int .i64 a0_11, .int .i64 a0_12, .int .u32 a0_13, .int .u32 a0_14, .slice A0_15 l0_15.length c0_15] 39 (0, 0)) (by (with_reducible repeat (first | refine blk_drewN ?_ _ | refine blk_drew ?_ | refine blk_alloc ?_ _)); exact BK159.out) hb)
            have n12_ := Aside0.mk (blk_below (g := gb160) (o := .cells #[.int .i64 a0_0, .int .i64 a0_1, .int .i64 a0_2, .int .i64 a0_3, .int .i64 a0_4, .int .u32 a0_5, .int .u32 a0_6, .int .u32 a0_7, .slice A0_8 l0_8.length c0_8, .slice A0_9 l0_9.length c0_9] 37 (0, 0)) (by (with_reducible repeat (first | refine blk_drewN ?_ _ | refine blk_drew ?_ | refine blk_alloc ?_ _)); exact BK160.out) hb)
            have n13_ := Aside0.mk (below_step (by repeat (first | (with_reducible first | exact HB.out | apply below_alloc | apply pw_below_drewN | apply below_drew1 | refine below_set ?_ GE159.out | refine below_set ?_ GE160.out) | exact HB.out)) hb)
            have z_HO189 := fun (h0_ : b 16 = true) => (show Kd.R (Kd.int .u32) 27 w36 w.heap.size (fun k_ => (w.heap.size ≤ k_)) v188 y187 from by first | exact (Kd.R_below (by (with_reducible repeat (first | apply Kd.R_alloc | apply Kd.R_drewN | apply Kd.R_drew)); exact (Q_HO189 h0_)) hb) | exact Kd.R_mono (Kd.R_below (by (with_reducible repeat (first | apply Kd.R_alloc | apply Kd.R_drewN | apply Kd.R_drew)); exact (Q_HO189 h0_)) hb) (fun _ h_ => by first | trivial | exact h_ | exact h_.1))
            clear HO_5
            clear HO_7
            clear HO_160008
            clear HO_160009
            clear HO_160015
            clear HO_161008
            clear HO_161009
            clear HO177
            clear HO180
            clear HO183
            clear BK159
            clear BK160
            clear HB
            have HO_5 := n0_
            have HO_7 := n1_
            have HO_160008 := n2_
            have HO_160009 := n3_
            have HO_160015 := n4_
            have HO_161008 := n5_
            have HO_161009 := n6_
            have HO177 := n7_
            have HO180 := n8_
            have HO183 := n9_
            have HO186 := n10_
            have BK159 := n11_
            have BK160 := n12_
            have HB := n13_
            clear n0_ n1_ n2_ n3_ n4_ n5_ n6_ n7_ n8_ n9_ n10_ n11_ n12_ n13_
            (try clear hb)
            (try clear hb2)
            (try clear hk)
            (try clear hi)
            (try clear ho0)
            refine hK.out _ _ ⟨v176, v179, .slice Ao35 y181.length co35, v185, v188, v191, v194, v197, m26_, (by rw [ha.out]; exact putSel_upk 6 hb_ rfl rfl rfl), fun _ => (by (with_reducible repeat (first | apply Kd.V_alloc | apply Kd.V_drewN | apply Kd.V_drew)); exact Kd.V_mono HO_160008.out (fun _ hk => by first | exact ⟨hk.1.1, ⟨hk.1.2.1, ⟨hk.1.2.2.1, ⟨hk.1.2.2.2.1, ⟨hk.2, ⟨hk.1.2.2.2.2.1, ⟨hk.1.2.2.2.2.2.1, ⟨hk.1.2.2.2.2.2.2.1, hk.1.2.2.2.2.2.2.2⟩⟩⟩⟩⟩⟩⟩⟩ | simp_all)), fun _ => (by (with_reducible repeat (first | apply Kd.V_alloc | apply Kd.V_drewN | apply Kd.V_drew)); exact Kd.V_mono HO_160009.out (fun _ hk => by first | exact ⟨hk.1.1, ⟨hk.1.2.1, ⟨hk.1.2.2.1, ⟨hk.1.2.2.2.1, ⟨hk.2, ⟨hk.1.2.2.2.2.1, ⟨hk.1.2.2.2.2.2.1, ⟨hk.1.2.2.2.2.2.2.1, hk.1.2.2.2.2.2.2.2⟩⟩⟩⟩⟩⟩⟩⟩ | simp_all)), fun _ => (by (with_reducible repeat (first | apply Kd.V_alloc | apply Kd.V_drewN | apply Kd.V_drew)); exact Kd.V_mono HO_160015.out (fun _ hk => by first | exact ⟨hk.1.1, ⟨hk.1.2.1, ⟨hk.1.2.2.1, ⟨hk.1.2.2.2.1, ⟨hk.2, ⟨hk.1.2.2.2.2.1, ⟨hk.1.2.2.2.2.2.1, ⟨hk.1.2.2.2.2.2.2.1, hk.1.2.2.2.2.2.2.2⟩⟩⟩⟩⟩⟩⟩⟩ | simp_all)), fun _ => (by (with_reducible repeat (first | apply Kd.V_alloc | apply Kd.V_drewN | apply Kd.V_drew)); exact Kd.V_mono HO_161008.out (fun _ hk => by first | exact ⟨hk.1.1, ⟨hk.1.2.1, ⟨hk.1.2.2.1, ⟨hk.1.2.2.2.1, ⟨hk.2, ⟨hk.1.2.2.2.2.1, ⟨hk.1.2.2.2.2.2.1, ⟨hk.1.2.2.2.2.2.2.1, hk.1.2.2.2.2.2.2.2⟩⟩⟩⟩⟩⟩⟩⟩ | simp_all)), fun _ => (by (with_reducible repeat (first | apply Kd.V_alloc | apply Kd.V_drewN | apply Kd.V_drew)); exact Kd.V_mono HO_161009.out (fun _ hk => by first | exact ⟨hk.1.1, ⟨hk.1.2.1, ⟨hk.1.2.2.1, ⟨hk.1.2.2.2.1, ⟨hk.2, ⟨hk.1.2.2.2.2.1, ⟨hk.1.2.2.2.2.2.1, ⟨hk.1.2.2.2.2.2.2.1, hk.1.2.2.2.2.2.2.2⟩⟩⟩⟩⟩⟩⟩⟩ | simp_all)), fun _ => (by (with_reducible repeat (first | apply Kd.R_alloc | apply Kd.R_drewN | apply Kd.R_drew)); exact Kd.R_mono HO_5.out (fun _ hk => by first | exact ⟨hk.1.1, ⟨hk.1.2.1, ⟨hk.2, hk.1.2.2⟩⟩⟩ | simp_all)), fun _ => (by (with_reducible repeat (first | apply Kd.R_alloc | apply Kd.R_drewN | apply Kd.R_drew)); exact Kd.R_mono HO_7.out (fun _ hk => by first | exact ⟨hk.1.1, ⟨hk.1.2.1, ⟨hk.2, hk.1.2.2⟩⟩⟩ | simp_all)), (by (with_reducible repeat (first | refine blk_drewN ?_ _ | refine blk_drew ?_ | refine blk_alloc ?_ _)); exact BK159.out), (by (with_reducible repeat (first | refine blk_drewN ?_ _ | refine blk_drew ?_ | refine blk_alloc ?_ _)); exact BK160.out), (by repeat (first | (with_reducible first | exact HB.out | apply below_alloc | apply pw_below_drewN | apply below_drew1 | refine below_set ?_ GE159.out | refine below_set ?_ GE160.out) | exact HB.out)), fun _ => (by (with_reducible repeat (first | apply Kd.R_alloc | apply Kd.R_drewN | apply Kd.R_drew)); exact HO177.out), fun _ _ => (by (with_reducible repeat (first | apply Kd.R_alloc | apply Kd.R_drewN | apply Kd.R_drew)); exact Kd.R_mono HO180.out (fun _ hk => by first | exact ⟨hk.1.1, ⟨hk.2, ⟨hk.1.2.1, hk.1.2.2⟩⟩⟩ | simp_all)), fun _ => (by (with_reducible repeat (first | apply Kd.R_alloc | apply Kd.R_drewN | apply Kd.R_drew)); exact HO183.out), fun _ _ => (by (with_reducible repeat (first | apply Kd.R_alloc | apply Kd.R_drewN | apply Kd.R_drew)); exact Kd.R_mono HO186.out (fun _ hk => by first | exact ⟨hk.1.1.1.1, ⟨hk.2, ⟨hk.1.1.2, hk.1.2⟩⟩⟩ | simp_all)), z_HO189, fun h0_ _ => absurd ((hoff 17 (by kernel_rfl)).symm.trans h0_) (by decide), fun h0_ => absurd ((hoff 24 (by kernel_rfl)).symm.trans h0_) (by decide), fun h0_ => absurd ((hoff 24 (by kernel_rfl)).symm.trans h0_) (by decide), fun h0_ => absurd ((hoff 24 (by kernel_rfl)).symm.trans h0_) (by decide), fun h0_ => absurd ((hoff 24 (by kernel_rfl)).symm.trans h0_) (by decide), fun h0_ => absurd ((hoff 24 (by kernel_rfl)).symm.trans h0_) (by decide), fun h0_ => absurd ((hoff 24 (by kernel_rfl)).symm.trans h0_) (by decide), fun h0_ => absurd ((hoff 25 (by kernel_rfl)).symm.trans h0_) (by decide), fun h0_ => absurd ((hoff 26 (by kernel_rfl)).symm.trans h0_) (by decide)⟩
          refine steps_cons ?_ ?_
          · rintro b a w' ⟨v176, v179, v182, v185, v188, v191, v194, v197, m26_, ha, Q_HO_160008, Q_HO_160009, Q_HO_160015, Q_HO_161008, Q_HO_161009, Q_HO_5, Q_HO_7, Q_BK159, Q_BK160, Q_HB, Q_HO177, Q_HO180, Q_HO183, Q_HO186, Q_HO189, Q_HO192, Q_HO195, Q_HO_160008_e24, Q_HO_160009_e24, Q_HO_160015_e24, Q_HO_161008_e24, Q_HO_161009_e24, Q_HO198, Q_X26_⟩ hb_ hon hoff
            refine ⟨_, rfl, fun K hK => ?_⟩
            have e64 : a.tmps[64]? = some (.pointer (some ⟨gb159, 13, none⟩)) := by rw [ha]; exact (putSel_off rfl).trans rfl
            replace ha := Aside0.mk ha
            have HO_160008 := Aside0.mk (Q_HO_160008 (hoff 24 (by kernel_rfl)))
            have HO_160009 := Aside0.mk (Q_HO_160009 (hoff 24 (by kernel_rfl)))
            have HO_160015 := Aside0.mk (Q_HO_160015 (hoff 24 (by kernel_rfl)))
            have HO_161008 := Aside0.mk (Q_HO_161008 (hoff 24 (by kernel_rfl)))
            have HO_161009 := Aside0.mk (Q_HO_161009 (hoff 24 (by kernel_rfl)))
            have HO_5 := Aside0.mk (Q_HO_5 (hoff 24 (by kernel_rfl)))
            have HO_7 := Aside0.mk (Q_HO_7 (hoff 24 (by kernel_rfl)))
            have BK159 := Aside0.mk Q_BK159
            have BK160 := Aside0.mk Q_BK160
            have HB := Aside0.mk Q_HB
            have hc0_ : w'.cell? ⟨gb159, 0, none⟩ = some (.int .i64 a0_0) := (blk_cell BK159.out 0).trans rfl
            have hc1_ : w'.cell? ⟨gb159, 1, none⟩ = some (.int .i64 a0_1) := (blk_cell BK159.out 1).trans rfl
            have hc2_ : w'.cell? ⟨gb159, 2, none⟩ = some (.int .i64 a0_2) := (blk_cell BK159.out 2).trans rfl
            have hc3_ : w'.cell? ⟨gb159, 3, none⟩ = some (.int .i64 a0_3) := (blk_cell BK159.out 3).trans rfl
            have hc4_ : w'.cell? ⟨gb159, 4, none⟩ = some (.int .i64 a0_4) := (blk_cell BK159.out 4).trans rfl
            have hc5_ : w'.cell? ⟨gb159, 5, none⟩ = some (.int .u32 a0_5) := (blk_cell BK159.out 5).trans rfl
            have hc6_ : w'.cell? ⟨gb159, 6, none⟩ = some (.int .u32 a0_6) := (blk_cell BK159.out 6).trans rfl
            have hc7_ : w'.cell? ⟨gb159, 7, none⟩ = some (.int .u32 a0_7) := (blk_cell BK159.out 7).trans rfl
            have hc8_ : w'.cell? ⟨gb159, 8, none⟩ = some (.slice A0_8 l0_8.length c0_8) := (blk_cell BK159.out 8).trans rfl
            have hc9_ : w'.cell? ⟨gb159, 9, none⟩ = some (.slice A0_9 l0_9.length c0_9) := (blk_cell BK159.out 9).trans rfl
            have hc10_ : w'.cell? ⟨gb159, 10, none⟩ = some (.int .i64 a0_10) := (blk_cell BK159.out 10).trans rfl
            have hc11_ : w'.cell? ⟨gb159, 11, none⟩ = some (.int .i64 a0_11) := (blk_cell BK159.out 11).trans rfl
            have hc12_ : w'.cell? ⟨gb159, 12, none⟩ = some (.int .i64 a0_12) := (blk_cell BK159.out 12).trans rfl
            have hc13_ : w'.cell? ⟨gb159, 13, none⟩ = some (.int .u32 a0_13) := (blk_cell BK159.out 13).trans rfl
            have hc14_ : w'.cell? ⟨gb159, 14, none⟩ = some (.int .u32 a0_14) := (blk_cell BK159.out 14).trans rfl
            have hc15_ : w'.cell? ⟨gb159, 15, none⟩ = some (.slice A0_15 l0_15.length c0_15) := (blk_cell BK159.out 15).trans rfl
            refine value_ (w1 := w') (v := .int .u32 a0_13) (by rfl) rfl ?_ ?_
            · go_simp
              (try simp only [i64_w])
              try rfl
            refine hK.out _ _ ⟨v176, v179, v182, v185, v188, v191, v194, v197, m26_, (by rw [ha.out]; exact putSel_upk 7 hb_ rfl rfl rfl), Q_HO_160008, Q_HO_160009, Q_HO_160015, Q_HO_161008, Q_HO_161009, Q_HO_5, Q_HO_7, Q_BK159, Q_BK160, Q_HB, Q_HO177, Q_HO180, Q_HO183, Q_HO186, fun h0_ => absurd ((hoff 16 (by kernel_rfl)).symm.trans h0_) (by decide), fun h0_ _ => absurd ((hoff 17 (by kernel_rfl)).symm.trans h0_) (by decide), fun h0_ => absurd ((hoff 24 (by kernel_rfl)).symm.trans h0_) (by decide), fun h0_ => absurd ((hoff 24 (by kernel_rfl)).symm.trans h0_) (by decide), fun h0_ => absurd ((hoff 24 (by kernel_rfl)).symm.trans h0_) (by decide), fun h0_ => absurd ((hoff 24 (by kernel_rfl)).symm.trans h0_) (by decide), fun h0_ => absurd ((hoff 24 (by kernel_rfl)).symm.trans h0_) (by decide), fun h0_ => absurd ((hoff 24 (by kernel_rfl)).symm.trans h0_) (by decide), fun h0_ => absurd ((hoff 25 (by kernel_rfl)).symm.trans h0_) (by decide), fun h0_ => absurd ((hoff 26 (by kernel_rfl)).symm.trans h0_) (by decide)⟩
          refine steps_cons ?_ ?_
          · rintro b a w' ⟨v176, v179, v182, v185, v188, v191, v194, v197, m26_, ha, Q_HO_160008, Q_HO_160009, Q_HO_160015, Q_HO_161008, Q_HO_161009, Q_HO_5, Q_HO_7, Q_BK159, Q_BK160, Q_HB, Q_HO177, Q_HO180, Q_HO183, Q_HO186, Q_HO189, Q_HO192, Q_HO195, Q_HO_160008_e24, Q_HO_160009_e24, Q_HO_160015_e24, Q_HO_161008_e24, Q_HO_161009_e24, Q_HO198, Q_X26_⟩ hb_ hon hoff
            refine ⟨_, rfl, fun K hK => ?_⟩
            have e66 : a.tmps[66]? = some (.pointer (some ⟨gb159, 14, none⟩)) := by rw [ha]; exact (putSel_off rfl).trans rfl
            replace ha := Aside0.mk ha
            have HO_160008 := Aside0.mk (Q_HO_160008 (hoff 24 (by kernel_rfl)))
            have HO_160009 := Aside0.mk (Q_HO_160009 (hoff 24 (by kernel_rfl)))
            have HO_160015 := Aside0.mk (Q_HO_160015 (hoff 24 (by kernel_rfl)))
            have HO_161008 := Aside0.mk (Q_HO_161008 (hoff 24 (by kernel_rfl)))
            have HO_161009 := Aside0.mk (Q_HO_161009 (hoff 24 (by kernel_rfl)))
            have HO_5 := Aside0.mk (Q_HO_5 (hoff 24 (by kernel_rfl)))
            have HO_7 := Aside0.mk (Q_HO_7 (hoff 24 (by kernel_rfl)))
            have BK159 := Aside0.mk Q_BK159
            have BK160 := Aside0.mk Q_BK160
            have HB := Aside0.mk Q_HB
            have hc0_ : w'.cell? ⟨gb159, 0, none⟩ = some (.int .i64 a0_0) := (blk_cell BK159.out 0).trans rfl
            have hc1_ : w'.cell? ⟨gb159, 1, none⟩ = some (.int .i64 a0_1) := (blk_cell BK159.out 1).trans rfl
            have hc2_ : w'.cell? ⟨gb159, 2, none⟩ = some (.int .i64 a0_2) := (blk_cell BK159.out 2).trans rfl
            have hc3_ : w'.cell? ⟨gb159, 3, none⟩ = some (.int .i64 a0_3) := (blk_cell BK159.out 3).trans rfl
            have hc4_ : w'.cell? ⟨gb159, 4, none⟩ = some (.int .i64 a0_4) := (blk_cell BK159.out 4).trans rfl
            have hc5_ : w'.cell? ⟨gb159, 5, none⟩ = some (.int .u32 a0_5) := (blk_cell BK159.out 5).trans rfl
            have hc6_ : w'.cell? ⟨gb159, 6, none⟩ = some (.int .u32 a0_6) := (blk_cell BK159.out 6).trans rfl
            have hc7_ : w'.cell? ⟨gb159, 7, none⟩ = some (.int .u32 a0_7) := (blk_cell BK159.out 7).trans rfl
            have hc8_ : w'.cell? ⟨gb159, 8, none⟩ = some (.slice A0_8 l0_8.length c0_8) := (blk_cell BK159.out 8).trans rfl
            have hc9_ : w'.cell? ⟨gb159, 9, none⟩ = some (.slice A0_9 l0_9.length c0_9) := (blk_cell BK159.out 9).trans rfl
            have hc10_ : w'.cell? ⟨gb159, 10, none⟩ = some (.int .i64 a0_10) := (blk_cell BK159.out 10).trans rfl
            have hc11_ : w'.cell? ⟨gb159, 11, none⟩ = some (.int .i64 a0_11) := (blk_cell BK159.out 11).trans rfl
            have hc12_ : w'.cell? ⟨gb159, 12, none⟩ = some (.int .i64 a0_12) := (blk_cell BK159.out 12).trans rfl
            have hc13_ : w'.cell? ⟨gb159, 13, none⟩ = some (.int .u32 a0_13) := (blk_cell BK159.out 13).trans rfl
            have hc14_ : w'.cell? ⟨gb159, 14, none⟩ = some (.int .u32 a0_14) := (blk_cell BK159.out 14).trans rfl
            have hc15_ : w'.cell? ⟨gb159, 15, none⟩ = some (.slice A0_15 l0_15.length c0_15) := (blk_cell BK159.out 15).trans rfl
            refine value_ (w1 := w') (v := .int .u32 a0_14) (by rfl) rfl ?_ ?_
            · go_simp
              (try simp only [i64_w])
              try rfl
            refine hK.out _ _ ⟨v176, v179, v182, v185, v188, v191, v194, v197, m26_, (by rw [ha.out]; exact putSel_upk 8 hb_ rfl rfl rfl), Q_HO_160008, Q_HO_160009, Q_HO_160015, Q_HO_161008, Q_HO_161009, Q_HO_5, Q_HO_7, Q_BK159, Q_BK160, Q_HB, Q_HO177, Q_HO180, Q_HO183, Q_HO186, fun h0_ => absurd ((hoff 16 (by kernel_rfl)).symm.trans h0_) (by decide), fun h0_ _ => absurd ((hoff 17 (by kernel_rfl)).symm.trans h0_) (by decide), fun h0_ => absurd ((hoff 24 (by kernel_rfl)).symm.trans h0_) (by decide), fun h0_ => absurd ((hoff 24 (by kernel_rfl)).symm.trans h0_) (by decide), fun h0_ => absurd ((hoff 24 (by kernel_rfl)).symm.trans h0_) (by decide), fun h0_ => absurd ((hoff 24 (by kernel_rfl)).symm.trans h0_) (by decide), fun h0_ => absurd ((hoff 24 (by kernel_rfl)).symm.trans h0_) (by decide), fun h0_ => absurd ((hoff 24 (by kernel_rfl)).symm.trans h0_) (by decide), fun h0_ => absurd ((hoff 25 (by kernel_rfl)).symm.trans h0_) (by decide), fun h0_ => absurd ((hoff 26 (by kernel_rfl)).symm.trans h0_) (by decide)⟩
          refine steps_cons ?_ ?_
          · rintro b a w' ⟨v176, v179, v182, v185, v188, v191, v194, v197, m26_, ha, Q_HO_160008, Q_HO_160009, Q_HO_160015, Q_HO_161008, Q_HO_161009, Q_HO_5, Q_HO_7, Q_BK159, Q_BK160, Q_HB, Q_HO177, Q_HO180, Q_HO183, Q_HO186, Q_HO189, Q_HO192, Q_HO195, Q_HO_160008_e24, Q_HO_160009_e24, Q_HO_160015_e24, Q_HO_161008_e24, Q_HO_161009_e24, Q_HO198, Q_X26_⟩ hb_ hon hoff
            refine ⟨_, rfl, fun K hK => ?_⟩
            have e65 : a.tmps[65]? = some (.int .u32 a0_13) := by rw [ha]; exact putSel_on (e := (13, 65, .int .u32 a0_13)) 7 rfl rfl (hon 13 (by kernel_rfl)) rfl
            have e67 : a.tmps[67]? = some (.int .u32 a0_14) := by rw [ha]; exact putSel_on (e := (15, 67, .int .u32 a0_14)) 8 rfl rfl (hon 15 (by kernel_rfl)) rfl
            replace ha := Aside0.mk ha
            have HO_160008 := Aside0.mk (Q_HO_160008 (hoff 24 (by kernel_rfl)))
            have HO_160009 := Aside0.mk (Q_HO_160009 (hoff 24 (by kernel_rfl)))
            have HO_160015 := Aside0.mk (Q_HO_160015 (hoff 24 (by kernel_rfl)))
            have HO_161008 := Aside0.mk (Q_HO_161008 (hoff 24 (by kernel_rfl)))
            have HO_161009 := Aside0.mk (Q_HO_161009 (hoff 24 (by kernel_rfl)))
            have HO_5 := Aside0.mk (Q_HO_5 (hoff 24 (by kernel_rfl)))
            have HO_7 := Aside0.mk (Q_HO_7 (hoff 24 (by kernel_rfl)))
            have BK159 := Aside0.mk Q_BK159
            have BK160 := Aside0.mk Q_BK160
            have HB := Aside0.mk Q_HB
            refine Kd.R_lit_step (Kd.int .u32) _ 27 ?hg (N := 68) ?hd (xs := ([a0_13, a0_14] : List Int)) (inner := [.int .u32 a0_13, .int .u32 a0_14]) (ok := fun _ => True) (okp := fun _ => True) ?hr ?hp (fun _ hk => hk) trivial (Below.refl _ _) (Nat.le_refl _) (by simp) ?_; (case hd => rfl); (case hg => rfl); (case hr => first | (go_simp; done) | (go_simp; rfl)); (case hp => exact (Reps.one (show Kd.M (Kd.int .u32) _ _ _ a0_13 [.int .u32 a0_13] from rfl) (Reps.one (show Kd.M (Kd.int .u32) _ _ _ a0_14 [.int .u32 a0_14] from rfl) (Reps.none _ _))))
            intro v188 w28 ho29 hb hg_ hnew_
            clear hg_ hnew_
            (first | rw [← Ny187.out] at ho29 | (simp only [Int.reduceToNat] at ho29; rw [← Ny187.out] at ho29))
            have n0_ := Aside0.mk (Kd.R_below (by (with_reducible repeat (first | apply Kd.R_alloc | apply Kd.R_drewN | apply Kd.R_drew)); exact HO_5.out) hb)
            have n1_ := Aside0.mk (Kd.R_below (by (with_reducible repeat (first | apply Kd.R_alloc | apply Kd.R_drewN | apply Kd.R_drew)); exact HO_7.out) hb)
            have n2_ := Aside0.mk (Kd.V_elder' (by (with_reducible repeat (first | apply Kd.V_alloc | apply Kd.V_drewN | apply Kd.V_drew)); exact HO_160008.out) (Kd.R_base ho29) hb)
            have n3_ := Aside0.mk (Kd.V_elder' (by (with_reducible repeat (first | apply Kd.V_alloc | apply Kd.V_drewN | apply Kd.V_drew)); exact HO_160009.out) (Kd.R_base ho29) hb)
            have n4_ := Aside0.mk (Kd.V_elder' (by (with_reducible repeat (first | apply Kd.V_alloc | apply Kd.V_drewN | apply Kd.V_drew)); exact HO_160015.out) (Kd.R_base ho29) hb)
            have n5_ := Aside0.mk (Kd.V_elder' (by (with_reducible repeat (first | apply Kd.V_alloc | apply Kd.V_drewN | apply Kd.V_drew)); exact HO_161008.out) (Kd.R_base ho29) hb)
            have n6_ := Aside0.mk (Kd.V_elder' (by (with_reducible repeat (first | apply Kd.V_alloc | apply Kd.V_drewN | apply Kd.V_drew)); exact HO_161009.out) (Kd.R_base ho29) hb)
            have n7_ := Aside0.mk (Kd.R_lower (Kd.R_newM (M := fun k_ => (w.heap.size ≤ k_)) ho29 (below_size (by repeat (first | (with_reducible first | exact HB.out | apply below_alloc | apply pw_below_drewN | apply below_drew1 | refine below_set ?_ GE159.out | refine below_set ?_ GE160.out) | exact HB.out))) (fun k_ h_ => h_)) (below_size (by repeat (first | (with_reducible first | exact HB.out | apply below_alloc | apply pw_below_drewN | apply below_drew1 | refine below_set ?_ GE159.out | refine below_set ?_ GE160.out) | exact HB.out))))
            have n8_ := Aside0.mk (blk_below (g := gb159) (o := .cells #[.int .i64 a0_0, .int .i64 a0_1, .int .i64 a0_2, .int .i64 a0_3, .int .i64 a0_4, .int .u32 a0_5, .int .u32 a0_6, .int .u32 a0_7, .slice A0_8 l0_8.length c0_8, .slice A0_9 l0_9.length c0_9, .int .i64 a0_10, .int .i64 a0_11, .int .i64 a0_12, .int .u32 a0_13, .int .u32 a0_14, .slice A0_15 l0_15.length c0_15] 39 (0, 0)) (by (with_reducible repeat (first | refine blk_drewN ?_ _ | refine blk_drew ?_ | refine blk_alloc ?_ _)); exact BK159.out) hb)
            have n9_ := Aside0.mk (blk_below (g := gb160) (o := .cells #[.int .i64 a0_0, .int .i64 a0_1, .int .i64 a0_2, .int .i64 a0_3, .int .i64 a0_4, .int .u32 a0_5, .int .u32 a0_6, .int .u32 a0_7, .slice A0_8 l0_8.length c0_8, .slice A0_9 l0_9.length c0_9] 37 (0, 0)) (by (with_reducible repeat (first | refine blk_drewN ?_ _ | refine blk_drew ?_ | refine blk_alloc ?_ _)); exact BK160.out) hb)
            have n10_ := Aside0.mk (below_step (by repeat (first | (with_reducible first | exact HB.out | apply below_alloc | apply pw_below_drewN | apply below_drew1 | refine below_set ?_ GE159.out | refine below_set ?_ GE160.out) | exact HB.out)) hb)
            have z_HO177 := fun (h0_ : b 0 = true) => (show Kd.R (Kd.int .u32) 27 w28 w.heap.size (fun k_ => (w.heap.size ≤ k_)) v176 y175 from by first | exact (Kd.R_elder' (by (with_reducible repeat (first | apply Kd.R_alloc | apply Kd.R_drewN | apply Kd.R_drew)); exact (Q_HO177 h0_)) (Kd.R_base ho29) hb) | exact Kd.R_mono (Kd.R_elder' (by (with_reducible repeat (first | apply Kd.R_alloc | apply Kd.R_drewN | apply Kd.R_drew)); exact (Q_HO177 h0_)) (Kd.R_base ho29) hb) (fun _ h_ => by first | trivial | exact h_ | exact h_.1))
            have z_HO180 := fun (h0_ : b 1 = true) (h1_ : b 24 = false) => (show Kd.R (Kd.int .u8) 5 w28 w.heap.size (fun k_ => (w.heap.size ≤ k_) ∧ some k_ ≠ (v166 : Value).ownBlock ∧ some k_ ≠ (v173 : Value).ownBlock) v179 t178 from by first | exact (Kd.R_below (by (with_reducible repeat (first | apply Kd.R_alloc | apply Kd.R_drewN | apply Kd.R_drew)); exact (Q_HO180 h0_ h1_)) hb) | exact Kd.R_mono (Kd.R_below (by (with_reducible repeat (first | apply Kd.R_alloc | apply Kd.R_drewN | apply Kd.R_drew)); exact (Q_HO180 h0_ h1_)) hb) (fun _ h_ => by first | trivial | exact h_ | exact h_.1))
            have z_HO183 := fun (h0_ : b 9 = true) => (show Kd.R (Kd.int .u32) 27 w28 w.heap.size (fun k_ => (w.heap.size ≤ k_)) v182 y181 from by first | exact (Kd.R_elder' (by (with_reducible repeat (first | apply Kd.R_alloc | apply Kd.R_drewN | apply Kd.R_drew)); exact (Q_HO183 h0_)) (Kd.R_base ho29) hb) | exact Kd.R_mono (Kd.R_elder' (by (with_reducible repeat (first | apply Kd.R_alloc | apply Kd.R_drewN | apply Kd.R_drew)); exact (Q_HO183 h0_)) (Kd.R_base ho29) hb) (fun _ h_ => by first | trivial | exact h_ | exact h_.1))
            have z_HO186 := fun (h0_ : b 10 = true) (h1_ : b 24 = false) => (show Kd.R (Kd.int .u8) 5 w28 w.heap.size (fun k_ => (w.heap.size ≤ k_) ∧ some k_ ≠ (v166 : Value).ownBlock ∧ some k_ ≠ (v173 : Value).ownBlock) v185 t184 from by first | exact (Kd.R_below (by (with_reducible repeat (first | apply Kd.R_alloc | apply Kd.R_drewN | apply Kd.R_drew)); exact (Q_HO186 h0_ h1_)) hb) | exact Kd.R_mono (Kd.R_below (by (with_reducible repeat (first | apply Kd.R_alloc | apply Kd.R_drewN | apply Kd.R_drew)); exact (Q_HO186 h0_ h1_)) hb) (fun _ h_ => by first | trivial | exact h_ | exact h_.1))
            clear HO_5
            clear HO_7
            clear HO_160008
            clear HO_160009
            clear HO_160015
            clear HO_161008
            clear HO_161009
            clear BK159
            clear BK160
            clear HB
            have HO_5 := n0_
            have HO_7 := n1_
            have HO_160008 := n2_
            have HO_160009 := n3_
            have HO_160015 := n4_
            have HO_161008 := n5_
            have HO_161009 := n6_
            have HO189 := n7_
            have BK159 := n8_
            have BK160 := n9_
            have HB := n10_
            clear n0_ n1_ n2_ n3_ n4_ n5_ n6_ n7_ n8_ n9_ n10_
            clear hb ho29
            refine hK.out _ _ ⟨v176, v179, v182, v185, v188, v191, v194, v197, m26_, (by rw [ha.out]; exact putSel_upk 9 hb_ rfl rfl rfl), fun _ => (by (with_reducible repeat (first | apply Kd.V_alloc | apply Kd.V_drewN | apply Kd.V_drew)); exact Kd.V_mono HO_160008.out (fun _ hk => by first | exact ⟨hk.1.1, ⟨hk.2, ⟨hk.1.2.1, ⟨hk.1.2.2.1, ⟨hk.1.2.2.2.1, hk.1.2.2.2.2⟩⟩⟩⟩⟩ | simp_all)), fun _ => (by (with_reducible repeat (first | apply Kd.V_alloc | apply Kd.V_drewN | apply Kd.V_drew)); exact Kd.V_mono HO_160009.out (fun _ hk => by first | exact ⟨hk.1.1, ⟨hk.2, ⟨hk.1.2.1, ⟨hk.1.2.2.1, ⟨hk.1.2.2.2.1, hk.1.2.2.2.2⟩⟩⟩⟩⟩ | simp_all)), fun _ => (by (with_reducible repeat (first | apply Kd.V_alloc | apply Kd.V_drewN | apply Kd.V_drew)); exact Kd.V_mono HO_160015.out (fun _ hk => by first | exact ⟨hk.1.1, ⟨hk.2, ⟨hk.1.2.1, ⟨hk.1.2.2.1, ⟨hk.1.2.2.2.1, hk.1.2.2.2.2⟩⟩⟩⟩⟩ | simp_all)), fun _ => (by (with_reducible repeat (first | apply Kd.V_alloc | apply Kd.V_drewN | apply Kd.V_drew)); exact Kd.V_mono HO_161008.out (fun _ hk => by first | exact ⟨hk.1.1, ⟨hk.2, ⟨hk.1.2.1, ⟨hk.1.2.2.1, ⟨hk.1.2.2.2.1, hk.1.2.2.2.2⟩⟩⟩⟩⟩ | simp_all)), fun _ => (by (with_reducible repeat (first | apply Kd.V_alloc | apply Kd.V_drewN | apply Kd.V_drew)); exact Kd.V_mono HO_161009.out (fun _ hk => by first | exact ⟨hk.1.1, ⟨hk.2, ⟨hk.1.2.1, ⟨hk.1.2.2.1, ⟨hk.1.2.2.2.1, hk.1.2.2.2.2⟩⟩⟩⟩⟩ | simp_all)), fun _ => (by (with_reducible repeat (first | apply Kd.R_alloc | apply Kd.R_drewN | apply Kd.R_drew)); exact HO_5.out), fun _ => (by (with_reducible repeat (first | apply Kd.R_alloc | apply Kd.R_drewN | apply Kd.R_drew)); exact HO_7.out), (by (with_reducible repeat (first | refine blk_drewN ?_ _ | refine blk_drew ?_ | refine blk_alloc ?_ _)); exact BK159.out), (by (with_reducible repeat (first | refine blk_drewN ?_ _ | refine blk_drew ?_ | refine blk_alloc ?_ _)); exact BK160.out), (by repeat (first | (with_reducible first | exact HB.out | apply below_alloc | apply pw_below_drewN | apply below_drew1 | refine below_set ?_ GE159.out | refine below_set ?_ GE160.out) | exact HB.out)), z_HO177, z_HO180, z_HO183, z_HO186, fun _ => (by (with_reducible repeat (first | apply Kd.R_alloc | apply Kd.R_drewN | apply Kd.R_drew)); exact Kd.R_mono HO189.out (fun _ hk => hk.1)), fun h0_ _ => absurd ((hoff 17 (by kernel_rfl)).symm.trans h0_) (by decide), fun h0_ => absurd ((hoff 24 (by kernel_rfl)).symm.trans h0_) (by decide), fun h0_ => absurd ((hoff 24 (by kernel_rfl)).symm.trans h0_) (by decide), fun h0_ => absurd ((hoff 24 (by kernel_rfl)).symm.trans h0_) (by decide), fun h0_ => absurd ((hoff 24 (by kernel_rfl)).symm.trans h0_) (by decide), fun h0_ => absurd ((hoff 24 (by kernel_rfl)).symm.trans h0_) (by decide), fun h0_ => absurd ((hoff 24 (by kernel_rfl)).symm.trans h0_) (by decide), fun h0_ => absurd ((hoff 25 (by kernel_rfl)).symm.trans h0_) (by decide), fun h0_ => absurd ((hoff 26 (by kernel_rfl)).symm.trans h0_) (by decide)⟩
          refine steps_cons ?_ ?_
          · rintro b a w' ⟨v176, v179, v182, v185, v188, v191, v194, v197, m26_, ha, Q_HO_160008, Q_HO_160009, Q_HO_160015, Q_HO_161008, Q_HO_161009, Q_HO_5, Q_HO_7, Q_BK159, Q_BK160, Q_HB, Q_HO177, Q_HO180, Q_HO183, Q_HO186, Q_HO189, Q_HO192, Q_HO195, Q_HO_160008_e24, Q_HO_160009_e24, Q_HO_160015_e24, Q_HO_161008_e24, Q_HO_161009_e24, Q_HO198, Q_X26_⟩ hb_ hon hoff
            refine ⟨_, rfl, fun K hK => ?_⟩
            have e68 : a.tmps[68]? = some (v188) := by rw [ha]; exact putSel_on (e := (16, 68, v188)) 9 rfl rfl (hon 16 (by kernel_rfl)) rfl
            replace ha := Aside0.mk ha
            have HO_160008 := Aside0.mk (Q_HO_160008 (hoff 24 (by kernel_rfl)))
            have HO_160009 := Aside0.mk (Q_HO_160009 (hoff 24 (by kernel_rfl)))
            have HO_160015 := Aside0.mk (Q_HO_160015 (hoff 24 (by kernel_rfl)))
            have HO_161008 := Aside0.mk (Q_HO_161008 (hoff 24 (by kernel_rfl)))
            have HO_161009 := Aside0.mk (Q_HO_161009 (hoff 24 (by kernel_rfl)))
            have HO_5 := Aside0.mk (Q_HO_5 (hoff 24 (by kernel_rfl)))
            have HO_7 := Aside0.mk (Q_HO_7 (hoff 24 (by kernel_rfl)))
            have BK159 := Aside0.mk Q_BK159
            have BK160 := Aside0.mk Q_BK160
            have HB := Aside0.mk Q_HB
            have HO177 := Aside0.mk (Q_HO177 (hon 0 (by kernel_rfl)))
            have HO180 := Aside0.mk (Q_HO180 (hon 1 (by kernel_rfl)) (hoff 24 (by kernel_rfl)))
            have HO183 := Aside0.mk (Q_HO183 (hon 9 (by kernel_rfl)))
            have HO186 := Aside0.mk (Q_HO186 (hon 10 (by kernel_rfl)) (hoff 24 (by kernel_rfl)))
            have HO189 := Aside0.mk (Q_HO189 (hon 16 (by kernel_rfl)))
            obtain ⟨Ao39, co39, eo39⟩ := Kd.R_slice HO189.out
            (first | subst eo39 | (injection eo39 with f1_ f2_ f3_; have f4_ := f1_.symm; have f5_ := f3_.symm; clear f1_ f2_ f3_; subst f4_; subst f5_))
            refine goes_ Try.func51 (by kernel_rfl) rfl #[.slice Ao39 y187.length co39] (by rfl) rfl rfl (by first | (simp only [List.map_toArray, List.map_cons, List.map_nil, Act.eval, Array.getD_eq_getD_getElem?, Option.getD_some, e68]; done) | (simp only [List.map_toArray, List.map_cons, List.map_nil, Act.eval, Array.getD_eq_getD_getElem?, Option.getD_some, e68]; rfl)) ?_
            with_reducible refine (duffelref24_words.calls kj3 _ _ y187 t190 _ ?side1 ?side2 A25.out).mono ?_
            (case side1 => repeat (first | exact (Kd.R_reads' HO189.out).2.2 | (with_reducible refine Kd.C_alloc ?_ _) | (with_reducible refine Kd.C_drewN ?_ _) | (with_reducible refine Kd.C_drew ?_)))
            (case side2 => exact (Kd.R_reads' HO189.out).2.1)
            rintro e w40 ⟨v191, rfl, ho0, hb⟩
            refine ⟨_, rfl, ?_⟩
            have n0_ := Aside0.mk (Kd.R_elder' (by (with_reducible repeat (first | apply Kd.R_alloc | apply Kd.R_drewN | apply Kd.R_drew)); exact HO_5.out) (Kd.R_base ho0) hb)
            have n1_ := Aside0.mk (Kd.R_elder' (by (with_reducible repeat (first | apply Kd.R_alloc | apply Kd.R_drewN | apply Kd.R_drew)); exact HO_7.out) (Kd.R_base ho0) hb)
            have n2_ := Aside0.mk (Kd.V_elder' (by (with_reducible repeat (first | apply Kd.V_alloc | apply Kd.V_drewN | apply Kd.V_drew)); exact HO_160008.out) (Kd.R_base ho0) hb)
            have n3_ := Aside0.mk (Kd.V_elder' (by (with_reducible repeat (first | apply Kd.V_alloc | apply Kd.V_drewN | apply Kd.V_drew)); exact HO_160009.out) (Kd.R_base ho0) hb)
            have n4_ := Aside0.mk (Kd.V_elder' (by (with_reducible repeat (first | apply Kd.V_alloc | apply Kd.V_drewN | apply Kd.V_drew)); exact HO_160015.out) (Kd.R_base ho0) hb)
            have n5_ := Aside0.mk (Kd.V_elder' (by (with_reducible repeat (first | apply Kd.V_alloc | apply Kd.V_drewN | apply Kd.V_drew)); exact HO_161008.out) (Kd.R_base ho0) hb)
            have n6_ := Aside0.mk (Kd.V_elder' (by (with_reducible repeat (first | apply Kd.V_alloc | apply Kd.V_drewN | apply Kd.V_drew)); exact HO_161009.out) (Kd.R_base ho0) hb)
            have n7_ := Aside0.mk (Kd.R_below (by (with_reducible repeat (first | apply Kd.R_alloc | apply Kd.R_drewN | apply Kd.R_drew)); exact HO177.out) hb)
            have n8_ := Aside0.mk (Kd.R_elder' (by (with_reducible repeat (first | apply Kd.R_alloc | apply Kd.R_drewN | apply Kd.R_drew)); exact HO180.out) (Kd.R_base ho0) hb)
            have n9_ := Aside0.mk (Kd.R_below (by (with_reducible repeat (first | apply Kd.R_alloc | apply Kd.R_drewN | apply Kd.R_drew)); exact HO183.out) hb)
            have n10_ := Aside0.mk (Kd.R_elder' (by (with_reducible repeat (first | apply Kd.R_alloc | apply Kd.R_drewN | apply Kd.R_drew)); exact HO186.out) (Kd.R_base ho0) hb)
            have n11_ := Aside0.mk (Kd.R_below (by (with_reducible repeat (first | apply Kd.R_alloc | apply Kd.R_drewN | apply Kd.R_drew)); exact HO189.out) hb)
            have n12_ := Aside0.mk (Kd.R_lower (Kd.R_new' (Kd.R_new' (Kd.R_new' (Kd.R_new' (Kd.R_newM (M := fun k_ => (w.heap.size ≤ k_)) ho0 (below_size (by repeat (first | (with_reducible first | exact HB.out | apply below_alloc | apply pw_below_drewN | apply below_drew1 | refine below_set ?_ GE159.out | refine below_set ?_ GE160.out) | exact HB.out))) (fun k_ h_ => h_)) (Kd.R_lt (by (with_reducible repeat (first | apply Kd.R_alloc | apply Kd.R_drewN | apply Kd.R_drew)); exact HO_5.out))) (Kd.R_lt (by (with_reducible repeat (first | apply Kd.R_alloc | apply Kd.R_drewN | apply Kd.R_drew)); exact HO_7.out))) (Kd.R_lt (by (with_reducible repeat (first | apply Kd.R_alloc | apply Kd.R_drewN | apply Kd.R_drew)); exact HO180.out))) (Kd.R_lt (by (with_reducible repeat (first | apply Kd.R_alloc | apply Kd.R_drewN | apply Kd.R_drew)); exact HO186.out))) (below_size (by repeat (first | (with_reducible first | exact HB.out | apply below_alloc | apply pw_below_drewN | apply below_drew1 | refine below_set ?_ GE159.out | refine below_set ?_ GE160.out) | exact HB.out))))
            have n13_ := Aside0.mk (blk_below (g := gb159) (o := .cells #[.int .i64 a0_0, .int .i64 a0_1, .int .i64 a0_2, .int .i64 a0_3, .int .i64 a0_4, .int .u32 a0_5, .int .u32 a0_6, .int .u32 a0_7, .slice A0_8 l0_8.length c0_8, .slice A0_9 l0_9.length c0_9, .int .i64 a0_10, .int .i64 a0_11, .int .i64 a0_12, .int .u32 a0_13, .int .u32 a0_14, .slice A0_15 l0_15.length c0_15] 39 (0, 0)) (by (with_reducible repeat (first | refine blk_drewN ?_ _ | refine blk_drew ?_ | refine blk_alloc ?_ _)); exact BK159.out) hb)
            have n14_ := Aside0.mk (blk_below (g := gb160) (o := .cells #[.int .i64 a0_0, .int .i64 a0_1, .int .i64 a0_2, .int .i64 a0_3, .int .i64 a0_4, .int .u32 a0_5, .int .u32 a0_6, .int .u32 a0_7, .slice A0_8 l0_8.length c0_8, .slice A0_9 l0_9.length c0_9] 37 (0, 0)) (by (with_reducible repeat (first | refine blk_drewN ?_ _ | refine blk_drew ?_ | refine blk_alloc ?_ _)); exact BK160.out) hb)
            have n15_ := Aside0.mk (below_step (by repeat (first | (with_reducible first | exact HB.out | apply below_alloc | apply pw_below_drewN | apply below_drew1 | refine below_set ?_ GE159.out | refine below_set ?_ GE160.out) | exact HB.out)) hb)
            clear HO_5
            clear HO_7
            clear HO_160008
            clear HO_160009
            clear HO_160015
            clear HO_161008
            clear HO_161009
            clear HO177
            clear HO180
            clear HO183
            clear HO186
            clear HO189
            clear BK159
            clear BK160
            clear HB
            have HO_5 := n0_
            have HO_7 := n1_
            have HO_160008 := n2_
            have HO_160009 := n3_
            have HO_160015 := n4_
            have HO_161008 := n5_
            have HO_161009 := n6_
            have HO177 := n7_
            have HO180 := n8_
            have HO183 := n9_
            have HO186 := n10_
            have HO189 := n11_
            have HO192 := n12_
            have BK159 := n13_
            have BK160 := n14_
            have HB := n15_
            clear n0_ n1_ n2_ n3_ n4_ n5_ n6_ n7_ n8_ n9_ n10_ n11_ n12_ n13_ n14_ n15_
            (try clear hb)
            (try clear hb2)
            (try clear hk)
            (try clear hi)
            (try clear ho0)
            refine hK.out _ _ ⟨v176, v179, v182, v185, .slice Ao39 y187.length co39, v191, v194, v197, m26_, (by rw [ha.out]; exact putSel_upk 10 hb_ rfl rfl rfl), fun _ => (by (with_reducible repeat (first | apply Kd.V_alloc | apply Kd.V_drewN | apply Kd.V_drew)); exact Kd.V_mono HO_160008.out (fun _ hk => by first | exact ⟨hk.1.1, ⟨hk.1.2.1, ⟨hk.1.2.2.1, ⟨hk.1.2.2.2.1, ⟨hk.1.2.2.2.2.1, ⟨hk.1.2.2.2.2.2.1, ⟨hk.2, ⟨hk.1.2.2.2.2.2.2.1, ⟨hk.1.2.2.2.2.2.2.2.1, ⟨hk.1.2.2.2.2.2.2.2.2.1, hk.1.2.2.2.2.2.2.2.2.2⟩⟩⟩⟩⟩⟩⟩⟩⟩⟩ | simp_all)), fun _ => (by (with_reducible repeat (first | apply Kd.V_alloc | apply Kd.V_drewN | apply Kd.V_drew)); exact Kd.V_mono HO_160009.out (fun _ hk => by first | exact ⟨hk.1.1, ⟨hk.1.2.1, ⟨hk.1.2.2.1, ⟨hk.1.2.2.2.1, ⟨hk.1.2.2.2.2.1, ⟨hk.1.2.2.2.2.2.1, ⟨hk.2, ⟨hk.1.2.2.2.2.2.2.1, ⟨hk.1.2.2.2.2.2.2.2.1, ⟨hk.1.2.2.2.2.2.2.2.2.1, hk.1.2.2.2.2.2.2.2.2.2⟩⟩⟩⟩⟩⟩⟩⟩⟩⟩ | simp_all)), fun _ => (by (with_reducible repeat (first | apply Kd.V_alloc | apply Kd.V_drewN | apply Kd.V_drew)); exact Kd.V_mono HO_160015.out (fun _ hk => by first | exact ⟨hk.1.1, ⟨hk.1.2.1, ⟨hk.1.2.2.1, ⟨hk.1.2.2.2.1, ⟨hk.1.2.2.2.2.1, ⟨hk.1.2.2.2.2.2.1, ⟨hk.2, ⟨hk.1.2.2.2.2.2.2.1, ⟨hk.1.2.2.2.2.2.2.2.1, ⟨hk.1.2.2.2.2.2.2.2.2.1, hk.1.2.2.2.2.2.2.2.2.2⟩⟩⟩⟩⟩⟩⟩⟩⟩⟩ | simp_all)), fun _ => (by (with_reducible repeat (first | apply Kd.V_alloc | apply Kd.V_drewN | apply Kd.V_drew)); exact Kd.V_mono HO_161008.out (fun _ hk => by first | exact ⟨hk.1.1, ⟨hk.1.2.1, ⟨hk.1.2.2.1, ⟨hk.1.2.2.2.1, ⟨hk.1.2.2.2.2.1, ⟨hk.1.2.2.2.2.2.1, ⟨hk.2, ⟨hk.1.2.2.2.2.2.2.1, ⟨hk.1.2.2.2.2.2.2.2.1, ⟨hk.1.2.2.2.2.2.2.2.2.1, hk.1.2.2.2.2.2.2.2.2.2⟩⟩⟩⟩⟩⟩⟩⟩⟩⟩ | simp_all)), fun _ => (by (with_reducible repeat (first | apply Kd.V_alloc | apply Kd.V_drewN | apply Kd.V_drew)); exact Kd.V_mono HO_161009.out (fun _ hk => by first | exact ⟨hk.1.1, ⟨hk.1.2.1, ⟨hk.1.2.2.1, ⟨hk.1.2.2.2.1, ⟨hk.1.2.2.2.2.1, ⟨hk.1.2.2.2.2.2.1, ⟨hk.2, ⟨hk.1.2.2.2.2.2.2.1, ⟨hk.1.2.2.2.2.2.2.2.1, ⟨hk.1.2.2.2.2.2.2.2.2.1, hk.1.2.2.2.2.2.2.2.2.2⟩⟩⟩⟩⟩⟩⟩⟩⟩⟩ | simp_all)), fun _ => (by (with_reducible repeat (first | apply Kd.R_alloc | apply Kd.R_drewN | apply Kd.R_drew)); exact Kd.R_mono HO_5.out (fun _ hk => by first | exact ⟨hk.1.1, ⟨hk.1.2.1, ⟨hk.1.2.2.1, ⟨hk.2, hk.1.2.2.2⟩⟩⟩⟩ | simp_all)), fun _ => (by (with_reducible repeat (first | apply Kd.R_alloc | apply Kd.R_drewN | apply Kd.R_drew)); exact Kd.R_mono HO_7.out (fun _ hk => by first | exact ⟨hk.1.1, ⟨hk.1.2.1, ⟨hk.1.2.2.1, ⟨hk.2, hk.1.2.2.2⟩⟩⟩⟩ | simp_all)), (by (with_reducible repeat (first | refine blk_drewN ?_ _ | refine blk_drew ?_ | refine blk_alloc ?_ _)); exact BK159.out), (by (with_reducible repeat (first | refine blk_drewN ?_ _ | refine blk_drew ?_ | refine blk_alloc ?_ _)); exact BK160.out), (by repeat (first | (with_reducible first | exact HB.out | apply below_alloc | apply pw_below_drewN | apply below_drew1 | refine below_set ?_ GE159.out | refine below_set ?_ GE160.out) | exact HB.out)), fun _ => (by (with_reducible repeat (first | apply Kd.R_alloc | apply Kd.R_drewN | apply Kd.R_drew)); exact HO177.out), fun _ _ => (by (with_reducible repeat (first | apply Kd.R_alloc | apply Kd.R_drewN | apply Kd.R_drew)); exact Kd.R_mono HO180.out (fun _ hk => by first | exact ⟨hk.1.1, ⟨hk.1.2.1, ⟨hk.2, ⟨hk.1.2.2.1, hk.1.2.2.2⟩⟩⟩⟩ | simp_all)), fun _ => (by (with_reducible repeat (first | apply Kd.R_alloc | apply Kd.R_drewN | apply Kd.R_drew)); exact HO183.out), fun _ _ => (by (with_reducible repeat (first | apply Kd.R_alloc | apply Kd.R_drewN | apply Kd.R_drew)); exact Kd.R_mono HO186.out (fun _ hk => by first | exact ⟨hk.1.1, ⟨hk.1.2.1, ⟨hk.2, ⟨hk.1.2.2.1, hk.1.2.2.2⟩⟩⟩⟩ | simp_all)), fun _ => (by (with_reducible repeat (first | apply Kd.R_alloc | apply Kd.R_drewN | apply Kd.R_drew)); exact HO189.out), fun _ _ => (by (with_reducible repeat (first | apply Kd.R_alloc | apply Kd.R_drewN | apply Kd.R_drew)); exact Kd.R_mono HO192.out (fun _ hk => by first | exact ⟨hk.1.1.1.1.1, ⟨hk.1.2, ⟨hk.2, ⟨hk.1.1.1.2, hk.1.1.2⟩⟩⟩⟩ | simp_all)), fun h0_ => absurd ((hoff 24 (by kernel_rfl)).symm.trans h0_) (by decide), fun h0_ => absurd ((hoff 24 (by kernel_rfl)).symm.trans h0_) (by decide), fun h0_ => absurd ((hoff 24 (by kernel_rfl)).symm.trans h0_) (by decide), fun h0_ => absurd ((hoff 24 (by kernel_rfl)).symm.trans h0_) (by decide), fun h0_ => absurd ((hoff 24 (by kernel_rfl)).symm.trans h0_) (by decide), fun h0_ => absurd ((hoff 24 (by kernel_rfl)).symm.trans h0_) (by decide), fun h0_ => absurd ((hoff 25 (by kernel_rfl)).symm.trans h0_) (by decide), fun h0_ => absurd ((hoff 26 (by kernel_rfl)).symm.trans h0_) (by decide)⟩
          refine steps_cons ?_ ?_
          · rintro b a w' ⟨v176, v179, v182, v185, v188, v191, v194, v197, m26_, ha, Q_HO_160008, Q_HO_160009, Q_HO_160015, Q_HO_161008, Q_HO_161009, Q_HO_5, Q_HO_7, Q_BK159, Q_BK160, Q_HB, Q_HO177, Q_HO180, Q_HO183, Q_HO186, Q_HO189, Q_HO192, Q_HO195, Q_HO_160008_e24, Q_HO_160009_e24, Q_HO_160015_e24, Q_HO_161008_e24, Q_HO_161009_e24, Q_HO198, Q_X26_⟩ hb_ hon hoff
            refine ⟨_, rfl, fun K hK => ?_⟩
            have e70 : a.tmps[70]? = some (.pointer (some ⟨gb160, 8, none⟩)) := by rw [ha]; exact (putSel_off rfl).trans rfl
            replace ha := Aside0.mk ha
            have HO_160008 := Aside0.mk (Q_HO_160008 (hoff 24 (by kernel_rfl)))
            have HO_160009 := Aside0.mk (Q_HO_160009 (hoff 24 (by kernel_rfl)))
            have HO_160015 := Aside0.mk (Q_HO_160015 (hoff 24 (by kernel_rfl)))
            have HO_161008 := Aside0.mk (Q_HO_161008 (hoff 24 (by kernel_rfl)))
            have HO_161009 := Aside0.mk (Q_HO_161009 (hoff 24 (by kernel_rfl)))
            have HO_5 := Aside0.mk (Q_HO_5 (hoff 24 (by kernel_rfl)))
            have HO_7 := Aside0.mk (Q_HO_7 (hoff 24 (by kernel_rfl)))
            have BK159 := Aside0.mk Q_BK159
            have BK160 := Aside0.mk Q_BK160
            have HB := Aside0.mk Q_HB
            have hc0_ : w'.cell? ⟨gb160, 0, none⟩ = some (.int .i64 a0_0) := (blk_cell BK160.out 0).trans rfl
            have hc1_ : w'.cell? ⟨gb160, 1, none⟩ = some (.int .i64 a0_1) := (blk_cell BK160.out 1).trans rfl
            have hc2_ : w'.cell? ⟨gb160, 2, none⟩ = some (.int .i64 a0_2) := (blk_cell BK160.out 2).trans rfl
            have hc3_ : w'.cell? ⟨gb160, 3, none⟩ = some (.int .i64 a0_3) := (blk_cell BK160.out 3).trans rfl
            have hc4_ : w'.cell? ⟨gb160, 4, none⟩ = some (.int .i64 a0_4) := (blk_cell BK160.out 4).trans rfl
            have hc5_ : w'.cell? ⟨gb160, 5, none⟩ = some (.int .u32 a0_5) := (blk_cell BK160.out 5).trans rfl
            have hc6_ : w'.cell? ⟨gb160, 6, none⟩ = some (.int .u32 a0_6) := (blk_cell BK160.out 6).trans rfl
            have hc7_ : w'.cell? ⟨gb160, 7, none⟩ = some (.int .u32 a0_7) := (blk_cell BK160.out 7).trans rfl
            have hc8_ : w'.cell? ⟨gb160, 8, none⟩ = some (.slice A0_8 l0_8.length c0_8) := (blk_cell BK160.out 8).trans rfl
            have hc9_ : w'.cell? ⟨gb160, 9, none⟩ = some (.slice A0_9 l0_9.length c0_9) := (blk_cell BK160.out 9).trans rfl
            refine value_ (w1 := w') (v := .slice A0_8 l0_8.length c0_8) (by rfl) rfl ?_ ?_
            · go_simp
              (try simp only [i64_w])
              try rfl
            refine hK.out _ _ ⟨v176, v179, v182, v185, v188, v191, v194, v197, m26_, (by rw [ha.out]; exact putSel_upk 11 hb_ rfl rfl rfl), Q_HO_160008, Q_HO_160009, Q_HO_160015, Q_HO_161008, Q_HO_161009, Q_HO_5, Q_HO_7, Q_BK159, Q_BK160, Q_HB, Q_HO177, Q_HO180, Q_HO183, Q_HO186, Q_HO189, Q_HO192, fun h0_ => absurd ((hoff 24 (by kernel_rfl)).symm.trans h0_) (by decide), fun h0_ => absurd ((hoff 24 (by kernel_rfl)).symm.trans h0_) (by decide), fun h0_ => absurd ((hoff 24 (by kernel_rfl)).symm.trans h0_) (by decide), fun h0_ => absurd ((hoff 24 (by kernel_rfl)).symm.trans h0_) (by decide), fun h0_ => absurd ((hoff 24 (by kernel_rfl)).symm.trans h0_) (by decide), fun h0_ => absurd ((hoff 24 (by kernel_rfl)).symm.trans h0_) (by decide), fun h0_ => absurd ((hoff 25 (by kernel_rfl)).symm.trans h0_) (by decide), fun h0_ => absurd ((hoff 26 (by kernel_rfl)).symm.trans h0_) (by decide)⟩
          refine steps_cons ?_ ?_
          · rintro b a w' ⟨v176, v179, v182, v185, v188, v191, v194, v197, m26_, ha, Q_HO_160008, Q_HO_160009, Q_HO_160015, Q_HO_161008, Q_HO_161009, Q_HO_5, Q_HO_7, Q_BK159, Q_BK160, Q_HB, Q_HO177, Q_HO180, Q_HO183, Q_HO186, Q_HO189, Q_HO192, Q_HO195, Q_HO_160008_e24, Q_HO_160009_e24, Q_HO_160015_e24, Q_HO_161008_e24, Q_HO_161009_e24, Q_HO198, Q_X26_⟩ hb_ hon hoff
            refine ⟨_, rfl, fun K hK => ?_⟩
            have e72 : a.tmps[72]? = some (.pointer (some ⟨gb160, 9, none⟩)) := by rw [ha]; exact (putSel_off rfl).trans rfl
            replace ha := Aside0.mk ha
            have HO_160008 := Aside0.mk (Q_HO_160008 (hoff 24 (by kernel_rfl)))
            have HO_160009 := Aside0.mk (Q_HO_160009 (hoff 24 (by kernel_rfl)))
            have HO_160015 := Aside0.mk (Q_HO_160015 (hoff 24 (by kernel_rfl)))
            have HO_161008 := Aside0.mk (Q_HO_161008 (hoff 24 (by kernel_rfl)))
            have HO_161009 := Aside0.mk (Q_HO_161009 (hoff 24 (by kernel_rfl)))
            have HO_5 := Aside0.mk (Q_HO_5 (hoff 24 (by kernel_rfl)))
            have HO_7 := Aside0.mk (Q_HO_7 (hoff 24 (by kernel_rfl)))
            have BK159 := Aside0.mk Q_BK159
            have BK160 := Aside0.mk Q_BK160
            have HB := Aside0.mk Q_HB
            have hc0_ : w'.cell? ⟨gb160, 0, none⟩ = some (.int .i64 a0_0) := (blk_cell BK160.out 0).trans rfl
            have hc1_ : w'.cell? ⟨gb160, 1, none⟩ = some (.int .i64 a0_1) := (blk_cell BK160.out 1).trans rfl
            have hc2_ : w'.cell? ⟨gb160, 2, none⟩ = some (.int .i64 a0_2) := (blk_cell BK160.out 2).trans rfl
            have hc3_ : w'.cell? ⟨gb160, 3, none⟩ = some (.int .i64 a0_3) := (blk_cell BK160.out 3).trans rfl
            have hc4_ : w'.cell? ⟨gb160, 4, none⟩ = some (.int .i64 a0_4) := (blk_cell BK160.out 4).trans rfl
            have hc5_ : w'.cell? ⟨gb160, 5, none⟩ = some (.int .u32 a0_5) := (blk_cell BK160.out 5).trans rfl
            have hc6_ : w'.cell? ⟨gb160, 6, none⟩ = some (.int .u32 a0_6) := (blk_cell BK160.out 6).trans rfl
            have hc7_ : w'.cell? ⟨gb160, 7, none⟩ = some (.int .u32 a0_7) := (blk_cell BK160.out 7).trans rfl
            have hc8_ : w'.cell? ⟨gb160, 8, none⟩ = some (.slice A0_8 l0_8.length c0_8) := (blk_cell BK160.out 8).trans rfl
            have hc9_ : w'.cell? ⟨gb160, 9, none⟩ = some (.slice A0_9 l0_9.length c0_9) := (blk_cell BK160.out 9).trans rfl
            refine value_ (w1 := w') (v := .slice A0_9 l0_9.length c0_9) (by rfl) rfl ?_ ?_
            · go_simp
              (try simp only [i64_w])
              try rfl
            refine hK.out _ _ ⟨v176, v179, v182, v185, v188, v191, v194, v197, m26_, (by rw [ha.out]; exact putSel_upk 12 hb_ rfl rfl rfl), Q_HO_160008, Q_HO_160009, Q_HO_160015, Q_HO_161008, Q_HO_161009, Q_HO_5, Q_HO_7, Q_BK159, Q_BK160, Q_HB, Q_HO177, Q_HO180, Q_HO183, Q_HO186, Q_HO189, Q_HO192, fun h0_ => absurd ((hoff 24 (by kernel_rfl)).symm.trans h0_) (by decide), fun h0_ => absurd ((hoff 24 (by kernel_rfl)).symm.trans h0_) (by decide), fun h0_ => absurd ((hoff 24 (by kernel_rfl)).symm.trans h0_) (by decide), fun h0_ => absurd ((hoff 24 (by kernel_rfl)).symm.trans h0_) (by decide), fun h0_ => absurd ((hoff 24 (by kernel_rfl)).symm.trans h0_) (by decide), fun h0_ => absurd ((hoff 24 (by kernel_rfl)).symm.trans h0_) (by decide), fun h0_ => absurd ((hoff 25 (by kernel_rfl)).symm.trans h0_) (by decide), fun h0_ => absurd ((hoff 26 (by kernel_rfl)).symm.trans h0_) (by decide)⟩
          refine steps_cons ?_ ?_
          · rintro b a w' ⟨v176, v179, v182, v185, v188, v191, v194, v197, m26_, ha, Q_HO_160008, Q_HO_160009, Q_HO_160015, Q_HO_161008, Q_HO_161009, Q_HO_5, Q_HO_7, Q_BK159, Q_BK160, Q_HB, Q_HO177, Q_HO180, Q_HO183, Q_HO186, Q_HO189, Q_HO192, Q_HO195, Q_HO_160008_e24, Q_HO_160009_e24, Q_HO_160015_e24, Q_HO_161008_e24, Q_HO_161009_e24, Q_HO198, Q_X26_⟩ hb_ hon hoff
            refine ⟨_, rfl, fun K hK => ?_⟩
            have e74 : a.tmps[74]? = some (.pointer (some ⟨gb159, 15, none⟩)) := by rw [ha]; exact (putSel_off rfl).trans rfl
            replace ha := Aside0.mk ha
            have HO_160008 := Aside0.mk (Q_HO_160008 (hoff 24 (by kernel_rfl)))
            have HO_160009 := Aside0.mk (Q_HO_160009 (hoff 24 (by kernel_rfl)))
            have HO_160015 := Aside0.mk (Q_HO_160015 (hoff 24 (by kernel_rfl)))
            have HO_161008 := Aside0.mk (Q_HO_161008 (hoff 24 (by kernel_rfl)))
            have HO_161009 := Aside0.mk (Q_HO_161009 (hoff 24 (by kernel_rfl)))
            have HO_5 := Aside0.mk (Q_HO_5 (hoff 24 (by kernel_rfl)))
            have HO_7 := Aside0.mk (Q_HO_7 (hoff 24 (by kernel_rfl)))
            have BK159 := Aside0.mk Q_BK159
            have BK160 := Aside0.mk Q_BK160
            have HB := Aside0.mk Q_HB
            have hc0_ : w'.cell? ⟨gb159, 0, none⟩ = some (.int .i64 a0_0) := (blk_cell BK159.out 0).trans rfl
            have hc1_ : w'.cell? ⟨gb159, 1, none⟩ = some (.int .i64 a0_1) := (blk_cell BK159.out 1).trans rfl
            have hc2_ : w'.cell? ⟨gb159, 2, none⟩ = some (.int .i64 a0_2) := (blk_cell BK159.out 2).trans rfl
            have hc3_ : w'.cell? ⟨gb159, 3, none⟩ = some (.int .i64 a0_3) := (blk_cell BK159.out 3).trans rfl
            have hc4_ : w'.cell? ⟨gb159, 4, none⟩ = some (.int .i64 a0_4) := (blk_cell BK159.out 4).trans rfl
            have hc5_ : w'.cell? ⟨gb159, 5, none⟩ = some (.int .u32 a0_5) := (blk_cell BK159.out 5).trans rfl
            have hc6_ : w'.cell? ⟨gb159, 6, none⟩ = some (.int .u32 a0_6) := (blk_cell BK159.out 6).trans rfl
            have hc7_ : w'.cell? ⟨gb159, 7, none⟩ = some (.int .u32 a0_7) := (blk_cell BK159.out 7).trans rfl
            have hc8_ : w'.cell? ⟨gb159, 8, none⟩ = some (.slice A0_8 l0_8.length c0_8) := (blk_cell BK159.out 8).trans rfl
            have hc9_ : w'.cell? ⟨gb159, 9, none⟩ = some (.slice A0_9 l0_9.length c0_9) := (blk_cell BK159.out 9).trans rfl
            have hc10_ : w'.cell? ⟨gb159, 10, none⟩ = some (.int .i64 a0_10) := (blk_cell BK159.out 10).trans rfl
            have hc11_ : w'.cell? ⟨gb159, 11, none⟩ = some (.int .i64 a0_11) := (blk_cell BK159.out 11).trans rfl
            have hc12_ : w'.cell? ⟨gb159, 12, none⟩ = some (.int .i64 a0_12) := (blk_cell BK159.out 12).trans rfl
            have hc13_ : w'.cell? ⟨gb159, 13, none⟩ = some (.int .u32 a0_13) := (blk_cell BK159.out 13).trans rfl
            have hc14_ : w'.cell? ⟨gb159, 14, none⟩ = some (.int .u32 a0_14) := (blk_cell BK159.out 14).trans rfl
            have hc15_ : w'.cell? ⟨gb159, 15, none⟩ = some (.slice A0_15 l0_15.length c0_15) := (blk_cell BK159.out 15).trans rfl
            refine value_ (w1 := w') (v := .slice A0_15 l0_15.length c0_15) (by rfl) rfl ?_ ?_
            · go_simp
              (try simp only [i64_w])
              try rfl
            refine hK.out _ _ ⟨v176, v179, v182, v185, v188, v191, v194, v197, m26_, (by rw [ha.out]; exact putSel_upk 13 hb_ rfl rfl rfl), Q_HO_160008, Q_HO_160009, Q_HO_160015, Q_HO_161008, Q_HO_161009, Q_HO_5, Q_HO_7, Q_BK159, Q_BK160, Q_HB, Q_HO177, Q_HO180, Q_HO183, Q_HO186, Q_HO189, Q_HO192, fun h0_ => absurd ((hoff 24 (by kernel_rfl)).symm.trans h0_) (by decide), fun h0_ => absurd ((hoff 24 (by kernel_rfl)).symm.trans h0_) (by decide), fun h0_ => absurd ((hoff 24 (by kernel_rfl)).symm.trans h0_) (by decide), fun h0_ => absurd ((hoff 24 (by kernel_rfl)).symm.trans h0_) (by decide), fun h0_ => absurd ((hoff 24 (by kernel_rfl)).symm.trans h0_) (by decide), fun h0_ => absurd ((hoff 24 (by kernel_rfl)).symm.trans h0_) (by decide), fun h0_ => absurd ((hoff 25 (by kernel_rfl)).symm.trans h0_) (by decide), fun h0_ => absurd ((hoff 26 (by kernel_rfl)).symm.trans h0_) (by decide)⟩
          refine steps_cons ?_ ?_
          · rintro b a w' ⟨v176, v179, v182, v185, v188, v191, v194, v197, m26_, ha, Q_HO_160008, Q_HO_160009, Q_HO_160015, Q_HO_161008, Q_HO_161009, Q_HO_5, Q_HO_7, Q_BK159, Q_BK160, Q_HB, Q_HO177, Q_HO180, Q_HO183, Q_HO186, Q_HO189, Q_HO192, Q_HO195, Q_HO_160008_e24, Q_HO_160009_e24, Q_HO_160015_e24, Q_HO_161008_e24, Q_HO_161009_e24, Q_HO198, Q_X26_⟩ hb_ hon hoff
            refine ⟨_, rfl, fun K hK => ?_⟩
            have e53 : a.tmps[53]? = some (v179) := by rw [ha]; exact putSel_on (e := (1, 53, v179)) 1 rfl rfl (hon 1 (by kernel_rfl)) rfl
            have e54 : a.tmps[54]? = some (v166) := by rw [ha]; exact (putSel_off rfl).trans rfl
            have e62 : a.tmps[62]? = some (v185) := by rw [ha]; exact putSel_on (e := (10, 62, v185)) 6 rfl rfl (hon 10 (by kernel_rfl)) rfl
            have e63 : a.tmps[63]? = some (v173) := by rw [ha]; exact (putSel_off rfl).trans rfl
            have e69 : a.tmps[69]? = some (v191) := by rw [ha]; exact putSel_on (e := (17, 69, v191)) 10 rfl rfl (hon 17 (by kernel_rfl)) rfl
            have e71 : a.tmps[71]? = some (.slice A0_8 l0_8.length c0_8) := by rw [ha]; exact putSel_on (e := (19, 71, .slice A0_8 l0_8.length c0_8)) 11 rfl rfl (hon 19 (by kernel_rfl)) rfl
            have e73 : a.tmps[73]? = some (.slice A0_9 l0_9.length c0_9) := by rw [ha]; exact putSel_on (e := (21, 73, .slice A0_9 l0_9.length c0_9)) 12 rfl rfl (hon 21 (by kernel_rfl)) rfl
            have e75 : a.tmps[75]? = some (.slice A0_15 l0_15.length c0_15) := by rw [ha]; exact putSel_on (e := (23, 75, .slice A0_15 l0_15.length c0_15)) 13 rfl rfl (hon 23 (by kernel_rfl)) rfl
            replace ha := Aside0.mk ha
            have HO_160008 := Aside0.mk (Q_HO_160008 hb_)
            have HO_160009 := Aside0.mk (Q_HO_160009 hb_)
            have HO_160015 := Aside0.mk (Q_HO_160015 hb_)
            have HO_161008 := Aside0.mk (Q_HO_161008 hb_)
            have HO_161009 := Aside0.mk (Q_HO_161009 hb_)
            have HO_5 := Aside0.mk (Q_HO_5 hb_)
            have HO_7 := Aside0.mk (Q_HO_7 hb_)
            have BK159 := Aside0.mk Q_BK159
            have BK160 := Aside0.mk Q_BK160
            have HB := Aside0.mk Q_HB
            have HO177 := Aside0.mk (Q_HO177 (hon 0 (by kernel_rfl)))
            have HO180 := Aside0.mk (Q_HO180 (hon 1 (by kernel_rfl)) hb_)
            have HO183 := Aside0.mk (Q_HO183 (hon 9 (by kernel_rfl)))
            have HO186 := Aside0.mk (Q_HO186 (hon 10 (by kernel_rfl)) hb_)
            have HO189 := Aside0.mk (Q_HO189 (hon 16 (by kernel_rfl)))
            have HO192 := Aside0.mk (Q_HO192 (hon 17 (by kernel_rfl)) hb_)
            obtain ⟨Ao41, co41, eo41⟩ := Kd.R_slice HO180.out
            (first | subst eo41 | (injection eo41 with f1_ f2_ f3_; have f4_ := f1_.symm; have f5_ := f3_.symm; clear f1_ f2_ f3_; subst f4_; subst f5_))
            obtain ⟨Ao42, co42, eo42⟩ := Kd.R_slice HO_5.out
            (first | subst eo42 | (injection eo42 with f1_ f2_ f3_; have f4_ := f1_.symm; have f5_ := f3_.symm; clear f1_ f2_ f3_; subst f4_; subst f5_))
            obtain ⟨Ao43, co43, eo43⟩ := Kd.R_slice HO186.out
            (first | subst eo43 | (injection eo43 with f1_ f2_ f3_; have f4_ := f1_.symm; have f5_ := f3_.symm; clear f1_ f2_ f3_; subst f4_; subst f5_))
            obtain ⟨Ao44, co44, eo44⟩ := Kd.R_slice HO_7.out
            (first | subst eo44 | (injection eo44 with f1_ f2_ f3_; have f4_ := f1_.symm; have f5_ := f3_.symm; clear f1_ f2_ f3_; subst f4_; subst f5_))
            obtain ⟨Ao45, co45, eo45⟩ := Kd.R_slice HO192.out
            (first | subst eo45 | (injection eo45 with f1_ f2_ f3_; have f4_ := f1_.symm; have f5_ := f3_.symm; clear f1_ f2_ f3_; subst f4_; subst f5_))
            refine Kd.N_lit_step (Kd.slice 5 (Kd.int .u8)) _ 22 ?hg (N' := 76) ?hd (xs := ([t178, t164, t184, t171, t190, l0_8, l0_9, l0_15] : List (List Int))) (inner := [.slice Ao41 t178.length co41, .slice Ao42 t164.length co42, .slice Ao43 t184.length co43, .slice Ao44 t171.length co44, .slice Ao45 t190.length co45, .slice A0_8 l0_8.length c0_8, .slice A0_9 l0_9.length c0_9, .slice A0_15 l0_15.length c0_15]) (ok := (fun k_ => ((P0_8_ k_ ∨ P0_9_ k_ ∨ P0_15_ k_) ∨ w.heap.size ≤ k_) ∧ k_ ≠ gb159 ∧ k_ ≠ gb160)) (okp := (fun k_ => ((P0_8_ k_ ∨ P0_9_ k_ ∨ P0_15_ k_) ∨ w.heap.size ≤ k_) ∧ k_ ≠ gb159 ∧ k_ ≠ gb160)) ?hr ?hp (fun _ hk => hk) ((show ∀ k_, w'.heap.size ≤ k_ → (fun k_ => ((P0_8_ k_ ∨ P0_9_ k_ ∨ P0_15_ k_) ∨ w.heap.size ≤ k_) ∧ k_ ≠ gb159 ∧ k_ ≠ gb160) k_ from fun k_ hk => ⟨(.inr (Nat.le_trans (below_size (by repeat (first | (with_reducible first | exact HB.out | apply below_alloc | apply pw_below_drewN | apply below_drew1 | refine below_set ?_ GE159.out | refine below_set ?_ GE160.out) | exact HB.out))) hk)), Kd.freshB (g := gb159) (o := .cells #[.int .i64 a0_0, .int .i64 a0_1, .int .i64 a0_2, .int .i64 a0_3, .int .i64 a0_4, .int .u32 a0_5, .int .u32 a0_6, .int .u32 a0_7, .slice A0_8 l0_8.length c0_8, .slice A0_9 l0_9.length c0_9, .int .i64 a0_10, .int .i64 a0_11, .int .i64 a0_12, .int .u32 a0_13, .int .u32 a0_14, .slice A0_15 l0_15.length c0_15] 39 (0, 0)) (by (with_reducible repeat (first | refine blk_drewN ?_ _ | refine blk_drew ?_ | refine blk_alloc ?_ _)); exact BK159.out) k_ hk, Kd.freshB (g := gb160) (o := .cells #[.int .i64 a0_0, .int .i64 a0_1, .int .i64 a0_2, .int .i64 a0_3, .int .i64 a0_4, .int .u32 a0_5, .int .u32 a0_6, .int .u32 a0_7, .slice A0_8 l0_8.length c0_8, .slice A0_9 l0_9.length c0_9] 37 (0, 0)) (by (with_reducible repeat (first | refine blk_drewN ?_ _ | refine blk_drew ?_ | refine blk_alloc ?_ _)); exact BK160.out) k_ hk⟩) _ (Nat.le_refl _)) (Below.refl _ _) (Nat.le_refl _) (by simp) ?_; (case hd => rfl); (case hg => rfl); (case hr => first | (go_simp; done) | (go_simp; rfl)); (case hp => exact (Reps.one (show Kd.FK (Kd.slice 5 (Kd.int .u8)) _ _ t178 [.slice Ao41 t178.length co41] from (Kd.FK_slice_mk (Kd.R_reads' (Kd.R_mono (ok' := (fun k_ => ((P0_8_ k_ ∨ P0_9_ k_ ∨ P0_15_ k_) ∨ w.heap.size ≤ k_) ∧ k_ ≠ gb159 ∧ k_ ≠ gb160)) (Kd.R_types (Kd.R_types (Kd.R_apart' (Kd.R_apart' (Kd.R_apart' (HO180.out) (Kd.R_typed HO177.out) (by decide)) (Kd.R_typed HO183.out) (by decide)) (Kd.R_typed HO189.out) (by decide)) BK159.out (by decide)) BK160.out (by decide)) (fun k_ hk => by first | exact ⟨(.inr (hk.1.1.1.1.1.1)), ⟨hk.1.1.1.1.2, ⟨hk.1.1.1.2, ⟨hk.1.1.2, ⟨hk.1.2, hk.2⟩⟩⟩⟩⟩ | simp_all))).2.1 (Kd.R_F (Kd.R_mono (ok' := (fun k_ => ((P0_8_ k_ ∨ P0_9_ k_ ∨ P0_15_ k_) ∨ w.heap.size ≤ k_) ∧ k_ ≠ gb159 ∧ k_ ≠ gb160)) (Kd.R_types (Kd.R_types (Kd.R_apart' (Kd.R_apart' (Kd.R_apart' (HO180.out) (Kd.R_typed HO177.out) (by decide)) (Kd.R_typed HO183.out) (by decide)) (Kd.R_typed HO189.out) (by decide)) BK159.out (by decide)) BK160.out (by decide)) (fun k_ hk => by first | exact ⟨(.inr (hk.1.1.1.1.1.1)), ⟨hk.1.1.1.1.2, ⟨hk.1.1.1.2, ⟨hk.1.1.2, ⟨hk.1.2, hk.2⟩⟩⟩⟩⟩ | simp_all))))) (Reps.one (show Kd.FK (Kd.slice 5 (Kd.int .u8)) _ _ t164 [.slice Ao42 t164.length co42] from (Kd.FK_slice_mk (Kd.R_reads' (Kd.R_mono (ok' := (fun k_ => ((P0_8_ k_ ∨ P0_9_ k_ ∨ P0_15_ k_) ∨ w.heap.size ≤ k_) ∧ k_ ≠ gb159 ∧ k_ ≠ gb160)) (Kd.R_types (Kd.R_types (Kd.R_apart' (Kd.R_apart' (Kd.R_apart' (HO_5.out) (Kd.R_typed HO177.out) (by decide)) (Kd.R_typed HO183.out) (by decide)) (Kd.R_typed HO189.out) (by decide)) BK159.out (by decide)) BK160.out (by decide)) (fun k_ hk => by first | exact ⟨(.inr (hk.1.1.1.1.1.1)), ⟨hk.1.1.1.1.2, ⟨hk.1.1.1.2, ⟨hk.1.1.2, ⟨hk.1.2, hk.2⟩⟩⟩⟩⟩ | simp_all))).2.1 (Kd.R_F (Kd.R_mono (ok' := (fun k_ => ((P0_8_ k_ ∨ P0_9_ k_ ∨ P0_15_ k_) ∨ w.heap.size ≤ k_) ∧ k_ ≠ gb159 ∧ k_ ≠ gb160)) (Kd.R_types (Kd.R_types (Kd.R_apart' (Kd.R_apart' (Kd.R_apart' (HO_5.out) (Kd.R_typed HO177.out) (by decide)) (Kd.R_typed HO183.out) (by decide)) (Kd.R_typed HO189.out) (by decide)) BK159.out (by decide)) BK160.out (by decide)) (fun k_ hk => by first | exact ⟨(.inr (hk.1.1.1.1.1.1)), ⟨hk.1.1.1.1.2, ⟨hk.1.1.1.2, ⟨hk.1.1.2, ⟨hk.1.2, hk.2⟩⟩⟩⟩⟩ | simp_all))))) (Reps.one (show Kd.FK (Kd.slice 5 (Kd.int .u8)) _ _ t184 [.slice Ao43 t184.length co43] from (Kd.FK_slice_mk (Kd.R_reads' (Kd.R_mono (ok' := (fun k_ => ((P0_8_ k_ ∨ P0_9_ k_ ∨ P0_15_ k_) ∨ w.heap.size ≤ k_) ∧ k_ ≠ gb159 ∧ k_ ≠ gb160)) (Kd.R_types (Kd.R_types (Kd.R_apart' (Kd.R_apart' (Kd.R_apart' (HO186.out) (Kd.R_typed HO177.out) (by decide)) (Kd.R_typed HO183.out) (by decide)) (Kd.R_typed HO189.out) (by decide)) BK159.out (by decide)) BK160.out (by decide)) (fun k_ hk => by first | exact ⟨(.inr (hk.1.1.1.1.1.1)), ⟨hk.1.1.1.1.2, ⟨hk.1.1.1.2, ⟨hk.1.1.2, ⟨hk.1.2, hk.2⟩⟩⟩⟩⟩ | simp_all))).2.1 (Kd.R_F (Kd.R_mono (ok' := (fun k_ => ((P0_8_ k_ ∨ P0_9_ k_ ∨ P0_15_ k_) ∨ w.heap.size ≤ k_) ∧ k_ ≠ gb159 ∧ k_ ≠ gb160)) (Kd.R_types (Kd.R_types (Kd.R_apart' (Kd.R_apart' (Kd.R_apart' (HO186.out) (Kd.R_typed HO177.out) (by decide)) (Kd.R_typed HO183.out) (by decide)) (Kd.R_typed HO189.out) (by decide)) BK159.out (by decide)) BK160.out (by decide)) (fun k_ hk => by first | exact ⟨(.inr (hk.1.1.1.1.1.1)), ⟨hk.1.1.1.1.2, ⟨hk.1.1.1.2, ⟨hk.1.1.2, ⟨hk.1.2, hk.2⟩⟩⟩⟩⟩ | simp_all))))) (Reps.one (show Kd.FK (Kd.slice 5 (Kd.int .u8)) _ _ t171 [.slice Ao44 t171.length co44] from (Kd.FK_slice_mk (Kd.R_reads' (Kd.R_mono (ok' := (fun k_ => ((P0_8_ k_ ∨ P0_9_ k_ ∨ P0_15_ k_) ∨ w.heap.size ≤ k_) ∧ k_ ≠ gb159 ∧ k_ ≠ gb160)) (Kd.R_types (Kd.R_types (Kd.R_apart' (Kd.R_apart' (Kd.R_apart' (HO_7.out) (Kd.R_typed HO177.out) (by decide)) (Kd.R_typed HO183.out) (by decide)) (Kd.R_typed HO189.out) (by decide)) BK159.out (by decide)) BK160.out (by decide)) (fun k_ hk => by first | exact ⟨(.inr (hk.1.1.1.1.1.1)), ⟨hk.1.1.1.1.2, ⟨hk.1.1.1.2, ⟨hk.1.1.2, ⟨hk.1.2, hk.2⟩⟩⟩⟩⟩ | simp_all))).2.1 (Kd.R_F (Kd.R_mono (ok' := (fun k_ => ((P0_8_ k_ ∨ P0_9_ k_ ∨ P0_15_ k_) ∨ w.heap.size ≤ k_) ∧ k_ ≠ gb159 ∧ k_ ≠ gb160)) (Kd.R_types (Kd.R_types (Kd.R_apart' (Kd.R_apart' (Kd.R_apart' (HO_7.out) (Kd.R_typed HO177.out) (by decide)) (Kd.R_typed HO183.out) (by decide)) (Kd.R_typed HO189.out) (by decide)) BK159.out (by decide)) BK160.out (by decide)) (fun k_ hk => by first | exact ⟨(.inr (hk.1.1.1.1.1.1)), ⟨hk.1.1.1.1.2, ⟨hk.1.1.1.2, ⟨hk.1.1.2, ⟨hk.1.2, hk.2⟩⟩⟩⟩⟩ | simp_all))))) (Reps.one (show Kd.FK (Kd.slice 5 (Kd.int .u8)) _ _ t190 [.slice Ao45 t190.length co45] from (Kd.FK_slice_mk (Kd.R_reads' (Kd.R_mono (ok' := (fun k_ => ((P0_8_ k_ ∨ P0_9_ k_ ∨ P0_15_ k_) ∨ w.heap.size ≤ k_) ∧ k_ ≠ gb159 ∧ k_ ≠ gb160)) (Kd.R_types (Kd.R_types (Kd.R_apart' (Kd.R_apart' (Kd.R_apart' (HO192.out) (Kd.R_typed HO177.out) (by decide)) (Kd.R_typed HO183.out) (by decide)) (Kd.R_typed HO189.out) (by decide)) BK159.out (by decide)) BK160.out (by decide)) (fun k_ hk => by first | exact ⟨(.inr (hk.1.1.1.1.1.1)), ⟨hk.1.1.1.1.2, ⟨hk.1.1.1.2, ⟨hk.1.1.2, ⟨hk.1.2, hk.2⟩⟩⟩⟩⟩ | simp_all))).2.1 (Kd.R_F (Kd.R_mono (ok' := (fun k_ => ((P0_8_ k_ ∨ P0_9_ k_ ∨ P0_15_ k_) ∨ w.heap.size ≤ k_) ∧ k_ ≠ gb159 ∧ k_ ≠ gb160)) (Kd.R_types (Kd.R_types (Kd.R_apart' (Kd.R_apart' (Kd.R_apart' (HO192.out) (Kd.R_typed HO177.out) (by decide)) (Kd.R_typed HO183.out) (by decide)) (Kd.R_typed HO189.out) (by decide)) BK159.out (by decide)) BK160.out (by decide)) (fun k_ hk => by first | exact ⟨(.inr (hk.1.1.1.1.1.1)), ⟨hk.1.1.1.1.2, ⟨hk.1.1.1.2, ⟨hk.1.1.2, ⟨hk.1.2, hk.2⟩⟩⟩⟩⟩ | simp_all))))) (Reps.one (show Kd.FK (Kd.slice 5 (Kd.int .u8)) _ _ l0_8 [.slice A0_8 l0_8.length c0_8] from (Kd.FK_slice_mk (Kd.V_reads' (Kd.V_mono (ok' := (fun k_ => ((P0_8_ k_ ∨ P0_9_ k_ ∨ P0_15_ k_) ∨ w.heap.size ≤ k_) ∧ k_ ≠ gb159 ∧ k_ ≠ gb160)) (HO_161008.out) (fun k_ hk => by first | exact ⟨hk.1, ⟨hk.2.1, ⟨hk.2.2.2.1, ⟨hk.2.2.2.2.2.1, ⟨hk.2.2.2.2.2.2.2.2.2.1, hk.2.2.2.2.2.2.2.2.2.2⟩⟩⟩⟩⟩ | simp_all))).2.1 (Kd.V_F (Kd.V_mono (ok' := (fun k_ => ((P0_8_ k_ ∨ P0_9_ k_ ∨ P0_15_ k_) ∨ w.heap.size ≤ k_) ∧ k_ ≠ gb159 ∧ k_ ≠ gb160)) (HO_161008.out) (fun k_ hk => by first | exact ⟨hk.1, ⟨hk.2.1, ⟨hk.2.2.2.1, ⟨hk.2.2.2.2.2.1, ⟨hk.2.2.2.2.2.2.2.2.2.1, hk.2.2.2.2.2.2.2.2.2.2⟩⟩⟩⟩⟩ | simp_all))))) (Reps.one (show Kd.FK (Kd.slice 5 (Kd.int .u8)) _ _ l0_9 [.slice A0_9 l0_9.length c0_9] from (Kd.FK_slice_mk (Kd.V_reads' (Kd.V_mono (ok' := (fun k_ => ((P0_8_ k_ ∨ P0_9_ k_ ∨ P0_15_ k_) ∨ w.heap.size ≤ k_) ∧ k_ ≠ gb159 ∧ k_ ≠ gb160)) (HO_161009.out) (fun k_ hk => by first | exact ⟨hk.1, ⟨hk.2.1, ⟨hk.2.2.2.1, ⟨hk.2.2.2.2.2.1, ⟨hk.2.2.2.2.2.2.2.2.2.1, hk.2.2.2.2.2.2.2.2.2.2⟩⟩⟩⟩⟩ | simp_all))).2.1 (Kd.V_F (Kd.V_mono (ok' := (fun k_ => ((P0_8_ k_ ∨ P0_9_ k_ ∨ P0_15_ k_) ∨ w.heap.size ≤ k_) ∧ k_ ≠ gb159 ∧ k_ ≠ gb160)) (HO_161009.out) (fun k_ hk => by first | exact ⟨hk.1, ⟨hk.2.1, ⟨hk.2.2.2.1, ⟨hk.2.2.2.2.2.1, ⟨hk.2.2.2.2.2.2.2.2.2.1, hk.2.2.2.2.2.2.2.2.2.2⟩⟩⟩⟩⟩ | simp_all))))) (Reps.one (show Kd.FK (Kd.slice 5 (Kd.int .u8)) _ _ l0_15 [.slice A0_15 l0_15.length c0_15] from (Kd.FK_slice_mk (Kd.V_reads' (Kd.V_mono (ok' := (fun k_ => ((P0_8_ k_ ∨ P0_9_ k_ ∨ P0_15_ k_) ∨ w.heap.size ≤ k_) ∧ k_ ≠ gb159 ∧ k_ ≠ gb160)) (HO_160015.out) (fun k_ hk => by first | exact ⟨hk.1, ⟨hk.2.1, ⟨hk.2.2.2.1, ⟨hk.2.2.2.2.2.1, ⟨hk.2.2.2.2.2.2.2.2.2.1, hk.2.2.2.2.2.2.2.2.2.2⟩⟩⟩⟩⟩ | simp_all))).2.1 (Kd.V_F (Kd.V_mono (ok' := (fun k_ => ((P0_8_ k_ ∨ P0_9_ k_ ∨ P0_15_ k_) ∨ w.heap.size ≤ k_) ∧ k_ ≠ gb159 ∧ k_ ≠ gb160)) (HO_160015.out) (fun k_ hk => by first | exact ⟨hk.1, ⟨hk.2.1, ⟨hk.2.2.2.1, ⟨hk.2.2.2.2.2.1, ⟨hk.2.2.2.2.2.2.2.2.2.1, hk.2.2.2.2.2.2.2.2.2.2⟩⟩⟩⟩⟩ | simp_all))))) (Reps.none _ _))))))))))
            intro v194 w46 ho47 hb hg_ hnew_
            clear hg_ hnew_
            (first | rw [← Ny193.out] at ho47 | (simp only [Int.reduceToNat] at ho47; rw [← Ny193.out] at ho47))
            have n0_ := Aside0.mk (Kd.V_elder' (by (with_reducible repeat (first | apply Kd.V_alloc | apply Kd.V_drewN | apply Kd.V_drew)); exact HO_160008.out) (Kd.N_base ho47) hb)
            have n1_ := Aside0.mk (Kd.V_elder' (by (with_reducible repeat (first | apply Kd.V_alloc | apply Kd.V_drewN | apply Kd.V_drew)); exact HO_160009.out) (Kd.N_base ho47) hb)
            have n2_ := Aside0.mk (Kd.V_elder' (by (with_reducible repeat (first | apply Kd.V_alloc | apply Kd.V_drewN | apply Kd.V_drew)); exact HO_160015.out) (Kd.N_base ho47) hb)
            have n3_ := Aside0.mk (Kd.V_elder' (by (with_reducible repeat (first | apply Kd.V_alloc | apply Kd.V_drewN | apply Kd.V_drew)); exact HO_161008.out) (Kd.N_base ho47) hb)
            have n4_ := Aside0.mk (Kd.V_elder' (by (with_reducible repeat (first | apply Kd.V_alloc | apply Kd.V_drewN | apply Kd.V_drew)); exact HO_161009.out) (Kd.N_base ho47) hb)
            have n5_ := Aside0.mk (Kd.R_below (by (with_reducible repeat (first | apply Kd.R_alloc | apply Kd.R_drewN | apply Kd.R_drew)); exact HO177.out) hb)
            have n6_ := Aside0.mk (Kd.R_below (by (with_reducible repeat (first | apply Kd.R_alloc | apply Kd.R_drewN | apply Kd.R_drew)); exact HO183.out) hb)
            have n7_ := Aside0.mk (Kd.R_below (by (with_reducible repeat (first | apply Kd.R_alloc | apply Kd.R_drewN | apply Kd.R_drew)); exact HO189.out) hb)
            have n8_ := Aside0.mk (Kd.N_lower ho47 (below_size (by repeat (first | (with_reducible first | exact HB.out | apply below_alloc | apply pw_below_drewN | apply below_drew1 | refine below_set ?_ GE159.out | refine below_set ?_ GE160.out) | exact HB.out))))
            have n9_ := Aside0.mk (blk_below (g := gb159) (o := .cells #[.int .i64 a0_0, .int .i64 a0_1, .int .i64 a0_2, .int .i64 a0_3, .int .i64 a0_4, .int .u32 a0_5, .int .u32 a0_6, .int .u32 a0_7, .slice A0_8 l0_8.length c0_8, .slice A0_9 l0_9.length c0_9, .int .i64 a0_10, .int .i64 a0_11, .int .i64 a0_12, .int .u32 a0_13, .int .u32 a0_14, .slice A0_15 l0_15.length c0_15] 39 (0, 0)) (by (with_reducible repeat (first | refine blk_drewN ?_ _ | refine blk_drew ?_ | refine blk_alloc ?_ _)); exact BK159.out) hb)
            have n10_ := Aside0.mk (blk_below (g := gb160) (o := .cells #[.int .i64 a0_0, .int .i64 a0_1, .int .i64 a0_2, .int .i64 a0_3, .int .i64 a0_4, .int .u32 a0_5, .int .u32 a0_6, .int .u32 a0_7, .slice A0_8 l0_8.length c0_8, .slice A0_9 l0_9.length c0_9] 37 (0, 0)) (by (with_reducible repeat (first | refine blk_drewN ?_ _ | refine blk_drew ?_ | refine blk_alloc ?_ _)); exact BK160.out) hb)
            have n11_ := Aside0.mk (below_step (by repeat (first | (with_reducible first | exact HB.out | apply below_alloc | apply pw_below_drewN | apply below_drew1 | refine below_set ?_ GE159.out | refine below_set ?_ GE160.out) | exact HB.out)) hb)
            clear HO_160008
            clear HO_160009
            clear HO_160015
            clear HO_161008
            clear HO_161009
            clear HO177
            clear HO183
            clear HO189
            clear BK159
            clear BK160
            clear HB
            clear HO180
            clear HO186
            clear HO192
            clear HO_5
            clear HO_7
            have HO_160008 := n0_
            have HO_160009 := n1_
            have HO_160015 := n2_
            have HO_161008 := n3_
            have HO_161009 := n4_
            have HO177 := n5_
            have HO183 := n6_
            have HO189 := n7_
            have HO195 := n8_
            have BK159 := n9_
            have BK160 := n10_
            have HB := n11_
            clear n0_ n1_ n2_ n3_ n4_ n5_ n6_ n7_ n8_ n9_ n10_ n11_
            clear hb ho47
            refine hK.out _ _ ⟨v176, .slice Ao41 t178.length co41, v182, .slice Ao43 t184.length co43, v188, .slice Ao45 t190.length co45, v194, v197, m26_, (by rw [ha.out]; exact putSel_upk 14 hb_ rfl rfl rfl), fun h0_ => absurd ((up_self b 24).symm.trans h0_) (by decide), fun h0_ => absurd ((up_self b 24).symm.trans h0_) (by decide), fun h0_ => absurd ((up_self b 24).symm.trans h0_) (by decide), fun h0_ => absurd ((up_self b 24).symm.trans h0_) (by decide), fun h0_ => absurd ((up_self b 24).symm.trans h0_) (by decide), fun h0_ => absurd ((up_self b 24).symm.trans h0_) (by decide), fun h0_ => absurd ((up_self b 24).symm.trans h0_) (by decide), (by (with_reducible repeat (first | refine blk_drewN ?_ _ | refine blk_drew ?_ | refine blk_alloc ?_ _)); exact BK159.out), (by (with_reducible repeat (first | refine blk_drewN ?_ _ | refine blk_drew ?_ | refine blk_alloc ?_ _)); exact BK160.out), (by repeat (first | (with_reducible first | exact HB.out | apply below_alloc | apply pw_below_drewN | apply below_drew1 | refine below_set ?_ GE159.out | refine below_set ?_ GE160.out) | exact HB.out)), fun _ => (by (with_reducible repeat (first | apply Kd.R_alloc | apply Kd.R_drewN | apply Kd.R_drew)); exact HO177.out), fun _ h1_ => absurd ((up_self b 24).symm.trans h1_) (by decide), fun _ => (by (with_reducible repeat (first | apply Kd.R_alloc | apply Kd.R_drewN | apply Kd.R_drew)); exact HO183.out), fun _ h1_ => absurd ((up_self b 24).symm.trans h1_) (by decide), fun _ => (by (with_reducible repeat (first | apply Kd.R_alloc | apply Kd.R_drewN | apply Kd.R_drew)); exact HO189.out), fun _ h1_ => absurd ((up_self b 24).symm.trans h1_) (by decide), fun _ => (by (with_reducible repeat (first | apply Kd.N_alloc | apply Kd.N_drewN | apply Kd.N_drew)); exact HO195.out), fun _ => (by (with_reducible repeat (first | apply Kd.V_alloc | apply Kd.V_drewN | apply Kd.V_drew)); exact Kd.V_mono HO_160008.out (fun _ hk => by first | exact ⟨hk.1.1, ⟨hk.1.2.1, ⟨hk.1.2.2.2.1, ⟨hk.1.2.2.2.2.2.1, ⟨hk.2, ⟨hk.1.2.2.2.2.2.2.2.2.2.1, hk.1.2.2.2.2.2.2.2.2.2.2⟩⟩⟩⟩⟩⟩ | simp_all)), fun _ => (by (with_reducible repeat (first | apply Kd.V_alloc | apply Kd.V_drewN | apply Kd.V_drew)); exact Kd.V_mono HO_160009.out (fun _ hk => by first | exact ⟨hk.1.1, ⟨hk.1.2.1, ⟨hk.1.2.2.2.1, ⟨hk.1.2.2.2.2.2.1, ⟨hk.2, ⟨hk.1.2.2.2.2.2.2.2.2.2.1, hk.1.2.2.2.2.2.2.2.2.2.2⟩⟩⟩⟩⟩⟩ | simp_all)), fun _ => (by (with_reducible repeat (first | apply Kd.V_alloc | apply Kd.V_drewN | apply Kd.V_drew)); exact Kd.V_mono HO_160015.out (fun _ hk => by first | exact ⟨hk.1.1, ⟨hk.1.2.1, ⟨hk.1.2.2.2.1, ⟨hk.1.2.2.2.2.2.1, ⟨hk.2, ⟨hk.1.2.2.2.2.2.2.2.2.2.1, hk.1.2.2.2.2.2.2.2.2.2.2⟩⟩⟩⟩⟩⟩ | simp_all)), fun _ => (by (with_reducible repeat (first | apply Kd.V_alloc | apply Kd.V_drewN | apply Kd.V_drew)); exact Kd.V_mono HO_161008.out (fun _ hk => by first | exact ⟨hk.1.1, ⟨hk.1.2.1, ⟨hk.1.2.2.2.1, ⟨hk.1.2.2.2.2.2.1, ⟨hk.2, ⟨hk.1.2.2.2.2.2.2.2.2.2.1, hk.1.2.2.2.2.2.2.2.2.2.2⟩⟩⟩⟩⟩⟩ | simp_all)), fun _ => (by (with_reducible repeat (first | apply Kd.V_alloc | apply Kd.V_drewN | apply Kd.V_drew)); exact Kd.V_mono HO_161009.out (fun _ hk => by first | exact ⟨hk.1.1, ⟨hk.1.2.1, ⟨hk.1.2.2.2.1, ⟨hk.1.2.2.2.2.2.1, ⟨hk.2, ⟨hk.1.2.2.2.2.2.2.2.2.2.1, hk.1.2.2.2.2.2.2.2.2.2.2⟩⟩⟩⟩⟩⟩ | simp_all)), fun h0_ => absurd ((hoff 25 (by kernel_rfl)).symm.trans h0_) (by decide), fun h0_ => absurd ((hoff 26 (by kernel_rfl)).symm.trans h0_) (by decide)⟩
          refine steps_cons ?_ ?_
          · rintro b a w' ⟨v176, v179, v182, v185, v188, v191, v194, v197, m26_, ha, Q_HO_160008, Q_HO_160009, Q_HO_160015, Q_HO_161008, Q_HO_161009, Q_HO_5, Q_HO_7, Q_BK159, Q_BK160, Q_HB, Q_HO177, Q_HO180, Q_HO183, Q_HO186, Q_HO189, Q_HO192, Q_HO195, Q_HO_160008_e24, Q_HO_160009_e24, Q_HO_160015_e24, Q_HO_161008_e24, Q_HO_161009_e24, Q_HO198, Q_X26_⟩ hb_ hon hoff
            refine ⟨_, rfl, fun K hK => ?_⟩
            have e76 : a.tmps[76]? = some (v194) := by rw [ha]; exact putSel_on (e := (24, 76, v194)) 14 rfl rfl (hon 24 (by kernel_rfl)) rfl
            replace ha := Aside0.mk ha
            have BK159 := Aside0.mk Q_BK159
            have BK160 := Aside0.mk Q_BK160
            have HB := Aside0.mk Q_HB
            have HO177 := Aside0.mk (Q_HO177 (hon 0 (by kernel_rfl)))
            have HO183 := Aside0.mk (Q_HO183 (hon 9 (by kernel_rfl)))
            have HO189 := Aside0.mk (Q_HO189 (hon 16 (by kernel_rfl)))
            have HO195 := Aside0.mk (Q_HO195 (hon 24 (by kernel_rfl)))
            have HO_160008 := Aside0.mk (Q_HO_160008_e24 (hon 24 (by kernel_rfl)))
            have HO_160009 := Aside0.mk (Q_HO_160009_e24 (hon 24 (by kernel_rfl)))
            have HO_160015 := Aside0.mk (Q_HO_160015_e24 (hon 24 (by kernel_rfl)))
            have HO_161008 := Aside0.mk (Q_HO_161008_e24 (hon 24 (by kernel_rfl)))
            have HO_161009 := Aside0.mk (Q_HO_161009_e24 (hon 24 (by kernel_rfl)))
            obtain ⟨Ao48, co48, eo48⟩ := Kd.N_slice HO195.out
            (first | subst eo48 | (injection eo48 with f1_ f2_ f3_; have f4_ := f1_.symm; have f5_ := f3_.symm; clear f1_ f2_ f3_; subst f4_; subst f5_))
            refine goes_ Try.func50 (by kernel_rfl) rfl #[.slice Ao48 y193.length co48] (by rfl) rfl rfl (by first | (simp only [List.map_toArray, List.map_cons, List.map_nil, Act.eval, Array.getD_eq_getD_getElem?, Option.getD_some, e76]; done) | (simp only [List.map_toArray, List.map_cons, List.map_nil, Act.eval, Array.getD_eq_getD_getElem?, Option.getD_some, e76]; rfl)) ?_
            with_reducible refine (duffelref24_join.calls kj3 _ _ y193 t196 _ ?side1 ?side2 A26.out).mono ?_
            (case side1 => repeat (first | exact (Kd.N_reads' HO195.out).2.2 | (with_reducible refine Kd.C_alloc ?_ _) | (with_reducible refine Kd.C_drewN ?_ _) | (with_reducible refine Kd.C_drew ?_)))
            (case side2 => exact (Kd.N_reads' HO195.out).2.1)
            rintro e w49 ⟨v197, rfl, ho0, hb⟩
            refine ⟨_, rfl, ?_⟩
            have n0_ := Aside0.mk (Kd.V_elder' (by (with_reducible repeat (first | apply Kd.V_alloc | apply Kd.V_drewN | apply Kd.V_drew)); exact HO_160008.out) (Kd.R_base ho0) hb)
            have n1_ := Aside0.mk (Kd.V_elder' (by (with_reducible repeat (first | apply Kd.V_alloc | apply Kd.V_drewN | apply Kd.V_drew)); exact HO_160009.out) (Kd.R_base ho0) hb)
            have n2_ := Aside0.mk (Kd.V_elder' (by (with_reducible repeat (first | apply Kd.V_alloc | apply Kd.V_drewN | apply Kd.V_drew)); exact HO_160015.out) (Kd.R_base ho0) hb)
            have n3_ := Aside0.mk (Kd.V_elder' (by (with_reducible repeat (first | apply Kd.V_alloc | apply Kd.V_drewN | apply Kd.V_drew)); exact HO_161008.out) (Kd.R_base ho0) hb)
            have n4_ := Aside0.mk (Kd.V_elder' (by (with_reducible repeat (first | apply Kd.V_alloc | apply Kd.V_drewN | apply Kd.V_drew)); exact HO_161009.out) (Kd.R_base ho0) hb)
            have n5_ := Aside0.mk (Kd.R_below (by (with_reducible repeat (first | apply Kd.R_alloc | apply Kd.R_drewN | apply Kd.R_drew)); exact HO177.out) hb)
            have n6_ := Aside0.mk (Kd.R_below (by (with_reducible repeat (first | apply Kd.R_alloc | apply Kd.R_drewN | apply Kd.R_drew)); exact HO183.out) hb)
            have n7_ := Aside0.mk (Kd.R_below (by (with_reducible repeat (first | apply Kd.R_alloc | apply Kd.R_drewN | apply Kd.R_drew)); exact HO189.out) hb)
            have n8_ := Aside0.mk (Kd.N_elder' (by (with_reducible repeat (first | apply Kd.N_alloc | apply Kd.N_drewN | apply Kd.N_drew)); exact HO195.out) (Kd.R_base ho0) hb)
            have n9_ := Aside0.mk (Kd.R_lower (Kd.R_newM (M := fun k_ => (w.heap.size ≤ k_)) ho0 (below_size (by repeat (first | (with_reducible first | exact HB.out | apply below_alloc | apply pw_below_drewN | apply below_drew1 | refine below_set ?_ GE159.out | refine below_set ?_ GE160.out) | exact HB.out))) (fun k_ h_ => h_)) (below_size (by repeat (first | (with_reducible first | exact HB.out | apply below_alloc | apply pw_below_drewN | apply below_drew1 | refine below_set ?_ GE159.out | refine below_set ?_ GE160.out) | exact HB.out))))
            have n10_ := Aside0.mk (blk_below (g := gb159) (o := .cells #[.int .i64 a0_0, .int .i64 a0_1, .int .i64 a0_2, .int .i64 a0_3, .int .i64 a0_4, .int .u32 a0_5, .int .u32 a0_6, .int .u32 a0_7, .slice A0_8 l0_8.length c0_8, .slice A0_9 l0_9.length c0_9, .int .i64 a0_10, .int .i64 a0_11, .int .i64 a0_12, .int .u32 a0_13, .int .u32 a0_14, .slice A0_15 l0_15.length c0_15] 39 (0, 0)) (by (with_reducible repeat (first | refine blk_drewN ?_ _ | refine blk_drew ?_ | refine blk_alloc ?_ _)); exact BK159.out) hb)
            have n11_ := Aside0.mk (blk_below (g := gb160) (o := .cells #[.int .i64 a0_0, .int .i64 a0_1, .int .i64 a0_2, .int .i64 a0_3, .int .i64 a0_4, .int .u32 a0_5, .int .u32 a0_6, .int .u32 a0_7, .slice A0_8 l0_8.length c0_8, .slice A0_9 l0_9.length c0_9] 37 (0, 0)) (by (with_reducible repeat (first | refine blk_drewN ?_ _ | refine blk_drew ?_ | refine blk_alloc ?_ _)); exact BK160.out) hb)
            have n12_ := Aside0.mk (below_step (by repeat (first | (with_reducible first | exact HB.out | apply below_alloc | apply pw_below_drewN | apply below_drew1 | refine below_set ?_ GE159.out | refine below_set ?_ GE160.out) | exact HB.out)) hb)
            clear HO_160008
            clear HO_160009
            clear HO_160015
            clear HO_161008
            clear HO_161009
            clear HO177
            clear HO183
            clear HO189
            clear HO195
            clear BK159
            clear BK160
            clear HB
            have HO_160008 := n0_
            have HO_160009 := n1_
            have HO_160015 := n2_
            have HO_161008 := n3_
            have HO_161009 := n4_
            have HO177 := n5_
            have HO183 := n6_
            have HO189 := n7_
            have HO195 := n8_
            have HO198 := n9_
            have BK159 := n10_
            have BK160 := n11_
            have HB := n12_
            clear n0_ n1_ n2_ n3_ n4_ n5_ n6_ n7_ n8_ n9_ n10_ n11_ n12_
            (try clear hb)
            (try clear hb2)
            (try clear hk)
            (try clear hi)
            (try clear ho0)
            refine hK.out _ _ ⟨v176, v179, v182, v185, v188, v191, .slice Ao48 y193.length co48, v197, m26_, (by rw [ha.out]; exact putSel_upk 15 hb_ rfl rfl rfl), fun h0_ => absurd ((hon 24 (by kernel_rfl)).symm.trans h0_) (by decide), fun h0_ => absurd ((hon 24 (by kernel_rfl)).symm.trans h0_) (by decide), fun h0_ => absurd ((hon 24 (by kernel_rfl)).symm.trans h0_) (by decide), fun h0_ => absurd ((hon 24 (by kernel_rfl)).symm.trans h0_) (by decide), fun h0_ => absurd ((hon 24 (by kernel_rfl)).symm.trans h0_) (by decide), fun h0_ => absurd ((hon 24 (by kernel_rfl)).symm.trans h0_) (by decide), fun h0_ => absurd ((hon 24 (by kernel_rfl)).symm.trans h0_) (by decide), (by (with_reducible repeat (first | refine blk_drewN ?_ _ | refine blk_drew ?_ | refine blk_alloc ?_ _)); exact BK159.out), (by (with_reducible repeat (first | refine blk_drewN ?_ _ | refine blk_drew ?_ | refine blk_alloc ?_ _)); exact BK160.out), (by repeat (first | (with_reducible first | exact HB.out | apply below_alloc | apply pw_below_drewN | apply below_drew1 | refine below_set ?_ GE159.out | refine below_set ?_ GE160.out) | exact HB.out)), fun _ => (by (with_reducible repeat (first | apply Kd.R_alloc | apply Kd.R_drewN | apply Kd.R_drew)); exact HO177.out), fun _ h1_ => absurd ((hon 24 (by kernel_rfl)).symm.trans h1_) (by decide), fun _ => (by (with_reducible repeat (first | apply Kd.R_alloc | apply Kd.R_drewN | apply Kd.R_drew)); exact HO183.out), fun _ h1_ => absurd ((hon 24 (by kernel_rfl)).symm.trans h1_) (by decide), fun _ => (by (with_reducible repeat (first | apply Kd.R_alloc | apply Kd.R_drewN | apply Kd.R_drew)); exact HO189.out), fun _ h1_ => absurd ((hon 24 (by kernel_rfl)).symm.trans h1_) (by decide), fun _ => (by (with_reducible repeat (first | apply Kd.N_alloc | apply Kd.N_drewN | apply Kd.N_drew)); exact Kd.N_mono HO195.out (fun _ hk => by first | exact ⟨hk.1.1, ⟨hk.1.2.1, ⟨hk.1.2.2.1, ⟨hk.1.2.2.2.1, ⟨hk.2, ⟨hk.1.2.2.2.2.1, hk.1.2.2.2.2.2⟩⟩⟩⟩⟩⟩ | simp_all)), fun _ => (by (with_reducible repeat (first | apply Kd.V_alloc | apply Kd.V_drewN | apply Kd.V_drew)); exact Kd.V_mono HO_160008.out (fun _ hk => by first | exact ⟨hk.1.1, ⟨hk.1.2.1, ⟨hk.1.2.2.1, ⟨hk.1.2.2.2.1, ⟨hk.1.2.2.2.2.1, ⟨hk.2, ⟨hk.1.2.2.2.2.2.1, hk.1.2.2.2.2.2.2⟩⟩⟩⟩⟩⟩⟩ | simp_all)), fun _ => (by (with_reducible repeat (first | apply Kd.V_alloc | apply Kd.V_drewN | apply Kd.V_drew)); exact Kd.V_mono HO_160009.out (fun _ hk => by first | exact ⟨hk.1.1, ⟨hk.1.2.1, ⟨hk.1.2.2.1, ⟨hk.1.2.2.2.1, ⟨hk.1.2.2.2.2.1, ⟨hk.2, ⟨hk.1.2.2.2.2.2.1, hk.1.2.2.2.2.2.2⟩⟩⟩⟩⟩⟩⟩ | simp_all)), fun _ => (by (with_reducible repeat (first | apply Kd.V_alloc | apply Kd.V_drewN | apply Kd.V_drew)); exact Kd.V_mono HO_160015.out (fun _ hk => by first | exact ⟨hk.1.1, ⟨hk.1.2.1, ⟨hk.1.2.2.1, ⟨hk.1.2.2.2.1, ⟨hk.1.2.2.2.2.1, ⟨hk.2, ⟨hk.1.2.2.2.2.2.1, hk.1.2.2.2.2.2.2⟩⟩⟩⟩⟩⟩⟩ | simp_all)), fun _ => (by (with_reducible repeat (first | apply Kd.V_alloc | apply Kd.V_drewN | apply Kd.V_drew)); exact Kd.V_mono HO_161008.out (fun _ hk => by first | exact ⟨hk.1.1, ⟨hk.1.2.1, ⟨hk.1.2.2.1, ⟨hk.1.2.2.2.1, ⟨hk.1.2.2.2.2.1, ⟨hk.2, ⟨hk.1.2.2.2.2.2.1, hk.1.2.2.2.2.2.2⟩⟩⟩⟩⟩⟩⟩ | simp_all)), fun _ => (by (with_reducible repeat (first | apply Kd.V_alloc | apply Kd.V_drewN | apply Kd.V_drew)); exact Kd.V_mono HO_161009.out (fun _ hk => by first | exact ⟨hk.1.1, ⟨hk.1.2.1, ⟨hk.1.2.2.1, ⟨hk.1.2.2.2.1, ⟨hk.1.2.2.2.2.1, ⟨hk.2, ⟨hk.1.2.2.2.2.2.1, hk.1.2.2.2.2.2.2⟩⟩⟩⟩⟩⟩⟩ | simp_all)), fun _ => (by (with_reducible repeat (first | apply Kd.R_alloc | apply Kd.R_drewN | apply Kd.R_drew)); exact Kd.R_mono HO198.out (fun _ hk => hk.1)), fun h0_ => absurd ((hoff 26 (by kernel_rfl)).symm.trans h0_) (by decide)⟩
          refine steps_cons ?_ ?_
          · rintro b a w' ⟨v176, v179, v182, v185, v188, v191, v194, v197, m26_, ha, Q_HO_160008, Q_HO_160009, Q_HO_160015, Q_HO_161008, Q_HO_161009, Q_HO_5, Q_HO_7, Q_BK159, Q_BK160, Q_HB, Q_HO177, Q_HO180, Q_HO183, Q_HO186, Q_HO189, Q_HO192, Q_HO195, Q_HO_160008_e24, Q_HO_160009_e24, Q_HO_160015_e24, Q_HO_161008_e24, Q_HO_161009_e24, Q_HO198, Q_X26_⟩ hb_ hon hoff
            refine ⟨_, rfl, fun K hK => ?_⟩
            have e77 : a.tmps[77]? = some (v197) := by rw [ha]; exact putSel_on (e := (25, 77, v197)) 15 rfl rfl (hon 25 (by kernel_rfl)) rfl
            replace ha := Aside0.mk ha
            have BK159 := Aside0.mk Q_BK159
            have BK160 := Aside0.mk Q_BK160
            have HB := Aside0.mk Q_HB
            have HO177 := Aside0.mk (Q_HO177 (hon 0 (by kernel_rfl)))
            have HO183 := Aside0.mk (Q_HO183 (hon 9 (by kernel_rfl)))
            have HO189 := Aside0.mk (Q_HO189 (hon 16 (by kernel_rfl)))
            have HO195 := Aside0.mk (Q_HO195 (hon 24 (by kernel_rfl)))
            have HO_160008 := Aside0.mk (Q_HO_160008_e24 (hon 24 (by kernel_rfl)))
            have HO_160009 := Aside0.mk (Q_HO_160009_e24 (hon 24 (by kernel_rfl)))
            have HO_160015 := Aside0.mk (Q_HO_160015_e24 (hon 24 (by kernel_rfl)))
            have HO_161008 := Aside0.mk (Q_HO_161008_e24 (hon 24 (by kernel_rfl)))
            have HO_161009 := Aside0.mk (Q_HO_161009_e24 (hon 24 (by kernel_rfl)))
            have HO198 := Aside0.mk (Q_HO198 (hon 25 (by kernel_rfl)))
            refine value_ (w1 := w') (v := v197) (by rfl) rfl ?_ ?_
            · go_simp
              (try simp only [i64_w])
              try rfl
            refine hK.out _ _ ⟨v176, v179, v182, v185, v188, v191, v194, v197, (v197), (by rw [ha.out]; exact putSel_upk 16 hb_ rfl rfl rfl), fun h0_ => absurd ((hon 24 (by kernel_rfl)).symm.trans h0_) (by decide), fun h0_ => absurd ((hon 24 (by kernel_rfl)).symm.trans h0_) (by decide), fun h0_ => absurd ((hon 24 (by kernel_rfl)).symm.trans h0_) (by decide), fun h0_ => absurd ((hon 24 (by kernel_rfl)).symm.trans h0_) (by decide), fun h0_ => absurd ((hon 24 (by kernel_rfl)).symm.trans h0_) (by decide), fun h0_ => absurd ((hon 24 (by kernel_rfl)).symm.trans h0_) (by decide), fun h0_ => absurd ((hon 24 (by kernel_rfl)).symm.trans h0_) (by decide), Q_BK159, Q_BK160, Q_HB, Q_HO177, fun _ h1_ => absurd ((hon 24 (by kernel_rfl)).symm.trans h1_) (by decide), Q_HO183, fun _ h1_ => absurd ((hon 24 (by kernel_rfl)).symm.trans h1_) (by decide), Q_HO189, fun _ h1_ => absurd ((hon 24 (by kernel_rfl)).symm.trans h1_) (by decide), Q_HO195, Q_HO_160008_e24, Q_HO_160009_e24, Q_HO_160015_e24, Q_HO_161008_e24, Q_HO_161009_e24, Q_HO198, fun _ => rfl⟩
          refine steps_cons ?_ ?_
          · rintro b a w' ⟨v176, v179, v182, v185, v188, v191, v194, v197, m26_, ha, Q_HO_160008, Q_HO_160009, Q_HO_160015, Q_HO_161008, Q_HO_161009, Q_HO_5, Q_HO_7, Q_BK159, Q_BK160, Q_HB, Q_HO177, Q_HO180, Q_HO183, Q_HO186, Q_HO189, Q_HO192, Q_HO195, Q_HO_160008_e24, Q_HO_160009_e24, Q_HO_160015_e24, Q_HO_161008_e24, Q_HO_161009_e24, Q_HO198, Q_X26_⟩ hb_ hon hoff
            refine ⟨_, rfl, fun K hK => ?_⟩
            replace ha := Aside0.mk ha
            have BK159 := Aside0.mk Q_BK159
            have BK160 := Aside0.mk Q_BK160
            have HB := Aside0.mk Q_HB
            have HO177 := Aside0.mk (Q_HO177 (hon 0 (by kernel_rfl)))
            have HO183 := Aside0.mk (Q_HO183 (hon 9 (by kernel_rfl)))
            have HO189 := Aside0.mk (Q_HO189 (hon 16 (by kernel_rfl)))
            have HO195 := Aside0.mk (Q_HO195 (hon 24 (by kernel_rfl)))
            have HO_160008 := Aside0.mk (Q_HO_160008_e24 (hon 24 (by kernel_rfl)))
            have HO_160009 := Aside0.mk (Q_HO_160009_e24 (hon 24 (by kernel_rfl)))
            have HO_160015 := Aside0.mk (Q_HO_160015_e24 (hon 24 (by kernel_rfl)))
            have HO_161008 := Aside0.mk (Q_HO_161008_e24 (hon 24 (by kernel_rfl)))
            have HO_161009 := Aside0.mk (Q_HO_161009_e24 (hon 24 (by kernel_rfl)))
            have HO198 := Aside0.mk (Q_HO198 (hon 25 (by kernel_rfl)))
            refine value_ (w1 := w') (v := .int .i64 0) (by rfl) rfl ?_ ?_
            · go_simp
              (try simp only [i64_w])
              try rfl
            refine hK.out _ _ ⟨v176, v179, v182, v185, v188, v191, v194, v197, m26_, (by rw [ha.out]; exact putSel_upk 17 hb_ rfl rfl rfl), fun h0_ => absurd ((hon 24 (by kernel_rfl)).symm.trans h0_) (by decide), fun h0_ => absurd ((hon 24 (by kernel_rfl)).symm.trans h0_) (by decide), fun h0_ => absurd ((hon 24 (by kernel_rfl)).symm.trans h0_) (by decide), fun h0_ => absurd ((hon 24 (by kernel_rfl)).symm.trans h0_) (by decide), fun h0_ => absurd ((hon 24 (by kernel_rfl)).symm.trans h0_) (by decide), fun h0_ => absurd ((hon 24 (by kernel_rfl)).symm.trans h0_) (by decide), fun h0_ => absurd ((hon 24 (by kernel_rfl)).symm.trans h0_) (by decide), Q_BK159, Q_BK160, Q_HB, Q_HO177, fun _ h1_ => absurd ((hon 24 (by kernel_rfl)).symm.trans h1_) (by decide), Q_HO183, fun _ h1_ => absurd ((hon 24 (by kernel_rfl)).symm.trans h1_) (by decide), Q_HO189, fun _ h1_ => absurd ((hon 24 (by kernel_rfl)).symm.trans h1_) (by decide), Q_HO195, Q_HO_160008_e24, Q_HO_160009_e24, Q_HO_160015_e24, Q_HO_161008_e24, Q_HO_161009_e24, Q_HO198, Q_X26_⟩
          exact steps_nil
        rintro b a w49 hall ⟨v176, v179, v182, v185, v188, v191, v194, v197, m26_, ha, Q_HO_160008, Q_HO_160009, Q_HO_160015, Q_HO_161008, Q_HO_161009, Q_HO_5, Q_HO_7, Q_BK159, Q_BK160, Q_HB, Q_HO177, Q_HO180, Q_HO183, Q_HO186, Q_HO189, Q_HO192, Q_HO195, Q_HO_160008_e24, Q_HO_160009_e24, Q_HO_160015_e24, Q_HO_161008_e24, Q_HO_161009_e24, Q_HO198, Q_X26_⟩
        clear BK159 BK160 HB HO_160008 HO_160009 HO_160015 HO_161008 HO_161009 HO_5 HO_7
        have hb0_ := hall 0 (by kernel_rfl)
        have hb1_ := hall 1 (by kernel_rfl)
        have hb4_ := hall 4 (by kernel_rfl)
        have hb6_ := hall 6 (by kernel_rfl)
        have hb8_ := hall 8 (by kernel_rfl)
        have hb9_ := hall 9 (by kernel_rfl)
        have hb10_ := hall 10 (by kernel_rfl)
        have hb13_ := hall 13 (by kernel_rfl)
        have hb15_ := hall 15 (by kernel_rfl)
        have hb16_ := hall 16 (by kernel_rfl)
        have hb17_ := hall 17 (by kernel_rfl)
        have hb19_ := hall 19 (by kernel_rfl)
        have hb21_ := hall 21 (by kernel_rfl)
        have hb23_ := hall 23 (by kernel_rfl)
        have hb24_ := hall 24 (by kernel_rfl)
        have hb25_ := hall 25 (by kernel_rfl)
        have hb26_ := hall 26 (by kernel_rfl)
        have hb27_ := hall 27 (by kernel_rfl)
        subst ha
        obtain rfl := Q_X26_ hb26_
        simp only [putSel, hb0_, hb1_, hb4_, hb6_, hb8_, hb9_, hb10_, hb13_, hb15_, hb16_, hb17_, hb19_, hb21_, hb23_, hb24_, hb25_, hb26_, hb27_, if_true, Act.put, List.setIfInBounds_toArray, List.set_cons_zero, List.set_cons_succ]
        clear Q_HO_160008
        clear Q_HO_160009
        clear Q_HO_160015
        clear Q_HO_161008
        clear Q_HO_161009
        clear Q_HO_5
        clear Q_HO_7
        have BK159 := Aside0.mk Q_BK159
        clear Q_BK159
        have BK160 := Aside0.mk Q_BK160
        clear Q_BK160
        have HB := Aside0.mk Q_HB
        clear Q_HB
        have HO177 := Aside0.mk (Q_HO177 hb0_)
        clear Q_HO177
        clear Q_HO180
        have HO183 := Aside0.mk (Q_HO183 hb9_)
        clear Q_HO183
        clear Q_HO186
        have HO189 := Aside0.mk (Q_HO189 hb16_)
        clear Q_HO189
        clear Q_HO192
        have HO195 := Aside0.mk (Q_HO195 hb24_)
        clear Q_HO195
        have HO_160008 := Aside0.mk (Q_HO_160008_e24 hb24_)
        clear Q_HO_160008_e24
        have HO_160009 := Aside0.mk (Q_HO_160009_e24 hb24_)
        clear Q_HO_160009_e24
        have HO_160015 := Aside0.mk (Q_HO_160015_e24 hb24_)
        clear Q_HO_160015_e24
        have HO_161008 := Aside0.mk (Q_HO_161008_e24 hb24_)
        clear Q_HO_161008_e24
        have HO_161009 := Aside0.mk (Q_HO_161009_e24 hb24_)
        clear Q_HO_161009_e24
        have HO198 := Aside0.mk (Q_HO198 hb25_)
        clear Q_HO198
        clear hall hb0_ hb1_ hb4_ hb6_ hb8_ hb9_ hb10_ hb13_ hb15_ hb16_ hb17_ hb19_ hb21_ hb23_ hb24_ hb25_ hb26_ hb27_
        try go_wp2
        go_ret2
        exact ⟨_, by first | rfl | (simp [errW_none, errW_some] <;> rfl) | (simp [*, errW_none, errW_some] <;> rfl), by (with_reducible repeat (first | apply Kd.R_alloc | apply Kd.R_drewN | apply Kd.R_drew)); exact HO198.out, by repeat (first | (with_reducible first | exact HB.out | apply below_alloc | apply pw_below_drewN | apply below_drew1 | refine below_set ?_ GE159.out | refine below_set ?_ GE160.out) | exact HB.out)⟩

end Go.Proofs.Ytpmiofjhgmdghaa.RW
