-- written by a program of mine (a changed copy of the printer): not the kit's print
import Derived.Test.YtbjffjbohpoedaaDoorFRx0
import Derived.Test.YtbjffjbohpoedaaDoorFRx1
import Derived.Test.YtbjffjbohpoedaaDoorFRx3
namespace Go.Proofs.YtbjffjbohpoedaaDoor.FR
open Go.Proofs.YtbjffjbohpoedaaDoor.MyCut
open Go.RowKit Go.Proofs.YtbjffjbohpoedaaDoorW.PrintWords Go.Proofs.YtbjffjbohpoedaaDoorW.PrintLast Go.Proofs.YtbjffjbohpoedaaDoorW.PrintMore
attribute [local go_sem] max2_int min2_int max_two min_two max_three min_three max_four min_four   -- for this text's walks alone
set_option linter.unusedVariables false
set_option linter.unusedSimpArgs false

/-! ### duffelref30_Clean: function 17 -/
mutual
def duffelref30_Clean.l0 : Nat → List Int → List Int → Int → Option (List Int × Int)
  | 0, _, _, _ => none
  | k + 1, x0, x4, x5 => if x5 < (x0.length : Int) then (if 0 ≤ x5 then (if (rd x0 x5) = 92 then (if x4.length < 140737488355328 then (duffelref30_Clean.l0 k x0 (x4 ++ [47]) (wrap64 (x5 + 1))) else (none)) else (if x4.length < 140737488355328 then (duffelref30_Clean.l0 k x0 (x4 ++ [rd x0 x5]) (wrap64 (x5 + 1))) else (none))) else (none)) else (if (x4.length : Int) ≥ 2 then (if 1 < (x4.length : Int) then (if (rd x4 1) = 58 then (if 0 < (x4.length : Int) then (if (rd x4 0) ≥ 65 then (if (rd x4 0) ≤ 90 then (duffelref30_Clean.j1 k x4 true) else (if (rd x4 0) ≥ 97 then (duffelref30_Clean.j1 k x4 (decide ((rd x4 0) ≤ 122))) else (duffelref30_Clean.j1 k x4 false))) else (if (rd x4 0) ≥ 97 then (duffelref30_Clean.j1 k x4 (decide ((rd x4 0) ≤ 122))) else (duffelref30_Clean.j1 k x4 false))) else (none)) else (duffelref30_Clean.j1 k x4 false)) else (none)) else (duffelref30_Clean.j1 k x4 false))
def duffelref30_Clean.j1 : Nat → List Int → Bool → Option (List Int × Int)
  | 0, _, _ => none
  | k + 1, x4, x64 => if x64 = true then (if 2 ≤ (x4.length : Int) then (duffelref30_Clean.j2 k (x4.drop (2 : Int).toNat)) else (none)) else (duffelref30_Clean.j2 k x4)
def duffelref30_Clean.j2 : Nat → List Int → Option (List Int × Int)
  | 0, _ => none
  | k + 1, x4 => (duffelref30_Cut.f k x4).bind fun t193 => (duffelref30_Clean.l1 k x4 t193 ([] : List (List Int)) 0)
def duffelref30_Clean.l1 : Nat → List Int → List (List Int) → List (List Int) → Int → Option (List Int × Int)
  | 0, _, _, _, _ => none
  | k + 1, x4, x6, x7, x8 => if x8 < (x6.length : Int) then (if 0 ≤ x8 then (if (strOfNums (rd_L1 x6 x8)).toList = ([] : List UInt8) then (duffelref30_Clean.j4 k x4 x6 x7 x8 (strOfNums (rd_L1 x6 x8)) true) else (duffelref30_Clean.j4 k x4 x6 x7 x8 (strOfNums (rd_L1 x6 x8)) ((strOfNums (rd_L1 x6 x8)).toList == ([46] : List UInt8)))) else (none)) else (if (x4.length : Int) > 0 then (if 0 ≤ (wrap64 ((x4.length : Int) - 1)) then (if (wrap64 ((x4.length : Int) - 1)) < (x4.length : Int) then ((duffelref30_join.f k x7 ((rd x4 (wrap64 ((x4.length : Int) - 1))) == 47)).bind fun t205 => ((duffelref30_Is.f k t205).bind fun t208 => (if t208 = true then (some (t205, 0)) else (some (([] : List Int), 16))))) else (none)) else (none)) else ((duffelref30_join.f k x7 false).bind fun t209 => ((duffelref30_Is.f k t209).bind fun t212 => (if t212 = true then (some (t209, 0)) else (some (([] : List Int), 16))))))
def duffelref30_Clean.j4 : Nat → List Int → List (List Int) → List (List Int) → Int → ByteArray → Bool → Option (List Int × Int)
  | 0, _, _, _, _, _, _ => none
  | k + 1, x4, x6, x7, x8, x9, x85 => if x85 = true then (duffelref30_Clean.l1 k x4 x6 x7 (wrap64 (x8 + 1))) else (if x9.toList = ([46, 46] : List UInt8) then (if (x7.length : Int) > 0 then (if 0 ≤ (wrap64 ((x7.length : Int) - 1)) then (if (wrap64 ((x7.length : Int) - 1)) ≤ (x7.length : Int) then (duffelref30_Clean.l1 k x4 x6 (x7.take ((wrap64 ((x7.length : Int) - 1)) : Int).toNat) (wrap64 (x8 + 1))) else (none)) else (none)) else (duffelref30_Clean.l1 k x4 x6 x7 (wrap64 (x8 + 1)))) else (if 0 ≤ x8 then (if x8 < (x6.length : Int) then (if x7.length < 5864062014805 then (duffelref30_Clean.l1 k x4 x6 (x7 ++ [rd_L1 x6 x8]) (wrap64 (x8 + 1))) else (none)) else (none)) else (none)))
end
def duffelref30_Clean.f (k : Nat) (l0 : List Int) : Option (List Int × Int) := duffelref30_Clean.l0 k l0 ([] : List Int) 0
theorem duffelref30_Clean.mono_l : ∀ k, (∀ y0 y1 y2, LeO (duffelref30_Clean.l0 k y0 y1 y2) (duffelref30_Clean.l0 (k + 1) y0 y1 y2)) ∧ (∀ y0 y1, LeO (duffelref30_Clean.j1 k y0 y1) (duffelref30_Clean.j1 (k + 1) y0 y1)) ∧ (∀ y0, LeO (duffelref30_Clean.j2 k y0) (duffelref30_Clean.j2 (k + 1) y0)) ∧ (∀ y0 y1 y2 y3, LeO (duffelref30_Clean.l1 k y0 y1 y2 y3) (duffelref30_Clean.l1 (k + 1) y0 y1 y2 y3)) ∧ (∀ y0 y1 y2 y3 y4 y5, LeO (duffelref30_Clean.j4 k y0 y1 y2 y3 y4 y5) (duffelref30_Clean.j4 (k + 1) y0 y1 y2 y3 y4 y5))
  | 0 => ⟨fun _ _ _ r h => by simp [duffelref30_Clean.l0] at h, fun _ _ r h => by simp [duffelref30_Clean.j1] at h, fun _ r h => by simp [duffelref30_Clean.j2] at h, fun _ _ _ _ r h => by simp [duffelref30_Clean.l1] at h, fun _ _ _ _ _ _ r h => by simp [duffelref30_Clean.j4] at h⟩
  | k + 1 => by
    obtain ⟨ih0, ih1, ih2, ih3, ih4⟩ := duffelref30_Clean.mono_l k
    refine ⟨?_, ?_, ?_, ?_, ?_⟩
    · intro y0 y1 y2
      unfold duffelref30_Clean.l0
      repeat' first
      | (with_reducible exact ih0 _ _ _)
      | (with_reducible exact ih1 _ _)
      | (with_reducible exact ih2 _)
      | (with_reducible exact ih3 _ _ _ _)
      | (with_reducible exact ih4 _ _ _ _ _ _)
      | (with_reducible exact duffelref30_Cut.mono _ _)
      | (with_reducible exact duffelref30_Is.mono _ _)
      | (with_reducible exact duffelref30_join.mono _ _ _)
      | (with_reducible exact LeO.refl _)
      | (with_reducible exact LeO.none _)
      | (with_reducible refine LeO.ite ?_ ?_)
      | (with_reducible refine LeO.bind ?_ (fun _ => ?_))
      | exact ih0 _ _ _
      | exact ih1 _ _
      | exact ih2 _
      | exact ih3 _ _ _ _
      | exact ih4 _ _ _ _ _ _
      | exact duffelref30_Cut.mono _ _
      | exact duffelref30_Is.mono _ _
      | exact duffelref30_join.mono _ _ _
      | exact LeO.none _
      | refine LeO.ite ?_ ?_
      | refine LeO.bind ?_ (fun _ => ?_)
    · intro y0 y1
      unfold duffelref30_Clean.j1
      repeat' first
      | (with_reducible exact ih0 _ _ _)
      | (with_reducible exact ih1 _ _)
      | (with_reducible exact ih2 _)
      | (with_reducible exact ih3 _ _ _ _)
      | (with_reducible exact ih4 _ _ _ _ _ _)
      | (with_reducible exact duffelref30_Cut.mono _ _)
      | (with_reducible exact duffelref30_Is.mono _ _)
      | (with_reducible exact duffelref30_join.mono _ _ _)
      | (with_reducible exact LeO.refl _)
      | (with_reducible exact LeO.none _)
      | (with_reducible refine LeO.ite ?_ ?_)
      | (with_reducible refine LeO.bind ?_ (fun _ => ?_))
      | exact ih0 _ _ _
      | exact ih1 _ _
      | exact ih2 _
      | exact ih3 _ _ _ _
      | exact ih4 _ _ _ _ _ _
      | exact duffelref30_Cut.mono _ _
      | exact duffelref30_Is.mono _ _
      | exact duffelref30_join.mono _ _ _
      | exact LeO.none _
      | refine LeO.ite ?_ ?_
      | refine LeO.bind ?_ (fun _ => ?_)
    · intro y0
      unfold duffelref30_Clean.j2
      repeat' first
      | (with_reducible exact ih0 _ _ _)
      | (with_reducible exact ih1 _ _)
      | (with_reducible exact ih2 _)
      | (with_reducible exact ih3 _ _ _ _)
      | (with_reducible exact ih4 _ _ _ _ _ _)
      | (with_reducible exact duffelref30_Cut.mono _ _)
      | (with_reducible exact duffelref30_Is.mono _ _)
      | (with_reducible exact duffelref30_join.mono _ _ _)
      | (with_reducible exact LeO.refl _)
      | (with_reducible exact LeO.none _)
      | (with_reducible refine LeO.ite ?_ ?_)
      | (with_reducible refine LeO.bind ?_ (fun _ => ?_))
      | exact ih0 _ _ _
      | exact ih1 _ _
      | exact ih2 _
      | exact ih3 _ _ _ _
      | exact ih4 _ _ _ _ _ _
      | exact duffelref30_Cut.mono _ _
      | exact duffelref30_Is.mono _ _
      | exact duffelref30_join.mono _ _ _
      | exact LeO.none _
      | refine LeO.ite ?_ ?_
      | refine LeO.bind ?_ (fun _ => ?_)
    · intro y0 y1 y2 y3
      unfold duffelref30_Clean.l1
      repeat' first
      | (with_reducible exact ih0 _ _ _)
      | (with_reducible exact ih1 _ _)
      | (with_reducible exact ih2 _)
      | (with_reducible exact ih3 _ _ _ _)
      | (with_reducible exact ih4 _ _ _ _ _ _)
      | (with_reducible exact duffelref30_Cut.mono _ _)
      | (with_reducible exact duffelref30_Is.mono _ _)
      | (with_reducible exact duffelref30_join.mono _ _ _)
      | (with_reducible exact LeO.refl _)
      | (with_reducible exact LeO.none _)
      | (with_reducible refine LeO.ite ?_ ?_)
      | (with_reducible refine LeO.bind ?_ (fun _ => ?_))
      | exact ih0 _ _ _
      | exact ih1 _ _
      | exact ih2 _
      | exact ih3 _ _ _ _
      | exact ih4 _ _ _ _ _ _
      | exact duffelref30_Cut.mono _ _
      | exact duffelref30_Is.mono _ _
      | exact duffelref30_join.mono _ _ _
      | exact LeO.none _
      | refine LeO.ite ?_ ?_
      | refine LeO.bind ?_ (fun _ => ?_)
    · intro y0 y1 y2 y3 y4 y5
      unfold duffelref30_Clean.j4
      repeat' first
      | (with_reducible exact ih0 _ _ _)
      | (with_reducible exact ih1 _ _)
      | (with_reducible exact ih2 _)
      | (with_reducible exact ih3 _ _ _ _)
      | (with_reducible exact ih4 _ _ _ _ _ _)
      | (with_reducible exact duffelref30_Cut.mono _ _)
      | (with_reducible exact duffelref30_Is.mono _ _)
      | (with_reducible exact duffelref30_join.mono _ _ _)
      | (with_reducible exact LeO.refl _)
      | (with_reducible exact LeO.none _)
      | (with_reducible refine LeO.ite ?_ ?_)
      | (with_reducible refine LeO.bind ?_ (fun _ => ?_))
      | exact ih0 _ _ _
      | exact ih1 _ _
      | exact ih2 _
      | exact ih3 _ _ _ _
      | exact ih4 _ _ _ _ _ _
      | exact duffelref30_Cut.mono _ _
      | exact duffelref30_Is.mono _ _
      | exact duffelref30_join.mono _ _ _
      | exact LeO.none _
      | refine LeO.ite ?_ ?_
      | refine LeO.bind ?_ (fun _ => ?_)
theorem duffelref30_Clean.mono : ∀ a0 k, LeO (duffelref30_Clean.f k a0) (duffelref30_Clean.f (k + 1) a0) := by
  intro a0 k
  obtain ⟨ih0, ih1, ih2, ih3, ih4⟩ := duffelref30_Clean.mono_l k
  unfold duffelref30_Clean.f
  repeat' first
      | (with_reducible exact ih0 _ _ _)
      | (with_reducible exact ih1 _ _)
      | (with_reducible exact ih2 _)
      | (with_reducible exact ih3 _ _ _ _)
      | (with_reducible exact ih4 _ _ _ _ _ _)
      | (with_reducible exact duffelref30_Cut.mono _ _)
      | (with_reducible exact duffelref30_Is.mono _ _)
      | (with_reducible exact duffelref30_join.mono _ _ _)
      | (with_reducible exact LeO.refl _)
      | (with_reducible exact LeO.none _)
      | (with_reducible refine LeO.ite ?_ ?_)
      | (with_reducible refine LeO.bind ?_ (fun _ => ?_))
      | exact ih0 _ _ _
      | exact ih1 _ _
      | exact ih2 _
      | exact ih3 _ _ _ _
      | exact ih4 _ _ _ _ _ _
      | exact duffelref30_Cut.mono _ _
      | exact duffelref30_Is.mono _ _
      | exact duffelref30_join.mono _ _ _
      | exact LeO.none _
      | refine LeO.ite ?_ ?_
      | refine LeO.bind ?_ (fun _ => ?_)
set_option maxHeartbeats 8000000 in
set_option maxRecDepth 100000 in
theorem duffelref30_Clean.calls (k : Nat) (A0 : Option Addr) (c0 : Nat) (l0 : List Int) (r1 : List Int) (r2 : Int) (w : World) (hr0 : Kd.C (Kd.int .u8) w A0 l0.length l0) (hc0 : l0.length ≤ c0) (h : duffelref30_Clean.f k l0 = some (r1, r2)) :
    Calls Tryd.prog 17 #[.slice A0 l0.length c0] w fun e w' => ∃ v0_ : Value, e = .returned (.tuple #[v0_, .int .i64 r2]) ∧ Kd.R (Kd.int .u8) 5 w' w.heap.size (fun _ => True) v0_ r1 ∧ Below w.heap.size w w' := by
  have HR0 := Aside0.mk hr0
  have HC0 := Aside0.mk hc0
  clear hr0 hc0
  have HB := Aside0.mk (Below.refl w.heap.size w)
  have H : (duffelref30_Clean.l0 k l0 ([] : List Int) 0) = some (r1, r2) := h
  clear h
  have H' := Aside0.mk H
  clear H
  go_enter Tryd.func17, Tryd.ntmps17
  go_wp2
  go_loopg [4, 5] k (fun kq v4 v5 w' => ∃ (x4_1 : List Int) (x5_1 : Int), v5 = .int .i64 x5_1 ∧ Aside0 (duffelref30_Clean.l0 kq l0 x4_1 x5_1 = some (r1, r2)) ∧ Aside0 (kq ≤ k) ∧ Aside0 (Kd.Q (Kd.int .u8) 5 w' w.heap.size (fun _ => True) v4 x4_1) ∧ Aside0 (Below w.heap.size w w'))
  case atStart => exact ⟨(([] : List Int)), (0), (by first | rfl | (simp; done) | (simp [*]; done)), H', ⟨Nat.le_refl _⟩, ⟨Kd.Q_of_R (by first | exact Kd.R_nil _ _ _ _ _ | exact Kd.N_nil _ _ _ _ _ | exact Kd.V_nil _ _ _ _ _ | exact Kd.Q_nil _ _ _ _ _ | exact Kd.S_nil _ _ _ _ _)⟩, ⟨by repeat (first | (with_reducible first | exact HB.out | apply below_alloc | apply pw_below_drewN | apply below_drew1) | exact HB.out)⟩⟩
  case round =>
    clear H'
    try clear c1
    obtain ⟨x4_1, x5_1, rfl, HA, HK1, HO_4, HB⟩ := hrel
    cases gk with
    | zero => exact absurd HA.out (by simp [duffelref30_Clean.l0])
    | succ k1 =>
      have H := HA.out
      clear HA
      simp only [duffelref30_Clean.l0] at H
      by_cases c2 : x5_1 < (l0.length : Int)
      · rw [if_pos c2] at H
        have c2b0 : decide (x5_1 < (l0.length : Int)) = true := decide_eq_true c2
        clear c2
        by_cases c3 : 0 ≤ x5_1
        · rw [if_pos c3] at H
          have c3b0 : decide (0 ≤ x5_1) = true := decide_eq_true c3
          clear c3
          by_cases c4 : (rd l0 x5_1) = 92
          · rw [if_pos c4] at H
            have c4b0 : ((rd l0 x5_1) == 92) = true := beq_iff_eq.mpr c4
            have c4b1 : ((rd l0 x5_1) != 92) = false := bne_eq_false_iff_eq.mpr c4
            clear c4
            by_cases c5 : x4_1.length < 140737488355328
            · rw [if_pos c5] at H
              have LMc5 := Aside0.mk c5
              clear c5
              obtain ⟨y176, hy176⟩ : ∃ y_ : List Int, y_ = (x4_1 ++ [47]) := ⟨_, rfl⟩
              replace H : (duffelref30_Clean.l0 k1 l0 y176 (wrap64 (x5_1 + 1))) = some (r1, r2) := by first | (rw [hy176]; with_reducible exact H) | (have H2_ := (Option.bind_some _ _).symm.trans H; rw [hy176]; with_reducible exact H2_) | (have H2_ := (Option.bind_some _ _).symm.trans H; with_reducible exact H2_) | with_reducible exact H | (rw [hy176]; exact H) | exact H
              have Ny176 := Aside0.mk hy176
              clear hy176
              have H' := Aside0.mk H
              clear H
              have p175 : 0 ≤ (x5_1 : Int) := of_decide_eq_true (by first | (with_reducible assumption) | assumption)
              have q175 : x5_1 < (l0.length : Int) := of_decide_eq_true (by first | (with_reducible assumption) | assumption)
              obtain ⟨ad175, e175, hx175_0⟩ := Kd.at_int HR0.out x5_1 p175 q175
              cases e175
              replace hx175_0 := (HB.out.cell (World.block_lt_of_cell? w _ hx175_0)).trans hx175_0
              replace p175 := eq_true p175
              replace q175 := eq_true q175
              go_wp2_with (first | ((with_reducible refine gate_builtin (b := .append) (xs := #[.tmp 22, .tmp 23]) rfl ?_); (try (refine gate_guard (by rfl) ?_; dsimp only)); at_builtin; refine Kd.Q_append (Kd.int .u8) (w0 := w) w.heap.size rfl (.tmp 22) (.tmp 23) 22 5 (.int .u8 0) 1 rfl Tryd.underlying22 info5 rfl (by decide) (by omega) u4 x4_1 47 [.int .u8 47] (fun _ => True) (fun _ => False) rfl rfl ?aP (fun _ hk => hk.elim) ?aF ?aO ?aB ?aS ?aL ?_; (case aP => exact rfl); (case aB => exact (by repeat (first | (with_reducible first | exact HB.out | apply below_alloc | apply pw_below_drewN | apply below_drew1) | exact HB.out))); (case aF => exact (fun _ _ => trivial)); (case aO => exact (by (with_reducible repeat (first | apply Kd.Q_alloc | apply Kd.Q_drewN | apply Kd.Q_drew)); exact HO_4.out)); (case aS => exact (below_size (by repeat (first | (with_reducible first | exact HB.out | apply below_alloc | apply pw_below_drewN | apply below_drew1) | exact HB.out)))); (case aL => have := LMc5.out; omega); intro v177 w6 ho hb hg hat; rw [← Ny176.out] at ho; have n0_ := Aside0.mk (hb); have n1_ := Aside0.mk (ho); clear HB; clear HO_4; have HB := n0_; have HO178 := n1_; clear n0_ n1_; clear ho hb hg hat))
              go_roundg k1
              case measure => have := HK1.out; omega
              case rel => exact ⟨(y176), (wrap64 (x5_1 + 1)), (by first | rfl | (simp; done) | (simp [*]; done)), H', ⟨by have := HK1.out; omega⟩, ⟨by (with_reducible repeat (first | apply Kd.Q_alloc | apply Kd.Q_drewN | apply Kd.Q_drew)); exact HO178.out⟩, ⟨by repeat (first | (with_reducible first | exact HB.out | apply below_alloc | apply pw_below_drewN | apply below_drew1) | exact HB.out)⟩⟩
            · rw [if_neg c5] at H
              exact absurd H (by simp)
          · rw [if_neg c4] at H
            have c4b0 : ((rd l0 x5_1) == 92) = false := beq_eq_false_iff_ne.mpr c4
            have c4b1 : ((rd l0 x5_1) != 92) = true := bne_iff_ne.mpr c4
            by_cases c7 : x4_1.length < 140737488355328
            · rw [if_pos c7] at H
              have LMc7 := Aside0.mk c7
              clear c7
              obtain ⟨y180, hy180⟩ : ∃ y_ : List Int, y_ = (x4_1 ++ [rd l0 x5_1]) := ⟨_, rfl⟩
              replace H : (duffelref30_Clean.l0 k1 l0 y180 (wrap64 (x5_1 + 1))) = some (r1, r2) := by first | (rw [hy180]; with_reducible exact H) | (have H2_ := (Option.bind_some _ _).symm.trans H; rw [hy180]; with_reducible exact H2_) | (have H2_ := (Option.bind_some _ _).symm.trans H; with_reducible exact H2_) | with_reducible exact H | (rw [hy180]; exact H) | exact H
              have Ny180 := Aside0.mk hy180
              clear hy180
              have H' := Aside0.mk H
              clear H
              have p175 : 0 ≤ (x5_1 : Int) := of_decide_eq_true (by first | (with_reducible assumption) | assumption)
              have q175 : x5_1 < (l0.length : Int) := of_decide_eq_true (by first | (with_reducible assumption) | assumption)
              obtain ⟨ad175, e175, hx175_0⟩ := Kd.at_int HR0.out x5_1 p175 q175
              cases e175
              replace hx175_0 := (HB.out.cell (World.block_lt_of_cell? w _ hx175_0)).trans hx175_0
              replace p175 := eq_true p175
              replace q175 := eq_true q175
              have p179 : 0 ≤ (x5_1 : Int) := of_decide_eq_true (by first | (with_reducible assumption) | assumption)
              have q179 : x5_1 < (l0.length : Int) := of_decide_eq_true (by first | (with_reducible assumption) | assumption)
              obtain ⟨ad179, e179, hx179_0⟩ := Kd.at_int HR0.out x5_1 p179 q179
              obtain rfl : ad175 = ad179 := (by injection e179)
              replace hx179_0 := (HB.out.cell (World.block_lt_of_cell? w _ hx179_0)).trans hx179_0
              replace p179 := eq_true p179
              replace q179 := eq_true q179
              go_wp2_with (first | ((with_reducible refine gate_builtin (b := .append) (xs := #[.tmp 25, .tmp 30]) rfl ?_); (try (refine gate_guard (by rfl) ?_; dsimp only)); at_builtin; refine Kd.Q_append (Kd.int .u8) (w0 := w) w.heap.size rfl (.tmp 25) (.tmp 30) 22 5 (.int .u8 0) 1 rfl Tryd.underlying22 info5 rfl (by decide) (by omega) u4 x4_1 (rd l0 x5_1) [.int .u8 (rd l0 x5_1)] (fun _ => True) (fun _ => False) rfl rfl ?aP (fun _ hk => hk.elim) ?aF ?aO ?aB ?aS ?aL ?_; (case aP => exact rfl); (case aB => exact (by repeat (first | (with_reducible first | exact HB.out | apply below_alloc | apply pw_below_drewN | apply below_drew1) | exact HB.out))); (case aF => exact (fun _ _ => trivial)); (case aO => exact (by (with_reducible repeat (first | apply Kd.Q_alloc | apply Kd.Q_drewN | apply Kd.Q_drew)); exact HO_4.out)); (case aS => exact (below_size (by repeat (first | (with_reducible first | exact HB.out | apply below_alloc | apply pw_below_drewN | apply below_drew1) | exact HB.out)))); (case aL => have := LMc7.out; omega); intro v181 w8 ho hb hg hat; rw [← Ny180.out] at ho; have n0_ := Aside0.mk (hb); have n1_ := Aside0.mk (ho); clear HB; clear HO_4; have HB := n0_; have HO182 := n1_; clear n0_ n1_; clear ho hb hg hat))
              go_roundg k1
              case measure => have := HK1.out; omega
              case rel => exact ⟨(y180), (wrap64 (x5_1 + 1)), (by first | rfl | (simp; done) | (simp [*]; done)), H', ⟨by have := HK1.out; omega⟩, ⟨by (with_reducible repeat (first | apply Kd.Q_alloc | apply Kd.Q_drewN | apply Kd.Q_drew)); exact HO182.out⟩, ⟨by repeat (first | (with_reducible first | exact HB.out | apply below_alloc | apply pw_below_drewN | apply below_drew1) | exact HB.out)⟩⟩
            · rw [if_neg c7] at H
              exact absurd H (by simp)
        · rw [if_neg c3] at H
          exact absurd H (by simp)
      · rw [if_neg c2] at H
        have c2b0 : decide (x5_1 < (l0.length : Int)) = false := decide_eq_false c2
        clear c2
        have HC9 := Aside0.mk H
        clear H
        go_upto_region 8 with (fail)
        go_cut [64] (fun v64 wc => ∃ (kq : Nat) (x64_8 : Bool), v64 = .bool x64_8 ∧ Aside0 (duffelref30_Clean.j1 kq x4_1 x64_8 = some (r1, r2)) ∧ Aside0 (kq ≤ k1) ∧ Aside0 (Kd.Q (Kd.int .u8) 5 wc w.heap.size (fun _ => True) u4 x4_1) ∧ Aside0 (Below w.heap.size w wc))
        case first =>
          have H := HC9.out
          clear HC9
          by_cases c10 : (x4_1.length : Int) ≥ 2
          · rw [if_pos c10] at H
            have c10b0 : decide (2 ≤ (x4_1.length : Int)) = true := decide_eq_true c10
            have c10b1 : decide (2 ≤ x4_1.length) = true := decide_eq_true (by omega)
            clear c10
            (first | rw [c10b0] | (simp only [i64_w, i32_w]; rw [c10b0]) | skip)
            by_cases c11 : 1 < (x4_1.length : Int)
            · rw [if_pos c11] at H
              have c11b0 : decide (1 < (x4_1.length : Int)) = true := decide_eq_true c11
              have c11b1 : decide (1 < x4_1.length) = true := decide_eq_true (by omega)
              clear c11
              by_cases c12 : (rd x4_1 1) = 58
              · rw [if_pos c12] at H
                have c12b0 : ((rd x4_1 1) == 58) = true := beq_iff_eq.mpr c12
                have c12b1 : ((rd x4_1 1) != 58) = false := bne_eq_false_iff_eq.mpr c12
                clear c12
                by_cases c13 : 0 < (x4_1.length : Int)
                · rw [if_pos c13] at H
                  have c13b0 : decide (0 < (x4_1.length : Int)) = true := decide_eq_true c13
                  have c13b1 : decide (0 < x4_1.length) = true := decide_eq_true (by omega)
                  clear c13
                  by_cases c14 : (rd x4_1 0) ≥ 65
                  · rw [if_pos c14] at H
                    have c14b0 : decide (65 ≤ (rd x4_1 0)) = true := decide_eq_true c14
                    clear c14
                    by_cases c15 : (rd x4_1 0) ≤ 90
                    · rw [if_pos c15] at H
                      have c15b0 : decide ((rd x4_1 0) ≤ 90) = true := decide_eq_true c15
                      clear c15
                      have H' := Aside0.mk H
                      clear H
                      obtain ⟨Ao16, co16, eo16, _⟩ := Kd.Q_slice HO_4.out
                      subst eo16
                      have p183 : 0 ≤ (1 : Int) := (by omega)
                      have q183 : 1 < (x4_1.length : Int) := of_decide_eq_true (by first | (with_reducible assumption) | assumption)
                      obtain ⟨ad183, e183, hx183_0⟩ := Kd.at_int (Kd.Q_reads' HO_4.out).2.2 1 p183 q183
                      cases e183
                      (try simp only [show (1 : Int).toNat = 1 from rfl, Nat.reduceMul, Nat.reduceEqDiff, Go.Addr.add, ↓reduceIte] at hx183_0)
                      have qi183 : (1 < x4_1.length) = True := eq_true (by omega)
                      (try rw [show ((1 : Int)).toNat = 1 from rfl] at hx183_0)
                      replace p183 := eq_true p183
                      replace q183 := eq_true q183
                      have p184 : 0 ≤ (0 : Int) := (by omega)
                      have q184 : 0 < (x4_1.length : Int) := of_decide_eq_true (by first | (with_reducible assumption) | assumption)
                      obtain ⟨ad184, e184, hx184_0⟩ := Kd.at_int (Kd.Q_reads' HO_4.out).2.2 0 p184 q184
                      obtain rfl : ad183 = ad184 := (by injection e184)
                      have qi184 : (0 < x4_1.length) = True := eq_true (by omega)
                      (try rw [show ((0 : Int)).toNat = 0 from rfl] at hx184_0)
                      (try rw [Addr.add_zero'] at hx184_0)
                      replace p184 := eq_true p184
                      replace q184 := eq_true q184
                      have p185 : 0 ≤ (0 : Int) := (by omega)
                      have q185 : 0 < (x4_1.length : Int) := of_decide_eq_true (by first | (with_reducible assumption) | assumption)
                      obtain ⟨ad185, e185, hx185_0⟩ := Kd.at_int (Kd.Q_reads' HO_4.out).2.2 0 p185 q185
                      obtain rfl : ad183 = ad185 := (by injection e185)
                      have qi185 : (0 < x4_1.length) = True := eq_true (by omega)
                      (try rw [show ((0 : Int)).toNat = 0 from rfl] at hx185_0)
                      (try rw [Addr.add_zero'] at hx185_0)
                      replace p185 := eq_true p185
                      replace q185 := eq_true q185
                      go_wp2
                      go_meet
                      case rel => exact ⟨_, (true), (by first | rfl | (simp; done) | (simp [*]; done)), H', ⟨by have := HK1.out; first | omega | exact Nat.le_refl _⟩, ⟨by (with_reducible repeat (first | apply Kd.Q_alloc | apply Kd.Q_drewN | apply Kd.Q_drew)); exact HO_4.out⟩, ⟨by repeat (first | (with_reducible first | exact HB.out | apply below_alloc | apply pw_below_drewN | apply below_drew1) | exact HB.out)⟩⟩
                    · rw [if_neg c15] at H
                      have c15b0 : decide ((rd x4_1 0) ≤ 90) = false := decide_eq_false c15
                      clear c15
                      by_cases c17 : (rd x4_1 0) ≥ 97
                      · rw [if_pos c17] at H
                        have c17b0 : decide (97 ≤ (rd x4_1 0)) = true := decide_eq_true c17
                        clear c17
                        have H' := Aside0.mk H
                        clear H
                        obtain ⟨Ao18, co18, eo18, _⟩ := Kd.Q_slice HO_4.out
                        subst eo18
                        have p183 : 0 ≤ (1 : Int) := (by omega)
                        have q183 : 1 < (x4_1.length : Int) := of_decide_eq_true (by first | (with_reducible assumption) | assumption)
                        obtain ⟨ad183, e183, hx183_0⟩ := Kd.at_int (Kd.Q_reads' HO_4.out).2.2 1 p183 q183
                        cases e183
                        (try simp only [show (1 : Int).toNat = 1 from rfl, Nat.reduceMul, Nat.reduceEqDiff, Go.Addr.add, ↓reduceIte] at hx183_0)
                        have qi183 : (1 < x4_1.length) = True := eq_true (by omega)
                        (try rw [show ((1 : Int)).toNat = 1 from rfl] at hx183_0)
                        replace p183 := eq_true p183
                        replace q183 := eq_true q183
                        have p184 : 0 ≤ (0 : Int) := (by omega)
                        have q184 : 0 < (x4_1.length : Int) := of_decide_eq_true (by first | (with_reducible assumption) | assumption)
                        obtain ⟨ad184, e184, hx184_0⟩ := Kd.at_int (Kd.Q_reads' HO_4.out).2.2 0 p184 q184
                        obtain rfl : ad183 = ad184 := (by injection e184)
                        have qi184 : (0 < x4_1.length) = True := eq_true (by omega)
                        (try rw [show ((0 : Int)).toNat = 0 from rfl] at hx184_0)
                        (try rw [Addr.add_zero'] at hx184_0)
                        replace p184 := eq_true p184
                        replace q184 := eq_true q184
                        have p185 : 0 ≤ (0 : Int) := (by omega)
                        have q185 : 0 < (x4_1.length : Int) := of_decide_eq_true (by first | (with_reducible assumption) | assumption)
                        obtain ⟨ad185, e185, hx185_0⟩ := Kd.at_int (Kd.Q_reads' HO_4.out).2.2 0 p185 q185
                        obtain rfl : ad183 = ad185 := (by injection e185)
                        have qi185 : (0 < x4_1.length) = True := eq_true (by omega)
                        (try rw [show ((0 : Int)).toNat = 0 from rfl] at hx185_0)
                        (try rw [Addr.add_zero'] at hx185_0)
                        replace p185 := eq_true p185
                        replace q185 := eq_true q185
                        have p186 : 0 ≤ (0 : Int) := (by omega)
                        have q186 : 0 < (x4_1.length : Int) := of_decide_eq_true (by first | (with_reducible assumption) | assumption)
                        obtain ⟨ad186, e186, hx186_0⟩ := Kd.at_int (Kd.Q_reads' HO_4.out).2.2 0 p186 q186
                        obtain rfl : ad183 = ad186 := (by injection e186)
                        have qi186 : (0 < x4_1.length) = True := eq_true (by omega)
                        (try rw [show ((0 : Int)).toNat = 0 from rfl] at hx186_0)
                        (try rw [Addr.add_zero'] at hx186_0)
                        replace p186 := eq_true p186
                        replace q186 := eq_true q186
                        have p187 : 0 ≤ (0 : Int) := (by omega)
                        have q187 : 0 < (x4_1.length : Int) := of_decide_eq_true (by first | (with_reducible assumption) | assumption)
                        obtain ⟨ad187, e187, hx187_0⟩ := Kd.at_int (Kd.Q_reads' HO_4.out).2.2 0 p187 q187
                        obtain rfl : ad183 = ad187 := (by injection e187)
                        have qi187 : (0 < x4_1.length) = True := eq_true (by omega)
                        (try rw [show ((0 : Int)).toNat = 0 from rfl] at hx187_0)
                        (try rw [Addr.add_zero'] at hx187_0)
                        replace p187 := eq_true p187
                        replace q187 := eq_true q187
                        go_wp2
                        go_meet
                        case rel => exact ⟨_, (decide ((rd x4_1 0) ≤ 122)), (by first | rfl | (simp; done) | (simp [*]; done)), H', ⟨by have := HK1.out; first | omega | exact Nat.le_refl _⟩, ⟨by (with_reducible repeat (first | apply Kd.Q_alloc | apply Kd.Q_drewN | apply Kd.Q_drew)); exact HO_4.out⟩, ⟨by repeat (first | (with_reducible first | exact HB.out | apply below_alloc | apply pw_below_drewN | apply below_drew1) | exact HB.out)⟩⟩
                      · rw [if_neg c17] at H
                        have c17b0 : decide (97 ≤ (rd x4_1 0)) = false := decide_eq_false c17
                        clear c17
                        have H' := Aside0.mk H
                        clear H
                        obtain ⟨Ao19, co19, eo19, _⟩ := Kd.Q_slice HO_4.out
                        subst eo19
                        have p183 : 0 ≤ (1 : Int) := (by omega)
                        have q183 : 1 < (x4_1.length : Int) := of_decide_eq_true (by first | (with_reducible assumption) | assumption)
                        obtain ⟨ad183, e183, hx183_0⟩ := Kd.at_int (Kd.Q_reads' HO_4.out).2.2 1 p183 q183
                        cases e183
                        (try simp only [show (1 : Int).toNat = 1 from rfl, Nat.reduceMul, Nat.reduceEqDiff, Go.Addr.add, ↓reduceIte] at hx183_0)
                        have qi183 : (1 < x4_1.length) = True := eq_true (by omega)
                        (try rw [show ((1 : Int)).toNat = 1 from rfl] at hx183_0)
                        replace p183 := eq_true p183
                        replace q183 := eq_true q183
                        have p184 : 0 ≤ (0 : Int) := (by omega)
                        have q184 : 0 < (x4_1.length : Int) := of_decide_eq_true (by first | (with_reducible assumption) | assumption)
                        obtain ⟨ad184, e184, hx184_0⟩ := Kd.at_int (Kd.Q_reads' HO_4.out).2.2 0 p184 q184
                        obtain rfl : ad183 = ad184 := (by injection e184)
                        have qi184 : (0 < x4_1.length) = True := eq_true (by omega)
                        (try rw [show ((0 : Int)).toNat = 0 from rfl] at hx184_0)
                        (try rw [Addr.add_zero'] at hx184_0)
                        replace p184 := eq_true p184
                        replace q184 := eq_true q184
                        have p185 : 0 ≤ (0 : Int) := (by omega)
                        have q185 : 0 < (x4_1.length : Int) := of_decide_eq_true (by first | (with_reducible assumption) | assumption)
                        obtain ⟨ad185, e185, hx185_0⟩ := Kd.at_int (Kd.Q_reads' HO_4.out).2.2 0 p185 q185
                        obtain rfl : ad183 = ad185 := (by injection e185)
                        have qi185 : (0 < x4_1.length) = True := eq_true (by omega)
                        (try rw [show ((0 : Int)).toNat = 0 from rfl] at hx185_0)
                        (try rw [Addr.add_zero'] at hx185_0)
                        replace p185 := eq_true p185
                        replace q185 := eq_true q185
                        have p186 : 0 ≤ (0 : Int) := (by omega)
                        have q186 : 0 < (x4_1.length : Int) := of_decide_eq_true (by first | (with_reducible assumption) | assumption)
                        obtain ⟨ad186, e186, hx186_0⟩ := Kd.at_int (Kd.Q_reads' HO_4.out).2.2 0 p186 q186
                        obtain rfl : ad183 = ad186 := (by injection e186)
                        have qi186 : (0 < x4_1.length) = True := eq_true (by omega)
                        (try rw [show ((0 : Int)).toNat = 0 from rfl] at hx186_0)
                        (try rw [Addr.add_zero'] at hx186_0)
                        replace p186 := eq_true p186
                        replace q186 := eq_true q186
                        go_wp2
                        go_meet
                        case rel => exact ⟨_, (false), (by first | rfl | (simp; done) | (simp [*]; done)), H', ⟨by have := HK1.out; first | omega | exact Nat.le_refl _⟩, ⟨by (with_reducible repeat (first | apply Kd.Q_alloc | apply Kd.Q_drewN | apply Kd.Q_drew)); exact HO_4.out⟩, ⟨by repeat (first | (with_reducible first | exact HB.out | apply below_alloc | apply pw_below_drewN | apply below_drew1) | exact HB.out)⟩⟩
                  · rw [if_neg c14] at H
                    have c14b0 : decide (65 ≤ (rd x4_1 0)) = false := decide_eq_false c14
                    clear c14
                    by_cases c20 : (rd x4_1 0) ≥ 97
                    · rw [if_pos c20] at H
                      have c20b0 : decide (97 ≤ (rd x4_1 0)) = true := decide_eq_true c20
                      clear c20
                      have H' := Aside0.mk H
                      clear H
                      obtain ⟨Ao21, co21, eo21, _⟩ := Kd.Q_slice HO_4.out
                      subst eo21
                      have p183 : 0 ≤ (1 : Int) := (by omega)
                      have q183 : 1 < (x4_1.length : Int) := of_decide_eq_true (by first | (with_reducible assumption) | assumption)
                      obtain ⟨ad183, e183, hx183_0⟩ := Kd.at_int (Kd.Q_reads' HO_4.out).2.2 1 p183 q183
                      cases e183
                      (try simp only [show (1 : Int).toNat = 1 from rfl, Nat.reduceMul, Nat.reduceEqDiff, Go.Addr.add, ↓reduceIte] at hx183_0)
                      have qi183 : (1 < x4_1.length) = True := eq_true (by omega)
                      (try rw [show ((1 : Int)).toNat = 1 from rfl] at hx183_0)
                      replace p183 := eq_true p183
                      replace q183 := eq_true q183
                      have p184 : 0 ≤ (0 : Int) := (by omega)
                      have q184 : 0 < (x4_1.length : Int) := of_decide_eq_true (by first | (with_reducible assumption) | assumption)
                      obtain ⟨ad184, e184, hx184_0⟩ := Kd.at_int (Kd.Q_reads' HO_4.out).2.2 0 p184 q184
                      obtain rfl : ad183 = ad184 := (by injection e184)
                      have qi184 : (0 < x4_1.length) = True := eq_true (by omega)
                      (try rw [show ((0 : Int)).toNat = 0 from rfl] at hx184_0)
                      (try rw [Addr.add_zero'] at hx184_0)
                      replace p184 := eq_true p184
                      replace q184 := eq_true q184
                      have p188 : 0 ≤ (0 : Int) := (by omega)
                      have q188 : 0 < (x4_1.length : Int) := of_decide_eq_true (by first | (with_reducible assumption) | assumption)
                      obtain ⟨ad188, e188, hx188_0⟩ := Kd.at_int (Kd.Q_reads' HO_4.out).2.2 0 p188 q188
                      obtain rfl : ad183 = ad188 := (by injection e188)
                      have qi188 : (0 < x4_1.length) = True := eq_true (by omega)
                      (try rw [show ((0 : Int)).toNat = 0 from rfl] at hx188_0)
                      (try rw [Addr.add_zero'] at hx188_0)
                      replace p188 := eq_true p188
                      replace q188 := eq_true q188
                      have p189 : 0 ≤ (0 : Int) := (by omega)
                      have q189 : 0 < (x4_1.length : Int) := of_decide_eq_true (by first | (with_reducible assumption) | assumption)
                      obtain ⟨ad189, e189, hx189_0⟩ := Kd.at_int (Kd.Q_reads' HO_4.out).2.2 0 p189 q189
                      obtain rfl : ad183 = ad189 := (by injection e189)
                      have qi189 : (0 < x4_1.length) = True := eq_true (by omega)
                      (try rw [show ((0 : Int)).toNat = 0 from rfl] at hx189_0)
                      (try rw [Addr.add_zero'] at hx189_0)
                      replace p189 := eq_true p189
                      replace q189 := eq_true q189
                      go_wp2
                      go_meet
                      case rel => exact ⟨_, (decide ((rd x4_1 0) ≤ 122)), (by first | rfl | (simp; done) | (simp [*]; done)), H', ⟨by have := HK1.out; first | omega | exact Nat.le_refl _⟩, ⟨by (with_reducible repeat (first | apply Kd.Q_alloc | apply Kd.Q_drewN | apply Kd.Q_drew)); exact HO_4.out⟩, ⟨by repeat (first | (with_reducible first | exact HB.out | apply below_alloc | apply pw_below_drewN | apply below_drew1) | exact HB.out)⟩⟩
                    · rw [if_neg c20] at H
                      have c20b0 : decide (97 ≤ (rd x4_1 0)) = false := decide_eq_false c20
                      clear c20
                      have H' := Aside0.mk H
                      clear H
                      obtain ⟨Ao22, co22, eo22, _⟩ := Kd.Q_slice HO_4.out
                      subst eo22
                      have p183 : 0 ≤ (1 : Int) := (by omega)
                      have q183 : 1 < (x4_1.length : Int) := of_decide_eq_true (by first | (with_reducible assumption) | assumption)
                      obtain ⟨ad183, e183, hx183_0⟩ := Kd.at_int (Kd.Q_reads' HO_4.out).2.2 1 p183 q183
                      cases e183
                      (try simp only [show (1 : Int).toNat = 1 from rfl, Nat.reduceMul, Nat.reduceEqDiff, Go.Addr.add, ↓reduceIte] at hx183_0)
                      have qi183 : (1 < x4_1.length) = True := eq_true (by omega)
                      (try rw [show ((1 : Int)).toNat = 1 from rfl] at hx183_0)
                      replace p183 := eq_true p183
                      replace q183 := eq_true q183
                      have p184 : 0 ≤ (0 : Int) := (by omega)
                      have q184 : 0 < (x4_1.length : Int) := of_decide_eq_true (by first | (with_reducible assumption) | assumption)
                      obtain ⟨ad184, e184, hx184_0⟩ := Kd.at_int (Kd.Q_reads' HO_4.out).2.2 0 p184 q184
                      obtain rfl : ad183 = ad184 := (by injection e184)
                      have qi184 : (0 < x4_1.length) = True := eq_true (by omega)
                      (try rw [show ((0 : Int)).toNat = 0 from rfl] at hx184_0)
                      (try rw [Addr.add_zero'] at hx184_0)
                      replace p184 := eq_true p184
                      replace q184 := eq_true q184
                      have p188 : 0 ≤ (0 : Int) := (by omega)
                      have q188 : 0 < (x4_1.length : Int) := of_decide_eq_true (by first | (with_reducible assumption) | assumption)
                      obtain ⟨ad188, e188, hx188_0⟩ := Kd.at_int (Kd.Q_reads' HO_4.out).2.2 0 p188 q188
                      obtain rfl : ad183 = ad188 := (by injection e188)
                      have qi188 : (0 < x4_1.length) = True := eq_true (by omega)
                      (try rw [show ((0 : Int)).toNat = 0 from rfl] at hx188_0)
                      (try rw [Addr.add_zero'] at hx188_0)
                      replace p188 := eq_true p188
                      replace q188 := eq_true q188
                      go_wp2
                      go_meet
                      case rel => exact ⟨_, (false), (by first | rfl | (simp; done) | (simp [*]; done)), H', ⟨by have := HK1.out; first | omega | exact Nat.le_refl _⟩, ⟨by (with_reducible repeat (first | apply Kd.Q_alloc | apply Kd.Q_drewN | apply Kd.Q_drew)); exact HO_4.out⟩, ⟨by repeat (first | (with_reducible first | exact HB.out | apply below_alloc | apply pw_below_drewN | apply below_drew1) | exact HB.out)⟩⟩
                · rw [if_neg c13] at H
                  exact absurd H (by simp)
              · rw [if_neg c12] at H
                have c12b0 : ((rd x4_1 1) == 58) = false := beq_eq_false_iff_ne.mpr c12
                have c12b1 : ((rd x4_1 1) != 58) = true := bne_iff_ne.mpr c12
                have H' := Aside0.mk H
                clear H
                obtain ⟨Ao23, co23, eo23, _⟩ := Kd.Q_slice HO_4.out
                subst eo23
                have p183 : 0 ≤ (1 : Int) := (by omega)
                have q183 : 1 < (x4_1.length : Int) := of_decide_eq_true (by first | (with_reducible assumption) | assumption)
                obtain ⟨ad183, e183, hx183_0⟩ := Kd.at_int (Kd.Q_reads' HO_4.out).2.2 1 p183 q183
                cases e183
                (try simp only [show (1 : Int).toNat = 1 from rfl, Nat.reduceMul, Nat.reduceEqDiff, Go.Addr.add, ↓reduceIte] at hx183_0)
                have qi183 : (1 < x4_1.length) = True := eq_true (by omega)
                (try rw [show ((1 : Int)).toNat = 1 from rfl] at hx183_0)
                replace p183 := eq_true p183
                replace q183 := eq_true q183
                go_wp2
                go_meet
                case rel => exact ⟨_, (false), (by first | rfl | (simp; done) | (simp [*]; done)), H', ⟨by have := HK1.out; first | omega | exact Nat.le_refl _⟩, ⟨by (with_reducible repeat (first | apply Kd.Q_alloc | apply Kd.Q_drewN | apply Kd.Q_drew)); exact HO_4.out⟩, ⟨by repeat (first | (with_reducible first | exact HB.out | apply below_alloc | apply pw_below_drewN | apply below_drew1) | exact HB.out)⟩⟩
            · rw [if_neg c11] at H
              exact absurd H (by simp)
          · rw [if_neg c10] at H
            have c10b0 : decide (2 ≤ (x4_1.length : Int)) = false := decide_eq_false c10
            have c10b1 : decide (2 ≤ x4_1.length) = false := decide_eq_false (by omega)
            clear c10
            (first | rw [c10b0] | (simp only [i64_w, i32_w]; rw [c10b0]) | skip)
            have H' := Aside0.mk H
            clear H
            obtain ⟨Ao24, co24, eo24, _⟩ := Kd.Q_slice HO_4.out
            subst eo24
            go_wp2
            go_meet
            case rel => exact ⟨_, (false), (by first | rfl | (simp; done) | (simp [*]; done)), H', ⟨by have := HK1.out; first | omega | exact Nat.le_refl _⟩, ⟨by (with_reducible repeat (first | apply Kd.Q_alloc | apply Kd.Q_drewN | apply Kd.Q_drew)); exact HO_4.out⟩, ⟨by repeat (first | (with_reducible first | exact HB.out | apply below_alloc | apply pw_below_drewN | apply below_drew1) | exact HB.out)⟩⟩
        case rest =>
          clear HC9
          try clear c1
          try clear p1
          try clear q1
          try clear hx1
          try clear qi1
          try clear c2
          try clear c2b0
          try clear p2
          try clear c3
          try clear c3b0
          try clear c4
          try clear c4b0
          try clear c4b1
          try clear c5
          try clear p6
          try clear c7
          try clear c10
          try clear c10b0
          try clear c10b1
          try clear c11
          try clear c11b0
          try clear c11b1
          try clear c12
          try clear c12b0
          try clear c12b1
          try clear c13
          try clear c13b0
          try clear c13b1
          try clear c14
          try clear c14b0
          try clear c15
          try clear c15b0
          try clear c17
          try clear c17b0
          try clear p17
          try clear q17
          try clear hx17
          try clear p18
          try clear q18
          try clear hx18
          try clear qi18
          try clear c20
          try clear c20b0
          try clear hx175_0
          try clear hx179_0
          try clear hx183_0
          try clear hx184_0
          try clear hx185_0
          try clear hx186_0
          try clear hx187_0
          try clear hx188_0
          try clear hx189_0
          try clear p175
          try clear p179
          try clear p183
          try clear p184
          try clear p185
          try clear p186
          try clear p187
          try clear p188
          try clear p189
          try clear q175
          try clear q179
          try clear q183
          try clear q184
          try clear q185
          try clear q186
          try clear q187
          try clear q188
          try clear q189
          obtain ⟨kq, x64_8, rfl, HA, HJ8, HO_4, HB⟩ := hcut
          cases kq with
          | zero => exact absurd HA.out (by simp [duffelref30_Clean.j1])
          | succ kj8 =>
            have H := HA.out
            clear HA
            simp only [duffelref30_Clean.j1] at H
            have HC25 := Aside0.mk H
            clear H
            go_upto_if 64 with (fail)
            go_cut [4] (fun v4 wc => ∃ (kq : Nat) (x4_24 : List Int), Aside0 (duffelref30_Clean.j2 kq x4_24 = some (r1, r2)) ∧ Aside0 (kq ≤ kj8) ∧ Aside0 (Kd.Q (Kd.int .u8) 5 wc w.heap.size (fun _ => True) v4 x4_24) ∧ Aside0 (Below w.heap.size w wc))
            case first =>
              have H := HC25.out
              clear HC25
              by_cases c26 : x64_8 = true
              · subst c26
                have H1 : (if 2 ≤ (x4_1.length : Int) then (duffelref30_Clean.j2 kj8 (x4_1.drop (2 : Int).toNat)) else (none)) = some (r1, r2) := by rw [if_pos rfl] at H; exact H
                clear H
                have H := H1
                clear H1
                by_cases c27 : 2 ≤ (x4_1.length : Int)
                · rw [if_pos c27] at H
                  have c27b0 := eq_true c27
                  have c27b1 : decide (2 ≤ (x4_1.length : Int)) = true := decide_eq_true c27
                  clear c27
                  obtain ⟨y190, hy190⟩ : ∃ y_ : List Int, y_ = (x4_1.drop (2 : Int).toNat) := ⟨_, rfl⟩
                  replace H : (duffelref30_Clean.j2 kj8 y190) = some (r1, r2) := by first | (rw [hy190]; with_reducible exact H) | (have H2_ := (Option.bind_some _ _).symm.trans H; rw [hy190]; with_reducible exact H2_) | (have H2_ := (Option.bind_some _ _).symm.trans H; with_reducible exact H2_) | with_reducible exact H | (rw [hy190]; exact H) | exact H
                  have Ny190 := Aside0.mk hy190
                  clear hy190
                  have H' := Aside0.mk H
                  clear H
                  obtain ⟨Ao28, co28, eo28, _⟩ := Kd.Q_slice HO_4.out
                  subst eo28
                  have q29 : (2 : Int) ≤ ((x4_1.length : Int) : Int) := of_decide_eq_true (by first | (with_reducible assumption) | assumption)
                  obtain ⟨i029, hi029, _, hsz29, _⟩ := info_parts info5
                  have hcut29 := cut_from (P := Tryd.prog) 22 5 .i64 Tryd.underlying22 hi029 1 hsz29 Ao28 x4_1.length co28 2 (by omega) q29
                  have hr29 := Kd.Q_drop (k := (2 : Int).toNat) HO_4.out (by omega)
                  obtain ⟨A29, hA29⟩ : ∃ A1, A1 = (if co28 = (2 : Int).toNat then Ao28 else (Ao28 : Option Addr).map (·.add ((2 : Int).toNat * 1))) := ⟨_, rfl⟩
                  obtain ⟨c29, hc29⟩ : ∃ c1, c1 = co28 - (2 : Int).toNat := ⟨_, rfl⟩
                  have hy29 : y190.length = x4_1.length - (2 : Int).toNat := (by rw [Ny190.out, List.length_drop])
                  rw [← Ny190.out] at hr29
                  rw [← hy29, ← hA29, ← hc29] at hcut29
                  replace hr29 : Kd.Q (Kd.int .u8) 5 wc w.heap.size (fun _ => True) (.slice A29 y190.length c29) y190 := (by rw [hA29, hc29, hy29]; exact hr29)
                  have HE29 : Aside0 ((Value.slice A29 y190.length c29).ownBlock = (.slice Ao28 x4_1.length co28 : Value).ownBlock) := ⟨by rw [hA29]; split <;> (cases (Ao28 : Option Addr) <;> rfl)⟩
                  clear hy29 hi029 hsz29 HO_4 hA29 hc29
                  have HO192 := Aside0.mk hr29
                  clear hr29
                  replace q29 := eq_true q29
                  go_wp2
                  go_meet
                  case rel => exact ⟨_, (y190), H', ⟨by have := HK1.out; have := HJ8.out; first | omega | exact Nat.le_refl _⟩, ⟨by (with_reducible repeat (first | apply Kd.Q_alloc | apply Kd.Q_drewN | apply Kd.Q_drew)); exact HO192.out⟩, ⟨by repeat (first | (with_reducible first | exact HB.out | apply below_alloc | apply pw_below_drewN | apply below_drew1) | exact HB.out)⟩⟩
                · rw [if_neg c27] at H
                  exact absurd H (by simp)
              · replace c26 := Bool.eq_false_iff.mpr c26
                subst c26
                have H1 : (duffelref30_Clean.j2 kj8 x4_1) = some (r1, r2) := by rw [if_neg (show ¬ (false = true) by decide)] at H; exact H
                clear H
                have H := H1
                clear H1
                have H' := Aside0.mk H
                clear H
                go_wp2
                go_meet
                case rel => exact ⟨_, (x4_1), H', ⟨by have := HK1.out; have := HJ8.out; first | omega | exact Nat.le_refl _⟩, ⟨by (with_reducible repeat (first | apply Kd.Q_alloc | apply Kd.Q_drewN | apply Kd.Q_drew)); exact HO_4.out⟩, ⟨by repeat (first | (with_reducible first | exact HB.out | apply below_alloc | apply pw_below_drewN | apply below_drew1) | exact HB.out)⟩⟩
            case rest =>
              clear HC25
              try clear c1
              try clear p1
              try clear q1
              try clear hx1
              try clear qi1
              try clear c2
              try clear c2b0
              try clear p2
              try clear q2
              try clear c3
              try clear c3b0
              try clear c4
              try clear c4b0
              try clear c4b1
              try clear c5
              try clear p6
              try clear c7
              try clear c10
              try clear c10b0
              try clear c10b1
              try clear c11
              try clear c11b0
              try clear c11b1
              try clear c12
              try clear c12b0
              try clear c12b1
              try clear c13
              try clear c13b0
              try clear c13b1
              try clear c14
              try clear c14b0
              try clear c15
              try clear c15b0
              try clear c17
              try clear c17b0
              try clear p17
              try clear q17
              try clear hx17
              try clear p18
              try clear q18
              try clear hx18
              try clear qi18
              try clear c20
              try clear c20b0
              try clear c26
              try clear c27
              try clear c27b0
              try clear c27b1
              try clear c29
              try clear q29
              try clear hx175_0
              try clear hx179_0
              try clear hx183_0
              try clear hx184_0
              try clear hx185_0
              try clear hx186_0
              try clear hx187_0
              try clear hx188_0
              try clear hx189_0
              try clear p1
              try clear p17
              try clear p175
              try clear p179
              try clear p18
              try clear p183
              try clear p184
              try clear p185
              try clear p186
              try clear p187
              try clear p188
              try clear p189
              try clear p2
              try clear p6
              try clear q1
              try clear q17
              try clear q175
              try clear q179
              try clear q18
              try clear q183
              try clear q184
              try clear q185
              try clear q186
              try clear q187
              try clear q188
              try clear q189
              try clear q29
              obtain ⟨kq, x4_24, HA, HJ24, HO_4, HB⟩ := hcut
              cases kq with
              | zero => exact absurd HA.out (by simp [duffelref30_Clean.j2])
              | succ kj24 =>
                have H := HA.out
                clear HA
                simp only [duffelref30_Clean.j2] at H
                replace H := Option.bind_eq_some_iff.mp H
                obtain ⟨t193, A300, H⟩ := H
                replace H : (duffelref30_Clean.l1 kj24 x4_24 t193 ([] : List (List Int)) 0) = some (r1, r2) := H
                have A30 := Aside0.mk A300
                clear A300
                have H' := Aside0.mk H
                clear H
                obtain ⟨Ao31, co31, eo31, _⟩ := Kd.Q_slice HO_4.out
                subst eo31
                go_wp2_with (first | ((with_reducible refine gate_callee (f := 44) rfl ?_); refine goesL_ (some 68) rfl rfl Tryd.func44 (by kernel_rfl) rfl #[.slice Ao31 x4_24.length co31] rfl (by (try simp only [List.map_toArray, List.map_cons, List.map_nil]); first | done | rfl | (simp only [List.length_drop, List.length_take]; rfl)) ?_; (with_reducible refine (duffelref30_Cut.calls kj24 _ _ x4_24 t193 _ ?side1 ?side2 A30.out).mono ?_); (case side1 => repeat (first | exact (Kd.Q_reads' HO_4.out).2.2 | (with_reducible refine Kd.C_alloc ?_ _) | (with_reducible refine Kd.C_drewN ?_ _) | (with_reducible refine Kd.C_drew ?_))); (case side2 => exact (Kd.Q_reads' HO_4.out).2.1); rintro e w32 ⟨v194, rfl, ho0, hb⟩; refine ⟨_, rfl, ?_⟩; have n0_ := Aside0.mk (Kd.Q_below (by (with_reducible repeat (first | apply Kd.Q_alloc | apply Kd.Q_drewN | apply Kd.Q_drew)); exact HO_4.out) hb); have n1_ := Aside0.mk (Kd.N_lower (Kd.N_mono (ok' := fun k_ => some k_ ≠ (.slice Ao31 x4_24.length co31 : Value).ownBlock) (Kd.S_N (Kd.S_bound ho0)) (fun k_ hk_ => (Kd.fresh' (Kd.Q_lt (by (with_reducible repeat (first | apply Kd.Q_alloc | apply Kd.Q_drewN | apply Kd.Q_drew)); exact HO_4.out)) k_ hk_.2.1))) (below_size (by repeat (first | (with_reducible first | exact HB.out | apply below_alloc | apply pw_below_drewN | apply below_drew1) | exact HB.out)))); have n2_ := Aside0.mk (below_step (by repeat (first | (with_reducible first | exact HB.out | apply below_alloc | apply pw_below_drewN | apply below_drew1) | exact HB.out)) hb); clear HO_4; clear HB; have HO_4 := n0_; have HO195 := n1_; have HB := n2_; clear n0_ n1_ n2_; (try clear hb); (try clear hb2); (try clear hk); (try clear hi); (try clear ho0)))
                go_loopg [7, 8] kj24 (fun kq v7 v8 w' => ∃ (x7_4 : List (List Int)) (x8_4 : Int), v8 = .int .i64 x8_4 ∧ Aside0 (duffelref30_Clean.l1 kq x4_24 t193 x7_4 x8_4 = some (r1, r2)) ∧ Aside0 (kq ≤ kj24) ∧ Aside0 (Kd.Q (Kd.int .u8) 5 w' w.heap.size (fun _ => True) (.slice Ao31 x4_24.length co31) x4_24) ∧ Aside0 (Kd.N (Kd.slice 5 (Kd.int .u8)) 22 w' w.heap.size (fun k_ => some k_ ≠ ((.slice Ao31 x4_24.length co31) : Value).ownBlock ∧ some k_ ≠ (v7 : Value).ownBlock) v194 t193) ∧ Aside0 (Kd.N (Kd.slice 5 (Kd.int .u8)) 22 w' w.heap.size (fun k_ => some k_ ≠ ((.slice Ao31 x4_24.length co31) : Value).ownBlock ∧ some k_ ≠ (v194 : Value).ownBlock) v7 x7_4) ∧ Aside0 (Below w.heap.size w w'))
                case atStart => exact ⟨(([] : List (List Int))), (0), (by first | rfl | (simp; done) | (simp [*]; done)), H', ⟨Nat.le_refl _⟩, ⟨by (with_reducible repeat (first | apply Kd.Q_alloc | apply Kd.Q_drewN | apply Kd.Q_drew)); exact HO_4.out⟩, ⟨by (with_reducible repeat (first | apply Kd.N_alloc | apply Kd.N_drewN | apply Kd.N_drew)); exact Kd.N_mono HO195.out (fun _ hk => ⟨hk, (by simp [Value.ownBlock])⟩)⟩, ⟨by first | exact Kd.S_nil _ _ _ _ _ | exact Kd.N_nil _ _ _ _ _ | exact Kd.V_nil _ _ _ _ _ | exact Kd.Q_nil _ _ _ _ _ | exact Kd.R_nil _ _ _ _ _⟩, ⟨by repeat (first | (with_reducible first | exact HB.out | apply below_alloc | apply pw_below_drewN | apply below_drew1) | exact HB.out)⟩⟩
                case round =>
                  clear H'
                  try clear c1
                  try clear p1
                  try clear q1
                  try clear hx1
                  try clear qi1
                  try clear c2
                  try clear c2b0
                  try clear p2
                  try clear q2
                  try clear c3
                  try clear c3b0
                  try clear c4
                  try clear c4b0
                  try clear c4b1
                  try clear c5
                  try clear p6
                  try clear c7
                  try clear c10
                  try clear c10b0
                  try clear c10b1
                  try clear c11
                  try clear c11b0
                  try clear c11b1
                  try clear c12
                  try clear c12b0
                  try clear c12b1
                  try clear c13
                  try clear c13b0
                  try clear c13b1
                  try clear c14
                  try clear c14b0
                  try clear c15
                  try clear c15b0
                  try clear c17
                  try clear c17b0
                  try clear p17
                  try clear q17
                  try clear hx17
                  try clear p18
                  try clear q18
                  try clear hx18
                  try clear qi18
                  try clear c20
                  try clear c20b0
                  try clear c26
                  try clear c27
                  try clear c27b0
                  try clear c27b1
                  try clear c29
                  try clear q29
                  try clear hx175_0
                  try clear hx179_0
                  try clear hx183_0
                  try clear hx184_0
                  try clear hx185_0
                  try clear hx186_0
                  try clear hx187_0
                  try clear hx188_0
                  try clear hx189_0
                  try clear p1
                  try clear p17
                  try clear p175
                  try clear p179
                  try clear p18
                  try clear p183
                  try clear p184
                  try clear p185
                  try clear p186
                  try clear p187
                  try clear p188
                  try clear p189
                  try clear p2
                  try clear p6
                  try clear q1
                  try clear q17
                  try clear q175
                  try clear q179
                  try clear q18
                  try clear q183
                  try clear q184
                  try clear q185
                  try clear q186
                  try clear q187
                  try clear q188
                  try clear q189
                  try clear q2
                  try clear q29
                  obtain ⟨x7_4, x8_4, rfl, HA, HK4, HO_4, HO_6, HO_7, HB⟩ := hrel
                  cases gk with
                  | zero => exact absurd HA.out (by simp [duffelref30_Clean.l1])
                  | succ k4 =>
                    have H := HA.out
                    clear HA
                    simp only [duffelref30_Clean.l1] at H
                    by_cases c33 : x8_4 < (t193.length : Int)
                    · rw [if_pos c33] at H
                      have c33b0 : decide (x8_4 < (t193.length : Int)) = true := decide_eq_true c33
                      clear c33
                      by_cases c34 : 0 ≤ x8_4
                      · rw [if_pos c34] at H
                        have c34b0 : decide (0 ≤ x8_4) = true := decide_eq_true c34
                        clear c34
                        have HC35 := Aside0.mk H
                        clear H
                        obtain ⟨Ao36, co36, eo36⟩ := Kd.N_slice HO_6.out
                        subst eo36
                        have p196 : 0 ≤ (x8_4 : Int) := of_decide_eq_true (by first | (with_reducible assumption) | assumption)
                        have q196 : x8_4 < (t193.length : Int) := of_decide_eq_true (by first | (with_reducible assumption) | assumption)
                        obtain ⟨ad196, A196_0, c196_0, e196, hx196_0, hl196_0, hi196_0⟩ := at_L1 (Kd.N_reads' HO_6.out).2.2 x8_4 p196 q196
                        cases e196
                        obtain ⟨ce196, hce196, hMe196, hcc196⟩ := Kd.N_get HO_6.out [] x8_4 p196 (by first | exact q196 | exact of_decide_eq_true (by first | (with_reducible assumption) | assumption) | (have e_ := (Kd.N_reads' HO_6.out).1; omega))
                        obtain ⟨ua196_0, uc196_0, rfl, ul196_0, ge196_0⟩ := Kd.FK_slice_open hMe196
                        have hv196_0 := hcc196 0 _ rfl
                        rw [Nat.add_zero, show ((Kd.slice 5 (Kd.int .u8))).sz = 1 from rfl, Nat.mul_one] at hv196_0
                        replace hv196_0 := Option.some.inj (hv196_0.symm.trans hx196_0)
                        injection hv196_0 with hva_ hvn_ hvc_
                        rw [hva_] at ge196_0
                        rw [hvc_] at ul196_0
                        have HL196_0 := Aside0.mk (show Kd.V (Kd.int .u8) 5 _ w.heap.size _ _ (rd_L1 t193 x8_4) from Kd.V_mk ul196_0 ge196_0)
                        clear hva_ hvn_ hvc_ ge196_0 ul196_0
                        clear hcc196 hce196
                        have HR196_0 := Aside0.mk hi196_0
                        have HC196_0 := Aside0.mk hl196_0
                        clear hi196_0 hl196_0
                        replace p196 := eq_true p196
                        replace q196 := eq_true q196
                        have hcv37 := Kd.C_string (P := Tryd.prog) (A := A196_0) (c := c196_0) Tryd.underlying22 Tryd.underlying5 Tryd.underlying9 (by repeat (first | (with_reducible exact HR196_0.out) | (with_reducible refine Kd.C_alloc ?_ _) | (with_reducible refine Kd.C_drewN ?_ _) | (with_reducible refine Kd.C_drew ?_) | exact HR196_0.out))
                        go_upto_region 16 with (fail)
                        go_cut [85] (fun v85 wc => ∃ (kq : Nat) (x85_34 : Bool), v85 = .bool x85_34 ∧ Aside0 (duffelref30_Clean.j4 kq x4_24 t193 x7_4 x8_4 (strOfNums (rd_L1 t193 x8_4)) x85_34 = some (r1, r2)) ∧ Aside0 (kq ≤ k4) ∧ Aside0 (Kd.Q (Kd.int .u8) 5 wc w.heap.size (fun _ => True) (.slice Ao31 x4_24.length co31) x4_24) ∧ Aside0 (Kd.N (Kd.slice 5 (Kd.int .u8)) 22 wc w.heap.size (fun k_ => some k_ ≠ ((.slice Ao31 x4_24.length co31) : Value).ownBlock ∧ some k_ ≠ (u7 : Value).ownBlock) (.slice (some ad196) t193.length co36) t193) ∧ Aside0 (Kd.N (Kd.slice 5 (Kd.int .u8)) 22 wc w.heap.size (fun k_ => some k_ ≠ ((.slice Ao31 x4_24.length co31) : Value).ownBlock ∧ some k_ ≠ ((.slice (some ad196) t193.length co36) : Value).ownBlock) u7 x7_4) ∧ Aside0 (Kd.C (Kd.int .u8) wc A196_0 (rd_L1 t193 x8_4).length (rd_L1 t193 x8_4)) ∧ Aside0 (Below w.heap.size w wc))
                        case first =>
                          have H := HC35.out
                          clear HC35
                          by_cases c38 : (strOfNums (rd_L1 t193 x8_4)).toList = ([] : List UInt8)
                          · rw [if_pos c38] at H
                            have c38b0 : ((strOfNums (rd_L1 t193 x8_4)).toList == ([] : List UInt8)) = true := beq_iff_eq.mpr c38
                            have c38b1 : ((strOfNums (rd_L1 t193 x8_4)).toList != ([] : List UInt8)) = false := bne_eq_false_iff_eq.mpr c38
                            clear c38
                            (first | rw [c38b0] | (simp only [i64_w, i32_w]; rw [c38b0]) | skip)
                            have H' := Aside0.mk H
                            clear H
                            go_wp2
                            go_meet
                            case rel => exact ⟨_, (true), (by first | rfl | (simp; done) | (simp [*]; done)), H', ⟨by have := HK1.out; have := HJ8.out; have := HJ24.out; have := HK4.out; first | omega | exact Nat.le_refl _⟩, ⟨by (with_reducible repeat (first | apply Kd.Q_alloc | apply Kd.Q_drewN | apply Kd.Q_drew)); exact HO_4.out⟩, ⟨by (with_reducible repeat (first | apply Kd.N_alloc | apply Kd.N_drewN | apply Kd.N_drew)); exact HO_6.out⟩, ⟨by (with_reducible repeat (first | apply Kd.N_alloc | apply Kd.N_drewN | apply Kd.N_drew)); exact HO_7.out⟩, ⟨by repeat (first | (with_reducible exact HR196_0.out) | (with_reducible refine Kd.C_alloc ?_ _) | (with_reducible refine Kd.C_drewN ?_ _) | (with_reducible refine Kd.C_drew ?_) | exact HR196_0.out)⟩, ⟨by repeat (first | (with_reducible first | exact HB.out | apply below_alloc | apply pw_below_drewN | apply below_drew1) | exact HB.out)⟩⟩
                          · rw [if_neg c38] at H
                            have c38b0 : ((strOfNums (rd_L1 t193 x8_4)).toList == ([] : List UInt8)) = false := beq_eq_false_iff_ne.mpr c38
                            have c38b1 : ((strOfNums (rd_L1 t193 x8_4)).toList != ([] : List UInt8)) = true := bne_iff_ne.mpr c38
                            (first | rw [c38b0] | (simp only [i64_w, i32_w]; rw [c38b0]) | skip)
                            have H' := Aside0.mk H
                            clear H
                            go_wp2
                            go_meet
                            case rel => exact ⟨_, (((strOfNums (rd_L1 t193 x8_4)).toList == ([46] : List UInt8))), (by first | rfl | (simp; done) | (simp [*]; done)), H', ⟨by have := HK1.out; have := HJ8.out; have := HJ24.out; have := HK4.out; first | omega | exact Nat.le_refl _⟩, ⟨by (with_reducible repeat (first | apply Kd.Q_alloc | apply Kd.Q_drewN | apply Kd.Q_drew)); exact HO_4.out⟩, ⟨by (with_reducible repeat (first | apply Kd.N_alloc | apply Kd.N_drewN | apply Kd.N_drew)); exact HO_6.out⟩, ⟨by (with_reducible repeat (first | apply Kd.N_alloc | apply Kd.N_drewN | apply Kd.N_drew)); exact HO_7.out⟩, ⟨by repeat (first | (with_reducible exact HR196_0.out) | (with_reducible refine Kd.C_alloc ?_ _) | (with_reducible refine Kd.C_drewN ?_ _) | (with_reducible refine Kd.C_drew ?_) | exact HR196_0.out)⟩, ⟨by repeat (first | (with_reducible first | exact HB.out | apply below_alloc | apply pw_below_drewN | apply below_drew1) | exact HB.out)⟩⟩
                        case rest =>
                          clear HC35
                          try clear c1
                          try clear p1
                          try clear q1
                          try clear hx1
                          try clear qi1
                          try clear c2
                          try clear c2b0
                          try clear p2
                          try clear q2
                          try clear c3
                          try clear c3b0
                          try clear hcv3
                          try clear c4
                          try clear c4b0
                          try clear c4b1
                          try clear c5
                          try clear p6
                          try clear c7
                          try clear c10
                          try clear c10b0
                          try clear c10b1
                          try clear c11
                          try clear c11b0
                          try clear c11b1
                          try clear c12
                          try clear c12b0
                          try clear c12b1
                          try clear c13
                          try clear c13b0
                          try clear c13b1
                          try clear c14
                          try clear c14b0
                          try clear c15
                          try clear c15b0
                          try clear c17
                          try clear c17b0
                          try clear p17
                          try clear q17
                          try clear hx17
                          try clear p18
                          try clear q18
                          try clear hx18
                          try clear qi18
                          try clear c19
                          try clear p19
                          try clear q19
                          try clear hx19
                          try clear c20
                          try clear c20b0
                          try clear c26
                          try clear c27
                          try clear c27b0
                          try clear c27b1
                          try clear c29
                          try clear q29
                          try clear c33
                          try clear c33b0
                          try clear c34
                          try clear c34b0
                          try clear hcv37
                          try clear c38
                          try clear c38b0
                          try clear c38b1
                          try clear hx175_0
                          try clear hx179_0
                          try clear hx183_0
                          try clear hx184_0
                          try clear hx185_0
                          try clear hx186_0
                          try clear hx187_0
                          try clear hx188_0
                          try clear hx189_0
                          try clear hx196_0
                          try clear p1
                          try clear p17
                          try clear p175
                          try clear p179
                          try clear p18
                          try clear p183
                          try clear p184
                          try clear p185
                          try clear p186
                          try clear p187
                          try clear p188
                          try clear p189
                          try clear p196
                          try clear p2
                          try clear p6
                          try clear q1
                          try clear q17
                          try clear q175
                          try clear q179
                          try clear q18
                          try clear q183
                          try clear q184
                          try clear q185
                          try clear q186
                          try clear q187
                          try clear q188
                          try clear q189
                          try clear q196
                          try clear q2
                          try clear q29
                          obtain ⟨kq, x85_34, rfl, HA, HJ34, HO_4, HO_6, HO_7, HR196_0, HB⟩ := hcut
                          cases kq with
                          | zero => exact absurd HA.out (by simp [duffelref30_Clean.j4])
                          | succ kj34 =>
                            have H := HA.out
                            clear HA
                            simp only [duffelref30_Clean.j4] at H
                            by_cases c39 : x85_34 = true
                            · subst c39
                              have H1 : (duffelref30_Clean.l1 kj34 x4_24 t193 x7_4 (wrap64 (x8_4 + 1))) = some (r1, r2) := by rw [if_pos rfl] at H; exact H
                              clear H
                              have H := H1
                              clear H1
                              have H' := Aside0.mk H
                              clear H
                              go_wp2
                              go_roundg kj34
                              case measure => have := HK1.out; have := HJ8.out; have := HJ24.out; have := HK4.out; have := HJ34.out; omega
                              case rel => exact ⟨(x7_4), (wrap64 (x8_4 + 1)), (by first | rfl | (simp; done) | (simp [*]; done)), H', ⟨by have := HK1.out; have := HJ8.out; have := HJ24.out; have := HK4.out; have := HJ34.out; omega⟩, ⟨by (with_reducible repeat (first | apply Kd.Q_alloc | apply Kd.Q_drewN | apply Kd.Q_drew)); exact HO_4.out⟩, ⟨by (with_reducible repeat (first | apply Kd.N_alloc | apply Kd.N_drewN | apply Kd.N_drew)); exact HO_6.out⟩, ⟨by (with_reducible repeat (first | apply Kd.N_alloc | apply Kd.N_drewN | apply Kd.N_drew)); exact HO_7.out⟩, ⟨by repeat (first | (with_reducible first | exact HB.out | apply below_alloc | apply pw_below_drewN | apply below_drew1) | exact HB.out)⟩⟩
                            · replace c39 := Bool.eq_false_iff.mpr c39
                              subst c39
                              have H1 : (if (strOfNums (rd_L1 t193 x8_4)).toList = ([46, 46] : List UInt8) then (if (x7_4.length : Int) > 0 then (if 0 ≤ (wrap64 ((x7_4.length : Int) - 1)) then (if (wrap64 ((x7_4.length : Int) - 1)) ≤ (x7_4.length : Int) then (duffelref30_Clean.l1 kj34 x4_24 t193 (x7_4.take ((wrap64 ((x7_4.length : Int) - 1)) : Int).toNat) (wrap64 (x8_4 + 1))) else (none)) else (none)) else (duffelref30_Clean.l1 kj34 x4_24 t193 x7_4 (wrap64 (x8_4 + 1)))) else (if 0 ≤ x8_4 then (if x8_4 < (t193.length : Int) then (if x7_4.length < 5864062014805 then (duffelref30_Clean.l1 kj34 x4_24 t193 (x7_4 ++ [rd_L1 t193 x8_4]) (wrap64 (x8_4 + 1))) else (none)) else (none)) else (none))) = some (r1, r2) := by rw [if_neg (show ¬ (false = true) by decide)] at H; exact H
                              clear H
                              have H := H1
                              clear H1
                              by_cases c40 : (strOfNums (rd_L1 t193 x8_4)).toList = ([46, 46] : List UInt8)
                              · rw [if_pos c40] at H
                                have c40b0 : ((strOfNums (rd_L1 t193 x8_4)).toList == ([46, 46] : List UInt8)) = true := beq_iff_eq.mpr c40
                                have c40b1 : ((strOfNums (rd_L1 t193 x8_4)).toList != ([46, 46] : List UInt8)) = false := bne_eq_false_iff_eq.mpr c40
                                clear c40
                                by_cases c41 : (x7_4.length : Int) > 0
                                · rw [if_pos c41] at H
                                  have c41b0 : decide (0 < (x7_4.length : Int)) = true := decide_eq_true c41
                                  have c41b1 : decide (0 < x7_4.length) = true := decide_eq_true (by omega)
                                  clear c41
                                  obtain ⟨ji42, hji42⟩ : ∃ j_ : Int, (wrap64 ((x7_4.length : Int) - 1)) = j_ := ⟨_, rfl⟩
                                  replace H : (if 0 ≤ (ji42) then (if (ji42) ≤ (x7_4.length : Int) then (duffelref30_Clean.l1 kj34 x4_24 t193 (x7_4.take ((ji42) : Int).toNat) (wrap64 (x8_4 + 1))) else (none)) else (none)) = some (r1, r2) := by first | (rw [hji42] at H; exact H) | (simp only [hji42] at H ⊢; exact H)
                                  have hji42w : (IntKind.i64.wrap ((x7_4.length : Int) - 1)) = ji42 := (i64_w _).trans hji42
                                  by_cases c43 : 0 ≤ (ji42)
                                  · rw [if_pos c43] at H
                                    have c43b0 := eq_true c43
                                    have c43b1 : decide (0 ≤ (ji42)) = true := decide_eq_true c43
                                    clear c43
                                    by_cases c44 : (ji42) ≤ (x7_4.length : Int)
                                    · rw [if_pos c44] at H
                                      have c44b0 := eq_true c44
                                      have c44b1 : decide ((ji42) ≤ (x7_4.length : Int)) = true := decide_eq_true c44
                                      clear c44
                                      obtain ⟨y197, hy197⟩ : ∃ y_ : List (List Int), y_ = (x7_4.take ((ji42) : Int).toNat) := ⟨_, rfl⟩
                                      replace H : (duffelref30_Clean.l1 kj34 x4_24 t193 y197 (wrap64 (x8_4 + 1))) = some (r1, r2) := by first | (rw [hy197]; with_reducible exact H) | (have H2_ := (Option.bind_some _ _).symm.trans H; rw [hy197]; with_reducible exact H2_) | (have H2_ := (Option.bind_some _ _).symm.trans H; with_reducible exact H2_) | with_reducible exact H | (rw [hy197]; exact H) | exact H
                                      have Ny197 := Aside0.mk hy197
                                      clear hy197
                                      have H' := Aside0.mk H
                                      clear H
                                      obtain ⟨Ao45, co45, eo45⟩ := Kd.N_slice HO_7.out
                                      subst eo45
                                      have q46 : ((ji42) : Int) ≤ ((x7_4.length : Int) : Int) := of_decide_eq_true (by first | (with_reducible assumption) | assumption)
                                      obtain ⟨i046, hi046, _, hsz46, _⟩ := info_parts info22
                                      have hcut46 := cut_to (P := Tryd.prog) 35 22 .i64 Tryd.underlying35 hi046 Ao45 x7_4.length co45 (ji42) (of_decide_eq_true (by first | (with_reducible assumption) | assumption)) q46 (Kd.N_reads' HO_7.out).2.1
                                      have hr46 := Kd.N_take (m := ((ji42) : Int).toNat) HO_7.out (by omega)
                                      have hy46 : y197.length = ((ji42) : Int).toNat := (by rw [Ny197.out, List.length_take]; omega)
                                      rw [← Ny197.out] at hr46
                                      rw [← hy46] at hr46 hcut46
                                      clear hy46 hi046 hsz46 HO_7
                                      have HO199 := Aside0.mk hr46
                                      clear hr46
                                      replace q46 := eq_true q46
                                      go_wp2
                                      go_roundg kj34
                                      case measure => have := HK1.out; have := HJ8.out; have := HJ24.out; have := HK4.out; have := HJ34.out; omega
                                      case rel => exact ⟨(y197), (wrap64 (x8_4 + 1)), (by first | rfl | (simp; done) | (simp [*]; done)), H', ⟨by have := HK1.out; have := HJ8.out; have := HJ24.out; have := HK4.out; have := HJ34.out; omega⟩, ⟨by (with_reducible repeat (first | apply Kd.Q_alloc | apply Kd.Q_drewN | apply Kd.Q_drew)); exact HO_4.out⟩, ⟨by (with_reducible repeat (first | apply Kd.N_alloc | apply Kd.N_drewN | apply Kd.N_drew)); (have h_ := HO_6.out; rw [show (Value.slice Ao45 x7_4.length co45).ownBlock = (Value.slice Ao45 y197.length co45).ownBlock from by cases Ao45 <;> rfl] at h_; exact h_)⟩, ⟨by (with_reducible repeat (first | apply Kd.N_alloc | apply Kd.N_drewN | apply Kd.N_drew)); exact HO199.out⟩, ⟨by repeat (first | (with_reducible first | exact HB.out | apply below_alloc | apply pw_below_drewN | apply below_drew1) | exact HB.out)⟩⟩
                                    · rw [if_neg c44] at H
                                      exact absurd H (by simp)
                                  · rw [if_neg c43] at H
                                    exact absurd H (by simp)
                                · rw [if_neg c41] at H
                                  have c41b0 : decide (0 < (x7_4.length : Int)) = false := decide_eq_false c41
                                  have c41b1 : decide (0 < x7_4.length) = false := decide_eq_false (by omega)
                                  clear c41
                                  have H' := Aside0.mk H
                                  clear H
                                  obtain ⟨Ao47, co47, eo47⟩ := Kd.N_slice HO_7.out
                                  subst eo47
                                  go_wp2
                                  go_roundg kj34
                                  case measure => have := HK1.out; have := HJ8.out; have := HJ24.out; have := HK4.out; have := HJ34.out; omega
                                  case rel => exact ⟨(x7_4), (wrap64 (x8_4 + 1)), (by first | rfl | (simp; done) | (simp [*]; done)), H', ⟨by have := HK1.out; have := HJ8.out; have := HJ24.out; have := HK4.out; have := HJ34.out; omega⟩, ⟨by (with_reducible repeat (first | apply Kd.Q_alloc | apply Kd.Q_drewN | apply Kd.Q_drew)); exact HO_4.out⟩, ⟨by (with_reducible repeat (first | apply Kd.N_alloc | apply Kd.N_drewN | apply Kd.N_drew)); exact HO_6.out⟩, ⟨by (with_reducible repeat (first | apply Kd.N_alloc | apply Kd.N_drewN | apply Kd.N_drew)); exact HO_7.out⟩, ⟨by repeat (first | (with_reducible first | exact HB.out | apply below_alloc | apply pw_below_drewN | apply below_drew1) | exact HB.out)⟩⟩
                              · rw [if_neg c40] at H
                                have c40b0 : ((strOfNums (rd_L1 t193 x8_4)).toList == ([46, 46] : List UInt8)) = false := beq_eq_false_iff_ne.mpr c40
                                have c40b1 : ((strOfNums (rd_L1 t193 x8_4)).toList != ([46, 46] : List UInt8)) = true := bne_iff_ne.mpr c40
                                by_cases c48 : 0 ≤ x8_4
                                · rw [if_pos c48] at H
                                  have c48b0 : decide (0 ≤ x8_4) = true := decide_eq_true c48
                                  clear c48
                                  by_cases c49 : x8_4 < (t193.length : Int)
                                  · rw [if_pos c49] at H
                                    have c49b0 : decide (x8_4 < (t193.length : Int)) = true := decide_eq_true c49
                                    clear c49
                                    by_cases c50 : x7_4.length < 5864062014805
                                    · rw [if_pos c50] at H
                                      have LMc50 := Aside0.mk c50
                                      clear c50
                                      obtain ⟨y201, hy201⟩ : ∃ y_ : List (List Int), y_ = (x7_4 ++ [rd_L1 t193 x8_4]) := ⟨_, rfl⟩
                                      replace H : (duffelref30_Clean.l1 kj34 x4_24 t193 y201 (wrap64 (x8_4 + 1))) = some (r1, r2) := by first | (rw [hy201]; with_reducible exact H) | (have H2_ := (Option.bind_some _ _).symm.trans H; rw [hy201]; with_reducible exact H2_) | (have H2_ := (Option.bind_some _ _).symm.trans H; with_reducible exact H2_) | with_reducible exact H | (rw [hy201]; exact H) | exact H
                                      have Ny201 := Aside0.mk hy201
                                      clear hy201
                                      have H' := Aside0.mk H
                                      clear H
                                      have p200 : 0 ≤ (x8_4 : Int) := of_decide_eq_true (by first | (with_reducible assumption) | assumption)
                                      have q200 : x8_4 < (t193.length : Int) := of_decide_eq_true (by first | (with_reducible assumption) | assumption)
                                      obtain ⟨ad200, A200_0, c200_0, e200, hx200_0, hl200_0, hi200_0⟩ := at_L1 (Kd.N_reads' HO_6.out).2.2 x8_4 p200 q200
                                      obtain rfl : ad196 = ad200 := (by injection e200)
                                      obtain ⟨ce200, hce200, hMe200, hcc200⟩ := Kd.N_get HO_6.out [] x8_4 p200 (by first | exact q200 | exact of_decide_eq_true (by first | (with_reducible assumption) | assumption) | (have e_ := (Kd.N_reads' HO_6.out).1; omega))
                                      obtain ⟨ua200_0, uc200_0, rfl, ul200_0, ge200_0⟩ := Kd.FK_slice_open hMe200
                                      have hv200_0 := hcc200 0 _ rfl
                                      rw [Nat.add_zero, show ((Kd.slice 5 (Kd.int .u8))).sz = 1 from rfl, Nat.mul_one] at hv200_0
                                      replace hv200_0 := Option.some.inj (hv200_0.symm.trans hx200_0)
                                      injection hv200_0 with hva_ hvn_ hvc_
                                      rw [hva_] at ge200_0
                                      rw [hvc_] at ul200_0
                                      have HL200_0 := Aside0.mk (show Kd.V (Kd.int .u8) 5 _ w.heap.size _ _ (rd_L1 t193 x8_4) from Kd.V_mk ul200_0 ge200_0)
                                      clear hva_ hvn_ hvc_ ge200_0 ul200_0
                                      clear hcc200 hce200
                                      have HR200_0 := Aside0.mk hi200_0
                                      have HC200_0 := Aside0.mk hl200_0
                                      clear hi200_0 hl200_0
                                      replace p200 := eq_true p200
                                      replace q200 := eq_true q200
                                      go_wp2_with (first | ((with_reducible refine gate_builtin (b := .append) (xs := #[.tmp 96, .tmp 101]) rfl ?_); (try (refine gate_guard (by rfl) ?_; dsimp only)); at_builtin; refine Kd.N_append (Kd.slice 5 (Kd.int .u8)) (w0 := w) w.heap.size rfl (.tmp 96) (.tmp 101) 35 22 (.slice none 0 0) 24 rfl Tryd.underlying35 info22 rfl (by decide) (by omega) u7 x7_4 (rd_L1 t193 x8_4) [.slice A200_0 (rd_L1 t193 x8_4).length c200_0] (fun k_ => some k_ ≠ (.slice Ao31 x4_24.length co31 : Value).ownBlock ∧ some k_ ≠ (.slice (some ad196) t193.length co36 : Value).ownBlock) (fun k_ => ((fun k_ => some k_ ≠ (.slice Ao31 x4_24.length co31 : Value).ownBlock ∧ some k_ ≠ (.slice (some ad196) t193.length co36 : Value).ownBlock)) k_ ∧ some k_ ≠ (u7 : Value).ownBlock) rfl rfl ?aP (fun _ hk => hk) ?aF ?aO ?aB ?aS ?aL ?_; (case aP => exact (Kd.FK_slice_mk (Kd.V_reads' (Kd.V_mono (ok' := (fun k_ => ((fun k_ => some k_ ≠ (.slice Ao31 x4_24.length co31 : Value).ownBlock ∧ some k_ ≠ (.slice (some ad196) t193.length co36 : Value).ownBlock)) k_ ∧ some k_ ≠ (u7 : Value).ownBlock)) (HL200_0.out) (fun k_ hk => ⟨⟨hk.1.1, hk.2⟩, hk.1.2⟩))).2.1 (Kd.V_F (Kd.V_mono (ok' := (fun k_ => ((fun k_ => some k_ ≠ (.slice Ao31 x4_24.length co31 : Value).ownBlock ∧ some k_ ≠ (.slice (some ad196) t193.length co36 : Value).ownBlock)) k_ ∧ some k_ ≠ (u7 : Value).ownBlock)) (HL200_0.out) (fun k_ hk => ⟨⟨hk.1.1, hk.2⟩, hk.1.2⟩))))); (case aB => exact (by repeat (first | (with_reducible first | exact HB.out | apply below_alloc | apply pw_below_drewN | apply below_drew1) | exact HB.out))); (case aF => exact (fun k_ hk => ⟨Kd.fresh' (Kd.Q_lt (by (with_reducible repeat (first | apply Kd.Q_alloc | apply Kd.Q_drewN | apply Kd.Q_drew)); exact HO_4.out)) k_ hk, Kd.fresh' (Kd.N_lt (by (with_reducible repeat (first | apply Kd.N_alloc | apply Kd.N_drewN | apply Kd.N_drew)); exact HO_6.out)) k_ hk⟩)); (case aO => exact (by (with_reducible repeat (first | apply Kd.N_alloc | apply Kd.N_drewN | apply Kd.N_drew)); exact HO_7.out)); (case aS => exact (below_size (by repeat (first | (with_reducible first | exact HB.out | apply below_alloc | apply pw_below_drewN | apply below_drew1) | exact HB.out)))); (case aL => have := LMc50.out; omega); intro v202 w51 ho hb hg hat; rw [← Ny201.out] at ho; have n0_ := Aside0.mk (Kd.Q_over' (by (with_reducible repeat (first | apply Kd.Q_alloc | apply Kd.Q_drewN | apply Kd.Q_drew)); exact HO_4.out) (Kd.N_typed (by (with_reducible repeat (first | apply Kd.N_alloc | apply Kd.N_drewN | apply Kd.N_drew)); exact HO_7.out)) (by decide) hg); have n1_ := Aside0.mk (Kd.N_afterv (ok := (fun k_ => some k_ ≠ (.slice Ao31 x4_24.length co31 : Value).ownBlock)) (by (with_reducible repeat (first | apply Kd.N_alloc | apply Kd.N_drewN | apply Kd.N_drew)); exact HO_6.out) hg hat); have n2_ := Aside0.mk (Kd.V_afterv (ok := (fun k_ => some k_ ≠ (.slice Ao31 x4_24.length co31 : Value).ownBlock ∧ some k_ ≠ (.slice (some ad196) t193.length co36 : Value).ownBlock)) (by (with_reducible repeat (first | apply Kd.V_alloc | apply Kd.V_drewN | apply Kd.V_drew)); exact Kd.V_mono HL200_0.out (fun _ hk => ⟨⟨hk.1.1, hk.2⟩, hk.1.2⟩)) hg hat); have n3_ := Aside0.mk (hb); have n4_ := Aside0.mk (ho); clear HO_4; clear HO_6; clear HL200_0; clear HB; clear HO_7; have HO_4 := n0_; have HO_6 := n1_; have HL200_0 := n2_; have HB := n3_; have HO203 := n4_; clear n0_ n1_ n2_ n3_ n4_; clear ho hb hg hat))
                                      go_roundg kj34
                                      case measure => have := HK1.out; have := HJ8.out; have := HJ24.out; have := HK4.out; have := HJ34.out; omega
                                      case rel => exact ⟨(y201), (wrap64 (x8_4 + 1)), (by first | rfl | (simp; done) | (simp [*]; done)), H', ⟨by have := HK1.out; have := HJ8.out; have := HJ24.out; have := HK4.out; have := HJ34.out; omega⟩, ⟨by (with_reducible repeat (first | apply Kd.Q_alloc | apply Kd.Q_drewN | apply Kd.Q_drew)); exact HO_4.out⟩, ⟨by (with_reducible repeat (first | apply Kd.N_alloc | apply Kd.N_drewN | apply Kd.N_drew)); exact HO_6.out⟩, ⟨by (with_reducible repeat (first | apply Kd.N_alloc | apply Kd.N_drewN | apply Kd.N_drew)); exact HO203.out⟩, ⟨by repeat (first | (with_reducible first | exact HB.out | apply below_alloc | apply pw_below_drewN | apply below_drew1) | exact HB.out)⟩⟩
                                    · rw [if_neg c50] at H
                                      exact absurd H (by simp)
                                  · rw [if_neg c49] at H
                                    exact absurd H (by simp)
                                · rw [if_neg c48] at H
                                  exact absurd H (by simp)
                      · rw [if_neg c34] at H
                        exact absurd H (by simp)
                    · rw [if_neg c33] at H
                      have c33b0 : decide (x8_4 < (t193.length : Int)) = false := decide_eq_false c33
                      clear c33
                      by_cases c52 : (x4_24.length : Int) > 0
                      · rw [if_pos c52] at H
                        have c52b0 : decide (0 < (x4_24.length : Int)) = true := decide_eq_true c52
                        have c52b1 : decide (0 < x4_24.length) = true := decide_eq_true (by omega)
                        clear c52
                        obtain ⟨ji53, hji53⟩ : ∃ j_ : Int, (wrap64 ((x4_24.length : Int) - 1)) = j_ := ⟨_, rfl⟩
                        replace H : (if 0 ≤ (ji53) then (if (ji53) < (x4_24.length : Int) then ((duffelref30_join.f k4 x7_4 ((rd x4_24 (ji53)) == 47)).bind fun t205 => ((duffelref30_Is.f k4 t205).bind fun t208 => (if t208 = true then (some (t205, 0)) else (some (([] : List Int), 16))))) else (none)) else (none)) = some (r1, r2) := by first | (rw [hji53] at H; exact H) | (simp only [hji53] at H ⊢; exact H)
                        have hji53w : (IntKind.i64.wrap ((x4_24.length : Int) - 1)) = ji53 := (i64_w _).trans hji53
                        by_cases c54 : 0 ≤ (ji53)
                        · rw [if_pos c54] at H
                          have c54b0 : decide (0 ≤ (ji53)) = true := decide_eq_true c54
                          clear c54
                          by_cases c55 : (ji53) < (x4_24.length : Int)
                          · rw [if_pos c55] at H
                            have c55b0 : decide ((ji53) < (x4_24.length : Int)) = true := decide_eq_true c55
                            clear c55
                            replace H := Option.bind_eq_some_iff.mp H
                            obtain ⟨t205, A560, H⟩ := H
                            replace H : ((duffelref30_Is.f k4 t205).bind fun t208 => (if t208 = true then (some (t205, 0)) else (some (([] : List Int), 16)))) = some (r1, r2) := H
                            have A56 := Aside0.mk A560
                            clear A560
                            replace H := Option.bind_eq_some_iff.mp H
                            obtain ⟨t208, A570, H⟩ := H
                            replace H : (if t208 = true then (some (t205, 0)) else (some (([] : List Int), 16))) = some (r1, r2) := H
                            have A57 := Aside0.mk A570
                            clear A570
                            by_cases c58 : t208 = true
                            · subst c58
                              have H1 : (some (t205, 0)) = some (r1, r2) := by rw [if_pos rfl] at H; exact H
                              clear H
                              have H := H1
                              clear H1
                              simp only [Option.some.injEq, Prod.mk.injEq] at H
                              obtain ⟨rfl, rfl⟩ := H
                              obtain ⟨Ao59, co59, eo59⟩ := Kd.N_slice HO_6.out
                              subst eo59
                              have p204 : 0 ≤ ((ji53) : Int) := of_decide_eq_true (by first | (with_reducible assumption) | assumption)
                              have q204 : (ji53) < (x4_24.length : Int) := of_decide_eq_true (by first | (with_reducible assumption) | assumption)
                              obtain ⟨ad204, e204, hx204_0⟩ := Kd.at_int (Kd.Q_reads' HO_4.out).2.2 (ji53) p204 q204
                              cases e204
                              replace p204 := eq_true p204
                              replace q204 := eq_true q204
                              obtain ⟨Ao60, co60, eo60⟩ := Kd.N_slice HO_7.out
                              subst eo60
                              go_wp2_with (first | ((with_reducible refine gate_callee (f := 45) rfl ?_); refine goesL_ (some 116) rfl rfl Tryd.func45 (by kernel_rfl) rfl #[.slice Ao60 x7_4.length co60, .bool ((rd x4_24 (ji53)) == 47)] rfl (by (try simp only [List.map_toArray, List.map_cons, List.map_nil]); first | done | (simp only [hji53]; rfl) | rfl | (simp only [List.length_drop, List.length_take]; rfl)) ?_; (with_reducible refine (duffelref30_join.calls k4 _ _ x7_4 ((rd x4_24 (ji53)) == 47) t205 _ ?side1 ?side2 A56.out).mono ?_); (case side1 => repeat (first | exact (Kd.N_reads' HO_7.out).2.2 | (with_reducible refine Kd.C_alloc ?_ _) | (with_reducible refine Kd.C_drewN ?_ _) | (with_reducible refine Kd.C_drew ?_))); (case side2 => exact (Kd.N_reads' HO_7.out).2.1); rintro e w61 ⟨v206, rfl, ho0, hb⟩; refine ⟨_, rfl, ?_⟩; have n0_ := Aside0.mk (Kd.Q_elder' (by (with_reducible repeat (first | apply Kd.Q_alloc | apply Kd.Q_drewN | apply Kd.Q_drew)); exact HO_4.out) (Kd.R_base ho0) hb); have n1_ := Aside0.mk (Kd.N_elder' (by (with_reducible repeat (first | apply Kd.N_alloc | apply Kd.N_drewN | apply Kd.N_drew)); exact HO_6.out) (Kd.R_base ho0) hb); have n2_ := Aside0.mk (Kd.N_elder' (by (with_reducible repeat (first | apply Kd.N_alloc | apply Kd.N_drewN | apply Kd.N_drew)); exact HO_7.out) (Kd.R_base ho0) hb); have n3_ := Aside0.mk (Kd.R_lower (Kd.R_new' ho0 (Kd.Q_lt (by (with_reducible repeat (first | apply Kd.Q_alloc | apply Kd.Q_drewN | apply Kd.Q_drew)); exact HO_4.out))) (below_size (by repeat (first | (with_reducible first | exact HB.out | apply below_alloc | apply pw_below_drewN | apply below_drew1) | exact HB.out)))); have n4_ := Aside0.mk (below_step (by repeat (first | (with_reducible first | exact HB.out | apply below_alloc | apply pw_below_drewN | apply below_drew1) | exact HB.out)) hb); clear HO_4; clear HO_6; clear HO_7; clear HB; have HO_4 := n0_; have HO_6 := n1_; have HO_7 := n2_; have HO207 := n3_; have HB := n4_; clear n0_ n1_ n2_ n3_ n4_; (try clear hb); (try clear hb2); (try clear hk); (try clear hi); (try clear ho0); obtain ⟨Ao62, co62, eo62⟩ := Kd.R_slice HO207.out; subst eo62) | ((with_reducible refine gate_callee (f := 18) rfl ?_); refine goesL_ (some 118) rfl rfl Tryd.func18 (by kernel_rfl) rfl #[.slice Ao62 t205.length co62] rfl (by (try simp only [List.map_toArray, List.map_cons, List.map_nil]); first | done | rfl | (simp only [List.length_drop, List.length_take]; rfl)) ?_; (with_reducible refine (duffelref30_Is.calls k4 _ _ t205 true _ ?side1 ?side2 A57.out).mono ?_); (case side1 => repeat (first | exact (Kd.R_reads' HO207.out).2.2 | (with_reducible refine Kd.C_alloc ?_ _) | (with_reducible refine Kd.C_drewN ?_ _) | (with_reducible refine Kd.C_drew ?_))); (case side2 => exact (Kd.R_reads' HO207.out).2.1); rintro e w63 ⟨rfl, hb⟩; refine ⟨_, rfl, ?_⟩; have n0_ := Aside0.mk (Kd.Q_below (by (with_reducible repeat (first | apply Kd.Q_alloc | apply Kd.Q_drewN | apply Kd.Q_drew)); exact HO_4.out) hb); have n1_ := Aside0.mk (Kd.N_below (by (with_reducible repeat (first | apply Kd.N_alloc | apply Kd.N_drewN | apply Kd.N_drew)); exact HO_6.out) hb); have n2_ := Aside0.mk (Kd.N_below (by (with_reducible repeat (first | apply Kd.N_alloc | apply Kd.N_drewN | apply Kd.N_drew)); exact HO_7.out) hb); have n3_ := Aside0.mk (Kd.R_below (by (with_reducible repeat (first | apply Kd.R_alloc | apply Kd.R_drewN | apply Kd.R_drew)); exact HO207.out) hb); have n4_ := Aside0.mk (below_step (by repeat (first | (with_reducible first | exact HB.out | apply below_alloc | apply pw_below_drewN | apply below_drew1) | exact HB.out)) hb); clear HO_4; clear HO_6; clear HO_7; clear HO207; clear HB; have HO_4 := n0_; have HO_6 := n1_; have HO_7 := n2_; have HO207 := n3_; have HB := n4_; clear n0_ n1_ n2_ n3_ n4_; (try clear hb); (try clear hb2); (try clear hk); (try clear hi)))
                              go_ret2
                              exact ⟨_, by first | rfl | (simp [errW_none, errW_some] <;> rfl) | (simp only [← hji53]; first | rfl | (simp [errW_none, errW_some] <;> rfl)) | (simp [*, errW_none, errW_some] <;> rfl), by (with_reducible repeat (first | apply Kd.R_alloc | apply Kd.R_drewN | apply Kd.R_drew)); exact Kd.R_mono HO207.out (fun _ hk => trivial), by repeat (first | (with_reducible first | exact HB.out | apply below_alloc | apply pw_below_drewN | apply below_drew1) | exact HB.out)⟩
                            · replace c58 := Bool.eq_false_iff.mpr c58
                              subst c58
                              have H1 : (some (([] : List Int), 16)) = some (r1, r2) := by rw [if_neg (show ¬ (false = true) by decide)] at H; exact H
                              clear H
                              have H := H1
                              clear H1
                              simp only [Option.some.injEq, Prod.mk.injEq] at H
                              obtain ⟨rfl, rfl⟩ := H
                              obtain ⟨Ao64, co64, eo64⟩ := Kd.N_slice HO_6.out
                              subst eo64
                              have p204 : 0 ≤ ((ji53) : Int) := of_decide_eq_true (by first | (with_reducible assumption) | assumption)
                              have q204 : (ji53) < (x4_24.length : Int) := of_decide_eq_true (by first | (with_reducible assumption) | assumption)
                              obtain ⟨ad204, e204, hx204_0⟩ := Kd.at_int (Kd.Q_reads' HO_4.out).2.2 (ji53) p204 q204
                              cases e204
                              replace p204 := eq_true p204
                              replace q204 := eq_true q204
                              obtain ⟨Ao65, co65, eo65⟩ := Kd.N_slice HO_7.out
                              subst eo65
                              go_wp2_with (first | ((with_reducible refine gate_callee (f := 45) rfl ?_); refine goesL_ (some 116) rfl rfl Tryd.func45 (by kernel_rfl) rfl #[.slice Ao65 x7_4.length co65, .bool ((rd x4_24 (ji53)) == 47)] rfl (by (try simp only [List.map_toArray, List.map_cons, List.map_nil]); first | done | (simp only [hji53]; rfl) | rfl | (simp only [List.length_drop, List.length_take]; rfl)) ?_; (with_reducible refine (duffelref30_join.calls k4 _ _ x7_4 ((rd x4_24 (ji53)) == 47) t205 _ ?side1 ?side2 A56.out).mono ?_); (case side1 => repeat (first | exact (Kd.N_reads' HO_7.out).2.2 | (with_reducible refine Kd.C_alloc ?_ _) | (with_reducible refine Kd.C_drewN ?_ _) | (with_reducible refine Kd.C_drew ?_))); (case side2 => exact (Kd.N_reads' HO_7.out).2.1); rintro e w66 ⟨v206, rfl, ho0, hb⟩; refine ⟨_, rfl, ?_⟩; have n0_ := Aside0.mk (Kd.Q_elder' (by (with_reducible repeat (first | apply Kd.Q_alloc | apply Kd.Q_drewN | apply Kd.Q_drew)); exact HO_4.out) (Kd.R_base ho0) hb); have n1_ := Aside0.mk (Kd.N_elder' (by (with_reducible repeat (first | apply Kd.N_alloc | apply Kd.N_drewN | apply Kd.N_drew)); exact HO_6.out) (Kd.R_base ho0) hb); have n2_ := Aside0.mk (Kd.N_elder' (by (with_reducible repeat (first | apply Kd.N_alloc | apply Kd.N_drewN | apply Kd.N_drew)); exact HO_7.out) (Kd.R_base ho0) hb); have n3_ := Aside0.mk (Kd.R_lower (Kd.R_new' ho0 (Kd.Q_lt (by (with_reducible repeat (first | apply Kd.Q_alloc | apply Kd.Q_drewN | apply Kd.Q_drew)); exact HO_4.out))) (below_size (by repeat (first | (with_reducible first | exact HB.out | apply below_alloc | apply pw_below_drewN | apply below_drew1) | exact HB.out)))); have n4_ := Aside0.mk (below_step (by repeat (first | (with_reducible first | exact HB.out | apply below_alloc | apply pw_below_drewN | apply below_drew1) | exact HB.out)) hb); clear HO_4; clear HO_6; clear HO_7; clear HB; have HO_4 := n0_; have HO_6 := n1_; have HO_7 := n2_; have HO207 := n3_; have HB := n4_; clear n0_ n1_ n2_ n3_ n4_; (try clear hb); (try clear hb2); (try clear hk); (try clear hi); (try clear ho0); obtain ⟨Ao67, co67, eo67⟩ := Kd.R_slice HO207.out; subst eo67) | ((with_reducible refine gate_callee (f := 18) rfl ?_); refine goesL_ (some 118) rfl rfl Tryd.func18 (by kernel_rfl) rfl #[.slice Ao67 t205.length co67] rfl (by (try simp only [List.map_toArray, List.map_cons, List.map_nil]); first | done | rfl | (simp only [List.length_drop, List.length_take]; rfl)) ?_; (with_reducible refine (duffelref30_Is.calls k4 _ _ t205 false _ ?side1 ?side2 A57.out).mono ?_); (case side1 => repeat (first | exact (Kd.R_reads' HO207.out).2.2 | (with_reducible refine Kd.C_alloc ?_ _) | (with_reducible refine Kd.C_drewN ?_ _) | (with_reducible refine Kd.C_drew ?_))); (case side2 => exact (Kd.R_reads' HO207.out).2.1); rintro e w68 ⟨rfl, hb⟩; refine ⟨_, rfl, ?_⟩; have n0_ := Aside0.mk (Kd.Q_below (by (with_reducible repeat (first | apply Kd.Q_alloc | apply Kd.Q_drewN | apply Kd.Q_drew)); exact HO_4.out) hb); have n1_ := Aside0.mk (Kd.N_below (by (with_reducible repeat (first | apply Kd.N_alloc | apply Kd.N_drewN | apply Kd.N_drew)); exact HO_6.out) hb); have n2_ := Aside0.mk (Kd.N_below (by (with_reducible repeat (first | apply Kd.N_alloc | apply Kd.N_drewN | apply Kd.N_drew)); exact HO_7.out) hb); have n3_ := Aside0.mk (Kd.R_below (by (with_reducible repeat (first | apply Kd.R_alloc | apply Kd.R_drewN | apply Kd.R_drew)); exact HO207.out) hb); have n4_ := Aside0.mk (below_step (by repeat (first | (with_reducible first | exact HB.out | apply below_alloc | apply pw_below_drewN | apply below_drew1) | exact HB.out)) hb); clear HO_4; clear HO_6; clear HO_7; clear HO207; clear HB; have HO_4 := n0_; have HO_6 := n1_; have HO_7 := n2_; have HO207 := n3_; have HB := n4_; clear n0_ n1_ n2_ n3_ n4_; (try clear hb); (try clear hb2); (try clear hk); (try clear hi)))
                              go_ret2
                              exact ⟨_, by first | rfl | (simp [errW_none, errW_some] <;> rfl) | (simp only [← hji53]; first | rfl | (simp [errW_none, errW_some] <;> rfl)) | (simp [*, errW_none, errW_some] <;> rfl), by first | exact Kd.R_nil _ _ _ _ _ | exact Kd.N_nil _ _ _ _ _ | exact Kd.V_nil _ _ _ _ _ | exact Kd.Q_nil _ _ _ _ _ | exact Kd.S_nil _ _ _ _ _, by repeat (first | (with_reducible first | exact HB.out | apply below_alloc | apply pw_below_drewN | apply below_drew1) | exact HB.out)⟩
                          · rw [if_neg c55] at H
                            exact absurd H (by simp)
                        · rw [if_neg c54] at H
                          exact absurd H (by simp)
                      · rw [if_neg c52] at H
                        have c52b0 : decide (0 < (x4_24.length : Int)) = false := decide_eq_false c52
                        have c52b1 : decide (0 < x4_24.length) = false := decide_eq_false (by omega)
                        clear c52
                        replace H := Option.bind_eq_some_iff.mp H
                        obtain ⟨t209, A690, H⟩ := H
                        replace H : ((duffelref30_Is.f k4 t209).bind fun t212 => (if t212 = true then (some (t209, 0)) else (some (([] : List Int), 16)))) = some (r1, r2) := H
                        have A69 := Aside0.mk A690
                        clear A690
                        replace H := Option.bind_eq_some_iff.mp H
                        obtain ⟨t212, A700, H⟩ := H
                        replace H : (if t212 = true then (some (t209, 0)) else (some (([] : List Int), 16))) = some (r1, r2) := H
                        have A70 := Aside0.mk A700
                        clear A700
                        by_cases c71 : t212 = true
                        · subst c71
                          have H1 : (some (t209, 0)) = some (r1, r2) := by rw [if_pos rfl] at H; exact H
                          clear H
                          have H := H1
                          clear H1
                          simp only [Option.some.injEq, Prod.mk.injEq] at H
                          obtain ⟨rfl, rfl⟩ := H
                          obtain ⟨Ao72, co72, eo72⟩ := Kd.N_slice HO_6.out
                          subst eo72
                          obtain ⟨Ao73, co73, eo73⟩ := Kd.N_slice HO_7.out
                          subst eo73
                          go_wp2_with (first | ((with_reducible refine gate_callee (f := 45) rfl ?_); refine goesL_ (some 116) rfl rfl Tryd.func45 (by kernel_rfl) rfl #[.slice Ao73 x7_4.length co73, .bool false] rfl (by (try simp only [List.map_toArray, List.map_cons, List.map_nil]); first | done | rfl | (simp only [List.length_drop, List.length_take]; rfl)) ?_; (with_reducible refine (duffelref30_join.calls k4 _ _ x7_4 false t209 _ ?side1 ?side2 A69.out).mono ?_); (case side1 => repeat (first | exact (Kd.N_reads' HO_7.out).2.2 | (with_reducible refine Kd.C_alloc ?_ _) | (with_reducible refine Kd.C_drewN ?_ _) | (with_reducible refine Kd.C_drew ?_))); (case side2 => exact (Kd.N_reads' HO_7.out).2.1); rintro e w74 ⟨v210, rfl, ho0, hb⟩; refine ⟨_, rfl, ?_⟩; have n0_ := Aside0.mk (Kd.Q_elder' (by (with_reducible repeat (first | apply Kd.Q_alloc | apply Kd.Q_drewN | apply Kd.Q_drew)); exact HO_4.out) (Kd.R_base ho0) hb); have n1_ := Aside0.mk (Kd.N_elder' (by (with_reducible repeat (first | apply Kd.N_alloc | apply Kd.N_drewN | apply Kd.N_drew)); exact HO_6.out) (Kd.R_base ho0) hb); have n2_ := Aside0.mk (Kd.N_elder' (by (with_reducible repeat (first | apply Kd.N_alloc | apply Kd.N_drewN | apply Kd.N_drew)); exact HO_7.out) (Kd.R_base ho0) hb); have n3_ := Aside0.mk (Kd.R_lower (Kd.R_new' ho0 (Kd.Q_lt (by (with_reducible repeat (first | apply Kd.Q_alloc | apply Kd.Q_drewN | apply Kd.Q_drew)); exact HO_4.out))) (below_size (by repeat (first | (with_reducible first | exact HB.out | apply below_alloc | apply pw_below_drewN | apply below_drew1) | exact HB.out)))); have n4_ := Aside0.mk (below_step (by repeat (first | (with_reducible first | exact HB.out | apply below_alloc | apply pw_below_drewN | apply below_drew1) | exact HB.out)) hb); clear HO_4; clear HO_6; clear HO_7; clear HB; have HO_4 := n0_; have HO_6 := n1_; have HO_7 := n2_; have HO211 := n3_; have HB := n4_; clear n0_ n1_ n2_ n3_ n4_; (try clear hb); (try clear hb2); (try clear hk); (try clear hi); (try clear ho0); obtain ⟨Ao75, co75, eo75⟩ := Kd.R_slice HO211.out; subst eo75) | ((with_reducible refine gate_callee (f := 18) rfl ?_); refine goesL_ (some 118) rfl rfl Tryd.func18 (by kernel_rfl) rfl #[.slice Ao75 t209.length co75] rfl (by (try simp only [List.map_toArray, List.map_cons, List.map_nil]); first | done | rfl | (simp only [List.length_drop, List.length_take]; rfl)) ?_; (with_reducible refine (duffelref30_Is.calls k4 _ _ t209 true _ ?side1 ?side2 A70.out).mono ?_); (case side1 => repeat (first | exact (Kd.R_reads' HO211.out).2.2 | (with_reducible refine Kd.C_alloc ?_ _) | (with_reducible refine Kd.C_drewN ?_ _) | (with_reducible refine Kd.C_drew ?_))); (case side2 => exact (Kd.R_reads' HO211.out).2.1); rintro e w76 ⟨rfl, hb⟩; refine ⟨_, rfl, ?_⟩; have n0_ := Aside0.mk (Kd.Q_below (by (with_reducible repeat (first | apply Kd.Q_alloc | apply Kd.Q_drewN | apply Kd.Q_drew)); exact HO_4.out) hb); have n1_ := Aside0.mk (Kd.N_below (by (with_reducible repeat (first | apply Kd.N_alloc | apply Kd.N_drewN | apply Kd.N_drew)); exact HO_6.out) hb); have n2_ := Aside0.mk (Kd.N_below (by (with_reducible repeat (first | apply Kd.N_alloc | apply Kd.N_drewN | apply Kd.N_drew)); exact HO_7.out) hb); have n3_ := Aside0.mk (Kd.R_below (by (with_reducible repeat (first | apply Kd.R_alloc | apply Kd.R_drewN | apply Kd.R_drew)); exact HO211.out) hb); have n4_ := Aside0.mk (below_step (by repeat (first | (with_reducible first | exact HB.out | apply below_alloc | apply pw_below_drewN | apply below_drew1) | exact HB.out)) hb); clear HO_4; clear HO_6; clear HO_7; clear HO211; clear HB; have HO_4 := n0_; have HO_6 := n1_; have HO_7 := n2_; have HO211 := n3_; have HB := n4_; clear n0_ n1_ n2_ n3_ n4_; (try clear hb); (try clear hb2); (try clear hk); (try clear hi)))
                          go_ret2
                          exact ⟨_, by first | rfl | (simp [errW_none, errW_some] <;> rfl) | (simp [*, errW_none, errW_some] <;> rfl), by (with_reducible repeat (first | apply Kd.R_alloc | apply Kd.R_drewN | apply Kd.R_drew)); exact Kd.R_mono HO211.out (fun _ hk => trivial), by repeat (first | (with_reducible first | exact HB.out | apply below_alloc | apply pw_below_drewN | apply below_drew1) | exact HB.out)⟩
                        · replace c71 := Bool.eq_false_iff.mpr c71
                          subst c71
                          have H1 : (some (([] : List Int), 16)) = some (r1, r2) := by rw [if_neg (show ¬ (false = true) by decide)] at H; exact H
                          clear H
                          have H := H1
                          clear H1
                          simp only [Option.some.injEq, Prod.mk.injEq] at H
                          obtain ⟨rfl, rfl⟩ := H
                          obtain ⟨Ao77, co77, eo77⟩ := Kd.N_slice HO_6.out
                          subst eo77
                          obtain ⟨Ao78, co78, eo78⟩ := Kd.N_slice HO_7.out
                          subst eo78
                          go_wp2_with (first | ((with_reducible refine gate_callee (f := 45) rfl ?_); refine goesL_ (some 116) rfl rfl Tryd.func45 (by kernel_rfl) rfl #[.slice Ao78 x7_4.length co78, .bool false] rfl (by (try simp only [List.map_toArray, List.map_cons, List.map_nil]); first | done | rfl | (simp only [List.length_drop, List.length_take]; rfl)) ?_; (with_reducible refine (duffelref30_join.calls k4 _ _ x7_4 false t209 _ ?side1 ?side2 A69.out).mono ?_); (case side1 => repeat (first | exact (Kd.N_reads' HO_7.out).2.2 | (with_reducible refine Kd.C_alloc ?_ _) | (with_reducible refine Kd.C_drewN ?_ _) | (with_reducible refine Kd.C_drew ?_))); (case side2 => exact (Kd.N_reads' HO_7.out).2.1); rintro e w79 ⟨v210, rfl, ho0, hb⟩; refine ⟨_, rfl, ?_⟩; have n0_ := Aside0.mk (Kd.Q_elder' (by (with_reducible repeat (first | apply Kd.Q_alloc | apply Kd.Q_drewN | apply Kd.Q_drew)); exact HO_4.out) (Kd.R_base ho0) hb); have n1_ := Aside0.mk (Kd.N_elder' (by (with_reducible repeat (first | apply Kd.N_alloc | apply Kd.N_drewN | apply Kd.N_drew)); exact HO_6.out) (Kd.R_base ho0) hb); have n2_ := Aside0.mk (Kd.N_elder' (by (with_reducible repeat (first | apply Kd.N_alloc | apply Kd.N_drewN | apply Kd.N_drew)); exact HO_7.out) (Kd.R_base ho0) hb); have n3_ := Aside0.mk (Kd.R_lower (Kd.R_new' ho0 (Kd.Q_lt (by (with_reducible repeat (first | apply Kd.Q_alloc | apply Kd.Q_drewN | apply Kd.Q_drew)); exact HO_4.out))) (below_size (by repeat (first | (with_reducible first | exact HB.out | apply below_alloc | apply pw_below_drewN | apply below_drew1) | exact HB.out)))); have n4_ := Aside0.mk (below_step (by repeat (first | (with_reducible first | exact HB.out | apply below_alloc | apply pw_below_drewN | apply below_drew1) | exact HB.out)) hb); clear HO_4; clear HO_6; clear HO_7; clear HB; have HO_4 := n0_; have HO_6 := n1_; have HO_7 := n2_; have HO211 := n3_; have HB := n4_; clear n0_ n1_ n2_ n3_ n4_; (try clear hb); (try clear hb2); (try clear hk); (try clear hi); (try clear ho0); obtain ⟨Ao80, co80, eo80⟩ := Kd.R_slice HO211.out; subst eo80) | ((with_reducible refine gate_callee (f := 18) rfl ?_); refine goesL_ (some 118) rfl rfl Tryd.func18 (by kernel_rfl) rfl #[.slice Ao80 t209.length co80] rfl (by (try simp only [List.map_toArray, List.map_cons, List.map_nil]); first | done | rfl | (simp only [List.length_drop, List.length_take]; rfl)) ?_; (with_reducible refine (duffelref30_Is.calls k4 _ _ t209 false _ ?side1 ?side2 A70.out).mono ?_); (case side1 => repeat (first | exact (Kd.R_reads' HO211.out).2.2 | (with_reducible refine Kd.C_alloc ?_ _) | (with_reducible refine Kd.C_drewN ?_ _) | (with_reducible refine Kd.C_drew ?_))); (case side2 => exact (Kd.R_reads' HO211.out).2.1); rintro e w81 ⟨rfl, hb⟩; refine ⟨_, rfl, ?_⟩; have n0_ := Aside0.mk (Kd.Q_below (by (with_reducible repeat (first | apply Kd.Q_alloc | apply Kd.Q_drewN | apply Kd.Q_drew)); exact HO_4.out) hb); have n1_ := Aside0.mk (Kd.N_below (by (with_reducible repeat (first | apply Kd.N_alloc | apply Kd.N_drewN | apply Kd.N_drew)); exact HO_6.out) hb); have n2_ := Aside0.mk (Kd.N_below (by (with_reducible repeat (first | apply Kd.N_alloc | apply Kd.N_drewN | apply Kd.N_drew)); exact HO_7.out) hb); have n3_ := Aside0.mk (Kd.R_below (by (with_reducible repeat (first | apply Kd.R_alloc | apply Kd.R_drewN | apply Kd.R_drew)); exact HO211.out) hb); have n4_ := Aside0.mk (below_step (by repeat (first | (with_reducible first | exact HB.out | apply below_alloc | apply pw_below_drewN | apply below_drew1) | exact HB.out)) hb); clear HO_4; clear HO_6; clear HO_7; clear HO211; clear HB; have HO_4 := n0_; have HO_6 := n1_; have HO_7 := n2_; have HO211 := n3_; have HB := n4_; clear n0_ n1_ n2_ n3_ n4_; (try clear hb); (try clear hb2); (try clear hk); (try clear hi)))
                          go_ret2
                          exact ⟨_, by first | rfl | (simp [errW_none, errW_some] <;> rfl) | (simp [*, errW_none, errW_some] <;> rfl), by first | exact Kd.R_nil _ _ _ _ _ | exact Kd.N_nil _ _ _ _ _ | exact Kd.V_nil _ _ _ _ _ | exact Kd.Q_nil _ _ _ _ _ | exact Kd.S_nil _ _ _ _ _, by repeat (first | (with_reducible first | exact HB.out | apply below_alloc | apply pw_below_drewN | apply below_drew1) | exact HB.out)⟩

end Go.Proofs.YtbjffjbohpoedaaDoor.FR
