-- written by a program of mine (a changed copy of the printer): not the kit's print
import Derived.Test.YtbbmcfbfkpnelaaQAx0
import Derived.Test.YtbbmcfbfkpnelaaQAx1
import Derived.Test.YtbbmcfbfkpnelaaQAx2
import Derived.Test.YtbbmcfbfkpnelaaQAx3
namespace Go.Proofs.Ytbbmcfbfkpnelaa.QA
open Go.Proofs.Ytbbmcfbfkpnelaa.MyCut
open Go.RowKit Go.Proofs.YtbbmcfbfkpnelaaW.PrintWords Go.Proofs.YtbbmcfbfkpnelaaW.PrintLast Go.Proofs.YtbbmcfbfkpnelaaW.PrintMore
attribute [local go_sem] max2_int min2_int max_two min_two max_three min_three max_four min_four   -- for this text's walks alone
set_option linter.unusedVariables false
set_option linter.unusedSimpArgs false

attribute [local go_sem high] eqA38
/-! ### duffelref40_Twins: function 20 -/
mutual
def duffelref40_Twins.l0 : Nat → List Int → Int → Int → Option (Int)
  | 0, _, _, _ => none
  | k + 1, x0, x3, x4 => if x4 < (x0.length : Int) then (duffelref40_Twins.l1 k x0 x3 x4 false 2) else (some x3)
def duffelref40_Twins.l1 : Nat → List Int → Int → Int → Bool → Int → Option (Int)
  | 0, _, _, _, _, _ => none
  | k + 1, x0, x3, x4, x5, x6 => if x6 < x4 then (if x5 = true then (duffelref40_Twins.l0 k x0 (wrap64 (x3 + 1)) (wrap64 (x4 + 1))) else (if 0 ≤ x6 then (if x6 < (x0.length : Int) then (if 0 ≤ x4 then (if x4 < (x0.length : Int) then (if (rd x0 x6) = (rd x0 x4) then (if 0 ≤ (wrap64 (x6 - 1)) then (if (wrap64 (x6 - 1)) < (x0.length : Int) then (if 0 ≤ (wrap64 (x4 - 1)) then (if (wrap64 (x4 - 1)) < (x0.length : Int) then (if (rd x0 (wrap64 (x6 - 1))) = (rd x0 (wrap64 (x4 - 1))) then (if 0 ≤ (wrap64 (x6 - 2)) then (if (wrap64 (x6 - 2)) < (x0.length : Int) then (if 0 ≤ (wrap64 (x4 - 2)) then (if (wrap64 (x4 - 2)) < (x0.length : Int) then (duffelref40_Twins.l1 k x0 x3 x4 ((rd x0 (wrap64 (x6 - 2))) == (rd x0 (wrap64 (x4 - 2)))) (wrap64 (x6 + 1))) else (none)) else (none)) else (none)) else (none)) else (duffelref40_Twins.l1 k x0 x3 x4 false (wrap64 (x6 + 1)))) else (none)) else (none)) else (none)) else (none)) else (duffelref40_Twins.l1 k x0 x3 x4 false (wrap64 (x6 + 1)))) else (none)) else (none)) else (none)) else (none))) else (if x5 = true then (duffelref40_Twins.l0 k x0 (wrap64 (x3 + 1)) (wrap64 (x4 + 1))) else (duffelref40_Twins.l0 k x0 x3 (wrap64 (x4 + 1))))
end
def duffelref40_Twins.f (k : Nat) (l0 : List Int) : Option (Int) := duffelref40_Twins.l0 k l0 0 2
theorem duffelref40_Twins.mono_l : ∀ k, (∀ y0 y1 y2, LeO (duffelref40_Twins.l0 k y0 y1 y2) (duffelref40_Twins.l0 (k + 1) y0 y1 y2)) ∧ (∀ y0 y1 y2 y3 y4, LeO (duffelref40_Twins.l1 k y0 y1 y2 y3 y4) (duffelref40_Twins.l1 (k + 1) y0 y1 y2 y3 y4))
  | 0 => ⟨fun _ _ _ r h => by simp [duffelref40_Twins.l0] at h, fun _ _ _ _ _ r h => by simp [duffelref40_Twins.l1] at h⟩
  | k + 1 => by
    obtain ⟨ih0, ih1⟩ := duffelref40_Twins.mono_l k
    refine ⟨?_, ?_⟩
    · intro y0 y1 y2
      unfold duffelref40_Twins.l0
      repeat' first
      | (with_reducible exact ih0 _ _ _)
      | (with_reducible exact ih1 _ _ _ _ _)
      | (with_reducible exact LeO.refl _)
      | (with_reducible exact LeO.none _)
      | (with_reducible refine LeO.ite ?_ ?_)
      | (with_reducible refine LeO.bind ?_ (fun _ => ?_))
      | exact ih0 _ _ _
      | exact ih1 _ _ _ _ _
      | exact LeO.none _
      | refine LeO.ite ?_ ?_
      | refine LeO.bind ?_ (fun _ => ?_)
    · intro y0 y1 y2 y3 y4
      unfold duffelref40_Twins.l1
      repeat' first
      | (with_reducible exact ih0 _ _ _)
      | (with_reducible exact ih1 _ _ _ _ _)
      | (with_reducible exact LeO.refl _)
      | (with_reducible exact LeO.none _)
      | (with_reducible refine LeO.ite ?_ ?_)
      | (with_reducible refine LeO.bind ?_ (fun _ => ?_))
      | exact ih0 _ _ _
      | exact ih1 _ _ _ _ _
      | exact LeO.none _
      | refine LeO.ite ?_ ?_
      | refine LeO.bind ?_ (fun _ => ?_)
theorem duffelref40_Twins.mono : ∀ a0 k, LeO (duffelref40_Twins.f k a0) (duffelref40_Twins.f (k + 1) a0) := by
  intro a0 k
  obtain ⟨ih0, ih1⟩ := duffelref40_Twins.mono_l k
  unfold duffelref40_Twins.f
  repeat' first
      | (with_reducible exact ih0 _ _ _)
      | (with_reducible exact ih1 _ _ _ _ _)
      | (with_reducible exact LeO.refl _)
      | (with_reducible exact LeO.none _)
      | (with_reducible refine LeO.ite ?_ ?_)
      | (with_reducible refine LeO.bind ?_ (fun _ => ?_))
      | exact ih0 _ _ _
      | exact ih1 _ _ _ _ _
      | exact LeO.none _
      | refine LeO.ite ?_ ?_
      | refine LeO.bind ?_ (fun _ => ?_)
set_option maxHeartbeats 8000000 in
set_option maxRecDepth 100000 in
theorem duffelref40_Twins.calls (k : Nat) (A0 : Option Addr) (c0 : Nat) (l0 : List Int) (r : Int) (w : World) (hr0 : Kd.C (Kd.int .u8) w A0 l0.length l0) (hc0 : l0.length ≤ c0) (h : duffelref40_Twins.f k l0 = some r) :
    Calls Try.prog 20 #[.slice A0 l0.length c0] w fun e w' => e = .returned (.int .i64 r) ∧ Drawn0 w w' := by
  have HR0 := Aside0.mk hr0
  have HC0 := Aside0.mk hc0
  clear hr0 hc0
  have H : (duffelref40_Twins.l0 k l0 0 2) = some r := h
  clear h
  have H' := Aside0.mk H
  clear H
  go_enter Try.func20, Try.ntmps20
  go_wp2
  repeat (go_quiet (fail); try go_wp2)
  go_loopg [3, 4] k (fun kq v3 v4 w' => ∃ (x3_1 : Int) (x4_1 : Int), v3 = .int .i64 x3_1 ∧ v4 = .int .i64 x4_1 ∧ Aside0 (duffelref40_Twins.l0 kq l0 x3_1 x4_1 = some r) ∧ Aside0 (kq ≤ k) ∧ Drawn0 w w')
  case atStart => exact ⟨(0), (2), (by first | rfl | (simp; done) | (simp [*]; done)), (by first | rfl | (simp; done) | (simp [*]; done)), H', ⟨Nat.le_refl _⟩, by repeat (first | exact Drawn0.refl _ | apply Drawn0.step)⟩
  case round =>
    clear H'
    obtain ⟨x3_1, x4_1, rfl, rfl, HA, HK1, ⟨m1, rfl⟩⟩ := hrel
    cases gk with
    | zero => exact absurd HA.out (by simp [duffelref40_Twins.l0])
    | succ k1 =>
      have H := HA.out
      clear HA
      simp only [duffelref40_Twins.l0] at H
      by_cases c2 : x4_1 < (l0.length : Int)
      · rw [if_pos c2] at H
        have c2b0 : decide (x4_1 < (l0.length : Int)) = true := decide_eq_true c2
        clear c2
        have H' := Aside0.mk H
        clear H
        go_wp2
        repeat (go_quiet (fail); try go_wp2)
        go_loopg [5, 6] k1 (fun kq v5 v6 w' => ∃ (x5_2 : Bool) (x6_2 : Int), v5 = .bool x5_2 ∧ v6 = .int .i64 x6_2 ∧ Aside0 (duffelref40_Twins.l1 kq l0 x3_1 x4_1 x5_2 x6_2 = some r) ∧ Aside0 (kq ≤ k1) ∧ Drawn0 w w')
        case atStart => exact ⟨(false), (2), (by first | rfl | (simp; done) | (simp [*]; done)), (by first | rfl | (simp; done) | (simp [*]; done)), H', ⟨Nat.le_refl _⟩, by repeat (first | exact Drawn0.refl _ | apply Drawn0.step)⟩
        case round =>
          clear H'
          try clear c2
          try clear c2b0
          try clear p2
          obtain ⟨x5_2, x6_2, rfl, rfl, HA, HK2, ⟨m2, rfl⟩⟩ := hrel
          cases gk with
          | zero => exact absurd HA.out (by simp [duffelref40_Twins.l1])
          | succ k2 =>
            have H := HA.out
            clear HA
            simp only [duffelref40_Twins.l1] at H
            by_cases c3 : x6_2 < x4_1
            · rw [if_pos c3] at H
              have c3b0 : decide (x6_2 < x4_1) = true := decide_eq_true c3
              clear c3
              by_cases c4 : x5_2 = true
              · subst c4
                have H1 : (duffelref40_Twins.l0 k2 l0 (wrap64 (x3_1 + 1)) (wrap64 (x4_1 + 1))) = some r := by rw [if_pos rfl] at H; exact H
                clear H
                have H := H1
                clear H1
                have H' := Aside0.mk H
                clear H
                go_wp2
                repeat (go_quiet (fail); try go_wp2)
                go_roundg k2
                case measure => have := HK1.out; have := HK2.out; omega
                case rel => exact ⟨(wrap64 (x3_1 + 1)), (wrap64 (x4_1 + 1)), (by first | rfl | (simp; done) | (simp [*]; done)), (by first | rfl | (simp; done) | (simp [*]; done)), H', ⟨by have := HK1.out; have := HK2.out; omega⟩, by repeat (first | exact Drawn0.refl _ | apply Drawn0.step)⟩
              · replace c4 := Bool.eq_false_iff.mpr c4
                subst c4
                have H1 : (if 0 ≤ x6_2 then (if x6_2 < (l0.length : Int) then (if 0 ≤ x4_1 then (if x4_1 < (l0.length : Int) then (if (rd l0 x6_2) = (rd l0 x4_1) then (if 0 ≤ (wrap64 (x6_2 - 1)) then (if (wrap64 (x6_2 - 1)) < (l0.length : Int) then (if 0 ≤ (wrap64 (x4_1 - 1)) then (if (wrap64 (x4_1 - 1)) < (l0.length : Int) then (if (rd l0 (wrap64 (x6_2 - 1))) = (rd l0 (wrap64 (x4_1 - 1))) then (if 0 ≤ (wrap64 (x6_2 - 2)) then (if (wrap64 (x6_2 - 2)) < (l0.length : Int) then (if 0 ≤ (wrap64 (x4_1 - 2)) then (if (wrap64 (x4_1 - 2)) < (l0.length : Int) then (duffelref40_Twins.l1 k2 l0 x3_1 x4_1 ((rd l0 (wrap64 (x6_2 - 2))) == (rd l0 (wrap64 (x4_1 - 2)))) (wrap64 (x6_2 + 1))) else (none)) else (none)) else (none)) else (none)) else (duffelref40_Twins.l1 k2 l0 x3_1 x4_1 false (wrap64 (x6_2 + 1)))) else (none)) else (none)) else (none)) else (none)) else (duffelref40_Twins.l1 k2 l0 x3_1 x4_1 false (wrap64 (x6_2 + 1)))) else (none)) else (none)) else (none)) else (none)) = some r := by rw [if_neg (show ¬ (false = true) by decide)] at H; exact H
                clear H
                have H := H1
                clear H1
                by_cases c5 : 0 ≤ x6_2
                · rw [if_pos c5] at H
                  have c5b0 : decide (0 ≤ x6_2) = true := decide_eq_true c5
                  clear c5
                  by_cases c6 : x6_2 < (l0.length : Int)
                  · rw [if_pos c6] at H
                    have c6b0 : decide (x6_2 < (l0.length : Int)) = true := decide_eq_true c6
                    clear c6
                    by_cases c7 : 0 ≤ x4_1
                    · rw [if_pos c7] at H
                      have c7b0 : decide (0 ≤ x4_1) = true := decide_eq_true c7
                      clear c7
                      by_cases c8 : x4_1 < (l0.length : Int)
                      · rw [if_pos c8] at H
                        have c8b0 : decide (x4_1 < (l0.length : Int)) = true := decide_eq_true c8
                        clear c8
                        by_cases c9 : (rd l0 x6_2) = (rd l0 x4_1)
                        · rw [if_pos c9] at H
                          have c9b0 : ((rd l0 x6_2) == (rd l0 x4_1)) = true := beq_iff_eq.mpr c9
                          have c9b1 : ((rd l0 x6_2) != (rd l0 x4_1)) = false := bne_eq_false_iff_eq.mpr c9
                          clear c9
                          obtain ⟨ji10, hji10⟩ : ∃ j_ : Int, (wrap64 (x6_2 - 1)) = j_ := ⟨_, rfl⟩
                          replace H : (if 0 ≤ (ji10) then (if (ji10) < (l0.length : Int) then (if 0 ≤ (wrap64 (x4_1 - 1)) then (if (wrap64 (x4_1 - 1)) < (l0.length : Int) then (if (rd l0 (ji10)) = (rd l0 (wrap64 (x4_1 - 1))) then (if 0 ≤ (wrap64 (x6_2 - 2)) then (if (wrap64 (x6_2 - 2)) < (l0.length : Int) then (if 0 ≤ (wrap64 (x4_1 - 2)) then (if (wrap64 (x4_1 - 2)) < (l0.length : Int) then (duffelref40_Twins.l1 k2 l0 x3_1 x4_1 ((rd l0 (wrap64 (x6_2 - 2))) == (rd l0 (wrap64 (x4_1 - 2)))) (wrap64 (x6_2 + 1))) else (none)) else (none)) else (none)) else (none)) else (duffelref40_Twins.l1 k2 l0 x3_1 x4_1 false (wrap64 (x6_2 + 1)))) else (none)) else (none)) else (none)) else (none)) = some r := by first | (rw [hji10] at H; exact H) | (simp only [hji10] at H ⊢; exact H)
                          have hji10w : (IntKind.i64.wrap (x6_2 - 1)) = ji10 := (i64_w _).trans hji10
                          by_cases c11 : 0 ≤ (ji10)
                          · rw [if_pos c11] at H
                            have c11b0 : decide (0 ≤ (ji10)) = true := decide_eq_true c11
                            clear c11
                            by_cases c12 : (ji10) < (l0.length : Int)
                            · rw [if_pos c12] at H
                              have c12b0 : decide ((ji10) < (l0.length : Int)) = true := decide_eq_true c12
                              clear c12
                              obtain ⟨ji13, hji13⟩ : ∃ j_ : Int, (wrap64 (x4_1 - 1)) = j_ := ⟨_, rfl⟩
                              replace H : (if 0 ≤ (ji13) then (if (ji13) < (l0.length : Int) then (if (rd l0 (ji10)) = (rd l0 (ji13)) then (if 0 ≤ (wrap64 (x6_2 - 2)) then (if (wrap64 (x6_2 - 2)) < (l0.length : Int) then (if 0 ≤ (wrap64 (x4_1 - 2)) then (if (wrap64 (x4_1 - 2)) < (l0.length : Int) then (duffelref40_Twins.l1 k2 l0 x3_1 x4_1 ((rd l0 (wrap64 (x6_2 - 2))) == (rd l0 (wrap64 (x4_1 - 2)))) (wrap64 (x6_2 + 1))) else (none)) else (none)) else (none)) else (none)) else (duffelref40_Twins.l1 k2 l0 x3_1 x4_1 false (wrap64 (x6_2 + 1)))) else (none)) else (none)) = some r := by first | (rw [hji13] at H; exact H) | (simp only [hji13] at H ⊢; exact H)
                              have hji13w : (IntKind.i64.wrap (x4_1 - 1)) = ji13 := (i64_w _).trans hji13
                              by_cases c14 : 0 ≤ (ji13)
                              · rw [if_pos c14] at H
                                have c14b0 : decide (0 ≤ (ji13)) = true := decide_eq_true c14
                                clear c14
                                by_cases c15 : (ji13) < (l0.length : Int)
                                · rw [if_pos c15] at H
                                  have c15b0 : decide ((ji13) < (l0.length : Int)) = true := decide_eq_true c15
                                  clear c15
                                  by_cases c16 : (rd l0 (ji10)) = (rd l0 (ji13))
                                  · rw [if_pos c16] at H
                                    have c16b0 : ((rd l0 (ji10)) == (rd l0 (ji13))) = true := beq_iff_eq.mpr c16
                                    have c16b1 : ((rd l0 (ji10)) != (rd l0 (ji13))) = false := bne_eq_false_iff_eq.mpr c16
                                    clear c16
                                    obtain ⟨ji17, hji17⟩ : ∃ j_ : Int, (wrap64 (x6_2 - 2)) = j_ := ⟨_, rfl⟩
                                    replace H : (if 0 ≤ (ji17) then (if (ji17) < (l0.length : Int) then (if 0 ≤ (wrap64 (x4_1 - 2)) then (if (wrap64 (x4_1 - 2)) < (l0.length : Int) then (duffelref40_Twins.l1 k2 l0 x3_1 x4_1 ((rd l0 (ji17)) == (rd l0 (wrap64 (x4_1 - 2)))) (wrap64 (x6_2 + 1))) else (none)) else (none)) else (none)) else (none)) = some r := by first | (rw [hji17] at H; exact H) | (simp only [hji17] at H ⊢; exact H)
                                    have hji17w : (IntKind.i64.wrap (x6_2 - 2)) = ji17 := (i64_w _).trans hji17
                                    by_cases c18 : 0 ≤ (ji17)
                                    · rw [if_pos c18] at H
                                      have c18b0 : decide (0 ≤ (ji17)) = true := decide_eq_true c18
                                      clear c18
                                      by_cases c19 : (ji17) < (l0.length : Int)
                                      · rw [if_pos c19] at H
                                        have c19b0 : decide ((ji17) < (l0.length : Int)) = true := decide_eq_true c19
                                        clear c19
                                        obtain ⟨ji20, hji20⟩ : ∃ j_ : Int, (wrap64 (x4_1 - 2)) = j_ := ⟨_, rfl⟩
                                        replace H : (if 0 ≤ (ji20) then (if (ji20) < (l0.length : Int) then (duffelref40_Twins.l1 k2 l0 x3_1 x4_1 ((rd l0 (ji17)) == (rd l0 (ji20))) (wrap64 (x6_2 + 1))) else (none)) else (none)) = some r := by first | (rw [hji20] at H; exact H) | (simp only [hji20] at H ⊢; exact H)
                                        have hji20w : (IntKind.i64.wrap (x4_1 - 2)) = ji20 := (i64_w _).trans hji20
                                        by_cases c21 : 0 ≤ (ji20)
                                        · rw [if_pos c21] at H
                                          have c21b0 : decide (0 ≤ (ji20)) = true := decide_eq_true c21
                                          clear c21
                                          by_cases c22 : (ji20) < (l0.length : Int)
                                          · rw [if_pos c22] at H
                                            have c22b0 : decide ((ji20) < (l0.length : Int)) = true := decide_eq_true c22
                                            clear c22
                                            have H' := Aside0.mk H
                                            clear H
                                            have p129 : 0 ≤ (x6_2 : Int) := of_decide_eq_true (by first | (with_reducible assumption) | assumption)
                                            have q129 : x6_2 < (l0.length : Int) := of_decide_eq_true (by first | (with_reducible assumption) | assumption)
                                            obtain ⟨ad129, e129, hx129_0⟩ := Kd.at_int HR0.out x6_2 p129 q129
                                            cases e129
                                            replace p129 := eq_true p129
                                            replace q129 := eq_true q129
                                            have p130 : 0 ≤ (x4_1 : Int) := of_decide_eq_true (by first | (with_reducible assumption) | assumption)
                                            have q130 : x4_1 < (l0.length : Int) := of_decide_eq_true (by first | (with_reducible assumption) | assumption)
                                            obtain ⟨ad130, e130, hx130_0⟩ := Kd.at_int HR0.out x4_1 p130 q130
                                            obtain rfl : ad129 = ad130 := (by injection e130)
                                            replace p130 := eq_true p130
                                            replace q130 := eq_true q130
                                            have p131 : 0 ≤ ((ji10) : Int) := of_decide_eq_true (by first | (with_reducible assumption) | assumption)
                                            have q131 : (ji10) < (l0.length : Int) := of_decide_eq_true (by first | (with_reducible assumption) | assumption)
                                            obtain ⟨ad131, e131, hx131_0⟩ := Kd.at_int HR0.out (ji10) p131 q131
                                            obtain rfl : ad129 = ad131 := (by injection e131)
                                            replace p131 := eq_true p131
                                            replace q131 := eq_true q131
                                            have p132 : 0 ≤ ((ji13) : Int) := of_decide_eq_true (by first | (with_reducible assumption) | assumption)
                                            have q132 : (ji13) < (l0.length : Int) := of_decide_eq_true (by first | (with_reducible assumption) | assumption)
                                            obtain ⟨ad132, e132, hx132_0⟩ := Kd.at_int HR0.out (ji13) p132 q132
                                            obtain rfl : ad129 = ad132 := (by injection e132)
                                            replace p132 := eq_true p132
                                            replace q132 := eq_true q132
                                            have p133 : 0 ≤ ((ji17) : Int) := of_decide_eq_true (by first | (with_reducible assumption) | assumption)
                                            have q133 : (ji17) < (l0.length : Int) := of_decide_eq_true (by first | (with_reducible assumption) | assumption)
                                            obtain ⟨ad133, e133, hx133_0⟩ := Kd.at_int HR0.out (ji17) p133 q133
                                            obtain rfl : ad129 = ad133 := (by injection e133)
                                            replace p133 := eq_true p133
                                            replace q133 := eq_true q133
                                            have p134 : 0 ≤ ((ji20) : Int) := of_decide_eq_true (by first | (with_reducible assumption) | assumption)
                                            have q134 : (ji20) < (l0.length : Int) := of_decide_eq_true (by first | (with_reducible assumption) | assumption)
                                            obtain ⟨ad134, e134, hx134_0⟩ := Kd.at_int HR0.out (ji20) p134 q134
                                            obtain rfl : ad129 = ad134 := (by injection e134)
                                            replace p134 := eq_true p134
                                            replace q134 := eq_true q134
                                            go_wp2
                                            repeat (go_quiet (fail); try go_wp2)
                                            go_roundg k2
                                            case measure => have := HK1.out; have := HK2.out; omega
                                            case rel => exact ⟨(((rd l0 (ji17)) == (rd l0 (ji20)))), (wrap64 (x6_2 + 1)), (by first | rfl | (simp; done) | (simp only [← hji17, ← hji20] <;> (first | rfl | simp)) | (simp [*]; done)), (by first | rfl | (simp; done) | (simp [*]; done)), H', ⟨by have := HK1.out; have := HK2.out; omega⟩, by repeat (first | exact Drawn0.refl _ | apply Drawn0.step)⟩
                                          · rw [if_neg c22] at H
                                            exact absurd H (by simp)
                                        · rw [if_neg c21] at H
                                          exact absurd H (by simp)
                                      · rw [if_neg c19] at H
                                        exact absurd H (by simp)
                                    · rw [if_neg c18] at H
                                      exact absurd H (by simp)
                                  · rw [if_neg c16] at H
                                    have c16b0 : ((rd l0 (ji10)) == (rd l0 (ji13))) = false := beq_eq_false_iff_ne.mpr c16
                                    have c16b1 : ((rd l0 (ji10)) != (rd l0 (ji13))) = true := bne_iff_ne.mpr c16
                                    have H' := Aside0.mk H
                                    clear H
                                    have p129 : 0 ≤ (x6_2 : Int) := of_decide_eq_true (by first | (with_reducible assumption) | assumption)
                                    have q129 : x6_2 < (l0.length : Int) := of_decide_eq_true (by first | (with_reducible assumption) | assumption)
                                    obtain ⟨ad129, e129, hx129_0⟩ := Kd.at_int HR0.out x6_2 p129 q129
                                    cases e129
                                    replace p129 := eq_true p129
                                    replace q129 := eq_true q129
                                    have p130 : 0 ≤ (x4_1 : Int) := of_decide_eq_true (by first | (with_reducible assumption) | assumption)
                                    have q130 : x4_1 < (l0.length : Int) := of_decide_eq_true (by first | (with_reducible assumption) | assumption)
                                    obtain ⟨ad130, e130, hx130_0⟩ := Kd.at_int HR0.out x4_1 p130 q130
                                    obtain rfl : ad129 = ad130 := (by injection e130)
                                    replace p130 := eq_true p130
                                    replace q130 := eq_true q130
                                    have p131 : 0 ≤ ((ji10) : Int) := of_decide_eq_true (by first | (with_reducible assumption) | assumption)
                                    have q131 : (ji10) < (l0.length : Int) := of_decide_eq_true (by first | (with_reducible assumption) | assumption)
                                    obtain ⟨ad131, e131, hx131_0⟩ := Kd.at_int HR0.out (ji10) p131 q131
                                    obtain rfl : ad129 = ad131 := (by injection e131)
                                    replace p131 := eq_true p131
                                    replace q131 := eq_true q131
                                    have p132 : 0 ≤ ((ji13) : Int) := of_decide_eq_true (by first | (with_reducible assumption) | assumption)
                                    have q132 : (ji13) < (l0.length : Int) := of_decide_eq_true (by first | (with_reducible assumption) | assumption)
                                    obtain ⟨ad132, e132, hx132_0⟩ := Kd.at_int HR0.out (ji13) p132 q132
                                    obtain rfl : ad129 = ad132 := (by injection e132)
                                    replace p132 := eq_true p132
                                    replace q132 := eq_true q132
                                    go_wp2
                                    repeat (go_quiet (fail); try go_wp2)
                                    go_roundg k2
                                    case measure => have := HK1.out; have := HK2.out; omega
                                    case rel => exact ⟨(false), (wrap64 (x6_2 + 1)), (by first | rfl | (simp; done) | (simp [*]; done)), (by first | rfl | (simp; done) | (simp [*]; done)), H', ⟨by have := HK1.out; have := HK2.out; omega⟩, by repeat (first | exact Drawn0.refl _ | apply Drawn0.step)⟩
                                · rw [if_neg c15] at H
                                  exact absurd H (by simp)
                              · rw [if_neg c14] at H
                                exact absurd H (by simp)
                            · rw [if_neg c12] at H
                              exact absurd H (by simp)
                          · rw [if_neg c11] at H
                            exact absurd H (by simp)
                        · rw [if_neg c9] at H
                          have c9b0 : ((rd l0 x6_2) == (rd l0 x4_1)) = false := beq_eq_false_iff_ne.mpr c9
                          have c9b1 : ((rd l0 x6_2) != (rd l0 x4_1)) = true := bne_iff_ne.mpr c9
                          have H' := Aside0.mk H
                          clear H
                          have p129 : 0 ≤ (x6_2 : Int) := of_decide_eq_true (by first | (with_reducible assumption) | assumption)
                          have q129 : x6_2 < (l0.length : Int) := of_decide_eq_true (by first | (with_reducible assumption) | assumption)
                          obtain ⟨ad129, e129, hx129_0⟩ := Kd.at_int HR0.out x6_2 p129 q129
                          cases e129
                          replace p129 := eq_true p129
                          replace q129 := eq_true q129
                          have p130 : 0 ≤ (x4_1 : Int) := of_decide_eq_true (by first | (with_reducible assumption) | assumption)
                          have q130 : x4_1 < (l0.length : Int) := of_decide_eq_true (by first | (with_reducible assumption) | assumption)
                          obtain ⟨ad130, e130, hx130_0⟩ := Kd.at_int HR0.out x4_1 p130 q130
                          obtain rfl : ad129 = ad130 := (by injection e130)
                          replace p130 := eq_true p130
                          replace q130 := eq_true q130
                          go_wp2
                          repeat (go_quiet (fail); try go_wp2)
                          go_roundg k2
                          case measure => have := HK1.out; have := HK2.out; omega
                          case rel => exact ⟨(false), (wrap64 (x6_2 + 1)), (by first | rfl | (simp; done) | (simp [*]; done)), (by first | rfl | (simp; done) | (simp [*]; done)), H', ⟨by have := HK1.out; have := HK2.out; omega⟩, by repeat (first | exact Drawn0.refl _ | apply Drawn0.step)⟩
                      · rw [if_neg c8] at H
                        exact absurd H (by simp)
                    · rw [if_neg c7] at H
                      exact absurd H (by simp)
                  · rw [if_neg c6] at H
                    exact absurd H (by simp)
                · rw [if_neg c5] at H
                  exact absurd H (by simp)
            · rw [if_neg c3] at H
              have c3b0 : decide (x6_2 < x4_1) = false := decide_eq_false c3
              clear c3
              by_cases c23 : x5_2 = true
              · subst c23
                have H1 : (duffelref40_Twins.l0 k2 l0 (wrap64 (x3_1 + 1)) (wrap64 (x4_1 + 1))) = some r := by rw [if_pos rfl] at H; exact H
                clear H
                have H := H1
                clear H1
                have H' := Aside0.mk H
                clear H
                go_wp2
                repeat (go_quiet (fail); try go_wp2)
                go_roundg k2
                case measure => have := HK1.out; have := HK2.out; omega
                case rel => exact ⟨(wrap64 (x3_1 + 1)), (wrap64 (x4_1 + 1)), (by first | rfl | (simp; done) | (simp [*]; done)), (by first | rfl | (simp; done) | (simp [*]; done)), H', ⟨by have := HK1.out; have := HK2.out; omega⟩, by repeat (first | exact Drawn0.refl _ | apply Drawn0.step)⟩
              · replace c23 := Bool.eq_false_iff.mpr c23
                subst c23
                have H1 : (duffelref40_Twins.l0 k2 l0 x3_1 (wrap64 (x4_1 + 1))) = some r := by rw [if_neg (show ¬ (false = true) by decide)] at H; exact H
                clear H
                have H := H1
                clear H1
                have H' := Aside0.mk H
                clear H
                go_wp2
                repeat (go_quiet (fail); try go_wp2)
                go_roundg k2
                case measure => have := HK1.out; have := HK2.out; omega
                case rel => exact ⟨(x3_1), (wrap64 (x4_1 + 1)), (by first | rfl | (simp; done) | (simp [*]; done)), (by first | rfl | (simp; done) | (simp [*]; done)), H', ⟨by have := HK1.out; have := HK2.out; omega⟩, by repeat (first | exact Drawn0.refl _ | apply Drawn0.step)⟩
      · rw [if_neg c2] at H
        have c2b0 : decide (x4_1 < (l0.length : Int)) = false := decide_eq_false c2
        clear c2
        obtain rfl := Option.some.inj H
        go_wp2
        repeat (go_quiet (fail); try go_wp2)
        go_ret
        exact ⟨by first | rfl | (simp; done) | (simp [*]; done), by repeat (first | exact Drawn0.refl _ | apply Drawn0.step)⟩

/-! ### duffelref40_Advise: function 23 -/
theorem duffelref40_Advise.twice (W : World) (n : Nat) (p : Addr) (u v : Value) (h : (W.cell? p).isSome = true) : (((W.setCell p u).drewN n).setCell p v).cell? p = some v :=
  World.cell?_setCell_same' _ _ _ (by show ((W.setCell p u).cell? p).isSome = true; rw [World.cell?_setCell_same' _ _ _ h]; rfl)
def duffelref40_Advise.rest (k : Nat) (l0 : List Int) : Option (Int × Int × Bool × Bool) := (duffelref40_Runs.f k l0).bind fun r => (duffelref40_Twins.f k l0).bind fun t =>
  some (8, (if wrap64 (4 * t) < (l0.length : Int) then 9 else if wrap64 (4 * r) ≥ (l0.length : Int) then 1 else 6), false, false)
def duffelref40_Advise.f (k : Nat) (l0 : List Int) : Option (Int × Int × Bool × Bool) := if (l0.length : Int) < 16 then some (0, 0, false, false) else
  (duffelref40_Bits.f k l0).bind fun b => if wrap64 (2000 * (l0.length : Int)) < b then ((duffelref40_Twins.f k l0).bind fun t => if wrap64 (8 * t) < (l0.length : Int) then some (0, 0, false, false) else duffelref40_Advise.rest k l0) else duffelref40_Advise.rest k l0
theorem duffelref40_Advise.mono : ∀ a0 k, LeO (duffelref40_Advise.f k a0) (duffelref40_Advise.f (k + 1) a0) := by
  intro a0 k
  have hr : LeO (duffelref40_Advise.rest k a0) (duffelref40_Advise.rest (k + 1) a0) := LeO.bind (duffelref40_Runs.mono _ _) fun _ => LeO.bind (duffelref40_Twins.mono _ _) fun _ => LeO.refl _
  unfold duffelref40_Advise.f
  exact LeO.ite (LeO.refl _) (LeO.bind (duffelref40_Bits.mono _ _) fun _ => LeO.ite (LeO.bind (duffelref40_Twins.mono _ _) fun _ => LeO.ite (LeO.refl _) hr) hr)
set_option maxHeartbeats 40000000 in
set_option maxRecDepth 100000 in
theorem duffelref40_Advise.goA (k : Nat) (A0 : Option Addr) (c0 : Nat) (l0 : List Int) (n b t r : Int) (c2 c3 c4 c5 : Bool) (w : World) (hr0 : Aside0 (Kd.C (Kd.int .u8) w A0 l0.length l0)) (hc0 : Aside0 (l0.length ≤ c0))
    (d1 : decide ((l0.length : Int) < 16) = true) (d1' : decide (l0.length < 16) = true) (d2 : decide (wrap64 (2000 * (l0.length : Int)) < b) = c2) (d3 : decide (wrap64 (8 * t) < (l0.length : Int)) = c3) (d4 : decide ((l0.length : Int) ≤ wrap64 (4 * r)) = c4) (d5 : decide (wrap64 (4 * t) < (l0.length : Int)) = c5)
    (hB : Aside0 (true = false → duffelref40_Bits.f k l0 = some b)) (hT : Aside0 (true = false → duffelref40_Twins.f k l0 = some t)) (hR : Aside0 (true = false → (c2 && c3) = false → duffelref40_Runs.f k l0 = some r)) :
    Calls Try.prog 23 #[.slice A0 l0.length c0] w fun e w' => e = .returned (.agg #[.int .i64 (if true || (c2 && c3) then 0 else 8), .int .i64 (if true || (c2 && c3) then 0 else if c5 then 9 else if c4 then 1 else 6), .bool false, .bool false]) ∧ Below w.heap.size w w' := by
  have tw := duffelref40_Advise.twice
  simp only [Bool.false_or, Bool.false_and, Bool.or_false, Bool.true_and, Bool.true_or, if_true, Bool.false_eq_true, if_false]
  go_enter Try.func23, Try.ntmps23
  go_wp2_with (first
    | (go_at_call 16; (with_reducible refine (duffelref40_Bits.calls k _ _ l0 b _ ?side1 ?side2 (hB.out (by simp))).mono ?_); (case side1 => exact Kd.C_below hr0.out (by repeat (first | exact Below.refl _ _ | (with_reducible refine below_alloc ?_ _) | (with_reducible refine pw_below_drewN ?_ _) | (refine Below.setCell ?_ (by simp) _)))); (case side2 => exact hc0.out); rintro e w' ⟨rfl, ⟨nd, rfl⟩⟩)
    | (go_at_call 20; (with_reducible refine (duffelref40_Twins.calls k _ _ l0 t _ ?side1 ?side2 (hT.out (by simp))).mono ?_); (case side1 => exact Kd.C_below hr0.out (by repeat (first | exact Below.refl _ _ | (with_reducible refine below_alloc ?_ _) | (with_reducible refine pw_below_drewN ?_ _) | (refine Below.setCell ?_ (by simp) _)))); (case side2 => exact hc0.out); rintro e w' ⟨rfl, ⟨nd, rfl⟩⟩)
    | (go_at_call 18; (with_reducible refine (duffelref40_Runs.calls k _ _ l0 r _ ?side1 ?side2 (hR.out (by simp) (by simp))).mono ?_); (case side1 => exact Kd.C_below hr0.out (by repeat (first | exact Below.refl _ _ | (with_reducible refine below_alloc ?_ _) | (with_reducible refine pw_below_drewN ?_ _) | (refine Below.setCell ?_ (by simp) _)))); (case side2 => exact hc0.out); rintro e w' ⟨rfl, ⟨nd, rfl⟩⟩))
  exact bodyPost_ret (v := .agg #[.int .i64 _, .int .i64 _, .bool false, .bool false]) (by simp [results, Try.results23, go_sem]) rfl ⟨rfl, (by repeat (first | exact Below.refl _ _ | (with_reducible refine below_alloc ?_ _) | (with_reducible refine pw_below_drewN ?_ _) | (refine Below.setCell ?_ (by simp) _)))⟩
set_option maxHeartbeats 40000000 in
set_option maxRecDepth 100000 in
theorem duffelref40_Advise.goB (k : Nat) (A0 : Option Addr) (c0 : Nat) (l0 : List Int) (n b t r : Int) (c3 c4 c5 : Bool) (w : World) (hr0 : Aside0 (Kd.C (Kd.int .u8) w A0 l0.length l0)) (hc0 : Aside0 (l0.length ≤ c0))
    (d1 : decide ((l0.length : Int) < 16) = false) (d1' : decide (l0.length < 16) = false) (d2 : decide (wrap64 (2000 * (l0.length : Int)) < b) = false) (d3 : decide (wrap64 (8 * t) < (l0.length : Int)) = c3) (d4 : decide ((l0.length : Int) ≤ wrap64 (4 * r)) = c4) (d5 : decide (wrap64 (4 * t) < (l0.length : Int)) = c5)
    (hB : Aside0 (false = false → duffelref40_Bits.f k l0 = some b)) (hT : Aside0 (false = false → duffelref40_Twins.f k l0 = some t)) (hR : Aside0 (false = false → (false && c3) = false → duffelref40_Runs.f k l0 = some r)) :
    Calls Try.prog 23 #[.slice A0 l0.length c0] w fun e w' => e = .returned (.agg #[.int .i64 (if false || (false && c3) then 0 else 8), .int .i64 (if false || (false && c3) then 0 else if c5 then 9 else if c4 then 1 else 6), .bool false, .bool false]) ∧ Below w.heap.size w w' := by
  have tw := duffelref40_Advise.twice
  cases c4 <;> cases c5
  all_goals
    simp only [Bool.false_or, Bool.false_and, Bool.or_false, Bool.true_and, Bool.true_or, if_true, Bool.false_eq_true, if_false]
    go_enter Try.func23, Try.ntmps23
    go_wp2_with (first
      | (go_at_call 16; (with_reducible refine (duffelref40_Bits.calls k _ _ l0 b _ ?side1 ?side2 (hB.out (by simp))).mono ?_); (case side1 => exact Kd.C_below hr0.out (by repeat (first | exact Below.refl _ _ | (with_reducible refine below_alloc ?_ _) | (with_reducible refine pw_below_drewN ?_ _) | (refine Below.setCell ?_ (by simp) _)))); (case side2 => exact hc0.out); rintro e w' ⟨rfl, ⟨nd, rfl⟩⟩)
      | (go_at_call 20; (with_reducible refine (duffelref40_Twins.calls k _ _ l0 t _ ?side1 ?side2 (hT.out (by simp))).mono ?_); (case side1 => exact Kd.C_below hr0.out (by repeat (first | exact Below.refl _ _ | (with_reducible refine below_alloc ?_ _) | (with_reducible refine pw_below_drewN ?_ _) | (refine Below.setCell ?_ (by simp) _)))); (case side2 => exact hc0.out); rintro e w' ⟨rfl, ⟨nd, rfl⟩⟩)
      | (go_at_call 18; (with_reducible refine (duffelref40_Runs.calls k _ _ l0 r _ ?side1 ?side2 (hR.out (by simp) (by simp))).mono ?_); (case side1 => exact Kd.C_below hr0.out (by repeat (first | exact Below.refl _ _ | (with_reducible refine below_alloc ?_ _) | (with_reducible refine pw_below_drewN ?_ _) | (refine Below.setCell ?_ (by simp) _)))); (case side2 => exact hc0.out); rintro e w' ⟨rfl, ⟨nd, rfl⟩⟩))
    exact bodyPost_ret (v := .agg #[.int .i64 _, .int .i64 _, .bool false, .bool false]) (by simp [results, Try.results23, go_sem]) rfl ⟨rfl, (by repeat (first | exact Below.refl _ _ | (with_reducible refine below_alloc ?_ _) | (with_reducible refine pw_below_drewN ?_ _) | (refine Below.setCell ?_ (by simp) _)))⟩
set_option maxHeartbeats 40000000 in
set_option maxRecDepth 100000 in
theorem duffelref40_Advise.goC (k : Nat) (A0 : Option Addr) (c0 : Nat) (l0 : List Int) (n b t r : Int) (c4 c5 : Bool) (w : World) (hr0 : Aside0 (Kd.C (Kd.int .u8) w A0 l0.length l0)) (hc0 : Aside0 (l0.length ≤ c0))
    (d1 : decide ((l0.length : Int) < 16) = false) (d1' : decide (l0.length < 16) = false) (d2 : decide (wrap64 (2000 * (l0.length : Int)) < b) = true) (d3 : decide (wrap64 (8 * t) < (l0.length : Int)) = true) (d4 : decide ((l0.length : Int) ≤ wrap64 (4 * r)) = c4) (d5 : decide (wrap64 (4 * t) < (l0.length : Int)) = c5)
    (hB : Aside0 (false = false → duffelref40_Bits.f k l0 = some b)) (hT : Aside0 (false = false → duffelref40_Twins.f k l0 = some t)) (hR : Aside0 (false = false → (true && true) = false → duffelref40_Runs.f k l0 = some r)) :
    Calls Try.prog 23 #[.slice A0 l0.length c0] w fun e w' => e = .returned (.agg #[.int .i64 (if false || (true && true) then 0 else 8), .int .i64 (if false || (true && true) then 0 else if c5 then 9 else if c4 then 1 else 6), .bool false, .bool false]) ∧ Below w.heap.size w w' := by
  have tw := duffelref40_Advise.twice
  simp only [Bool.false_or, Bool.false_and, Bool.or_false, Bool.true_and, Bool.true_or, if_true, Bool.false_eq_true, if_false]
  go_enter Try.func23, Try.ntmps23
  go_wp2_with (first
    | (go_at_call 16; (with_reducible refine (duffelref40_Bits.calls k _ _ l0 b _ ?side1 ?side2 (hB.out (by simp))).mono ?_); (case side1 => exact Kd.C_below hr0.out (by repeat (first | exact Below.refl _ _ | (with_reducible refine below_alloc ?_ _) | (with_reducible refine pw_below_drewN ?_ _) | (refine Below.setCell ?_ (by simp) _)))); (case side2 => exact hc0.out); rintro e w' ⟨rfl, ⟨nd, rfl⟩⟩)
    | (go_at_call 20; (with_reducible refine (duffelref40_Twins.calls k _ _ l0 t _ ?side1 ?side2 (hT.out (by simp))).mono ?_); (case side1 => exact Kd.C_below hr0.out (by repeat (first | exact Below.refl _ _ | (with_reducible refine below_alloc ?_ _) | (with_reducible refine pw_below_drewN ?_ _) | (refine Below.setCell ?_ (by simp) _)))); (case side2 => exact hc0.out); rintro e w' ⟨rfl, ⟨nd, rfl⟩⟩)
    | (go_at_call 18; (with_reducible refine (duffelref40_Runs.calls k _ _ l0 r _ ?side1 ?side2 (hR.out (by simp) (by simp))).mono ?_); (case side1 => exact Kd.C_below hr0.out (by repeat (first | exact Below.refl _ _ | (with_reducible refine below_alloc ?_ _) | (with_reducible refine pw_below_drewN ?_ _) | (refine Below.setCell ?_ (by simp) _)))); (case side2 => exact hc0.out); rintro e w' ⟨rfl, ⟨nd, rfl⟩⟩))
  exact bodyPost_ret (v := .agg #[.int .i64 _, .int .i64 _, .bool false, .bool false]) (by simp [results, Try.results23, go_sem]) rfl ⟨rfl, (by repeat (first | exact Below.refl _ _ | (with_reducible refine below_alloc ?_ _) | (with_reducible refine pw_below_drewN ?_ _) | (refine Below.setCell ?_ (by simp) _)))⟩
set_option maxHeartbeats 40000000 in
set_option maxRecDepth 100000 in
theorem duffelref40_Advise.goD (k : Nat) (A0 : Option Addr) (c0 : Nat) (l0 : List Int) (n b t r : Int) (c4 c5 : Bool) (w : World) (hr0 : Aside0 (Kd.C (Kd.int .u8) w A0 l0.length l0)) (hc0 : Aside0 (l0.length ≤ c0))
    (d1 : decide ((l0.length : Int) < 16) = false) (d1' : decide (l0.length < 16) = false) (d2 : decide (wrap64 (2000 * (l0.length : Int)) < b) = true) (d3 : decide (wrap64 (8 * t) < (l0.length : Int)) = false) (d4 : decide ((l0.length : Int) ≤ wrap64 (4 * r)) = c4) (d5 : decide (wrap64 (4 * t) < (l0.length : Int)) = c5)
    (hB : Aside0 (false = false → duffelref40_Bits.f k l0 = some b)) (hT : Aside0 (false = false → duffelref40_Twins.f k l0 = some t)) (hR : Aside0 (false = false → (true && false) = false → duffelref40_Runs.f k l0 = some r)) :
    Calls Try.prog 23 #[.slice A0 l0.length c0] w fun e w' => e = .returned (.agg #[.int .i64 (if false || (true && false) then 0 else 8), .int .i64 (if false || (true && false) then 0 else if c5 then 9 else if c4 then 1 else 6), .bool false, .bool false]) ∧ Below w.heap.size w w' := by
  have tw := duffelref40_Advise.twice
  cases c4 <;> cases c5
  all_goals
    simp only [Bool.false_or, Bool.false_and, Bool.or_false, Bool.true_and, Bool.true_or, if_true, Bool.false_eq_true, if_false]
    go_enter Try.func23, Try.ntmps23
    go_wp2_with (first
      | (go_at_call 16; (with_reducible refine (duffelref40_Bits.calls k _ _ l0 b _ ?side1 ?side2 (hB.out (by simp))).mono ?_); (case side1 => exact Kd.C_below hr0.out (by repeat (first | exact Below.refl _ _ | (with_reducible refine below_alloc ?_ _) | (with_reducible refine pw_below_drewN ?_ _) | (refine Below.setCell ?_ (by simp) _)))); (case side2 => exact hc0.out); rintro e w' ⟨rfl, ⟨nd, rfl⟩⟩)
      | (go_at_call 20; (with_reducible refine (duffelref40_Twins.calls k _ _ l0 t _ ?side1 ?side2 (hT.out (by simp))).mono ?_); (case side1 => exact Kd.C_below hr0.out (by repeat (first | exact Below.refl _ _ | (with_reducible refine below_alloc ?_ _) | (with_reducible refine pw_below_drewN ?_ _) | (refine Below.setCell ?_ (by simp) _)))); (case side2 => exact hc0.out); rintro e w' ⟨rfl, ⟨nd, rfl⟩⟩)
      | (go_at_call 18; (with_reducible refine (duffelref40_Runs.calls k _ _ l0 r _ ?side1 ?side2 (hR.out (by simp) (by simp))).mono ?_); (case side1 => exact Kd.C_below hr0.out (by repeat (first | exact Below.refl _ _ | (with_reducible refine below_alloc ?_ _) | (with_reducible refine pw_below_drewN ?_ _) | (refine Below.setCell ?_ (by simp) _)))); (case side2 => exact hc0.out); rintro e w' ⟨rfl, ⟨nd, rfl⟩⟩))
    exact bodyPost_ret (v := .agg #[.int .i64 _, .int .i64 _, .bool false, .bool false]) (by simp [results, Try.results23, go_sem]) rfl ⟨rfl, (by repeat (first | exact Below.refl _ _ | (with_reducible refine below_alloc ?_ _) | (with_reducible refine pw_below_drewN ?_ _) | (refine Below.setCell ?_ (by simp) _)))⟩
theorem duffelref40_Advise.go (k : Nat) (A0 : Option Addr) (c0 : Nat) (l0 : List Int) (n b t r : Int) (c1 c2 c3 c4 c5 : Bool) (w : World) (hr0 : Aside0 (Kd.C (Kd.int .u8) w A0 l0.length l0)) (hc0 : Aside0 (l0.length ≤ c0))
    (d1 : decide ((l0.length : Int) < 16) = c1) (d1' : decide (l0.length < 16) = c1) (d2 : decide (wrap64 (2000 * (l0.length : Int)) < b) = c2) (d3 : decide (wrap64 (8 * t) < (l0.length : Int)) = c3) (d4 : decide ((l0.length : Int) ≤ wrap64 (4 * r)) = c4) (d5 : decide (wrap64 (4 * t) < (l0.length : Int)) = c5)
    (hB : Aside0 (c1 = false → duffelref40_Bits.f k l0 = some b)) (hT : Aside0 (c1 = false → duffelref40_Twins.f k l0 = some t)) (hR : Aside0 (c1 = false → (c2 && c3) = false → duffelref40_Runs.f k l0 = some r)) :
    Calls Try.prog 23 #[.slice A0 l0.length c0] w fun e w' => e = .returned (.agg #[.int .i64 (if c1 || (c2 && c3) then 0 else 8), .int .i64 (if c1 || (c2 && c3) then 0 else if c5 then 9 else if c4 then 1 else 6), .bool false, .bool false]) ∧ Below w.heap.size w w' := by
  cases c1
  · cases c2
    · exact duffelref40_Advise.goB k A0 c0 l0 n b t r c3 c4 c5 w hr0 hc0 d1 d1' d2 d3 d4 d5 hB hT hR
    · cases c3
      · exact duffelref40_Advise.goD k A0 c0 l0 n b t r c4 c5 w hr0 hc0 d1 d1' d2 d3 d4 d5 hB hT hR
      · exact duffelref40_Advise.goC k A0 c0 l0 n b t r c4 c5 w hr0 hc0 d1 d1' d2 d3 d4 d5 hB hT hR
  · exact duffelref40_Advise.goA k A0 c0 l0 n b t r c2 c3 c4 c5 w hr0 hc0 d1 d1' d2 d3 d4 d5 hB hT hR
theorem duffelref40_Advise.calls (k : Nat) (A0 : Option Addr) (c0 : Nat) (l0 : List Int) (r1 : Int) (r2 : Int) (r3 : Bool) (r4 : Bool) (w : World) (hr0 : Kd.C (Kd.int .u8) w A0 l0.length l0) (hc0 : l0.length ≤ c0) (h : duffelref40_Advise.f k l0 = some (r1, r2, r3, r4)) :
    Calls Try.prog 23 #[.slice A0 l0.length c0] w fun e w' => e = .returned (.agg #[.int .i64 r1, .int .i64 r2, .bool r3, .bool r4]) ∧ Below w.heap.size w w' := by
  unfold duffelref40_Advise.f at h
  have hd : decide ((l0.length : Int) < 16) = decide (l0.length < 16) := decide_eq_decide.mpr (by omega)
  by_cases c1 : (l0.length : Int) < 16
  · rw [if_pos c1] at h
    have e := Option.some.inj h
    simp only [Prod.mk.injEq] at e
    obtain ⟨rfl, rfl, rfl, rfl⟩ := e
    have g := duffelref40_Advise.go k A0 c0 l0 0 0 0 0 true _ _ _ _ w ⟨hr0⟩ ⟨hc0⟩ (decide_eq_true c1) (hd.symm.trans (decide_eq_true c1)) rfl rfl rfl rfl ⟨fun h => by cases h⟩ ⟨fun h => by cases h⟩ ⟨fun h => by cases h⟩
    simpa using g
  · rw [if_neg c1] at h
    obtain ⟨b, hb, h⟩ := Option.bind_eq_some_iff.mp h
    have rest : ∀ (t : Int) (c2 c3 : Bool), decide (wrap64 (2000 * (l0.length : Int)) < b) = c2 → decide (wrap64 (8 * t) < (l0.length : Int)) = c3 → (c2 && c3) = false → duffelref40_Twins.f k l0 = some t → duffelref40_Advise.rest k l0 = some (r1, r2, r3, r4) →
        Calls Try.prog 23 #[.slice A0 l0.length c0] w fun e w' => e = .returned (.agg #[.int .i64 r1, .int .i64 r2, .bool r3, .bool r4]) ∧ Below w.heap.size w w' := by
      intro t c2 c3 h2 h3 h23 ht hrest
      unfold duffelref40_Advise.rest at hrest
      obtain ⟨r, hr, hrest⟩ := Option.bind_eq_some_iff.mp hrest
      rw [ht] at hrest
      have e := Option.some.inj hrest
      simp only [Prod.mk.injEq] at e
      obtain ⟨rfl, rfl, rfl, rfl⟩ := e
      have g := duffelref40_Advise.go k A0 c0 l0 0 b t r false c2 c3 (decide ((l0.length : Int) ≤ wrap64 (4 * r))) (decide (wrap64 (4 * t) < (l0.length : Int))) w ⟨hr0⟩ ⟨hc0⟩ (decide_eq_false c1) (hd.symm.trans (decide_eq_false c1)) h2 h3 rfl rfl ⟨fun _ => hb⟩ ⟨fun _ => ht⟩ ⟨fun _ _ => hr⟩
      rw [h23] at g
      simpa using g
    by_cases c2 : wrap64 (2000 * (l0.length : Int)) < b
    · rw [if_pos c2] at h
      obtain ⟨t, ht, h⟩ := Option.bind_eq_some_iff.mp h
      by_cases c3 : wrap64 (8 * t) < (l0.length : Int)
      · rw [if_pos c3] at h
        have e := Option.some.inj h
        simp only [Prod.mk.injEq] at e
        obtain ⟨rfl, rfl, rfl, rfl⟩ := e
        have g := duffelref40_Advise.go k A0 c0 l0 0 b t 0 false true true _ _ w ⟨hr0⟩ ⟨hc0⟩ (decide_eq_false c1) (hd.symm.trans (decide_eq_false c1)) (decide_eq_true c2) (decide_eq_true c3) rfl rfl ⟨fun _ => hb⟩ ⟨fun _ => ht⟩ ⟨fun _ h => by cases h⟩
        simpa using g
      · rw [if_neg c3] at h
        exact rest t true false (decide_eq_true c2) (decide_eq_false c3) rfl ht h
    · rw [if_neg c2] at h
      have h0 := h
      unfold duffelref40_Advise.rest at h0
      obtain ⟨r, hr, h0⟩ := Option.bind_eq_some_iff.mp h0
      obtain ⟨t, ht, h0⟩ := Option.bind_eq_some_iff.mp h0
      exact rest t false _ (decide_eq_false c2) rfl rfl ht h

/-! ### duffellaw40_ProbeAdvises: function 6 -/
def duffellaw40_ProbeAdvises.f (k : Nat) (l0 : List Int) : Option (Bool) := (cut_u8.f l0 250).bind fun t135 => ((probe_Advise.f k t135).bind fun bt137 => ((duffelref40_Advise.f k t135).bind fun bt141 => (if (bt137.1 == bt141.1 && (bt137.2.1 == bt141.2.1 && (bt137.2.2.1 == bt141.2.2.1 && (bt137.2.2.2 == bt141.2.2.2)))) = true then ((duffellaw40_lives.f k).bind fun t145 => (some t145)) else (some false))))
theorem duffellaw40_ProbeAdvises.mono : ∀ a0 k, LeO (duffellaw40_ProbeAdvises.f k a0) (duffellaw40_ProbeAdvises.f (k + 1) a0) := by
  intro a0 k
  unfold duffellaw40_ProbeAdvises.f
  repeat' first
      | (with_reducible exact duffellaw40_lives.mono _)
      | (with_reducible exact duffelref40_Advise.mono _ _)
      | (with_reducible exact probe_Advise.mono _ _)
      | (with_reducible exact LeO.refl _)
      | (with_reducible exact LeO.none _)
      | (with_reducible refine LeO.ite ?_ ?_)
      | (with_reducible refine LeO.bind ?_ (fun _ => ?_))
      | exact duffellaw40_lives.mono _
      | exact duffelref40_Advise.mono _ _
      | exact probe_Advise.mono _ _
      | exact LeO.none _
      | refine LeO.ite ?_ ?_
      | refine LeO.bind ?_ (fun _ => ?_)
set_option maxHeartbeats 8000000 in
set_option maxRecDepth 100000 in
theorem duffellaw40_ProbeAdvises.calls (k : Nat) (A0 : Option Addr) (c0 : Nat) (l0 : List Int) (r : Bool) (w : World) (hr0 : Kd.C (Kd.int .u8) w A0 l0.length l0) (hc0 : l0.length ≤ c0) (h : duffellaw40_ProbeAdvises.f k l0 = some r) :
    Calls Try.prog 6 #[.slice A0 l0.length c0] w fun e w' => e = .returned (.bool r) ∧ Below w.heap.size w w' := by
  have HR0 := Aside0.mk hr0
  have HC0 := Aside0.mk hc0
  clear hr0 hc0
  have HB := Aside0.mk (Below.refl w.heap.size w)
  have H : ((cut_u8.f l0 250).bind fun t135 => ((probe_Advise.f k t135).bind fun bt137 => ((duffelref40_Advise.f k t135).bind fun bt141 => (if (bt137.1 == bt141.1 && (bt137.2.1 == bt141.2.1 && (bt137.2.2.1 == bt141.2.2.1 && (bt137.2.2.2 == bt141.2.2.2)))) = true then ((duffellaw40_lives.f k).bind fun t145 => (some t145)) else (some false))))) = some r := h
  clear h
  replace H := Option.bind_eq_some_iff.mp H
  obtain ⟨t135, A20, H⟩ := H
  replace H : ((probe_Advise.f k t135).bind fun bt137 => ((duffelref40_Advise.f k t135).bind fun bt141 => (if (bt137.1 == bt141.1 && (bt137.2.1 == bt141.2.1 && (bt137.2.2.1 == bt141.2.2.1 && (bt137.2.2.2 == bt141.2.2.2)))) = true then ((duffellaw40_lives.f k).bind fun t145 => (some t145)) else (some false)))) = some r := H
  have A2 := Aside0.mk A20
  clear A20
  replace H := Option.bind_eq_some_iff.mp H
  obtain ⟨⟨t137, t138, t139, t140⟩, A30, H⟩ := H
  replace H : ((duffelref40_Advise.f k t135).bind fun bt141 => (if (t137 == bt141.1 && (t138 == bt141.2.1 && (t139 == bt141.2.2.1 && (t140 == bt141.2.2.2)))) = true then ((duffellaw40_lives.f k).bind fun t145 => (some t145)) else (some false))) = some r := H
  have A3 := Aside0.mk A30
  clear A30
  replace H := Option.bind_eq_some_iff.mp H
  obtain ⟨⟨t141, t142, t143, t144⟩, A40, H⟩ := H
  replace H : (if (t137 == t141 && (t138 == t142 && (t139 == t143 && (t140 == t144)))) = true then ((duffellaw40_lives.f k).bind fun t145 => (some t145)) else (some false)) = some r := H
  have A4 := Aside0.mk A40
  clear A40
  by_cases c5 : (t137 == t141 && (t138 == t142 && (t139 == t143 && (t140 == t144)))) = true
  · rw [if_pos c5] at H
    have c5b0 : (t137 == t141 && (t138 == t142 && (t139 == t143 && (t140 == t144)))) = true := c5
    (try (have c5b1 : decide (t137 = t141 && (t138 == t142 && (t139 == t143 && (t140 == t144)))) = true := by simpa using c5))
    (try (have c5b2 : (t137 == t141 && (t138 == t142 && (t139 == t143 && (t140 == t144)))) = true := by simpa using c5))
    clear c5
    replace H := Option.bind_eq_some_iff.mp H
    obtain ⟨t145, A60, H⟩ := H
    replace H : (some t145) = some r := H
    have A6 := Aside0.mk A60
    clear A60
    obtain rfl := Option.some.inj H
    have HR136 := Aside0.mk (MyCut.C_cut_u8 HR0.out A2.out)
    have HC136 := Aside0.mk (MyCut.le_cut_u8 HC0.out A2.out)
    go_enter Try.func6, Try.ntmps6
    go_wp2_with (first | (go_at_call 11; (with_reducible refine (MyCut.cut_u8.calls A0 c0 l0 250 t135 _ HC0.out A2.out).mono ?_); rintro e w' ⟨rfl, hs_⟩; subst hs_) | ((with_reducible refine gate_callee (f := 22) rfl ?_); refine goesL_ (some 6) rfl rfl Try.func22 (by kernel_rfl) rfl #[.slice A0 t135.length c0] rfl (by (try simp only [List.map_toArray, List.map_cons, List.map_nil]); first | done | rfl | (simp only [List.length_drop, List.length_take]; rfl)) ?_; (with_reducible refine (probe_Advise.calls k _ _ t135 t137 t138 t139 t140 _ ?side1 ?side2 A3.out).mono ?_); (case side1 => repeat (first | exact HR136.out | (with_reducible refine Kd.C_alloc ?_ _) | (with_reducible refine Kd.C_drewN ?_ _) | (with_reducible refine Kd.C_drew ?_))); (case side2 => exact HC136.out); rintro e w7 ⟨rfl, hb⟩; refine ⟨_, rfl, ?_⟩; have n0_ := Aside0.mk (below_step (by repeat (first | (with_reducible first | exact HB.out | apply below_alloc | apply pw_below_drewN | apply below_drew1) | exact HB.out)) hb); clear HB; have HB := n0_; clear n0_; (try clear hb); (try clear hb2); (try clear hk); (try clear hi)) | ((with_reducible refine gate_callee (f := 23) rfl ?_); refine goesL_ (some 8) rfl rfl Try.func23 (by kernel_rfl) rfl #[.slice A0 t135.length c0] rfl (by (try simp only [List.map_toArray, List.map_cons, List.map_nil]); first | done | rfl | (simp only [List.length_drop, List.length_take]; rfl)) ?_; (with_reducible refine (duffelref40_Advise.calls k _ _ t135 t141 t142 t143 t144 _ ?side1 ?side2 A4.out).mono ?_); (case side1 => repeat (first | exact (Kd.C_below HR136.out HB.out) | (with_reducible refine Kd.C_alloc ?_ _) | (with_reducible refine Kd.C_drewN ?_ _) | (with_reducible refine Kd.C_drew ?_))); (case side2 => exact HC136.out); rintro e w8 ⟨rfl, hb⟩; refine ⟨_, rfl, ?_⟩; have n0_ := Aside0.mk (below_step (by repeat (first | (with_reducible first | exact HB.out | apply below_alloc | apply pw_below_drewN | apply below_drew1) | exact HB.out)) hb); clear HB; have HB := n0_; clear n0_; (try clear hb); (try clear hb2); (try clear hk); (try clear hi)) | (go_at_call 10; (with_reducible refine (duffellaw40_lives.calls k  t145 _ A6.out).mono ?_); rintro e w9 ⟨rfl, hb⟩; have n0_ := Aside0.mk (below_step (by repeat (first | (with_reducible first | exact HB.out | apply below_alloc | apply pw_below_drewN | apply below_drew1) | exact HB.out)) hb); clear HB; have HB := n0_; clear n0_; (try clear hb); (try clear hb2); (try clear hk); (try clear hi)))
    go_ret
    exact ⟨by first | rfl | (simp [errW_none, errW_some] <;> rfl) | (simp [*, errW_none, errW_some] <;> rfl), by repeat (first | (with_reducible first | exact HB.out | apply below_alloc | apply pw_below_drewN | apply below_drew1) | exact HB.out)⟩
  · rw [if_neg c5] at H
    have c5b0 : (t137 == t141 && (t138 == t142 && (t139 == t143 && (t140 == t144)))) = false := by simpa using c5
    (try (have c5b1 : decide (t137 = t141 && (t138 == t142 && (t139 == t143 && (t140 == t144)))) = false := by simpa using c5))
    (try (have c5b2 : (t137 == t141 && (t138 == t142 && (t139 == t143 && (t140 == t144)))) = false := by simpa using c5))
    (try (have c5b3 : ¬ (t137 = t141 && (t138 == t142 && (t139 == t143 && (t140 == t144)))) := by simpa using c5))
    clear c5
    obtain rfl := Option.some.inj H
    have HR136 := Aside0.mk (MyCut.C_cut_u8 HR0.out A2.out)
    have HC136 := Aside0.mk (MyCut.le_cut_u8 HC0.out A2.out)
    go_enter Try.func6, Try.ntmps6
    go_wp2_with (first | (go_at_call 11; (with_reducible refine (MyCut.cut_u8.calls A0 c0 l0 250 t135 _ HC0.out A2.out).mono ?_); rintro e w' ⟨rfl, hs_⟩; subst hs_) | ((with_reducible refine gate_callee (f := 22) rfl ?_); refine goesL_ (some 6) rfl rfl Try.func22 (by kernel_rfl) rfl #[.slice A0 t135.length c0] rfl (by (try simp only [List.map_toArray, List.map_cons, List.map_nil]); first | done | rfl | (simp only [List.length_drop, List.length_take]; rfl)) ?_; (with_reducible refine (probe_Advise.calls k _ _ t135 t137 t138 t139 t140 _ ?side1 ?side2 A3.out).mono ?_); (case side1 => repeat (first | exact HR136.out | (with_reducible refine Kd.C_alloc ?_ _) | (with_reducible refine Kd.C_drewN ?_ _) | (with_reducible refine Kd.C_drew ?_))); (case side2 => exact HC136.out); rintro e w10 ⟨rfl, hb⟩; refine ⟨_, rfl, ?_⟩; have n0_ := Aside0.mk (below_step (by repeat (first | (with_reducible first | exact HB.out | apply below_alloc | apply pw_below_drewN | apply below_drew1) | exact HB.out)) hb); clear HB; have HB := n0_; clear n0_; (try clear hb); (try clear hb2); (try clear hk); (try clear hi)) | ((with_reducible refine gate_callee (f := 23) rfl ?_); refine goesL_ (some 8) rfl rfl Try.func23 (by kernel_rfl) rfl #[.slice A0 t135.length c0] rfl (by (try simp only [List.map_toArray, List.map_cons, List.map_nil]); first | done | rfl | (simp only [List.length_drop, List.length_take]; rfl)) ?_; (with_reducible refine (duffelref40_Advise.calls k _ _ t135 t141 t142 t143 t144 _ ?side1 ?side2 A4.out).mono ?_); (case side1 => repeat (first | exact (Kd.C_below HR136.out HB.out) | (with_reducible refine Kd.C_alloc ?_ _) | (with_reducible refine Kd.C_drewN ?_ _) | (with_reducible refine Kd.C_drew ?_))); (case side2 => exact HC136.out); rintro e w11 ⟨rfl, hb⟩; refine ⟨_, rfl, ?_⟩; have n0_ := Aside0.mk (below_step (by repeat (first | (with_reducible first | exact HB.out | apply below_alloc | apply pw_below_drewN | apply below_drew1) | exact HB.out)) hb); clear HB; have HB := n0_; clear n0_; (try clear hb); (try clear hb2); (try clear hk); (try clear hi)))
    go_ret
    exact ⟨by first | rfl | (simp [errW_none, errW_some] <;> rfl) | (simp [*, errW_none, errW_some] <;> rfl), by repeat (first | (with_reducible first | exact HB.out | apply below_alloc | apply pw_below_drewN | apply below_drew1) | exact HB.out)⟩

/-- THE ONE PURE STATEMENT of duffellaw40_ProbeAdvises: yours. -/
def duffellaw40_ProbeAdvises.Pure : Prop := ∀ (l0 : List Int), l0.length ≤ maxLen → l0.length * 1 ≤ 140737488351232 → (∀ x ∈ l0, (Lit.int .u8 x).wf = true) → ∃ k, duffellaw40_ProbeAdvises.f k l0 = some true
theorem duffellaw40_ProbeAdvises.walk (P : duffellaw40_ProbeAdvises.Pure) (a0 : Option Addr) (len0 cap0 : Nat) (z0 : List Int) (w : World) (w0 : (a0 = none ∧ len0 = 0 ∧ cap0 = 0 ∧ z0 = []) ∨ ∃ x, a0 = some x ∧ len0 ≤ cap0 ∧ cap0 ≤ maxLen ∧ z0.length = cap0 ∧ (∀ i, i < z0.length → w.cell? (x.add i) = some (.int .u8 (z0.getD i 0))) ∧ ∀ n ∈ z0, (Lit.int .u8 n).wf = true) (y0 : len0 * 1 ≤ 140737488351232) :
    Calls Try.prog 6 #[.slice a0 len0 cap0] w fun e w' => e = .returned (.bool true) ∧ Below w.heap.size w w' := by
  obtain ⟨l0, rfl, hr0, hm0, hw0, hc0⟩ := ReadsInt.ofRowC w0
  obtain ⟨k, h⟩ := P l0 hm0 y0 hw0
  refine (duffellaw40_ProbeAdvises.calls k _ _ l0 true w (Kd.C_of_reads (d := (0 : Int)) (h1 := fun _ => rfl) hr0) hc0 h).mono ?_
  rintro e w' ⟨rfl, hd⟩
  exact ⟨rfl, hd⟩

end Go.Proofs.Ytbbmcfbfkpnelaa.QA
