-- written by a program of mine (a changed copy of the printer): not the kit's print
import Derived.Test.YtbjffjbohpoedaaDoorWBx0
namespace Go.Proofs.YtbjffjbohpoedaaDoor.WB
open Go.Proofs.YtbjffjbohpoedaaDoor.MyCut
open Go.RowKit Go.Proofs.YtbjffjbohpoedaaDoorW.PrintWords Go.Proofs.YtbjffjbohpoedaaDoorW.PrintLast Go.Proofs.YtbjffjbohpoedaaDoorW.PrintMore
attribute [local go_sem] max2_int min2_int max_two min_two max_three min_three max_four min_four   -- for this text's walks alone
set_option linter.unusedVariables false
set_option linter.unusedSimpArgs false

/-! ### wild_capital: function 86 -/
def wild_capital.f (a0 : Int) : Option (Int) := if a0 = 129 then (some 154) else (if a0 = 130 then (some 144) else (if a0 = 132 then (some 142) else (if a0 = 134 then (some 143) else (if a0 = 135 then (some 128) else (if a0 = 145 then (some 146) else (if a0 = 148 then (some 153) else (if a0 = 164 then (some 165) else (some a0))))))))
set_option maxHeartbeats 8000000 in
set_option maxRecDepth 100000 in
theorem wild_capital.calls (a0 : Int) (r : Int) (w : World) (h : wild_capital.f a0 = some r) :
    Calls Tryd.prog 86 #[.int .u8 a0] w fun e w' => e = .returned (.int .u8 r) ∧ Drawn0 w w' := by
  have H : (if a0 = 129 then (some 154) else (if a0 = 130 then (some 144) else (if a0 = 132 then (some 142) else (if a0 = 134 then (some 143) else (if a0 = 135 then (some 128) else (if a0 = 145 then (some 146) else (if a0 = 148 then (some 153) else (if a0 = 164 then (some 165) else (some a0))))))))) = some r := h
  clear h
  by_cases c2 : a0 = 129
  · rw [if_pos c2] at H
    have c2b0 : (a0 == 129) = true := beq_iff_eq.mpr c2
    have c2b1 : (a0 != 129) = false := bne_eq_false_iff_eq.mpr c2
    clear c2
    obtain rfl := Option.some.inj H
    go_enter Tryd.func86, Tryd.ntmps86
    go_wp2
    go_ret
    exact ⟨by first | rfl | (simp; done) | (simp [*]; done), by repeat (first | exact Drawn0.refl _ | apply Drawn0.step)⟩
  · rw [if_neg c2] at H
    have c2b0 : (a0 == 129) = false := beq_eq_false_iff_ne.mpr c2
    have c2b1 : (a0 != 129) = true := bne_iff_ne.mpr c2
    by_cases c3 : a0 = 130
    · rw [if_pos c3] at H
      have c3b0 : (a0 == 130) = true := beq_iff_eq.mpr c3
      have c3b1 : (a0 != 130) = false := bne_eq_false_iff_eq.mpr c3
      clear c3
      obtain rfl := Option.some.inj H
      go_enter Tryd.func86, Tryd.ntmps86
      go_wp2
      go_ret
      exact ⟨by first | rfl | (simp; done) | (simp [*]; done), by repeat (first | exact Drawn0.refl _ | apply Drawn0.step)⟩
    · rw [if_neg c3] at H
      have c3b0 : (a0 == 130) = false := beq_eq_false_iff_ne.mpr c3
      have c3b1 : (a0 != 130) = true := bne_iff_ne.mpr c3
      by_cases c4 : a0 = 132
      · rw [if_pos c4] at H
        have c4b0 : (a0 == 132) = true := beq_iff_eq.mpr c4
        have c4b1 : (a0 != 132) = false := bne_eq_false_iff_eq.mpr c4
        clear c4
        obtain rfl := Option.some.inj H
        go_enter Tryd.func86, Tryd.ntmps86
        go_wp2
        go_ret
        exact ⟨by first | rfl | (simp; done) | (simp [*]; done), by repeat (first | exact Drawn0.refl _ | apply Drawn0.step)⟩
      · rw [if_neg c4] at H
        have c4b0 : (a0 == 132) = false := beq_eq_false_iff_ne.mpr c4
        have c4b1 : (a0 != 132) = true := bne_iff_ne.mpr c4
        by_cases c5 : a0 = 134
        · rw [if_pos c5] at H
          have c5b0 : (a0 == 134) = true := beq_iff_eq.mpr c5
          have c5b1 : (a0 != 134) = false := bne_eq_false_iff_eq.mpr c5
          clear c5
          obtain rfl := Option.some.inj H
          go_enter Tryd.func86, Tryd.ntmps86
          go_wp2
          go_ret
          exact ⟨by first | rfl | (simp; done) | (simp [*]; done), by repeat (first | exact Drawn0.refl _ | apply Drawn0.step)⟩
        · rw [if_neg c5] at H
          have c5b0 : (a0 == 134) = false := beq_eq_false_iff_ne.mpr c5
          have c5b1 : (a0 != 134) = true := bne_iff_ne.mpr c5
          by_cases c6 : a0 = 135
          · rw [if_pos c6] at H
            have c6b0 : (a0 == 135) = true := beq_iff_eq.mpr c6
            have c6b1 : (a0 != 135) = false := bne_eq_false_iff_eq.mpr c6
            clear c6
            obtain rfl := Option.some.inj H
            go_enter Tryd.func86, Tryd.ntmps86
            go_wp2
            go_ret
            exact ⟨by first | rfl | (simp; done) | (simp [*]; done), by repeat (first | exact Drawn0.refl _ | apply Drawn0.step)⟩
          · rw [if_neg c6] at H
            have c6b0 : (a0 == 135) = false := beq_eq_false_iff_ne.mpr c6
            have c6b1 : (a0 != 135) = true := bne_iff_ne.mpr c6
            by_cases c7 : a0 = 145
            · rw [if_pos c7] at H
              have c7b0 : (a0 == 145) = true := beq_iff_eq.mpr c7
              have c7b1 : (a0 != 145) = false := bne_eq_false_iff_eq.mpr c7
              clear c7
              obtain rfl := Option.some.inj H
              go_enter Tryd.func86, Tryd.ntmps86
              go_wp2
              go_ret
              exact ⟨by first | rfl | (simp; done) | (simp [*]; done), by repeat (first | exact Drawn0.refl _ | apply Drawn0.step)⟩
            · rw [if_neg c7] at H
              have c7b0 : (a0 == 145) = false := beq_eq_false_iff_ne.mpr c7
              have c7b1 : (a0 != 145) = true := bne_iff_ne.mpr c7
              by_cases c8 : a0 = 148
              · rw [if_pos c8] at H
                have c8b0 : (a0 == 148) = true := beq_iff_eq.mpr c8
                have c8b1 : (a0 != 148) = false := bne_eq_false_iff_eq.mpr c8
                clear c8
                obtain rfl := Option.some.inj H
                go_enter Tryd.func86, Tryd.ntmps86
                go_wp2
                go_ret
                exact ⟨by first | rfl | (simp; done) | (simp [*]; done), by repeat (first | exact Drawn0.refl _ | apply Drawn0.step)⟩
              · rw [if_neg c8] at H
                have c8b0 : (a0 == 148) = false := beq_eq_false_iff_ne.mpr c8
                have c8b1 : (a0 != 148) = true := bne_iff_ne.mpr c8
                by_cases c9 : a0 = 164
                · rw [if_pos c9] at H
                  have c9b0 : (a0 == 164) = true := beq_iff_eq.mpr c9
                  have c9b1 : (a0 != 164) = false := bne_eq_false_iff_eq.mpr c9
                  clear c9
                  obtain rfl := Option.some.inj H
                  go_enter Tryd.func86, Tryd.ntmps86
                  go_wp2
                  go_ret
                  exact ⟨by first | rfl | (simp; done) | (simp [*]; done), by repeat (first | exact Drawn0.refl _ | apply Drawn0.step)⟩
                · rw [if_neg c9] at H
                  have c9b0 : (a0 == 164) = false := beq_eq_false_iff_ne.mpr c9
                  have c9b1 : (a0 != 164) = true := bne_iff_ne.mpr c9
                  obtain rfl := Option.some.inj H
                  go_enter Tryd.func86, Tryd.ntmps86
                  go_wp2
                  go_ret
                  exact ⟨by first | rfl | (simp; done) | (simp [*]; done), by repeat (first | exact Drawn0.refl _ | apply Drawn0.step)⟩

/-! ### wild_Fold: function 69 -/
def wild_Fold.j0 : Nat → Int → Bool → Option (Int)
  | 0, _, _ => none
  | k + 1, x0, x3 => if x3 = true then (some ((((x0 - 97) % 256) + 65) % 256)) else (if x0 = 92 then (some 47) else ((wild_capital.f x0).bind fun t101 => (some t101)))
def wild_Fold.f (k : Nat) (a0 : Int) : Option (Int) := if a0 ≥ 97 then (wild_Fold.j0 k a0 (decide (a0 ≤ 122))) else (wild_Fold.j0 k a0 false)
theorem wild_Fold.mono_l : ∀ k, (∀ y0 y1, LeO (wild_Fold.j0 k y0 y1) (wild_Fold.j0 (k + 1) y0 y1))
  | 0 => fun _ _ r h => by simp [wild_Fold.j0] at h
  | k + 1 => by
    have ih0 := wild_Fold.mono_l k
    · intro y0 y1
      unfold wild_Fold.j0
      repeat' first
      | (with_reducible exact ih0 _ _)
      | (with_reducible exact LeO.refl _)
      | (with_reducible exact LeO.none _)
      | (with_reducible refine LeO.ite ?_ ?_)
      | (with_reducible refine LeO.bind ?_ (fun _ => ?_))
      | exact ih0 _ _
      | exact LeO.none _
      | refine LeO.ite ?_ ?_
      | refine LeO.bind ?_ (fun _ => ?_)
theorem wild_Fold.mono : ∀ a0 k, LeO (wild_Fold.f k a0) (wild_Fold.f (k + 1) a0) := by
  intro a0 k
  have ih0 := wild_Fold.mono_l k
  unfold wild_Fold.f
  repeat' first
      | (with_reducible exact ih0 _ _)
      | (with_reducible exact LeO.refl _)
      | (with_reducible exact LeO.none _)
      | (with_reducible refine LeO.ite ?_ ?_)
      | (with_reducible refine LeO.bind ?_ (fun _ => ?_))
      | exact ih0 _ _
      | exact LeO.none _
      | refine LeO.ite ?_ ?_
      | refine LeO.bind ?_ (fun _ => ?_)
set_option maxHeartbeats 8000000 in
set_option maxRecDepth 100000 in
theorem wild_Fold.calls (k : Nat) (a0 : Int) (r : Int) (w : World) (h : wild_Fold.f k a0 = some r) :
    Calls Tryd.prog 69 #[.int .u8 a0] w fun e w' => e = .returned (.int .u8 r) ∧ Drawn0 w w' := by
  have H : (if a0 ≥ 97 then (wild_Fold.j0 k a0 (decide (a0 ≤ 122))) else (wild_Fold.j0 k a0 false)) = some r := h
  clear h
  have HC2 := Aside0.mk H
  clear H
  go_enter Tryd.func69, Tryd.ntmps69
  go_upto_region 1 with (fail)
  go_cut [3] (fun v3 wc => ∃ (kq : Nat) (x3_1 : Bool), v3 = .bool x3_1 ∧ Aside0 (wild_Fold.j0 kq a0 x3_1 = some r) ∧ Aside0 (kq ≤ k) ∧ Drawn0 w wc)
  case first =>
    have H := HC2.out
    clear HC2
    by_cases c3 : a0 ≥ 97
    · rw [if_pos c3] at H
      have c3b0 : decide (97 ≤ a0) = true := decide_eq_true c3
      clear c3
      (first | rw [c3b0] | (simp only [i64_w, i32_w]; rw [c3b0]) | skip)
      have H' := Aside0.mk H
      clear H
      go_wp2
      go_meet
      case rel => exact ⟨_, (decide (a0 ≤ 122)), (by first | rfl | (simp; done) | (simp [*]; done)), H', ⟨by first | omega | exact Nat.le_refl _⟩, by repeat (first | exact Drawn0.refl _ | apply Drawn0.step)⟩
    · rw [if_neg c3] at H
      have c3b0 : decide (97 ≤ a0) = false := decide_eq_false c3
      clear c3
      (first | rw [c3b0] | (simp only [i64_w, i32_w]; rw [c3b0]) | skip)
      have H' := Aside0.mk H
      clear H
      go_wp2
      go_meet
      case rel => exact ⟨_, (false), (by first | rfl | (simp; done) | (simp [*]; done)), H', ⟨by first | omega | exact Nat.le_refl _⟩, by repeat (first | exact Drawn0.refl _ | apply Drawn0.step)⟩
  case rest =>
    clear HC2
    try clear p2
    try clear c3
    try clear c3b0
    obtain ⟨kq, x3_1, rfl, HA, HJ1, ⟨mc1, rfl⟩⟩ := hcut
    cases kq with
    | zero => exact absurd HA.out (by simp [wild_Fold.j0])
    | succ kj1 =>
      have H := HA.out
      clear HA
      simp only [wild_Fold.j0] at H
      by_cases c4 : x3_1 = true
      · subst c4
        have H1 : (some ((((a0 - 97) % 256) + 65) % 256)) = some r := by rw [if_pos rfl] at H; exact H
        clear H
        have H := H1
        clear H1
        obtain rfl := Option.some.inj H
        go_wp2
        go_ret
        exact ⟨by first | rfl | (simp; done) | (simp [*]; done), by repeat (first | exact Drawn0.refl _ | apply Drawn0.step)⟩
      · replace c4 := Bool.eq_false_iff.mpr c4
        subst c4
        have H1 : (if a0 = 92 then (some 47) else ((wild_capital.f a0).bind fun t101 => (some t101))) = some r := by rw [if_neg (show ¬ (false = true) by decide)] at H; exact H
        clear H
        have H := H1
        clear H1
        by_cases c5 : a0 = 92
        · rw [if_pos c5] at H
          have c5b0 : (a0 == 92) = true := beq_iff_eq.mpr c5
          have c5b1 : (a0 != 92) = false := bne_eq_false_iff_eq.mpr c5
          clear c5
          obtain rfl := Option.some.inj H
          go_wp2
          go_ret
          exact ⟨by first | rfl | (simp; done) | (simp [*]; done), by repeat (first | exact Drawn0.refl _ | apply Drawn0.step)⟩
        · rw [if_neg c5] at H
          have c5b0 : (a0 == 92) = false := beq_eq_false_iff_ne.mpr c5
          have c5b1 : (a0 != 92) = true := bne_iff_ne.mpr c5
          replace H := Option.bind_eq_some_iff.mp H
          obtain ⟨t101, A60, H⟩ := H
          replace H : (some t101) = some r := H
          have A6 := Aside0.mk A60
          clear A60
          obtain rfl := Option.some.inj H
          go_wp2_with (first | ((with_reducible refine gate_callee (f := 86) rfl ?_); refine goesL_ (some 17) rfl rfl Tryd.func86 (by kernel_rfl) rfl #[.int .u8 a0] rfl (by (try simp only [List.map_toArray, List.map_cons, List.map_nil]); first | done | rfl | (simp only [List.length_drop, List.length_take]; rfl)) ?_; (with_reducible refine (wild_capital.calls a0 t101 _ A6.out).mono ?_); rintro e w' ⟨rfl, ⟨nd, rfl⟩⟩; refine ⟨_, rfl, ?_⟩))
          go_ret
          exact ⟨by first | rfl | (simp; done) | (simp [*]; done), by repeat (first | exact Drawn0.refl _ | apply Drawn0.step)⟩

end Go.Proofs.YtbjffjbohpoedaaDoor.WB
