-- written by a program of mine (a changed copy of the printer): not the kit's print
import Derived.Test.YtjhhgekpejdmoaaDoorRBx0
namespace Go.Proofs.YtjhhgekpejdmoaaDoor.RB
open Go.Proofs.YtjhhgekpejdmoaaDoor.MyCut
open Go.RowKit Go.Proofs.YtjhhgekpejdmoaaDoorW.PrintWords Go.Proofs.YtjhhgekpejdmoaaDoorW.PrintLast Go.Proofs.YtjhhgekpejdmoaaDoorW.PrintMore
attribute [local go_sem] max2_int min2_int max_two min_two max_three min_three max_four min_four   -- for this text's walks alone
set_option linter.unusedVariables false
set_option linter.unusedSimpArgs false

/-! ### duffelref01_Within: function 7 -/
def duffelref01_Within.f (a0 : Int) (a1 : Int) (a2 : Int) : Option (Int) := if a0 < a1 then (some a1) else (if a0 > a2 then (some a2) else (some a0))
set_option maxHeartbeats 8000000 in
set_option maxRecDepth 100000 in
theorem duffelref01_Within.calls (a0 : Int) (a1 : Int) (a2 : Int) (r : Int) (w : World) (h : duffelref01_Within.f a0 a1 a2 = some r) :
    Calls Tryd.prog 7 #[.int .i64 a0, .int .i64 a1, .int .i64 a2] w fun e w' => e = .returned (.int .i64 r) ∧ Drawn0 w w' := by
  have H : (if a0 < a1 then (some a1) else (if a0 > a2 then (some a2) else (some a0))) = some r := h
  clear h
  by_cases c4 : a0 < a1
  · rw [if_pos c4] at H
    have c4b0 : decide (a0 < a1) = true := decide_eq_true c4
    clear c4
    obtain rfl := Option.some.inj H
    go_enter Tryd.func7, Tryd.ntmps7
    go_wp2
    go_ret
    exact ⟨by first | rfl | (simp; done) | (simp [*]; done), by repeat (first | exact Drawn0.refl _ | apply Drawn0.step)⟩
  · rw [if_neg c4] at H
    have c4b0 : decide (a0 < a1) = false := decide_eq_false c4
    clear c4
    by_cases c5 : a0 > a2
    · rw [if_pos c5] at H
      have c5b0 : decide (a2 < a0) = true := decide_eq_true c5
      clear c5
      obtain rfl := Option.some.inj H
      go_enter Tryd.func7, Tryd.ntmps7
      go_wp2
      go_ret
      exact ⟨by first | rfl | (simp; done) | (simp [*]; done), by repeat (first | exact Drawn0.refl _ | apply Drawn0.step)⟩
    · rw [if_neg c5] at H
      have c5b0 : decide (a2 < a0) = false := decide_eq_false c5
      clear c5
      obtain rfl := Option.some.inj H
      go_enter Tryd.func7, Tryd.ntmps7
      go_wp2
      go_ret
      exact ⟨by first | rfl | (simp; done) | (simp [*]; done), by repeat (first | exact Drawn0.refl _ | apply Drawn0.step)⟩

/-! ### report_Ratio: function 8 -/
def report_Ratio.f (a0 : Int) (a1 : Int) : Option (Int) := if a0 < 1 then (some 0) else (if a0 > 1099511627776 then (some 0) else (if a1 < 0 then (some 0) else (if a1 ≥ a0 then (some 0) else (if a0 = 0 then (none) else (some (wrap64 (Int.tdiv (wrap64 ((wrap64 (100 * (wrap64 (a0 - a1)))) + (wrap64 (Int.tdiv a0 2)))) a0)))))))
set_option maxHeartbeats 8000000 in
set_option maxRecDepth 100000 in
theorem report_Ratio.calls (a0 : Int) (a1 : Int) (r : Int) (w : World) (h : report_Ratio.f a0 a1 = some r) :
    Calls Tryd.prog 8 #[.int .i64 a0, .int .i64 a1] w fun e w' => e = .returned (.int .i64 r) ∧ Drawn0 w w' := by
  have H : (if a0 < 1 then (some 0) else (if a0 > 1099511627776 then (some 0) else (if a1 < 0 then (some 0) else (if a1 ≥ a0 then (some 0) else (if a0 = 0 then (none) else (some (wrap64 (Int.tdiv (wrap64 ((wrap64 (100 * (wrap64 (a0 - a1)))) + (wrap64 (Int.tdiv a0 2)))) a0)))))))) = some r := h
  clear h
  by_cases c3 : a0 < 1
  · rw [if_pos c3] at H
    have c3b0 : decide (a0 < 1) = true := decide_eq_true c3
    clear c3
    obtain rfl := Option.some.inj H
    go_enter Tryd.func8, Tryd.ntmps8
    go_wp2
    go_ret
    exact ⟨by first | rfl | (simp; done) | (simp [*]; done), by repeat (first | exact Drawn0.refl _ | apply Drawn0.step)⟩
  · rw [if_neg c3] at H
    have c3b0 : decide (a0 < 1) = false := decide_eq_false c3
    clear c3
    by_cases c4 : a0 > 1099511627776
    · rw [if_pos c4] at H
      have c4b0 : decide (1099511627776 < a0) = true := decide_eq_true c4
      clear c4
      obtain rfl := Option.some.inj H
      go_enter Tryd.func8, Tryd.ntmps8
      go_wp2
      go_ret
      exact ⟨by first | rfl | (simp; done) | (simp [*]; done), by repeat (first | exact Drawn0.refl _ | apply Drawn0.step)⟩
    · rw [if_neg c4] at H
      have c4b0 : decide (1099511627776 < a0) = false := decide_eq_false c4
      clear c4
      by_cases c5 : a1 < 0
      · rw [if_pos c5] at H
        have c5b0 : decide (a1 < 0) = true := decide_eq_true c5
        clear c5
        obtain rfl := Option.some.inj H
        go_enter Tryd.func8, Tryd.ntmps8
        go_wp2
        go_ret
        exact ⟨by first | rfl | (simp; done) | (simp [*]; done), by repeat (first | exact Drawn0.refl _ | apply Drawn0.step)⟩
      · rw [if_neg c5] at H
        have c5b0 : decide (a1 < 0) = false := decide_eq_false c5
        clear c5
        by_cases c6 : a1 ≥ a0
        · rw [if_pos c6] at H
          have c6b0 : decide (a0 ≤ a1) = true := decide_eq_true c6
          clear c6
          obtain rfl := Option.some.inj H
          go_enter Tryd.func8, Tryd.ntmps8
          go_wp2
          go_ret
          exact ⟨by first | rfl | (simp; done) | (simp [*]; done), by repeat (first | exact Drawn0.refl _ | apply Drawn0.step)⟩
        · rw [if_neg c6] at H
          have c6b0 : decide (a0 ≤ a1) = false := decide_eq_false c6
          clear c6
          by_cases c7 : a0 = 0
          · rw [if_pos c7] at H
            exact absurd H (by simp)
          · rw [if_neg c7] at H
            have c7b0 : (a0 == 0) = false := beq_eq_false_iff_ne.mpr c7
            have c7b1 : (a0 != 0) = true := bne_iff_ne.mpr c7
            obtain rfl := Option.some.inj H
            go_enter Tryd.func8, Tryd.ntmps8
            go_wp2
            go_ret
            exact ⟨by first | rfl | (simp; done) | (simp [*]; done), by repeat (first | exact Drawn0.refl _ | apply Drawn0.step)⟩

/-! ### strconv_Itoa: function 29 -/
def strconv_Itoa.f (a0 : Int) : Option (ByteArray) := if -9223372036854775808 ≤ a0 ∧ a0 ≤ 9223372036854775807 then some ⟨(Lib.itoa a0).toArray⟩ else none
theorem strconv_Itoa.calls (a0 : Int) (r : ByteArray) (w : World) (hT : Rp.Tabs w) (h : strconv_Itoa.f a0 = some r) :
    Calls Tryd.prog 29 #[.int .i64 a0] w fun e w' => e = .returned (.string r) ∧ Below w.heap.size w w' := by
  unfold strconv_Itoa.f at h
  by_cases c : -9223372036854775808 ≤ a0 ∧ a0 ≤ 9223372036854775807
  · rw [if_pos c] at h
    obtain rfl := Option.some.inj h
    exact Rp.itoa_calls a0 c.1 c.2 w hT
  · rw [if_neg c] at h; cases h

/-! ### report_Group: function 14 -/
mutual
def report_Group.j0 : Nat → ByteArray → ByteArray → Option (ByteArray)
  | 0, _, _ => none
  | k + 1, x3, x4 => report_Group.l0 k x3 x4 (wrap64 ((x3.size : Int) - 3))
def report_Group.l0 : Nat → ByteArray → ByteArray → Int → Option (ByteArray)
  | 0, _, _, _ => none
  | k + 1, x3, x4, x5 => if x5 > 0 then (if 0 ≤ x5 then (if x5 ≤ (x3.size : Int) then (if (x3.extract 0 (x5 : Int).toNat).size + 1 ≤ 9223372036854775807 then (if ((x3.extract 0 (x5 : Int).toNat) ++ (⟨#[44]⟩ : ByteArray)).size + (x3.extract (x5 : Int).toNat x3.size).size ≤ 9223372036854775807 then (report_Group.l0 k (((x3.extract 0 (x5 : Int).toNat) ++ (⟨#[44]⟩ : ByteArray)) ++ (x3.extract (x5 : Int).toNat x3.size)) x4 (wrap64 (x5 - 3))) else (none)) else (none)) else (none)) else (none)) else (if x4.size + x3.size ≤ 9223372036854775807 then (some (x4 ++ x3)) else (none))
end
def report_Group.f (k : Nat) (a0 : Int) : Option (ByteArray) := (strconv_Itoa.f a0).bind fun t101 => (if a0 < 0 then (if 1 ≤ (t101.size : Int) then (report_Group.j0 k (t101.extract 1 t101.size) (⟨#[45]⟩ : ByteArray)) else (none)) else (report_Group.j0 k t101 (⟨#[]⟩ : ByteArray)))
theorem report_Group.mono_l : ∀ k, (∀ y0 y1, LeO (report_Group.j0 k y0 y1) (report_Group.j0 (k + 1) y0 y1)) ∧ (∀ y0 y1 y2, LeO (report_Group.l0 k y0 y1 y2) (report_Group.l0 (k + 1) y0 y1 y2))
  | 0 => ⟨fun _ _ r h => by simp [report_Group.j0] at h, fun _ _ _ r h => by simp [report_Group.l0] at h⟩
  | k + 1 => by
    obtain ⟨ih0, ih1⟩ := report_Group.mono_l k
    refine ⟨?_, ?_⟩
    · intro y0 y1
      unfold report_Group.j0
      repeat' first
      | (with_reducible exact ih0 _ _)
      | (with_reducible exact ih1 _ _ _)
      | (with_reducible exact LeO.refl _)
      | (with_reducible exact LeO.none _)
      | (with_reducible refine LeO.ite ?_ ?_)
      | (with_reducible refine LeO.bind ?_ (fun _ => ?_))
      | exact ih0 _ _
      | exact ih1 _ _ _
      | exact LeO.none _
      | refine LeO.ite ?_ ?_
      | refine LeO.bind ?_ (fun _ => ?_)
    · intro y0 y1 y2
      unfold report_Group.l0
      repeat' first
      | (with_reducible exact ih0 _ _)
      | (with_reducible exact ih1 _ _ _)
      | (with_reducible exact LeO.refl _)
      | (with_reducible exact LeO.none _)
      | (with_reducible refine LeO.ite ?_ ?_)
      | (with_reducible refine LeO.bind ?_ (fun _ => ?_))
      | exact ih0 _ _
      | exact ih1 _ _ _
      | exact LeO.none _
      | refine LeO.ite ?_ ?_
      | refine LeO.bind ?_ (fun _ => ?_)
theorem report_Group.mono : ∀ a0 k, LeO (report_Group.f k a0) (report_Group.f (k + 1) a0) := by
  intro a0 k
  obtain ⟨ih0, ih1⟩ := report_Group.mono_l k
  unfold report_Group.f
  repeat' first
      | (with_reducible exact ih0 _ _)
      | (with_reducible exact ih1 _ _ _)
      | (with_reducible exact LeO.refl _)
      | (with_reducible exact LeO.none _)
      | (with_reducible refine LeO.ite ?_ ?_)
      | (with_reducible refine LeO.bind ?_ (fun _ => ?_))
      | exact ih0 _ _
      | exact ih1 _ _ _
      | exact LeO.none _
      | refine LeO.ite ?_ ?_
      | refine LeO.bind ?_ (fun _ => ?_)
set_option maxHeartbeats 8000000 in
set_option maxRecDepth 100000 in
theorem report_Group.calls (k : Nat) (a0 : Int) (r : ByteArray) (w : World) (hT : Rp.Tabs w) (h : report_Group.f k a0 = some r) :
    Calls Tryd.prog 14 #[.int .i64 a0] w fun e w' => e = .returned (.string r) ∧ Below w.heap.size w w' := by
  have HT := Aside0.mk hT
  clear hT
  have HB := Aside0.mk (Below.refl w.heap.size w)
  have H : ((strconv_Itoa.f a0).bind fun t101 => (if a0 < 0 then (if 1 ≤ (t101.size : Int) then (report_Group.j0 k (t101.extract 1 t101.size) (⟨#[45]⟩ : ByteArray)) else (none)) else (report_Group.j0 k t101 (⟨#[]⟩ : ByteArray)))) = some r := h
  clear h
  replace H := Option.bind_eq_some_iff.mp H
  obtain ⟨t101, A20, H⟩ := H
  replace H : (if a0 < 0 then (if 1 ≤ (t101.size : Int) then (report_Group.j0 k (t101.extract 1 t101.size) (⟨#[45]⟩ : ByteArray)) else (none)) else (report_Group.j0 k t101 (⟨#[]⟩ : ByteArray))) = some r := H
  have A2 := Aside0.mk A20
  clear A20
  have HC3 := Aside0.mk H
  clear H
  go_enter Tryd.func14, Tryd.ntmps14
  go_upto_if 9 with (first | (go_at_call 29; (with_reducible refine (strconv_Itoa.calls a0 t101 _ (Rp.Tabs_below HT.out (by repeat (first | (with_reducible first | exact HB.out | apply below_alloc | apply pw_below_drewN | apply below_drew1) | exact HB.out))) A2.out).mono ?_); rintro e w4 ⟨rfl, hb⟩; have n0_ := Aside0.mk (below_step (by repeat (first | (with_reducible first | exact HB.out | apply below_alloc | apply pw_below_drewN | apply below_drew1) | exact HB.out)) hb); clear HB; have HB := n0_; clear n0_; (try clear hb); (try clear hb2); (try clear hk); (try clear hi)))
  repeat (go_quiet (first | (go_at_call 29; (with_reducible refine (strconv_Itoa.calls a0 t101 _ (Rp.Tabs_below HT.out (by repeat (first | (with_reducible first | exact HB.out | apply below_alloc | apply pw_below_drewN | apply below_drew1) | exact HB.out))) A2.out).mono ?_); rintro e w4 ⟨rfl, hb⟩; have n0_ := Aside0.mk (below_step (by repeat (first | (with_reducible first | exact HB.out | apply below_alloc | apply pw_below_drewN | apply below_drew1) | exact HB.out)) hb); clear HB; have HB := n0_; clear n0_; (try clear hb); (try clear hb2); (try clear hk); (try clear hi))); go_upto_if 9 with (first | (go_at_call 29; (with_reducible refine (strconv_Itoa.calls a0 t101 _ (Rp.Tabs_below HT.out (by repeat (first | (with_reducible first | exact HB.out | apply below_alloc | apply pw_below_drewN | apply below_drew1) | exact HB.out))) A2.out).mono ?_); rintro e w4 ⟨rfl, hb⟩; have n0_ := Aside0.mk (below_step (by repeat (first | (with_reducible first | exact HB.out | apply below_alloc | apply pw_below_drewN | apply below_drew1) | exact HB.out)) hb); clear HB; have HB := n0_; clear n0_; (try clear hb); (try clear hb2); (try clear hk); (try clear hi))))
  (try simp only [Act.put, List.setIfInBounds_toArray, List.set_cons_zero, List.set_cons_succ])
  go_cut [3, 4] (fun v3 v4 wc => ∃ (kq : Nat) (x3_2 : ByteArray) (x4_2 : ByteArray), v3 = .string x3_2 ∧ v4 = .string x4_2 ∧ Aside0 (report_Group.j0 kq x3_2 x4_2 = some r) ∧ Aside0 (kq ≤ k) ∧ Aside0 (Below w.heap.size w wc))
  case first =>
    have H := HC3.out
    clear HC3
    by_cases c5 : a0 < 0
    · rw [if_pos c5] at H
      have c5b0 : decide (a0 < 0) = true := decide_eq_true c5
      clear c5
      (first | rw [c5b0] | (simp only [i64_w, i32_w]; rw [c5b0]) | skip)
      by_cases c6 : 1 ≤ (t101.size : Int)
      · rw [if_pos c6] at H
        have c6b0 := eq_true c6
        have c6b1 : decide (1 ≤ (t101.size : Int)) = true := decide_eq_true c6
        clear c6
        have H' := Aside0.mk H
        clear H
        go_wp2
        repeat (go_quiet (fail); try go_wp2)
        go_meet
        case rel => exact ⟨_, (t101.extract 1 t101.size), ((⟨#[45]⟩ : ByteArray)), (by first | rfl | (simp; done) | (simp [*]; done)), (by first | rfl | (simp; done) | (simp [*]; done)), H', ⟨by first | omega | exact Nat.le_refl _⟩, ⟨by repeat (first | (with_reducible first | exact HB.out | apply below_alloc | apply pw_below_drewN | apply below_drew1) | exact HB.out)⟩⟩
      · rw [if_neg c6] at H
        exact absurd H (by simp)
    · rw [if_neg c5] at H
      have c5b0 : decide (a0 < 0) = false := decide_eq_false c5
      clear c5
      (first | rw [c5b0] | (simp only [i64_w, i32_w]; rw [c5b0]) | skip)
      have H' := Aside0.mk H
      clear H
      go_wp2
      repeat (go_quiet (fail); try go_wp2)
      go_meet
      case rel => exact ⟨_, (t101), ((⟨#[]⟩ : ByteArray)), (by first | rfl | (simp; done) | (simp [*]; done)), (by first | rfl | (simp; done) | (simp [*]; done)), H', ⟨by first | omega | exact Nat.le_refl _⟩, ⟨by repeat (first | (with_reducible first | exact HB.out | apply below_alloc | apply pw_below_drewN | apply below_drew1) | exact HB.out)⟩⟩
  case rest =>
    clear HC3
    try clear c1
    try clear p2
    try clear c5
    try clear c5b0
    try clear c6
    try clear c6b0
    try clear c6b1
    obtain ⟨kq, x3_2, x4_2, rfl, rfl, HA, HJ2, HB⟩ := hcut
    cases kq with
    | zero => exact absurd HA.out (by simp [report_Group.j0])
    | succ kj2 =>
      have H := HA.out
      clear HA
      simp only [report_Group.j0] at H
      have H' := Aside0.mk H
      clear H
      go_wp2
      repeat (go_quiet (fail); try go_wp2)
      go_loopg [3, 5] kj2 (fun kq v3 v5 w' => ∃ (x3_2 : ByteArray) (x5_2 : Int), v3 = .string x3_2 ∧ v5 = .int .i64 x5_2 ∧ Aside0 (report_Group.l0 kq x3_2 x4_2 x5_2 = some r) ∧ Aside0 (kq ≤ kj2) ∧ Aside0 (Below w.heap.size w w'))
      case atStart => exact ⟨(x3_2), (wrap64 ((x3_2.size : Int) - 3)), (by first | rfl | (simp; done) | (simp [*]; done)), (by first | rfl | (simp; done) | (simp [*]; done)), H', ⟨Nat.le_refl _⟩, ⟨by repeat (first | (with_reducible first | exact HB.out | apply below_alloc | apply pw_below_drewN | apply below_drew1) | exact HB.out)⟩⟩
      case round =>
        clear H'
        try clear c1
        try clear p2
        try clear c5
        try clear c5b0
        try clear c6
        try clear c6b0
        try clear c6b1
        try clear p6
        try clear p2
        obtain ⟨x3_2, x5_2, rfl, rfl, HA, HK2, HB⟩ := hrel
        cases gk with
        | zero => exact absurd HA.out (by simp [report_Group.l0])
        | succ k2 =>
          have H := HA.out
          clear HA
          simp only [report_Group.l0] at H
          by_cases c7 : x5_2 > 0
          · rw [if_pos c7] at H
            have c7b0 : decide (0 < x5_2) = true := decide_eq_true c7
            clear c7
            by_cases c8 : 0 ≤ x5_2
            · rw [if_pos c8] at H
              have c8b0 := eq_true c8
              have c8b1 : decide (0 ≤ x5_2) = true := decide_eq_true c8
              clear c8
              by_cases c9 : x5_2 ≤ (x3_2.size : Int)
              · rw [if_pos c9] at H
                have c9b0 := eq_true c9
                have c9b1 : decide (x5_2 ≤ (x3_2.size : Int)) = true := decide_eq_true c9
                clear c9
                by_cases c10 : (x3_2.extract 0 (x5_2 : Int).toNat).size + 1 ≤ 9223372036854775807
                · rw [if_pos c10] at H
                  have c10b0 := eq_true c10
                  have c10b1 : decide ((x3_2.extract 0 (x5_2 : Int).toNat).size + 1 ≤ 9223372036854775807) = true := decide_eq_true c10
                  try have c10b2 : (9223372036854775807 < (x3_2.extract 0 (x5_2 : Int).toNat).size + 1) = False := eq_false (Nat.not_lt.2 c10)
                  have c10s : (9223372036854775807 < x5_2.toNat + 1) = False := eq_false (by have h1 := c10; have h2 := of_eq_true c9b0; rw [show (x3_2.extract 0 (x5_2 : Int).toNat).size = x5_2.toNat from by simp; omega] at h1; omega)
                  have c11b0 := eq_true (of_decide_eq_true (by first | (with_reducible assumption) | assumption) : 0 ≤ x5_2)
                  have c12b0 := eq_true (of_decide_eq_true (by first | (with_reducible assumption) | assumption) : x5_2 ≤ (x3_2.size : Int))
                  by_cases c13 : ((x3_2.extract 0 (x5_2 : Int).toNat) ++ (⟨#[44]⟩ : ByteArray)).size + (x3_2.extract (x5_2 : Int).toNat x3_2.size).size ≤ 9223372036854775807
                  · rw [if_pos c13] at H
                    have c13b0 := eq_true c13
                    have c13b1 : decide (((x3_2.extract 0 (x5_2 : Int).toNat) ++ (⟨#[44]⟩ : ByteArray)).size + (x3_2.extract (x5_2 : Int).toNat x3_2.size).size ≤ 9223372036854775807) = true := decide_eq_true c13
                    try have c13b2 : (9223372036854775807 < ((x3_2.extract 0 (x5_2 : Int).toNat) ++ (⟨#[44]⟩ : ByteArray)).size + (x3_2.extract (x5_2 : Int).toNat x3_2.size).size) = False := eq_false (Nat.not_lt.2 c13)
                    have c13s : (9223372036854775807 < x5_2.toNat + 1 + (x3_2.size - x5_2.toNat)) = False := eq_false (by have h1 := c13; have h2 := of_eq_true c9b0; rw [ByteArray.size_append, show (x3_2.extract 0 (x5_2 : Int).toNat).size = x5_2.toNat from (by simp; omega), show (x3_2.extract (x5_2 : Int).toNat x3_2.size).size = x3_2.size - x5_2.toNat from (by simp), show (⟨#[44]⟩ : ByteArray).size = 1 from rfl] at h1; omega)
                    have H' := Aside0.mk H
                    clear H
                    go_wp2
                    repeat (go_quiet (fail); try go_wp2)
                    go_roundg k2
                    case measure => have := HJ2.out; have := HK2.out; omega
                    case rel => exact ⟨(((x3_2.extract 0 (x5_2 : Int).toNat) ++ (⟨#[44]⟩ : ByteArray)) ++ (x3_2.extract (x5_2 : Int).toNat x3_2.size)), (wrap64 (x5_2 - 3)), (by first | rfl | (simp; done) | (simp [*]; done)), (by first | rfl | (simp; done) | (simp [*]; done)), H', ⟨by have := HJ2.out; have := HK2.out; omega⟩, ⟨by repeat (first | (with_reducible first | exact HB.out | apply below_alloc | apply pw_below_drewN | apply below_drew1) | exact HB.out)⟩⟩
                  · rw [if_neg c13] at H
                    exact absurd H (by simp)
                · rw [if_neg c10] at H
                  exact absurd H (by simp)
              · rw [if_neg c9] at H
                exact absurd H (by simp)
            · rw [if_neg c8] at H
              exact absurd H (by simp)
          · rw [if_neg c7] at H
            have c7b0 : decide (0 < x5_2) = false := decide_eq_false c7
            clear c7
            by_cases c14 : x4_2.size + x3_2.size ≤ 9223372036854775807
            · rw [if_pos c14] at H
              have c14b0 := eq_true c14
              have c14b1 : decide (x4_2.size + x3_2.size ≤ 9223372036854775807) = true := decide_eq_true c14
              try have c14b2 : (9223372036854775807 < x4_2.size + x3_2.size) = False := eq_false (Nat.not_lt.2 c14)
              obtain rfl := Option.some.inj H
              go_wp2
              repeat (go_quiet (fail); try go_wp2)
              go_ret
              exact ⟨by first | rfl | (simp [errW_none, errW_some] <;> rfl) | (simp [*, errW_none, errW_some] <;> rfl), by repeat (first | (with_reducible first | exact HB.out | apply below_alloc | apply pw_below_drewN | apply below_drew1) | exact HB.out)⟩
            · rw [if_neg c14] at H
              exact absurd H (by simp)

/-! ### strings_Repeat: function 43 -/
def strings_Repeat.f (a0 : ByteArray) (a1 : Int) : Option (ByteArray) := if 0 ≤ a1 ∧ a1 ≤ 1000000 ∧ a0.size ≤ 1000 then some ⟨(Lib.repeatL a0.data.toList a1.toNat).toArray⟩ else none
theorem strings_Repeat.calls (a0 : ByteArray) (a1 : Int) (r : ByteArray) (w : World) (h : strings_Repeat.f a0 a1 = some r) :
    Calls Tryd.prog 43 #[.string a0, .int .i64 a1] w fun e w' => e = .returned (.string r) ∧ Below w.heap.size w w' := by
  unfold strings_Repeat.f at h
  by_cases c : 0 ≤ a1 ∧ a1 ≤ 1000000 ∧ a0.size ≤ 1000
  · rw [if_pos c] at h
    obtain rfl := Option.some.inj h
    obtain ⟨n, rfl⟩ := Int.eq_ofNat_of_zero_le c.1
    have hm : a0.size * n ≤ 1000 * 1000000 := Nat.mul_le_mul c.2.2 (by omega)
    exact Rp.repeat_calls a0 n (by omega) (by omega) w
  · rw [if_neg c] at h; cases h

/-! ### report_blanks: function 31 -/
def report_blanks.f (a0 : Int) : Option (ByteArray) := (strings_Repeat.f (⟨#[32]⟩ : ByteArray) (mx a0 0)).bind fun t102 => (some t102)
set_option maxHeartbeats 8000000 in
set_option maxRecDepth 100000 in
theorem report_blanks.calls (a0 : Int) (r : ByteArray) (w : World) (h : report_blanks.f a0 = some r) :
    Calls Tryd.prog 31 #[.int .i64 a0] w fun e w' => e = .returned (.string r) ∧ Below w.heap.size w w' := by
  have HB := Aside0.mk (Below.refl w.heap.size w)
  have H : ((strings_Repeat.f (⟨#[32]⟩ : ByteArray) (mx a0 0)).bind fun t102 => (some t102)) = some r := h
  clear h
  obtain ⟨ji2, hji2⟩ : ∃ j_ : Int, (mx a0 0) = j_ := ⟨_, rfl⟩
  replace H : ((strings_Repeat.f (⟨#[32]⟩ : ByteArray) (ji2)).bind fun t102 => (some t102)) = some r := by first | (rw [hji2] at H; exact H) | (simp only [hji2] at H ⊢; exact H)
  (try (have hji2l : 0 ≤ ji2 := by (rw [← hji2]; unfold mx; (repeat' split) <;> omega)))
  (try (have hji2m : 0 ≤ ji2 := by omega))
  have hji2_ : (if a0 < 0 then 0 else a0) = ji2 := hji2
  replace H := Option.bind_eq_some_iff.mp H
  obtain ⟨t102, A30, H⟩ := H
  replace H : (some t102) = some r := H
  have A3 := Aside0.mk A30
  clear A30
  obtain rfl := Option.some.inj H
  go_enter Tryd.func31, Tryd.ntmps31
  go_wp2_with (first | ((with_reducible refine gate_callee (f := 43) rfl ?_); refine goesL_ (some 5) rfl rfl Tryd.func43 (by kernel_rfl) rfl #[.string (⟨#[32]⟩ : ByteArray), .int .i64 ji2] rfl (by (try simp only [List.map_toArray, List.map_cons, List.map_nil]); first | done | (simp only [hji2]; rfl) | rfl | (simp only [List.length_drop, List.length_take]; rfl)) ?_; (with_reducible refine (strings_Repeat.calls (⟨#[32]⟩ : ByteArray) ji2 t102 _ A3.out).mono ?_); rintro e w4 ⟨rfl, hb⟩; refine ⟨_, rfl, ?_⟩; have n0_ := Aside0.mk (below_step (by repeat (first | (with_reducible first | exact HB.out | apply below_alloc | apply pw_below_drewN | apply below_drew1) | exact HB.out)) hb); clear HB; have HB := n0_; clear n0_; (try clear hb); (try clear hb2); (try clear hk); (try clear hi)))
  go_ret
  exact ⟨by first | rfl | (simp [errW_none, errW_some] <;> rfl) | (simp only [← hji2]; first | rfl | (simp [errW_none, errW_some] <;> rfl)) | (simp [*, errW_none, errW_some] <;> rfl), by repeat (first | (with_reducible first | exact HB.out | apply below_alloc | apply pw_below_drewN | apply below_drew1) | exact HB.out)⟩

/-! ### report_Left: function 16 -/
def report_Left.f (a0 : ByteArray) (a1 : Int) : Option (ByteArray) := (report_blanks.f (wrap64 ((mn a1 65536) - (a0.size : Int)))).bind fun t103 => (if a0.size + t103.size ≤ 9223372036854775807 then (some (a0 ++ t103)) else (none))
set_option maxHeartbeats 8000000 in
set_option maxRecDepth 100000 in
theorem report_Left.calls (a0 : ByteArray) (a1 : Int) (r : ByteArray) (w : World) (h : report_Left.f a0 a1 = some r) :
    Calls Tryd.prog 16 #[.string a0, .int .i64 a1] w fun e w' => e = .returned (.string r) ∧ Below w.heap.size w w' := by
  have HB := Aside0.mk (Below.refl w.heap.size w)
  have H : ((report_blanks.f (wrap64 ((mn a1 65536) - (a0.size : Int)))).bind fun t103 => (if a0.size + t103.size ≤ 9223372036854775807 then (some (a0 ++ t103)) else (none))) = some r := h
  clear h
  obtain ⟨ji3, hji3⟩ : ∃ j_ : Int, (mn a1 65536) = j_ := ⟨_, rfl⟩
  replace H : ((report_blanks.f (wrap64 ((ji3) - (a0.size : Int)))).bind fun t103 => (if a0.size + t103.size ≤ 9223372036854775807 then (some (a0 ++ t103)) else (none))) = some r := by first | (rw [hji3] at H; exact H) | (simp only [hji3] at H ⊢; exact H)
  (try (have hji3h : ji3 ≤ 65536 := by (rw [← hji3]; unfold mn; (repeat' split) <;> omega)))
  (try (have hji3g : ji3 ≤ 64 := by omega))
  have hji3_ : (if 65536 < a1 then 65536 else a1) = ji3 := hji3
  replace H := Option.bind_eq_some_iff.mp H
  obtain ⟨t103, A40, H⟩ := H
  replace H : (if a0.size + t103.size ≤ 9223372036854775807 then (some (a0 ++ t103)) else (none)) = some r := H
  have A4 := Aside0.mk A40
  clear A40
  by_cases c5 : a0.size + t103.size ≤ 9223372036854775807
  · rw [if_pos c5] at H
    have c5b0 := eq_true c5
    have c5b1 : decide (a0.size + t103.size ≤ 9223372036854775807) = true := decide_eq_true c5
    try have c5b2 : (9223372036854775807 < a0.size + t103.size) = False := eq_false (Nat.not_lt.2 c5)
    obtain rfl := Option.some.inj H
    go_enter Tryd.func16, Tryd.ntmps16
    go_wp2_with (first | ((with_reducible refine gate_callee (f := 31) rfl ?_); refine goesL_ (some 11) rfl rfl Tryd.func31 (by kernel_rfl) rfl #[.int .i64 (wrap64 ((ji3) - (a0.size : Int)))] rfl (by (try simp only [List.map_toArray, List.map_cons, List.map_nil]); first | done | (simp only [hji3]; rfl) | rfl | (simp only [List.length_drop, List.length_take]; rfl)) ?_; (with_reducible refine (report_blanks.calls (wrap64 ((ji3) - (a0.size : Int))) t103 _ A4.out).mono ?_); rintro e w6 ⟨rfl, hb⟩; refine ⟨_, rfl, ?_⟩; have n0_ := Aside0.mk (below_step (by repeat (first | (with_reducible first | exact HB.out | apply below_alloc | apply pw_below_drewN | apply below_drew1) | exact HB.out)) hb); clear HB; have HB := n0_; clear n0_; (try clear hb); (try clear hb2); (try clear hk); (try clear hi)))
    go_ret
    exact ⟨by first | rfl | (simp [errW_none, errW_some] <;> rfl) | (simp only [← hji3]; first | rfl | (simp [errW_none, errW_some] <;> rfl)) | (simp [*, errW_none, errW_some] <;> rfl), by repeat (first | (with_reducible first | exact HB.out | apply below_alloc | apply pw_below_drewN | apply below_drew1) | exact HB.out)⟩
  · rw [if_neg c5] at H
    exact absurd H (by simp)

/-! ### duffellaw34_lives: function 9 -/
def duffellaw34_lives.f (k : Nat)  : Option (Bool) := (report_Group.f k 1234567).bind fun t104 => (if t104.toList = ([49, 44, 50, 51, 52, 44, 53, 54, 55] : List UInt8) then ((report_Left.f (⟨#[97]⟩ : ByteArray) 2).bind fun t105 => (some (t105.toList == ([97, 32] : List UInt8)))) else (some false))
theorem duffellaw34_lives.mono : ∀ k, LeO (duffellaw34_lives.f k ) (duffellaw34_lives.f (k + 1) ) := by
  intro  k
  unfold duffellaw34_lives.f
  repeat' first
      | (with_reducible exact report_Group.mono _ _)
      | (with_reducible exact LeO.refl _)
      | (with_reducible exact LeO.none _)
      | (with_reducible refine LeO.ite ?_ ?_)
      | (with_reducible refine LeO.bind ?_ (fun _ => ?_))
      | exact report_Group.mono _ _
      | exact LeO.none _
      | refine LeO.ite ?_ ?_
      | refine LeO.bind ?_ (fun _ => ?_)
set_option maxHeartbeats 8000000 in
set_option maxRecDepth 100000 in
theorem duffellaw34_lives.calls (k : Nat)  (r : Bool) (w : World) (hT : Rp.Tabs w) (h : duffellaw34_lives.f k  = some r) :
    Calls Tryd.prog 9 #[] w fun e w' => e = .returned (.bool r) ∧ Below w.heap.size w w' := by
  have HT := Aside0.mk hT
  clear hT
  have HB := Aside0.mk (Below.refl w.heap.size w)
  have H : ((report_Group.f k 1234567).bind fun t104 => (if t104.toList = ([49, 44, 50, 51, 52, 44, 53, 54, 55] : List UInt8) then ((report_Left.f (⟨#[97]⟩ : ByteArray) 2).bind fun t105 => (some (t105.toList == ([97, 32] : List UInt8)))) else (some false))) = some r := h
  clear h
  replace H := Option.bind_eq_some_iff.mp H
  obtain ⟨t104, A10, H⟩ := H
  replace H : (if t104.toList = ([49, 44, 50, 51, 52, 44, 53, 54, 55] : List UInt8) then ((report_Left.f (⟨#[97]⟩ : ByteArray) 2).bind fun t105 => (some (t105.toList == ([97, 32] : List UInt8)))) else (some false)) = some r := H
  have A1 := Aside0.mk A10
  clear A10
  by_cases c2 : t104.toList = ([49, 44, 50, 51, 52, 44, 53, 54, 55] : List UInt8)
  · rw [if_pos c2] at H
    have c2b0 : (t104.toList == ([49, 44, 50, 51, 52, 44, 53, 54, 55] : List UInt8)) = true := beq_iff_eq.mpr c2
    have c2b1 : (t104.toList != ([49, 44, 50, 51, 52, 44, 53, 54, 55] : List UInt8)) = false := bne_eq_false_iff_eq.mpr c2
    clear c2
    replace H := Option.bind_eq_some_iff.mp H
    obtain ⟨t105, A30, H⟩ := H
    replace H : (some (t105.toList == ([97, 32] : List UInt8))) = some r := H
    have A3 := Aside0.mk A30
    clear A30
    obtain rfl := Option.some.inj H
    go_enter Tryd.func9, Tryd.ntmps9
    go_wp2_with (first | ((with_reducible refine gate_callee (f := 14) rfl ?_); refine goesL_ (some 1) rfl rfl Tryd.func14 (by kernel_rfl) rfl #[.int .i64 1234567] rfl (by (try simp only [List.map_toArray, List.map_cons, List.map_nil]); first | done | rfl | (simp only [List.length_drop, List.length_take]; rfl)) ?_; (with_reducible refine (report_Group.calls k 1234567 t104 _ (Rp.Tabs_below HT.out (by repeat (first | (with_reducible first | exact HB.out | apply below_alloc | apply pw_below_drewN | apply below_drew1) | exact HB.out))) A1.out).mono ?_); rintro e w4 ⟨rfl, hb⟩; refine ⟨_, rfl, ?_⟩; have n0_ := Aside0.mk (below_step (by repeat (first | (with_reducible first | exact HB.out | apply below_alloc | apply pw_below_drewN | apply below_drew1) | exact HB.out)) hb); clear HB; have HB := n0_; clear n0_; (try clear hb); (try clear hb2); (try clear hk); (try clear hi)) | (go_at_call 16; (with_reducible refine (report_Left.calls (⟨#[97]⟩ : ByteArray) 2 t105 _ A3.out).mono ?_); rintro e w5 ⟨rfl, hb⟩; have n0_ := Aside0.mk (below_step (by repeat (first | (with_reducible first | exact HB.out | apply below_alloc | apply pw_below_drewN | apply below_drew1) | exact HB.out)) hb); clear HB; have HB := n0_; clear n0_; (try clear hb); (try clear hb2); (try clear hk); (try clear hi)))
    go_ret
    exact ⟨by first | rfl | (simp [errW_none, errW_some] <;> rfl) | (simp [*, errW_none, errW_some] <;> rfl), by repeat (first | (with_reducible first | exact HB.out | apply below_alloc | apply pw_below_drewN | apply below_drew1) | exact HB.out)⟩
  · rw [if_neg c2] at H
    have c2b0 : (t104.toList == ([49, 44, 50, 51, 52, 44, 53, 54, 55] : List UInt8)) = false := beq_eq_false_iff_ne.mpr c2
    have c2b1 : (t104.toList != ([49, 44, 50, 51, 52, 44, 53, 54, 55] : List UInt8)) = true := bne_iff_ne.mpr c2
    obtain rfl := Option.some.inj H
    go_enter Tryd.func9, Tryd.ntmps9
    go_wp2_with (first | ((with_reducible refine gate_callee (f := 14) rfl ?_); refine goesL_ (some 1) rfl rfl Tryd.func14 (by kernel_rfl) rfl #[.int .i64 1234567] rfl (by (try simp only [List.map_toArray, List.map_cons, List.map_nil]); first | done | rfl | (simp only [List.length_drop, List.length_take]; rfl)) ?_; (with_reducible refine (report_Group.calls k 1234567 t104 _ (Rp.Tabs_below HT.out (by repeat (first | (with_reducible first | exact HB.out | apply below_alloc | apply pw_below_drewN | apply below_drew1) | exact HB.out))) A1.out).mono ?_); rintro e w6 ⟨rfl, hb⟩; refine ⟨_, rfl, ?_⟩; have n0_ := Aside0.mk (below_step (by repeat (first | (with_reducible first | exact HB.out | apply below_alloc | apply pw_below_drewN | apply below_drew1) | exact HB.out)) hb); clear HB; have HB := n0_; clear n0_; (try clear hb); (try clear hb2); (try clear hk); (try clear hi)))
    go_ret
    exact ⟨by first | rfl | (simp [errW_none, errW_some] <;> rfl) | (simp [*, errW_none, errW_some] <;> rfl), by repeat (first | (with_reducible first | exact HB.out | apply below_alloc | apply pw_below_drewN | apply below_drew1) | exact HB.out)⟩

/-! ### duffellaw34_ReportRatios: function 3 -/
def duffellaw34_ReportRatios.f (k : Nat) (a0 : Int) (a1 : Int) (a2 : Int) : Option (Bool) := (duffelref01_Within.f a0 1 1099511627776).bind fun t106 => ((duffelref01_Within.f a1 0 t106).bind fun t107 => ((duffelref01_Within.f a2 0 t107).bind fun t108 => ((report_Ratio.f t106 t107).bind fun t109 => ((report_Ratio.f t106 t108).bind fun t110 => (if t109 ≥ 0 then (if t109 ≤ t110 then (if t110 ≤ 100 then ((report_Ratio.f t106 0).bind fun t111 => (if t111 = 100 then ((report_Ratio.f t106 t106).bind fun t112 => (if t112 = 0 then ((duffellaw34_lives.f k).bind fun t113 => (some t113)) else (some false))) else (some false))) else (some false)) else (some false)) else (some false))))))
theorem duffellaw34_ReportRatios.mono : ∀ a0 a1 a2 k, LeO (duffellaw34_ReportRatios.f k a0 a1 a2) (duffellaw34_ReportRatios.f (k + 1) a0 a1 a2) := by
  intro a0 a1 a2 k
  unfold duffellaw34_ReportRatios.f
  repeat' first
      | (with_reducible exact duffellaw34_lives.mono _)
      | (with_reducible exact LeO.refl _)
      | (with_reducible exact LeO.none _)
      | (with_reducible refine LeO.ite ?_ ?_)
      | (with_reducible refine LeO.bind ?_ (fun _ => ?_))
      | exact duffellaw34_lives.mono _
      | exact LeO.none _
      | refine LeO.ite ?_ ?_
      | refine LeO.bind ?_ (fun _ => ?_)
set_option maxHeartbeats 8000000 in
set_option maxRecDepth 100000 in
theorem duffellaw34_ReportRatios.calls (k : Nat) (a0 : Int) (a1 : Int) (a2 : Int) (r : Bool) (w : World) (hT : Rp.Tabs w) (h : duffellaw34_ReportRatios.f k a0 a1 a2 = some r) :
    Calls Tryd.prog 3 #[.int .i64 a0, .int .i64 a1, .int .i64 a2] w fun e w' => e = .returned (.bool r) ∧ Below w.heap.size w w' := by
  have HT := Aside0.mk hT
  clear hT
  have HB := Aside0.mk (Below.refl w.heap.size w)
  have H : ((duffelref01_Within.f a0 1 1099511627776).bind fun t106 => ((duffelref01_Within.f a1 0 t106).bind fun t107 => ((duffelref01_Within.f a2 0 t107).bind fun t108 => ((report_Ratio.f t106 t107).bind fun t109 => ((report_Ratio.f t106 t108).bind fun t110 => (if t109 ≥ 0 then (if t109 ≤ t110 then (if t110 ≤ 100 then ((report_Ratio.f t106 0).bind fun t111 => (if t111 = 100 then ((report_Ratio.f t106 t106).bind fun t112 => (if t112 = 0 then ((duffellaw34_lives.f k).bind fun t113 => (some t113)) else (some false))) else (some false))) else (some false)) else (some false)) else (some false))))))) = some r := h
  clear h
  replace H := Option.bind_eq_some_iff.mp H
  obtain ⟨t106, A40, H⟩ := H
  replace H : ((duffelref01_Within.f a1 0 t106).bind fun t107 => ((duffelref01_Within.f a2 0 t107).bind fun t108 => ((report_Ratio.f t106 t107).bind fun t109 => ((report_Ratio.f t106 t108).bind fun t110 => (if t109 ≥ 0 then (if t109 ≤ t110 then (if t110 ≤ 100 then ((report_Ratio.f t106 0).bind fun t111 => (if t111 = 100 then ((report_Ratio.f t106 t106).bind fun t112 => (if t112 = 0 then ((duffellaw34_lives.f k).bind fun t113 => (some t113)) else (some false))) else (some false))) else (some false)) else (some false)) else (some false)))))) = some r := H
  have A4 := Aside0.mk A40
  clear A40
  replace H := Option.bind_eq_some_iff.mp H
  obtain ⟨t107, A50, H⟩ := H
  replace H : ((duffelref01_Within.f a2 0 t107).bind fun t108 => ((report_Ratio.f t106 t107).bind fun t109 => ((report_Ratio.f t106 t108).bind fun t110 => (if t109 ≥ 0 then (if t109 ≤ t110 then (if t110 ≤ 100 then ((report_Ratio.f t106 0).bind fun t111 => (if t111 = 100 then ((report_Ratio.f t106 t106).bind fun t112 => (if t112 = 0 then ((duffellaw34_lives.f k).bind fun t113 => (some t113)) else (some false))) else (some false))) else (some false)) else (some false)) else (some false))))) = some r := H
  have A5 := Aside0.mk A50
  clear A50
  replace H := Option.bind_eq_some_iff.mp H
  obtain ⟨t108, A60, H⟩ := H
  replace H : ((report_Ratio.f t106 t107).bind fun t109 => ((report_Ratio.f t106 t108).bind fun t110 => (if t109 ≥ 0 then (if t109 ≤ t110 then (if t110 ≤ 100 then ((report_Ratio.f t106 0).bind fun t111 => (if t111 = 100 then ((report_Ratio.f t106 t106).bind fun t112 => (if t112 = 0 then ((duffellaw34_lives.f k).bind fun t113 => (some t113)) else (some false))) else (some false))) else (some false)) else (some false)) else (some false)))) = some r := H
  have A6 := Aside0.mk A60
  clear A60
  replace H := Option.bind_eq_some_iff.mp H
  obtain ⟨t109, A70, H⟩ := H
  replace H : ((report_Ratio.f t106 t108).bind fun t110 => (if t109 ≥ 0 then (if t109 ≤ t110 then (if t110 ≤ 100 then ((report_Ratio.f t106 0).bind fun t111 => (if t111 = 100 then ((report_Ratio.f t106 t106).bind fun t112 => (if t112 = 0 then ((duffellaw34_lives.f k).bind fun t113 => (some t113)) else (some false))) else (some false))) else (some false)) else (some false)) else (some false))) = some r := H
  have A7 := Aside0.mk A70
  clear A70
  replace H := Option.bind_eq_some_iff.mp H
  obtain ⟨t110, A80, H⟩ := H
  replace H : (if t109 ≥ 0 then (if t109 ≤ t110 then (if t110 ≤ 100 then ((report_Ratio.f t106 0).bind fun t111 => (if t111 = 100 then ((report_Ratio.f t106 t106).bind fun t112 => (if t112 = 0 then ((duffellaw34_lives.f k).bind fun t113 => (some t113)) else (some false))) else (some false))) else (some false)) else (some false)) else (some false)) = some r := H
  have A8 := Aside0.mk A80
  clear A80
  by_cases c9 : t109 ≥ 0
  · rw [if_pos c9] at H
    have c9b0 : decide (0 ≤ t109) = true := decide_eq_true c9
    clear c9
    by_cases c10 : t109 ≤ t110
    · rw [if_pos c10] at H
      have c10b0 : decide (t109 ≤ t110) = true := decide_eq_true c10
      clear c10
      by_cases c11 : t110 ≤ 100
      · rw [if_pos c11] at H
        have c11b0 : decide (t110 ≤ 100) = true := decide_eq_true c11
        clear c11
        replace H := Option.bind_eq_some_iff.mp H
        obtain ⟨t111, A120, H⟩ := H
        replace H : (if t111 = 100 then ((report_Ratio.f t106 t106).bind fun t112 => (if t112 = 0 then ((duffellaw34_lives.f k).bind fun t113 => (some t113)) else (some false))) else (some false)) = some r := H
        have A12 := Aside0.mk A120
        clear A120
        by_cases c13 : t111 = 100
        · rw [if_pos c13] at H
          have c13b0 : (t111 == 100) = true := beq_iff_eq.mpr c13
          have c13b1 : (t111 != 100) = false := bne_eq_false_iff_eq.mpr c13
          clear c13
          replace H := Option.bind_eq_some_iff.mp H
          obtain ⟨t112, A140, H⟩ := H
          replace H : (if t112 = 0 then ((duffellaw34_lives.f k).bind fun t113 => (some t113)) else (some false)) = some r := H
          have A14 := Aside0.mk A140
          clear A140
          by_cases c15 : t112 = 0
          · rw [if_pos c15] at H
            have c15b0 : (t112 == 0) = true := beq_iff_eq.mpr c15
            have c15b1 : (t112 != 0) = false := bne_eq_false_iff_eq.mpr c15
            clear c15
            replace H := Option.bind_eq_some_iff.mp H
            obtain ⟨t113, A160, H⟩ := H
            replace H : (some t113) = some r := H
            have A16 := Aside0.mk A160
            clear A160
            obtain rfl := Option.some.inj H
            go_enter Tryd.func3, Tryd.ntmps3
            go_wp2_with (first | ((with_reducible refine gate_callee (f := 7) rfl ?_); refine goesL_ (some 10) rfl rfl Tryd.func7 (by kernel_rfl) rfl #[.int .i64 a0, .int .i64 1, .int .i64 1099511627776] rfl (by (try simp only [List.map_toArray, List.map_cons, List.map_nil]); first | done | rfl | (simp only [List.length_drop, List.length_take]; rfl)) ?_; (with_reducible refine (duffelref01_Within.calls a0 1 1099511627776 t106 _ A4.out).mono ?_); rintro e w' ⟨rfl, ⟨nd, rfl⟩⟩; (try clear A4); refine ⟨_, rfl, ?_⟩) | (go_at_call 7; (with_reducible refine (duffelref01_Within.calls a0 1 1099511627776 t106 _ A4.out).mono ?_); rintro e w' ⟨rfl, ⟨nd, rfl⟩⟩; (try clear A4)) | ((with_reducible refine gate_callee (f := 7) rfl ?_); refine goesL_ (some 13) rfl rfl Tryd.func7 (by kernel_rfl) rfl #[.int .i64 a1, .int .i64 0, .int .i64 t106] rfl (by (try simp only [List.map_toArray, List.map_cons, List.map_nil]); first | done | rfl | (simp only [List.length_drop, List.length_take]; rfl)) ?_; (with_reducible refine (duffelref01_Within.calls a1 0 t106 t107 _ A5.out).mono ?_); rintro e w' ⟨rfl, ⟨nd, rfl⟩⟩; (try clear A5); refine ⟨_, rfl, ?_⟩) | (go_at_call 7; (with_reducible refine (duffelref01_Within.calls a1 0 t106 t107 _ A5.out).mono ?_); rintro e w' ⟨rfl, ⟨nd, rfl⟩⟩; (try clear A5)) | ((with_reducible refine gate_callee (f := 7) rfl ?_); refine goesL_ (some 16) rfl rfl Tryd.func7 (by kernel_rfl) rfl #[.int .i64 a2, .int .i64 0, .int .i64 t107] rfl (by (try simp only [List.map_toArray, List.map_cons, List.map_nil]); first | done | rfl | (simp only [List.length_drop, List.length_take]; rfl)) ?_; (with_reducible refine (duffelref01_Within.calls a2 0 t107 t108 _ A6.out).mono ?_); rintro e w' ⟨rfl, ⟨nd, rfl⟩⟩; (try clear A6); refine ⟨_, rfl, ?_⟩) | (go_at_call 7; (with_reducible refine (duffelref01_Within.calls a2 0 t107 t108 _ A6.out).mono ?_); rintro e w' ⟨rfl, ⟨nd, rfl⟩⟩; (try clear A6)) | ((with_reducible refine gate_callee (f := 8) rfl ?_); refine goesL_ (some 19) rfl rfl Tryd.func8 (by kernel_rfl) rfl #[.int .i64 t106, .int .i64 t107] rfl (by (try simp only [List.map_toArray, List.map_cons, List.map_nil]); first | done | rfl | (simp only [List.length_drop, List.length_take]; rfl)) ?_; (with_reducible refine (report_Ratio.calls t106 t107 t109 _ A7.out).mono ?_); rintro e w' ⟨rfl, ⟨nd, rfl⟩⟩; (try clear A7); refine ⟨_, rfl, ?_⟩) | (go_at_call 8; (with_reducible refine (report_Ratio.calls t106 t107 t109 _ A7.out).mono ?_); rintro e w' ⟨rfl, ⟨nd, rfl⟩⟩; (try clear A7)) | ((with_reducible refine gate_callee (f := 8) rfl ?_); refine goesL_ (some 22) rfl rfl Tryd.func8 (by kernel_rfl) rfl #[.int .i64 t106, .int .i64 t108] rfl (by (try simp only [List.map_toArray, List.map_cons, List.map_nil]); first | done | rfl | (simp only [List.length_drop, List.length_take]; rfl)) ?_; (with_reducible refine (report_Ratio.calls t106 t108 t110 _ A8.out).mono ?_); rintro e w' ⟨rfl, ⟨nd, rfl⟩⟩; (try clear A8); refine ⟨_, rfl, ?_⟩) | (go_at_call 8; (with_reducible refine (report_Ratio.calls t106 t108 t110 _ A8.out).mono ?_); rintro e w' ⟨rfl, ⟨nd, rfl⟩⟩; (try clear A8)) | (go_at_call 8; (with_reducible refine (report_Ratio.calls t106 0 t111 _ A12.out).mono ?_); rintro e w' ⟨rfl, ⟨nd, rfl⟩⟩) | (go_at_call 8; (try clear A12); (with_reducible refine (report_Ratio.calls t106 t106 t112 _ A14.out).mono ?_); rintro e w' ⟨rfl, ⟨nd, rfl⟩⟩) | (go_at_call 9; (try clear A14); (with_reducible refine (duffellaw34_lives.calls k  t113 _ (Rp.Tabs_below HT.out (by repeat (first | (with_reducible first | exact HB.out | apply below_alloc | apply pw_below_drewN | apply below_drew1) | exact HB.out))) A16.out).mono ?_); rintro e w17 ⟨rfl, hb⟩; have n0_ := Aside0.mk (below_step (by repeat (first | (with_reducible first | exact HB.out | apply below_alloc | apply pw_below_drewN | apply below_drew1) | exact HB.out)) hb); clear HB; have HB := n0_; clear n0_; (try clear hb); (try clear hb2); (try clear hk); (try clear hi)))
            go_ret
            exact ⟨by first | rfl | (simp [errW_none, errW_some] <;> rfl) | (simp [*, errW_none, errW_some] <;> rfl), by repeat (first | (with_reducible first | exact HB.out | apply below_alloc | apply pw_below_drewN | apply below_drew1) | exact HB.out)⟩
          · rw [if_neg c15] at H
            have c15b0 : (t112 == 0) = false := beq_eq_false_iff_ne.mpr c15
            have c15b1 : (t112 != 0) = true := bne_iff_ne.mpr c15
            obtain rfl := Option.some.inj H
            go_enter Tryd.func3, Tryd.ntmps3
            go_wp2_with (first | ((with_reducible refine gate_callee (f := 7) rfl ?_); refine goesL_ (some 10) rfl rfl Tryd.func7 (by kernel_rfl) rfl #[.int .i64 a0, .int .i64 1, .int .i64 1099511627776] rfl (by (try simp only [List.map_toArray, List.map_cons, List.map_nil]); first | done | rfl | (simp only [List.length_drop, List.length_take]; rfl)) ?_; (with_reducible refine (duffelref01_Within.calls a0 1 1099511627776 t106 _ A4.out).mono ?_); rintro e w' ⟨rfl, ⟨nd, rfl⟩⟩; (try clear A4); refine ⟨_, rfl, ?_⟩) | (go_at_call 7; (with_reducible refine (duffelref01_Within.calls a0 1 1099511627776 t106 _ A4.out).mono ?_); rintro e w' ⟨rfl, ⟨nd, rfl⟩⟩; (try clear A4)) | ((with_reducible refine gate_callee (f := 7) rfl ?_); refine goesL_ (some 13) rfl rfl Tryd.func7 (by kernel_rfl) rfl #[.int .i64 a1, .int .i64 0, .int .i64 t106] rfl (by (try simp only [List.map_toArray, List.map_cons, List.map_nil]); first | done | rfl | (simp only [List.length_drop, List.length_take]; rfl)) ?_; (with_reducible refine (duffelref01_Within.calls a1 0 t106 t107 _ A5.out).mono ?_); rintro e w' ⟨rfl, ⟨nd, rfl⟩⟩; (try clear A5); refine ⟨_, rfl, ?_⟩) | (go_at_call 7; (with_reducible refine (duffelref01_Within.calls a1 0 t106 t107 _ A5.out).mono ?_); rintro e w' ⟨rfl, ⟨nd, rfl⟩⟩; (try clear A5)) | ((with_reducible refine gate_callee (f := 7) rfl ?_); refine goesL_ (some 16) rfl rfl Tryd.func7 (by kernel_rfl) rfl #[.int .i64 a2, .int .i64 0, .int .i64 t107] rfl (by (try simp only [List.map_toArray, List.map_cons, List.map_nil]); first | done | rfl | (simp only [List.length_drop, List.length_take]; rfl)) ?_; (with_reducible refine (duffelref01_Within.calls a2 0 t107 t108 _ A6.out).mono ?_); rintro e w' ⟨rfl, ⟨nd, rfl⟩⟩; (try clear A6); refine ⟨_, rfl, ?_⟩) | (go_at_call 7; (with_reducible refine (duffelref01_Within.calls a2 0 t107 t108 _ A6.out).mono ?_); rintro e w' ⟨rfl, ⟨nd, rfl⟩⟩; (try clear A6)) | ((with_reducible refine gate_callee (f := 8) rfl ?_); refine goesL_ (some 19) rfl rfl Tryd.func8 (by kernel_rfl) rfl #[.int .i64 t106, .int .i64 t107] rfl (by (try simp only [List.map_toArray, List.map_cons, List.map_nil]); first | done | rfl | (simp only [List.length_drop, List.length_take]; rfl)) ?_; (with_reducible refine (report_Ratio.calls t106 t107 t109 _ A7.out).mono ?_); rintro e w' ⟨rfl, ⟨nd, rfl⟩⟩; (try clear A7); refine ⟨_, rfl, ?_⟩) | (go_at_call 8; (with_reducible refine (report_Ratio.calls t106 t107 t109 _ A7.out).mono ?_); rintro e w' ⟨rfl, ⟨nd, rfl⟩⟩; (try clear A7)) | ((with_reducible refine gate_callee (f := 8) rfl ?_); refine goesL_ (some 22) rfl rfl Tryd.func8 (by kernel_rfl) rfl #[.int .i64 t106, .int .i64 t108] rfl (by (try simp only [List.map_toArray, List.map_cons, List.map_nil]); first | done | rfl | (simp only [List.length_drop, List.length_take]; rfl)) ?_; (with_reducible refine (report_Ratio.calls t106 t108 t110 _ A8.out).mono ?_); rintro e w' ⟨rfl, ⟨nd, rfl⟩⟩; (try clear A8); refine ⟨_, rfl, ?_⟩) | (go_at_call 8; (with_reducible refine (report_Ratio.calls t106 t108 t110 _ A8.out).mono ?_); rintro e w' ⟨rfl, ⟨nd, rfl⟩⟩; (try clear A8)) | (go_at_call 8; (with_reducible refine (report_Ratio.calls t106 0 t111 _ A12.out).mono ?_); rintro e w' ⟨rfl, ⟨nd, rfl⟩⟩) | (go_at_call 8; (try clear A12); (with_reducible refine (report_Ratio.calls t106 t106 t112 _ A14.out).mono ?_); rintro e w' ⟨rfl, ⟨nd, rfl⟩⟩))
            go_ret
            exact ⟨by first | rfl | (simp [errW_none, errW_some] <;> rfl) | (simp [*, errW_none, errW_some] <;> rfl), by repeat (first | (with_reducible first | exact HB.out | apply below_alloc | apply pw_below_drewN | apply below_drew1) | exact HB.out)⟩
        · rw [if_neg c13] at H
          have c13b0 : (t111 == 100) = false := beq_eq_false_iff_ne.mpr c13
          have c13b1 : (t111 != 100) = true := bne_iff_ne.mpr c13
          obtain rfl := Option.some.inj H
          go_enter Tryd.func3, Tryd.ntmps3
          go_wp2_with (first | ((with_reducible refine gate_callee (f := 7) rfl ?_); refine goesL_ (some 10) rfl rfl Tryd.func7 (by kernel_rfl) rfl #[.int .i64 a0, .int .i64 1, .int .i64 1099511627776] rfl (by (try simp only [List.map_toArray, List.map_cons, List.map_nil]); first | done | rfl | (simp only [List.length_drop, List.length_take]; rfl)) ?_; (with_reducible refine (duffelref01_Within.calls a0 1 1099511627776 t106 _ A4.out).mono ?_); rintro e w' ⟨rfl, ⟨nd, rfl⟩⟩; (try clear A4); refine ⟨_, rfl, ?_⟩) | (go_at_call 7; (with_reducible refine (duffelref01_Within.calls a0 1 1099511627776 t106 _ A4.out).mono ?_); rintro e w' ⟨rfl, ⟨nd, rfl⟩⟩; (try clear A4)) | ((with_reducible refine gate_callee (f := 7) rfl ?_); refine goesL_ (some 13) rfl rfl Tryd.func7 (by kernel_rfl) rfl #[.int .i64 a1, .int .i64 0, .int .i64 t106] rfl (by (try simp only [List.map_toArray, List.map_cons, List.map_nil]); first | done | rfl | (simp only [List.length_drop, List.length_take]; rfl)) ?_; (with_reducible refine (duffelref01_Within.calls a1 0 t106 t107 _ A5.out).mono ?_); rintro e w' ⟨rfl, ⟨nd, rfl⟩⟩; (try clear A5); refine ⟨_, rfl, ?_⟩) | (go_at_call 7; (with_reducible refine (duffelref01_Within.calls a1 0 t106 t107 _ A5.out).mono ?_); rintro e w' ⟨rfl, ⟨nd, rfl⟩⟩; (try clear A5)) | ((with_reducible refine gate_callee (f := 7) rfl ?_); refine goesL_ (some 16) rfl rfl Tryd.func7 (by kernel_rfl) rfl #[.int .i64 a2, .int .i64 0, .int .i64 t107] rfl (by (try simp only [List.map_toArray, List.map_cons, List.map_nil]); first | done | rfl | (simp only [List.length_drop, List.length_take]; rfl)) ?_; (with_reducible refine (duffelref01_Within.calls a2 0 t107 t108 _ A6.out).mono ?_); rintro e w' ⟨rfl, ⟨nd, rfl⟩⟩; (try clear A6); refine ⟨_, rfl, ?_⟩) | (go_at_call 7; (with_reducible refine (duffelref01_Within.calls a2 0 t107 t108 _ A6.out).mono ?_); rintro e w' ⟨rfl, ⟨nd, rfl⟩⟩; (try clear A6)) | ((with_reducible refine gate_callee (f := 8) rfl ?_); refine goesL_ (some 19) rfl rfl Tryd.func8 (by kernel_rfl) rfl #[.int .i64 t106, .int .i64 t107] rfl (by (try simp only [List.map_toArray, List.map_cons, List.map_nil]); first | done | rfl | (simp only [List.length_drop, List.length_take]; rfl)) ?_; (with_reducible refine (report_Ratio.calls t106 t107 t109 _ A7.out).mono ?_); rintro e w' ⟨rfl, ⟨nd, rfl⟩⟩; (try clear A7); refine ⟨_, rfl, ?_⟩) | (go_at_call 8; (with_reducible refine (report_Ratio.calls t106 t107 t109 _ A7.out).mono ?_); rintro e w' ⟨rfl, ⟨nd, rfl⟩⟩; (try clear A7)) | ((with_reducible refine gate_callee (f := 8) rfl ?_); refine goesL_ (some 22) rfl rfl Tryd.func8 (by kernel_rfl) rfl #[.int .i64 t106, .int .i64 t108] rfl (by (try simp only [List.map_toArray, List.map_cons, List.map_nil]); first | done | rfl | (simp only [List.length_drop, List.length_take]; rfl)) ?_; (with_reducible refine (report_Ratio.calls t106 t108 t110 _ A8.out).mono ?_); rintro e w' ⟨rfl, ⟨nd, rfl⟩⟩; (try clear A8); refine ⟨_, rfl, ?_⟩) | (go_at_call 8; (with_reducible refine (report_Ratio.calls t106 t108 t110 _ A8.out).mono ?_); rintro e w' ⟨rfl, ⟨nd, rfl⟩⟩; (try clear A8)) | (go_at_call 8; (with_reducible refine (report_Ratio.calls t106 0 t111 _ A12.out).mono ?_); rintro e w' ⟨rfl, ⟨nd, rfl⟩⟩))
          go_ret
          exact ⟨by first | rfl | (simp [errW_none, errW_some] <;> rfl) | (simp [*, errW_none, errW_some] <;> rfl), by repeat (first | (with_reducible first | exact HB.out | apply below_alloc | apply pw_below_drewN | apply below_drew1) | exact HB.out)⟩
      · rw [if_neg c11] at H
        have c11b0 : decide (t110 ≤ 100) = false := decide_eq_false c11
        clear c11
        obtain rfl := Option.some.inj H
        go_enter Tryd.func3, Tryd.ntmps3
        go_wp2_with (first | ((with_reducible refine gate_callee (f := 7) rfl ?_); refine goesL_ (some 10) rfl rfl Tryd.func7 (by kernel_rfl) rfl #[.int .i64 a0, .int .i64 1, .int .i64 1099511627776] rfl (by (try simp only [List.map_toArray, List.map_cons, List.map_nil]); first | done | rfl | (simp only [List.length_drop, List.length_take]; rfl)) ?_; (with_reducible refine (duffelref01_Within.calls a0 1 1099511627776 t106 _ A4.out).mono ?_); rintro e w' ⟨rfl, ⟨nd, rfl⟩⟩; (try clear A4); refine ⟨_, rfl, ?_⟩) | (go_at_call 7; (with_reducible refine (duffelref01_Within.calls a0 1 1099511627776 t106 _ A4.out).mono ?_); rintro e w' ⟨rfl, ⟨nd, rfl⟩⟩; (try clear A4)) | ((with_reducible refine gate_callee (f := 7) rfl ?_); refine goesL_ (some 13) rfl rfl Tryd.func7 (by kernel_rfl) rfl #[.int .i64 a1, .int .i64 0, .int .i64 t106] rfl (by (try simp only [List.map_toArray, List.map_cons, List.map_nil]); first | done | rfl | (simp only [List.length_drop, List.length_take]; rfl)) ?_; (with_reducible refine (duffelref01_Within.calls a1 0 t106 t107 _ A5.out).mono ?_); rintro e w' ⟨rfl, ⟨nd, rfl⟩⟩; (try clear A5); refine ⟨_, rfl, ?_⟩) | (go_at_call 7; (with_reducible refine (duffelref01_Within.calls a1 0 t106 t107 _ A5.out).mono ?_); rintro e w' ⟨rfl, ⟨nd, rfl⟩⟩; (try clear A5)) | ((with_reducible refine gate_callee (f := 7) rfl ?_); refine goesL_ (some 16) rfl rfl Tryd.func7 (by kernel_rfl) rfl #[.int .i64 a2, .int .i64 0, .int .i64 t107] rfl (by (try simp only [List.map_toArray, List.map_cons, List.map_nil]); first | done | rfl | (simp only [List.length_drop, List.length_take]; rfl)) ?_; (with_reducible refine (duffelref01_Within.calls a2 0 t107 t108 _ A6.out).mono ?_); rintro e w' ⟨rfl, ⟨nd, rfl⟩⟩; (try clear A6); refine ⟨_, rfl, ?_⟩) | (go_at_call 7; (with_reducible refine (duffelref01_Within.calls a2 0 t107 t108 _ A6.out).mono ?_); rintro e w' ⟨rfl, ⟨nd, rfl⟩⟩; (try clear A6)) | ((with_reducible refine gate_callee (f := 8) rfl ?_); refine goesL_ (some 19) rfl rfl Tryd.func8 (by kernel_rfl) rfl #[.int .i64 t106, .int .i64 t107] rfl (by (try simp only [List.map_toArray, List.map_cons, List.map_nil]); first | done | rfl | (simp only [List.length_drop, List.length_take]; rfl)) ?_; (with_reducible refine (report_Ratio.calls t106 t107 t109 _ A7.out).mono ?_); rintro e w' ⟨rfl, ⟨nd, rfl⟩⟩; (try clear A7); refine ⟨_, rfl, ?_⟩) | (go_at_call 8; (with_reducible refine (report_Ratio.calls t106 t107 t109 _ A7.out).mono ?_); rintro e w' ⟨rfl, ⟨nd, rfl⟩⟩; (try clear A7)) | ((with_reducible refine gate_callee (f := 8) rfl ?_); refine goesL_ (some 22) rfl rfl Tryd.func8 (by kernel_rfl) rfl #[.int .i64 t106, .int .i64 t108] rfl (by (try simp only [List.map_toArray, List.map_cons, List.map_nil]); first | done | rfl | (simp only [List.length_drop, List.length_take]; rfl)) ?_; (with_reducible refine (report_Ratio.calls t106 t108 t110 _ A8.out).mono ?_); rintro e w' ⟨rfl, ⟨nd, rfl⟩⟩; (try clear A8); refine ⟨_, rfl, ?_⟩) | (go_at_call 8; (with_reducible refine (report_Ratio.calls t106 t108 t110 _ A8.out).mono ?_); rintro e w' ⟨rfl, ⟨nd, rfl⟩⟩; (try clear A8)))
        go_ret
        exact ⟨by first | rfl | (simp [errW_none, errW_some] <;> rfl) | (simp [*, errW_none, errW_some] <;> rfl), by repeat (first | (with_reducible first | exact HB.out | apply below_alloc | apply pw_below_drewN | apply below_drew1) | exact HB.out)⟩
    · rw [if_neg c10] at H
      have c10b0 : decide (t109 ≤ t110) = false := decide_eq_false c10
      clear c10
      obtain rfl := Option.some.inj H
      go_enter Tryd.func3, Tryd.ntmps3
      go_wp2_with (first | ((with_reducible refine gate_callee (f := 7) rfl ?_); refine goesL_ (some 10) rfl rfl Tryd.func7 (by kernel_rfl) rfl #[.int .i64 a0, .int .i64 1, .int .i64 1099511627776] rfl (by (try simp only [List.map_toArray, List.map_cons, List.map_nil]); first | done | rfl | (simp only [List.length_drop, List.length_take]; rfl)) ?_; (with_reducible refine (duffelref01_Within.calls a0 1 1099511627776 t106 _ A4.out).mono ?_); rintro e w' ⟨rfl, ⟨nd, rfl⟩⟩; (try clear A4); refine ⟨_, rfl, ?_⟩) | (go_at_call 7; (with_reducible refine (duffelref01_Within.calls a0 1 1099511627776 t106 _ A4.out).mono ?_); rintro e w' ⟨rfl, ⟨nd, rfl⟩⟩; (try clear A4)) | ((with_reducible refine gate_callee (f := 7) rfl ?_); refine goesL_ (some 13) rfl rfl Tryd.func7 (by kernel_rfl) rfl #[.int .i64 a1, .int .i64 0, .int .i64 t106] rfl (by (try simp only [List.map_toArray, List.map_cons, List.map_nil]); first | done | rfl | (simp only [List.length_drop, List.length_take]; rfl)) ?_; (with_reducible refine (duffelref01_Within.calls a1 0 t106 t107 _ A5.out).mono ?_); rintro e w' ⟨rfl, ⟨nd, rfl⟩⟩; (try clear A5); refine ⟨_, rfl, ?_⟩) | (go_at_call 7; (with_reducible refine (duffelref01_Within.calls a1 0 t106 t107 _ A5.out).mono ?_); rintro e w' ⟨rfl, ⟨nd, rfl⟩⟩; (try clear A5)) | ((with_reducible refine gate_callee (f := 7) rfl ?_); refine goesL_ (some 16) rfl rfl Tryd.func7 (by kernel_rfl) rfl #[.int .i64 a2, .int .i64 0, .int .i64 t107] rfl (by (try simp only [List.map_toArray, List.map_cons, List.map_nil]); first | done | rfl | (simp only [List.length_drop, List.length_take]; rfl)) ?_; (with_reducible refine (duffelref01_Within.calls a2 0 t107 t108 _ A6.out).mono ?_); rintro e w' ⟨rfl, ⟨nd, rfl⟩⟩; (try clear A6); refine ⟨_, rfl, ?_⟩) | (go_at_call 7; (with_reducible refine (duffelref01_Within.calls a2 0 t107 t108 _ A6.out).mono ?_); rintro e w' ⟨rfl, ⟨nd, rfl⟩⟩; (try clear A6)) | ((with_reducible refine gate_callee (f := 8) rfl ?_); refine goesL_ (some 19) rfl rfl Tryd.func8 (by kernel_rfl) rfl #[.int .i64 t106, .int .i64 t107] rfl (by (try simp only [List.map_toArray, List.map_cons, List.map_nil]); first | done | rfl | (simp only [List.length_drop, List.length_take]; rfl)) ?_; (with_reducible refine (report_Ratio.calls t106 t107 t109 _ A7.out).mono ?_); rintro e w' ⟨rfl, ⟨nd, rfl⟩⟩; (try clear A7); refine ⟨_, rfl, ?_⟩) | (go_at_call 8; (with_reducible refine (report_Ratio.calls t106 t107 t109 _ A7.out).mono ?_); rintro e w' ⟨rfl, ⟨nd, rfl⟩⟩; (try clear A7)) | ((with_reducible refine gate_callee (f := 8) rfl ?_); refine goesL_ (some 22) rfl rfl Tryd.func8 (by kernel_rfl) rfl #[.int .i64 t106, .int .i64 t108] rfl (by (try simp only [List.map_toArray, List.map_cons, List.map_nil]); first | done | rfl | (simp only [List.length_drop, List.length_take]; rfl)) ?_; (with_reducible refine (report_Ratio.calls t106 t108 t110 _ A8.out).mono ?_); rintro e w' ⟨rfl, ⟨nd, rfl⟩⟩; (try clear A8); refine ⟨_, rfl, ?_⟩) | (go_at_call 8; (with_reducible refine (report_Ratio.calls t106 t108 t110 _ A8.out).mono ?_); rintro e w' ⟨rfl, ⟨nd, rfl⟩⟩; (try clear A8)))
      go_ret
      exact ⟨by first | rfl | (simp [errW_none, errW_some] <;> rfl) | (simp [*, errW_none, errW_some] <;> rfl), by repeat (first | (with_reducible first | exact HB.out | apply below_alloc | apply pw_below_drewN | apply below_drew1) | exact HB.out)⟩
  · rw [if_neg c9] at H
    have c9b0 : decide (0 ≤ t109) = false := decide_eq_false c9
    clear c9
    obtain rfl := Option.some.inj H
    go_enter Tryd.func3, Tryd.ntmps3
    go_wp2_with (first | ((with_reducible refine gate_callee (f := 7) rfl ?_); refine goesL_ (some 10) rfl rfl Tryd.func7 (by kernel_rfl) rfl #[.int .i64 a0, .int .i64 1, .int .i64 1099511627776] rfl (by (try simp only [List.map_toArray, List.map_cons, List.map_nil]); first | done | rfl | (simp only [List.length_drop, List.length_take]; rfl)) ?_; (with_reducible refine (duffelref01_Within.calls a0 1 1099511627776 t106 _ A4.out).mono ?_); rintro e w' ⟨rfl, ⟨nd, rfl⟩⟩; (try clear A4); refine ⟨_, rfl, ?_⟩) | (go_at_call 7; (with_reducible refine (duffelref01_Within.calls a0 1 1099511627776 t106 _ A4.out).mono ?_); rintro e w' ⟨rfl, ⟨nd, rfl⟩⟩; (try clear A4)) | ((with_reducible refine gate_callee (f := 7) rfl ?_); refine goesL_ (some 13) rfl rfl Tryd.func7 (by kernel_rfl) rfl #[.int .i64 a1, .int .i64 0, .int .i64 t106] rfl (by (try simp only [List.map_toArray, List.map_cons, List.map_nil]); first | done | rfl | (simp only [List.length_drop, List.length_take]; rfl)) ?_; (with_reducible refine (duffelref01_Within.calls a1 0 t106 t107 _ A5.out).mono ?_); rintro e w' ⟨rfl, ⟨nd, rfl⟩⟩; (try clear A5); refine ⟨_, rfl, ?_⟩) | (go_at_call 7; (with_reducible refine (duffelref01_Within.calls a1 0 t106 t107 _ A5.out).mono ?_); rintro e w' ⟨rfl, ⟨nd, rfl⟩⟩; (try clear A5)) | ((with_reducible refine gate_callee (f := 7) rfl ?_); refine goesL_ (some 16) rfl rfl Tryd.func7 (by kernel_rfl) rfl #[.int .i64 a2, .int .i64 0, .int .i64 t107] rfl (by (try simp only [List.map_toArray, List.map_cons, List.map_nil]); first | done | rfl | (simp only [List.length_drop, List.length_take]; rfl)) ?_; (with_reducible refine (duffelref01_Within.calls a2 0 t107 t108 _ A6.out).mono ?_); rintro e w' ⟨rfl, ⟨nd, rfl⟩⟩; (try clear A6); refine ⟨_, rfl, ?_⟩) | (go_at_call 7; (with_reducible refine (duffelref01_Within.calls a2 0 t107 t108 _ A6.out).mono ?_); rintro e w' ⟨rfl, ⟨nd, rfl⟩⟩; (try clear A6)) | ((with_reducible refine gate_callee (f := 8) rfl ?_); refine goesL_ (some 19) rfl rfl Tryd.func8 (by kernel_rfl) rfl #[.int .i64 t106, .int .i64 t107] rfl (by (try simp only [List.map_toArray, List.map_cons, List.map_nil]); first | done | rfl | (simp only [List.length_drop, List.length_take]; rfl)) ?_; (with_reducible refine (report_Ratio.calls t106 t107 t109 _ A7.out).mono ?_); rintro e w' ⟨rfl, ⟨nd, rfl⟩⟩; (try clear A7); refine ⟨_, rfl, ?_⟩) | (go_at_call 8; (with_reducible refine (report_Ratio.calls t106 t107 t109 _ A7.out).mono ?_); rintro e w' ⟨rfl, ⟨nd, rfl⟩⟩; (try clear A7)) | ((with_reducible refine gate_callee (f := 8) rfl ?_); refine goesL_ (some 22) rfl rfl Tryd.func8 (by kernel_rfl) rfl #[.int .i64 t106, .int .i64 t108] rfl (by (try simp only [List.map_toArray, List.map_cons, List.map_nil]); first | done | rfl | (simp only [List.length_drop, List.length_take]; rfl)) ?_; (with_reducible refine (report_Ratio.calls t106 t108 t110 _ A8.out).mono ?_); rintro e w' ⟨rfl, ⟨nd, rfl⟩⟩; (try clear A8); refine ⟨_, rfl, ?_⟩) | (go_at_call 8; (with_reducible refine (report_Ratio.calls t106 t108 t110 _ A8.out).mono ?_); rintro e w' ⟨rfl, ⟨nd, rfl⟩⟩; (try clear A8)))
    go_ret
    exact ⟨by first | rfl | (simp [errW_none, errW_some] <;> rfl) | (simp [*, errW_none, errW_some] <;> rfl), by repeat (first | (with_reducible first | exact HB.out | apply below_alloc | apply pw_below_drewN | apply below_drew1) | exact HB.out)⟩

/-- THE ONE PURE STATEMENT of duffellaw34_ReportRatios: yours. -/
def duffellaw34_ReportRatios.Pure : Prop := ∀ (a0 : Int) (a1 : Int) (a2 : Int), (Lit.int .i64 a0).wf = true → (Lit.int .i64 a1).wf = true → (Lit.int .i64 a2).wf = true → ∃ k, duffellaw34_ReportRatios.f k a0 a1 a2 = some true

/-! ### duffelref01_Short: function 10 -/
def duffelref01_Short.f (a0 : ByteArray) (a1 : Int) : Option (ByteArray) := if (a0.size : Int) > a1 then (if 0 ≤ a1 then (if a1 ≤ (a0.size : Int) then (some (a0.extract 0 (a1 : Int).toNat)) else (none)) else (none)) else (some a0)
set_option maxHeartbeats 8000000 in
set_option maxRecDepth 100000 in
theorem duffelref01_Short.calls (a0 : ByteArray) (a1 : Int) (r : ByteArray) (w : World) (h : duffelref01_Short.f a0 a1 = some r) :
    Calls Tryd.prog 10 #[.string a0, .int .i64 a1] w fun e w' => e = .returned (.string r) ∧ Drawn0 w w' := by
  have H : (if (a0.size : Int) > a1 then (if 0 ≤ a1 then (if a1 ≤ (a0.size : Int) then (some (a0.extract 0 (a1 : Int).toNat)) else (none)) else (none)) else (some a0)) = some r := h
  clear h
  by_cases c3 : (a0.size : Int) > a1
  · rw [if_pos c3] at H
    have c3b0 : decide (a1 < (a0.size : Int)) = true := decide_eq_true c3
    clear c3
    by_cases c4 : 0 ≤ a1
    · rw [if_pos c4] at H
      have c4b0 := eq_true c4
      have c4b1 : decide (0 ≤ a1) = true := decide_eq_true c4
      clear c4
      by_cases c5 : a1 ≤ (a0.size : Int)
      · rw [if_pos c5] at H
        have c5b0 := eq_true c5
        have c5b1 : decide (a1 ≤ (a0.size : Int)) = true := decide_eq_true c5
        clear c5
        obtain rfl := Option.some.inj H
        go_enter Tryd.func10, Tryd.ntmps10
        go_wp2
        go_ret
        exact ⟨by first | rfl | (simp; done) | (simp [*]; done), by repeat (first | exact Drawn0.refl _ | apply Drawn0.step)⟩
      · rw [if_neg c5] at H
        exact absurd H (by simp)
    · rw [if_neg c4] at H
      exact absurd H (by simp)
  · rw [if_neg c3] at H
    have c3b0 : decide (a1 < (a0.size : Int)) = false := decide_eq_false c3
    clear c3
    obtain rfl := Option.some.inj H
    go_enter Tryd.func10, Tryd.ntmps10
    go_wp2
    go_ret
    exact ⟨by first | rfl | (simp; done) | (simp [*]; done), by repeat (first | exact Drawn0.refl _ | apply Drawn0.step)⟩

/-! ### report_MethodName: function 11 -/
def report_MethodName.j0 : Nat → Int → Bool → Option (ByteArray)
  | 0, _, _ => none
  | k + 1, x0, x9 => if x9 = true then ((strconv_Itoa.f (wrap64 (x0 - 1))).bind fun t114 => (if 8 + t114.size ≤ 9223372036854775807 then (some ((⟨#[82, 101, 100, 117, 99, 101, 100, 45]⟩ : ByteArray) ++ t114)) else (none))) else (if x0 = 6 then (some (⟨#[73, 109, 112, 108, 111, 100, 101, 100]⟩ : ByteArray)) else (if x0 = 8 then (some (⟨#[68, 101, 102, 108, 97, 116, 101, 100]⟩ : ByteArray)) else (if x0 = 9 then (some (⟨#[68, 101, 102, 108, 97, 116, 101, 54, 52]⟩ : ByteArray)) else (some (⟨#[85, 110, 107, 110, 111, 119, 110]⟩ : ByteArray)))))
def report_MethodName.f (k : Nat) (a0 : Int) : Option (ByteArray) := if a0 = 0 then (some (⟨#[83, 116, 111, 114, 101, 100]⟩ : ByteArray)) else (if a0 = 1 then (some (⟨#[83, 104, 114, 117, 110, 107]⟩ : ByteArray)) else (if a0 ≥ 2 then (report_MethodName.j0 k a0 (decide (a0 ≤ 5))) else (report_MethodName.j0 k a0 false)))
theorem report_MethodName.mono_l : ∀ k, (∀ y0 y1, LeO (report_MethodName.j0 k y0 y1) (report_MethodName.j0 (k + 1) y0 y1))
  | 0 => fun _ _ r h => by simp [report_MethodName.j0] at h
  | k + 1 => by
    have ih0 := report_MethodName.mono_l k
    · intro y0 y1
      unfold report_MethodName.j0
      repeat' first
      | (with_reducible exact ih0 _ _)
      | (with_reducible exact LeO.refl _)
      | (with_reducible exact LeO.none _)
      | (with_reducible refine LeO.ite ?_ ?_)
      | (with_reducible refine LeO.bind ?_ (fun _ => ?_))
      | exact ih0 _ _
      | exact LeO.none _
      | refine LeO.ite ?_ ?_
      | refine LeO.bind ?_ (fun _ => ?_)
theorem report_MethodName.mono : ∀ a0 k, LeO (report_MethodName.f k a0) (report_MethodName.f (k + 1) a0) := by
  intro a0 k
  have ih0 := report_MethodName.mono_l k
  unfold report_MethodName.f
  repeat' first
      | (with_reducible exact ih0 _ _)
      | (with_reducible exact LeO.refl _)
      | (with_reducible exact LeO.none _)
      | (with_reducible refine LeO.ite ?_ ?_)
      | (with_reducible refine LeO.bind ?_ (fun _ => ?_))
      | exact ih0 _ _
      | exact LeO.none _
      | refine LeO.ite ?_ ?_
      | refine LeO.bind ?_ (fun _ => ?_)
set_option maxHeartbeats 8000000 in
set_option maxRecDepth 100000 in
theorem report_MethodName.calls (k : Nat) (a0 : Int) (r : ByteArray) (w : World) (hT : Rp.Tabs w) (h : report_MethodName.f k a0 = some r) :
    Calls Tryd.prog 11 #[.int .i64 a0] w fun e w' => e = .returned (.string r) ∧ Below w.heap.size w w' := by
  have HT := Aside0.mk hT
  clear hT
  have HB := Aside0.mk (Below.refl w.heap.size w)
  have H : (if a0 = 0 then (some (⟨#[83, 116, 111, 114, 101, 100]⟩ : ByteArray)) else (if a0 = 1 then (some (⟨#[83, 104, 114, 117, 110, 107]⟩ : ByteArray)) else (if a0 ≥ 2 then (report_MethodName.j0 k a0 (decide (a0 ≤ 5))) else (report_MethodName.j0 k a0 false)))) = some r := h
  clear h
  by_cases c2 : a0 = 0
  · rw [if_pos c2] at H
    have c2b0 : (a0 == 0) = true := beq_iff_eq.mpr c2
    have c2b1 : (a0 != 0) = false := bne_eq_false_iff_eq.mpr c2
    clear c2
    obtain rfl := Option.some.inj H
    go_enter Tryd.func11, Tryd.ntmps11
    go_wp2
    go_ret
    exact ⟨by first | rfl | (simp [errW_none, errW_some] <;> rfl) | (simp [*, errW_none, errW_some] <;> rfl), by repeat (first | (with_reducible first | exact HB.out | apply below_alloc | apply pw_below_drewN | apply below_drew1) | exact HB.out)⟩
  · rw [if_neg c2] at H
    have c2b0 : (a0 == 0) = false := beq_eq_false_iff_ne.mpr c2
    have c2b1 : (a0 != 0) = true := bne_iff_ne.mpr c2
    by_cases c3 : a0 = 1
    · rw [if_pos c3] at H
      have c3b0 : (a0 == 1) = true := beq_iff_eq.mpr c3
      have c3b1 : (a0 != 1) = false := bne_eq_false_iff_eq.mpr c3
      clear c3
      obtain rfl := Option.some.inj H
      go_enter Tryd.func11, Tryd.ntmps11
      go_wp2
      go_ret
      exact ⟨by first | rfl | (simp [errW_none, errW_some] <;> rfl) | (simp [*, errW_none, errW_some] <;> rfl), by repeat (first | (with_reducible first | exact HB.out | apply below_alloc | apply pw_below_drewN | apply below_drew1) | exact HB.out)⟩
    · rw [if_neg c3] at H
      have c3b0 : (a0 == 1) = false := beq_eq_false_iff_ne.mpr c3
      have c3b1 : (a0 != 1) = true := bne_iff_ne.mpr c3
      have HC4 := Aside0.mk H
      clear H
      go_enter Tryd.func11, Tryd.ntmps11
      go_upto_region 5 with (fail)
      go_cut [9] (fun v9 wc => ∃ (kq : Nat) (x9_3 : Bool), v9 = .bool x9_3 ∧ Aside0 (report_MethodName.j0 kq a0 x9_3 = some r) ∧ Aside0 (kq ≤ k) ∧ Aside0 (Below w.heap.size w wc))
      case first =>
        have H := HC4.out
        clear HC4
        by_cases c5 : a0 ≥ 2
        · rw [if_pos c5] at H
          have c5b0 : decide (2 ≤ a0) = true := decide_eq_true c5
          clear c5
          (first | rw [c5b0] | (simp only [i64_w, i32_w]; rw [c5b0]) | skip)
          have H' := Aside0.mk H
          clear H
          go_wp2
          go_meet
          case rel => exact ⟨_, (decide (a0 ≤ 5)), (by first | rfl | (simp; done) | (simp [*]; done)), H', ⟨by first | omega | exact Nat.le_refl _⟩, ⟨by repeat (first | (with_reducible first | exact HB.out | apply below_alloc | apply pw_below_drewN | apply below_drew1) | exact HB.out)⟩⟩
        · rw [if_neg c5] at H
          have c5b0 : decide (2 ≤ a0) = false := decide_eq_false c5
          clear c5
          (first | rw [c5b0] | (simp only [i64_w, i32_w]; rw [c5b0]) | skip)
          have H' := Aside0.mk H
          clear H
          go_wp2
          go_meet
          case rel => exact ⟨_, (false), (by first | rfl | (simp; done) | (simp [*]; done)), H', ⟨by first | omega | exact Nat.le_refl _⟩, ⟨by repeat (first | (with_reducible first | exact HB.out | apply below_alloc | apply pw_below_drewN | apply below_drew1) | exact HB.out)⟩⟩
      case rest =>
        clear HC4
        try clear c1
        try clear c2
        try clear c2b0
        try clear c2b1
        try clear p2
        try clear c3
        try clear c3b0
        try clear c3b1
        try clear c5
        try clear c5b0
        obtain ⟨kq, x9_3, rfl, HA, HJ3, HB⟩ := hcut
        cases kq with
        | zero => exact absurd HA.out (by simp [report_MethodName.j0])
        | succ kj3 =>
          have H := HA.out
          clear HA
          simp only [report_MethodName.j0] at H
          by_cases c6 : x9_3 = true
          · subst c6
            have H1 : ((strconv_Itoa.f (wrap64 (a0 - 1))).bind fun t114 => (if 8 + t114.size ≤ 9223372036854775807 then (some ((⟨#[82, 101, 100, 117, 99, 101, 100, 45]⟩ : ByteArray) ++ t114)) else (none))) = some r := by rw [if_pos rfl] at H; exact H
            clear H
            have H := H1
            clear H1
            replace H := Option.bind_eq_some_iff.mp H
            obtain ⟨t114, A70, H⟩ := H
            replace H : (if 8 + t114.size ≤ 9223372036854775807 then (some ((⟨#[82, 101, 100, 117, 99, 101, 100, 45]⟩ : ByteArray) ++ t114)) else (none)) = some r := H
            have A7 := Aside0.mk A70
            clear A70
            by_cases c8 : 8 + t114.size ≤ 9223372036854775807
            · rw [if_pos c8] at H
              have c8b0 := eq_true c8
              have c8b1 : decide (8 + t114.size ≤ 9223372036854775807) = true := decide_eq_true c8
              try have c8b2 : (9223372036854775807 < 8 + t114.size) = False := eq_false (Nat.not_lt.2 c8)
              obtain rfl := Option.some.inj H
              go_wp2_with (first | ((with_reducible refine gate_callee (f := 29) rfl ?_); refine goesL_ (some 18) rfl rfl Tryd.func29 (by kernel_rfl) rfl #[.int .i64 (wrap64 (a0 - 1))] rfl (by (try simp only [List.map_toArray, List.map_cons, List.map_nil]); first | done | rfl | (simp only [List.length_drop, List.length_take]; rfl)) ?_; (with_reducible refine (strconv_Itoa.calls (wrap64 (a0 - 1)) t114 _ (Rp.Tabs_below HT.out (by repeat (first | (with_reducible first | exact HB.out | apply below_alloc | apply pw_below_drewN | apply below_drew1) | exact HB.out))) A7.out).mono ?_); rintro e w9 ⟨rfl, hb⟩; refine ⟨_, rfl, ?_⟩; have n0_ := Aside0.mk (below_step (by repeat (first | (with_reducible first | exact HB.out | apply below_alloc | apply pw_below_drewN | apply below_drew1) | exact HB.out)) hb); clear HB; have HB := n0_; clear n0_; (try clear hb); (try clear hb2); (try clear hk); (try clear hi)))
              go_ret
              exact ⟨by first | rfl | (simp [errW_none, errW_some] <;> rfl) | (simp [*, errW_none, errW_some] <;> rfl), by repeat (first | (with_reducible first | exact HB.out | apply below_alloc | apply pw_below_drewN | apply below_drew1) | exact HB.out)⟩
            · rw [if_neg c8] at H
              exact absurd H (by simp)
          · replace c6 := Bool.eq_false_iff.mpr c6
            subst c6
            have H1 : (if a0 = 6 then (some (⟨#[73, 109, 112, 108, 111, 100, 101, 100]⟩ : ByteArray)) else (if a0 = 8 then (some (⟨#[68, 101, 102, 108, 97, 116, 101, 100]⟩ : ByteArray)) else (if a0 = 9 then (some (⟨#[68, 101, 102, 108, 97, 116, 101, 54, 52]⟩ : ByteArray)) else (some (⟨#[85, 110, 107, 110, 111, 119, 110]⟩ : ByteArray))))) = some r := by rw [if_neg (show ¬ (false = true) by decide)] at H; exact H
            clear H
            have H := H1
            clear H1
            by_cases c10 : a0 = 6
            · rw [if_pos c10] at H
              have c10b0 : (a0 == 6) = true := beq_iff_eq.mpr c10
              have c10b1 : (a0 != 6) = false := bne_eq_false_iff_eq.mpr c10
              clear c10
              obtain rfl := Option.some.inj H
              go_wp2
              go_ret
              exact ⟨by first | rfl | (simp [errW_none, errW_some] <;> rfl) | (simp [*, errW_none, errW_some] <;> rfl), by repeat (first | (with_reducible first | exact HB.out | apply below_alloc | apply pw_below_drewN | apply below_drew1) | exact HB.out)⟩
            · rw [if_neg c10] at H
              have c10b0 : (a0 == 6) = false := beq_eq_false_iff_ne.mpr c10
              have c10b1 : (a0 != 6) = true := bne_iff_ne.mpr c10
              by_cases c11 : a0 = 8
              · rw [if_pos c11] at H
                have c11b0 : (a0 == 8) = true := beq_iff_eq.mpr c11
                have c11b1 : (a0 != 8) = false := bne_eq_false_iff_eq.mpr c11
                clear c11
                obtain rfl := Option.some.inj H
                go_wp2
                go_ret
                exact ⟨by first | rfl | (simp [errW_none, errW_some] <;> rfl) | (simp [*, errW_none, errW_some] <;> rfl), by repeat (first | (with_reducible first | exact HB.out | apply below_alloc | apply pw_below_drewN | apply below_drew1) | exact HB.out)⟩
              · rw [if_neg c11] at H
                have c11b0 : (a0 == 8) = false := beq_eq_false_iff_ne.mpr c11
                have c11b1 : (a0 != 8) = true := bne_iff_ne.mpr c11
                by_cases c12 : a0 = 9
                · rw [if_pos c12] at H
                  have c12b0 : (a0 == 9) = true := beq_iff_eq.mpr c12
                  have c12b1 : (a0 != 9) = false := bne_eq_false_iff_eq.mpr c12
                  clear c12
                  obtain rfl := Option.some.inj H
                  go_wp2
                  go_ret
                  exact ⟨by first | rfl | (simp [errW_none, errW_some] <;> rfl) | (simp [*, errW_none, errW_some] <;> rfl), by repeat (first | (with_reducible first | exact HB.out | apply below_alloc | apply pw_below_drewN | apply below_drew1) | exact HB.out)⟩
                · rw [if_neg c12] at H
                  have c12b0 : (a0 == 9) = false := beq_eq_false_iff_ne.mpr c12
                  have c12b1 : (a0 != 9) = true := bne_iff_ne.mpr c12
                  obtain rfl := Option.some.inj H
                  go_wp2
                  go_ret
                  exact ⟨by first | rfl | (simp [errW_none, errW_some] <;> rfl) | (simp [*, errW_none, errW_some] <;> rfl), by repeat (first | (with_reducible first | exact HB.out | apply below_alloc | apply pw_below_drewN | apply below_drew1) | exact HB.out)⟩

/-! ### duffelref34_Name: function 12 -/
def duffelref34_Name.f (a0 : Int) : Option (ByteArray) := (some (([(⟨#[83, 116, 111, 114, 101, 100]⟩ : ByteArray), (⟨#[83, 104, 114, 117, 110, 107]⟩ : ByteArray), (⟨#[82, 101, 100, 117, 99, 101, 100, 45, 49]⟩ : ByteArray), (⟨#[82, 101, 100, 117, 99, 101, 100, 45, 50]⟩ : ByteArray), (⟨#[82, 101, 100, 117, 99, 101, 100, 45, 51]⟩ : ByteArray), (⟨#[82, 101, 100, 117, 99, 101, 100, 45, 52]⟩ : ByteArray), (⟨#[73, 109, 112, 108, 111, 100, 101, 100]⟩ : ByteArray), (⟨#[85, 110, 107, 110, 111, 119, 110]⟩ : ByteArray), (⟨#[68, 101, 102, 108, 97, 116, 101, 100]⟩ : ByteArray), (⟨#[68, 101, 102, 108, 97, 116, 101, 54, 52]⟩ : ByteArray)] : List ByteArray) : List ByteArray)).bind fun y115 => (if a0 < 0 then (some (⟨#[85, 110, 107, 110, 111, 119, 110]⟩ : ByteArray)) else (if a0 > 9 then (some (⟨#[85, 110, 107, 110, 111, 119, 110]⟩ : ByteArray)) else (if 0 ≤ a0 then (if a0 < (y115.length : Int) then (some (rdOf ByteArray.empty y115 a0)) else (none)) else (none))))
set_option maxHeartbeats 8000000 in
set_option maxRecDepth 100000 in
theorem duffelref34_Name.calls (a0 : Int) (r : ByteArray) (w : World) (h : duffelref34_Name.f a0 = some r) :
    Calls Tryd.prog 12 #[.int .i64 a0] w fun e w' => e = .returned (.string r) ∧ Below w.heap.size w w' := by
  have HB := Aside0.mk (Below.refl w.heap.size w)
  have H : ((some (([(⟨#[83, 116, 111, 114, 101, 100]⟩ : ByteArray), (⟨#[83, 104, 114, 117, 110, 107]⟩ : ByteArray), (⟨#[82, 101, 100, 117, 99, 101, 100, 45, 49]⟩ : ByteArray), (⟨#[82, 101, 100, 117, 99, 101, 100, 45, 50]⟩ : ByteArray), (⟨#[82, 101, 100, 117, 99, 101, 100, 45, 51]⟩ : ByteArray), (⟨#[82, 101, 100, 117, 99, 101, 100, 45, 52]⟩ : ByteArray), (⟨#[73, 109, 112, 108, 111, 100, 101, 100]⟩ : ByteArray), (⟨#[85, 110, 107, 110, 111, 119, 110]⟩ : ByteArray), (⟨#[68, 101, 102, 108, 97, 116, 101, 100]⟩ : ByteArray), (⟨#[68, 101, 102, 108, 97, 116, 101, 54, 52]⟩ : ByteArray)] : List ByteArray) : List ByteArray)).bind fun y115 => (if a0 < 0 then (some (⟨#[85, 110, 107, 110, 111, 119, 110]⟩ : ByteArray)) else (if a0 > 9 then (some (⟨#[85, 110, 107, 110, 111, 119, 110]⟩ : ByteArray)) else (if 0 ≤ a0 then (if a0 < (y115.length : Int) then (some (rdOf ByteArray.empty y115 a0)) else (none)) else (none))))) = some r := h
  clear h
  obtain ⟨y115, hy115⟩ : ∃ y_ : List ByteArray, y_ = (([(⟨#[83, 116, 111, 114, 101, 100]⟩ : ByteArray), (⟨#[83, 104, 114, 117, 110, 107]⟩ : ByteArray), (⟨#[82, 101, 100, 117, 99, 101, 100, 45, 49]⟩ : ByteArray), (⟨#[82, 101, 100, 117, 99, 101, 100, 45, 50]⟩ : ByteArray), (⟨#[82, 101, 100, 117, 99, 101, 100, 45, 51]⟩ : ByteArray), (⟨#[82, 101, 100, 117, 99, 101, 100, 45, 52]⟩ : ByteArray), (⟨#[73, 109, 112, 108, 111, 100, 101, 100]⟩ : ByteArray), (⟨#[85, 110, 107, 110, 111, 119, 110]⟩ : ByteArray), (⟨#[68, 101, 102, 108, 97, 116, 101, 100]⟩ : ByteArray), (⟨#[68, 101, 102, 108, 97, 116, 101, 54, 52]⟩ : ByteArray)] : List ByteArray)) := ⟨_, rfl⟩
  replace H : (if a0 < 0 then (some (⟨#[85, 110, 107, 110, 111, 119, 110]⟩ : ByteArray)) else (if a0 > 9 then (some (⟨#[85, 110, 107, 110, 111, 119, 110]⟩ : ByteArray)) else (if 0 ≤ a0 then (if a0 < (y115.length : Int) then (some (rdOf ByteArray.empty y115 a0)) else (none)) else (none)))) = some r := by first | (rw [hy115]; with_reducible exact H) | (have H2_ := (Option.bind_some _ _).symm.trans H; rw [hy115]; with_reducible exact H2_) | (have H2_ := (Option.bind_some _ _).symm.trans H; with_reducible exact H2_) | with_reducible exact H | (rw [hy115]; exact H) | exact H
  have Ny115 := Aside0.mk hy115
  clear hy115
  by_cases c2 : a0 < 0
  · rw [if_pos c2] at H
    have c2b0 : decide (a0 < 0) = true := decide_eq_true c2
    clear c2
    obtain rfl := Option.some.inj H
    go_enter Tryd.func12, Tryd.ntmps12
    go_wp2_with (first | ((with_reducible refine gate_dst (N := 4) rfl ?_); refine Kd.R_lit Kd.string _ 9 ?hg (N := 4) ?hd (xs := ([(⟨#[83, 116, 111, 114, 101, 100]⟩ : ByteArray), (⟨#[83, 104, 114, 117, 110, 107]⟩ : ByteArray), (⟨#[82, 101, 100, 117, 99, 101, 100, 45, 49]⟩ : ByteArray), (⟨#[82, 101, 100, 117, 99, 101, 100, 45, 50]⟩ : ByteArray), (⟨#[82, 101, 100, 117, 99, 101, 100, 45, 51]⟩ : ByteArray), (⟨#[82, 101, 100, 117, 99, 101, 100, 45, 52]⟩ : ByteArray), (⟨#[73, 109, 112, 108, 111, 100, 101, 100]⟩ : ByteArray), (⟨#[85, 110, 107, 110, 111, 119, 110]⟩ : ByteArray), (⟨#[68, 101, 102, 108, 97, 116, 101, 100]⟩ : ByteArray), (⟨#[68, 101, 102, 108, 97, 116, 101, 54, 52]⟩ : ByteArray)] : List ByteArray)) (inner := [.string (⟨#[83, 116, 111, 114, 101, 100]⟩ : ByteArray), .string (⟨#[83, 104, 114, 117, 110, 107]⟩ : ByteArray), .string (⟨#[82, 101, 100, 117, 99, 101, 100, 45, 49]⟩ : ByteArray), .string (⟨#[82, 101, 100, 117, 99, 101, 100, 45, 50]⟩ : ByteArray), .string (⟨#[82, 101, 100, 117, 99, 101, 100, 45, 51]⟩ : ByteArray), .string (⟨#[82, 101, 100, 117, 99, 101, 100, 45, 52]⟩ : ByteArray), .string (⟨#[73, 109, 112, 108, 111, 100, 101, 100]⟩ : ByteArray), .string (⟨#[85, 110, 107, 110, 111, 119, 110]⟩ : ByteArray), .string (⟨#[68, 101, 102, 108, 97, 116, 101, 100]⟩ : ByteArray), .string (⟨#[68, 101, 102, 108, 97, 116, 101, 54, 52]⟩ : ByteArray)]) (ok := fun _ => True) (okp := fun _ => True) ?hr ?hp (fun _ hk => hk) trivial (Below.refl _ _) (Nat.le_refl _) (by simp) ?_; (case hd => rfl); (case hg => rfl); (case hr => first | (go_simp; done) | (go_simp; rfl)); (case hp => exact (Reps.one (show Kd.M Kd.string _ _ _ (⟨#[83, 116, 111, 114, 101, 100]⟩ : ByteArray) [.string (⟨#[83, 116, 111, 114, 101, 100]⟩ : ByteArray)] from rfl) (Reps.one (show Kd.M Kd.string _ _ _ (⟨#[83, 104, 114, 117, 110, 107]⟩ : ByteArray) [.string (⟨#[83, 104, 114, 117, 110, 107]⟩ : ByteArray)] from rfl) (Reps.one (show Kd.M Kd.string _ _ _ (⟨#[82, 101, 100, 117, 99, 101, 100, 45, 49]⟩ : ByteArray) [.string (⟨#[82, 101, 100, 117, 99, 101, 100, 45, 49]⟩ : ByteArray)] from rfl) (Reps.one (show Kd.M Kd.string _ _ _ (⟨#[82, 101, 100, 117, 99, 101, 100, 45, 50]⟩ : ByteArray) [.string (⟨#[82, 101, 100, 117, 99, 101, 100, 45, 50]⟩ : ByteArray)] from rfl) (Reps.one (show Kd.M Kd.string _ _ _ (⟨#[82, 101, 100, 117, 99, 101, 100, 45, 51]⟩ : ByteArray) [.string (⟨#[82, 101, 100, 117, 99, 101, 100, 45, 51]⟩ : ByteArray)] from rfl) (Reps.one (show Kd.M Kd.string _ _ _ (⟨#[82, 101, 100, 117, 99, 101, 100, 45, 52]⟩ : ByteArray) [.string (⟨#[82, 101, 100, 117, 99, 101, 100, 45, 52]⟩ : ByteArray)] from rfl) (Reps.one (show Kd.M Kd.string _ _ _ (⟨#[73, 109, 112, 108, 111, 100, 101, 100]⟩ : ByteArray) [.string (⟨#[73, 109, 112, 108, 111, 100, 101, 100]⟩ : ByteArray)] from rfl) (Reps.one (show Kd.M Kd.string _ _ _ (⟨#[85, 110, 107, 110, 111, 119, 110]⟩ : ByteArray) [.string (⟨#[85, 110, 107, 110, 111, 119, 110]⟩ : ByteArray)] from rfl) (Reps.one (show Kd.M Kd.string _ _ _ (⟨#[68, 101, 102, 108, 97, 116, 101, 100]⟩ : ByteArray) [.string (⟨#[68, 101, 102, 108, 97, 116, 101, 100]⟩ : ByteArray)] from rfl) (Reps.one (show Kd.M Kd.string _ _ _ (⟨#[68, 101, 102, 108, 97, 116, 101, 54, 52]⟩ : ByteArray) [.string (⟨#[68, 101, 102, 108, 97, 116, 101, 54, 52]⟩ : ByteArray)] from rfl) (Reps.none _ _)))))))))))); intro v116 w3 ho4 hb hg_ hnew_; clear hg_ hnew_; (first | rw [← Ny115.out] at ho4 | (simp only [Int.reduceToNat] at ho4; rw [← Ny115.out] at ho4)); have n0_ := Aside0.mk (Kd.R_lower ho4 (below_size (by repeat (first | (with_reducible first | exact HB.out | apply below_alloc | apply pw_below_drewN | apply below_drew1) | exact HB.out)))); have n1_ := Aside0.mk (below_step (by repeat (first | (with_reducible first | exact HB.out | apply below_alloc | apply pw_below_drewN | apply below_drew1) | exact HB.out)) hb); clear HB; have HO117 := n0_; have HB := n1_; clear n0_ n1_; clear hb ho4))
    go_ret
    exact ⟨by first | rfl | (simp [errW_none, errW_some] <;> rfl) | (simp [*, errW_none, errW_some] <;> rfl), by repeat (first | (with_reducible first | exact HB.out | apply below_alloc | apply pw_below_drewN | apply below_drew1) | exact HB.out)⟩
  · rw [if_neg c2] at H
    have c2b0 : decide (a0 < 0) = false := decide_eq_false c2
    clear c2
    by_cases c5 : a0 > 9
    · rw [if_pos c5] at H
      have c5b0 : decide (9 < a0) = true := decide_eq_true c5
      clear c5
      obtain rfl := Option.some.inj H
      go_enter Tryd.func12, Tryd.ntmps12
      go_wp2_with (first | ((with_reducible refine gate_dst (N := 4) rfl ?_); refine Kd.R_lit Kd.string _ 9 ?hg (N := 4) ?hd (xs := ([(⟨#[83, 116, 111, 114, 101, 100]⟩ : ByteArray), (⟨#[83, 104, 114, 117, 110, 107]⟩ : ByteArray), (⟨#[82, 101, 100, 117, 99, 101, 100, 45, 49]⟩ : ByteArray), (⟨#[82, 101, 100, 117, 99, 101, 100, 45, 50]⟩ : ByteArray), (⟨#[82, 101, 100, 117, 99, 101, 100, 45, 51]⟩ : ByteArray), (⟨#[82, 101, 100, 117, 99, 101, 100, 45, 52]⟩ : ByteArray), (⟨#[73, 109, 112, 108, 111, 100, 101, 100]⟩ : ByteArray), (⟨#[85, 110, 107, 110, 111, 119, 110]⟩ : ByteArray), (⟨#[68, 101, 102, 108, 97, 116, 101, 100]⟩ : ByteArray), (⟨#[68, 101, 102, 108, 97, 116, 101, 54, 52]⟩ : ByteArray)] : List ByteArray)) (inner := [.string (⟨#[83, 116, 111, 114, 101, 100]⟩ : ByteArray), .string (⟨#[83, 104, 114, 117, 110, 107]⟩ : ByteArray), .string (⟨#[82, 101, 100, 117, 99, 101, 100, 45, 49]⟩ : ByteArray), .string (⟨#[82, 101, 100, 117, 99, 101, 100, 45, 50]⟩ : ByteArray), .string (⟨#[82, 101, 100, 117, 99, 101, 100, 45, 51]⟩ : ByteArray), .string (⟨#[82, 101, 100, 117, 99, 101, 100, 45, 52]⟩ : ByteArray), .string (⟨#[73, 109, 112, 108, 111, 100, 101, 100]⟩ : ByteArray), .string (⟨#[85, 110, 107, 110, 111, 119, 110]⟩ : ByteArray), .string (⟨#[68, 101, 102, 108, 97, 116, 101, 100]⟩ : ByteArray), .string (⟨#[68, 101, 102, 108, 97, 116, 101, 54, 52]⟩ : ByteArray)]) (ok := fun _ => True) (okp := fun _ => True) ?hr ?hp (fun _ hk => hk) trivial (Below.refl _ _) (Nat.le_refl _) (by simp) ?_; (case hd => rfl); (case hg => rfl); (case hr => first | (go_simp; done) | (go_simp; rfl)); (case hp => exact (Reps.one (show Kd.M Kd.string _ _ _ (⟨#[83, 116, 111, 114, 101, 100]⟩ : ByteArray) [.string (⟨#[83, 116, 111, 114, 101, 100]⟩ : ByteArray)] from rfl) (Reps.one (show Kd.M Kd.string _ _ _ (⟨#[83, 104, 114, 117, 110, 107]⟩ : ByteArray) [.string (⟨#[83, 104, 114, 117, 110, 107]⟩ : ByteArray)] from rfl) (Reps.one (show Kd.M Kd.string _ _ _ (⟨#[82, 101, 100, 117, 99, 101, 100, 45, 49]⟩ : ByteArray) [.string (⟨#[82, 101, 100, 117, 99, 101, 100, 45, 49]⟩ : ByteArray)] from rfl) (Reps.one (show Kd.M Kd.string _ _ _ (⟨#[82, 101, 100, 117, 99, 101, 100, 45, 50]⟩ : ByteArray) [.string (⟨#[82, 101, 100, 117, 99, 101, 100, 45, 50]⟩ : ByteArray)] from rfl) (Reps.one (show Kd.M Kd.string _ _ _ (⟨#[82, 101, 100, 117, 99, 101, 100, 45, 51]⟩ : ByteArray) [.string (⟨#[82, 101, 100, 117, 99, 101, 100, 45, 51]⟩ : ByteArray)] from rfl) (Reps.one (show Kd.M Kd.string _ _ _ (⟨#[82, 101, 100, 117, 99, 101, 100, 45, 52]⟩ : ByteArray) [.string (⟨#[82, 101, 100, 117, 99, 101, 100, 45, 52]⟩ : ByteArray)] from rfl) (Reps.one (show Kd.M Kd.string _ _ _ (⟨#[73, 109, 112, 108, 111, 100, 101, 100]⟩ : ByteArray) [.string (⟨#[73, 109, 112, 108, 111, 100, 101, 100]⟩ : ByteArray)] from rfl) (Reps.one (show Kd.M Kd.string _ _ _ (⟨#[85, 110, 107, 110, 111, 119, 110]⟩ : ByteArray) [.string (⟨#[85, 110, 107, 110, 111, 119, 110]⟩ : ByteArray)] from rfl) (Reps.one (show Kd.M Kd.string _ _ _ (⟨#[68, 101, 102, 108, 97, 116, 101, 100]⟩ : ByteArray) [.string (⟨#[68, 101, 102, 108, 97, 116, 101, 100]⟩ : ByteArray)] from rfl) (Reps.one (show Kd.M Kd.string _ _ _ (⟨#[68, 101, 102, 108, 97, 116, 101, 54, 52]⟩ : ByteArray) [.string (⟨#[68, 101, 102, 108, 97, 116, 101, 54, 52]⟩ : ByteArray)] from rfl) (Reps.none _ _)))))))))))); intro v116 w6 ho7 hb hg_ hnew_; clear hg_ hnew_; (first | rw [← Ny115.out] at ho7 | (simp only [Int.reduceToNat] at ho7; rw [← Ny115.out] at ho7)); have n0_ := Aside0.mk (Kd.R_lower ho7 (below_size (by repeat (first | (with_reducible first | exact HB.out | apply below_alloc | apply pw_below_drewN | apply below_drew1) | exact HB.out)))); have n1_ := Aside0.mk (below_step (by repeat (first | (with_reducible first | exact HB.out | apply below_alloc | apply pw_below_drewN | apply below_drew1) | exact HB.out)) hb); clear HB; have HO117 := n0_; have HB := n1_; clear n0_ n1_; clear hb ho7))
      go_ret
      exact ⟨by first | rfl | (simp [errW_none, errW_some] <;> rfl) | (simp [*, errW_none, errW_some] <;> rfl), by repeat (first | (with_reducible first | exact HB.out | apply below_alloc | apply pw_below_drewN | apply below_drew1) | exact HB.out)⟩
    · rw [if_neg c5] at H
      have c5b0 : decide (9 < a0) = false := decide_eq_false c5
      clear c5
      by_cases c8 : 0 ≤ a0
      · rw [if_pos c8] at H
        have c8b0 : decide (0 ≤ a0) = true := decide_eq_true c8
        clear c8
        by_cases c9 : a0 < (y115.length : Int)
        · rw [if_pos c9] at H
          have c9b0 : decide (a0 < (y115.length : Int)) = true := decide_eq_true c9
          clear c9
          obtain rfl := Option.some.inj H
          go_enter Tryd.func12, Tryd.ntmps12
          go_wp2_with (first | ((with_reducible refine gate_dst (N := 4) rfl ?_); refine Kd.R_lit Kd.string _ 9 ?hg (N := 4) ?hd (xs := ([(⟨#[83, 116, 111, 114, 101, 100]⟩ : ByteArray), (⟨#[83, 104, 114, 117, 110, 107]⟩ : ByteArray), (⟨#[82, 101, 100, 117, 99, 101, 100, 45, 49]⟩ : ByteArray), (⟨#[82, 101, 100, 117, 99, 101, 100, 45, 50]⟩ : ByteArray), (⟨#[82, 101, 100, 117, 99, 101, 100, 45, 51]⟩ : ByteArray), (⟨#[82, 101, 100, 117, 99, 101, 100, 45, 52]⟩ : ByteArray), (⟨#[73, 109, 112, 108, 111, 100, 101, 100]⟩ : ByteArray), (⟨#[85, 110, 107, 110, 111, 119, 110]⟩ : ByteArray), (⟨#[68, 101, 102, 108, 97, 116, 101, 100]⟩ : ByteArray), (⟨#[68, 101, 102, 108, 97, 116, 101, 54, 52]⟩ : ByteArray)] : List ByteArray)) (inner := [.string (⟨#[83, 116, 111, 114, 101, 100]⟩ : ByteArray), .string (⟨#[83, 104, 114, 117, 110, 107]⟩ : ByteArray), .string (⟨#[82, 101, 100, 117, 99, 101, 100, 45, 49]⟩ : ByteArray), .string (⟨#[82, 101, 100, 117, 99, 101, 100, 45, 50]⟩ : ByteArray), .string (⟨#[82, 101, 100, 117, 99, 101, 100, 45, 51]⟩ : ByteArray), .string (⟨#[82, 101, 100, 117, 99, 101, 100, 45, 52]⟩ : ByteArray), .string (⟨#[73, 109, 112, 108, 111, 100, 101, 100]⟩ : ByteArray), .string (⟨#[85, 110, 107, 110, 111, 119, 110]⟩ : ByteArray), .string (⟨#[68, 101, 102, 108, 97, 116, 101, 100]⟩ : ByteArray), .string (⟨#[68, 101, 102, 108, 97, 116, 101, 54, 52]⟩ : ByteArray)]) (ok := fun _ => True) (okp := fun _ => True) ?hr ?hp (fun _ hk => hk) trivial (Below.refl _ _) (Nat.le_refl _) (by simp) ?_; (case hd => rfl); (case hg => rfl); (case hr => first | (go_simp; done) | (go_simp; rfl)); (case hp => exact (Reps.one (show Kd.M Kd.string _ _ _ (⟨#[83, 116, 111, 114, 101, 100]⟩ : ByteArray) [.string (⟨#[83, 116, 111, 114, 101, 100]⟩ : ByteArray)] from rfl) (Reps.one (show Kd.M Kd.string _ _ _ (⟨#[83, 104, 114, 117, 110, 107]⟩ : ByteArray) [.string (⟨#[83, 104, 114, 117, 110, 107]⟩ : ByteArray)] from rfl) (Reps.one (show Kd.M Kd.string _ _ _ (⟨#[82, 101, 100, 117, 99, 101, 100, 45, 49]⟩ : ByteArray) [.string (⟨#[82, 101, 100, 117, 99, 101, 100, 45, 49]⟩ : ByteArray)] from rfl) (Reps.one (show Kd.M Kd.string _ _ _ (⟨#[82, 101, 100, 117, 99, 101, 100, 45, 50]⟩ : ByteArray) [.string (⟨#[82, 101, 100, 117, 99, 101, 100, 45, 50]⟩ : ByteArray)] from rfl) (Reps.one (show Kd.M Kd.string _ _ _ (⟨#[82, 101, 100, 117, 99, 101, 100, 45, 51]⟩ : ByteArray) [.string (⟨#[82, 101, 100, 117, 99, 101, 100, 45, 51]⟩ : ByteArray)] from rfl) (Reps.one (show Kd.M Kd.string _ _ _ (⟨#[82, 101, 100, 117, 99, 101, 100, 45, 52]⟩ : ByteArray) [.string (⟨#[82, 101, 100, 117, 99, 101, 100, 45, 52]⟩ : ByteArray)] from rfl) (Reps.one (show Kd.M Kd.string _ _ _ (⟨#[73, 109, 112, 108, 111, 100, 101, 100]⟩ : ByteArray) [.string (⟨#[73, 109, 112, 108, 111, 100, 101, 100]⟩ : ByteArray)] from rfl) (Reps.one (show Kd.M Kd.string _ _ _ (⟨#[85, 110, 107, 110, 111, 119, 110]⟩ : ByteArray) [.string (⟨#[85, 110, 107, 110, 111, 119, 110]⟩ : ByteArray)] from rfl) (Reps.one (show Kd.M Kd.string _ _ _ (⟨#[68, 101, 102, 108, 97, 116, 101, 100]⟩ : ByteArray) [.string (⟨#[68, 101, 102, 108, 97, 116, 101, 100]⟩ : ByteArray)] from rfl) (Reps.one (show Kd.M Kd.string _ _ _ (⟨#[68, 101, 102, 108, 97, 116, 101, 54, 52]⟩ : ByteArray) [.string (⟨#[68, 101, 102, 108, 97, 116, 101, 54, 52]⟩ : ByteArray)] from rfl) (Reps.none _ _)))))))))))); intro v116 w10 ho11 hb hg_ hnew_; clear hg_ hnew_; (first | rw [← Ny115.out] at ho11 | (simp only [Int.reduceToNat] at ho11; rw [← Ny115.out] at ho11)); have n0_ := Aside0.mk (Kd.R_lower ho11 (below_size (by repeat (first | (with_reducible first | exact HB.out | apply below_alloc | apply pw_below_drewN | apply below_drew1) | exact HB.out)))); have n1_ := Aside0.mk (below_step (by repeat (first | (with_reducible first | exact HB.out | apply below_alloc | apply pw_below_drewN | apply below_drew1) | exact HB.out)) hb); clear HB; have HO117 := n0_; have HB := n1_; clear n0_ n1_; clear hb ho11; obtain ⟨Ao12, co12, eo12⟩ := Kd.R_slice HO117.out; subst eo12; have p118 : 0 ≤ (a0 : Int) := of_decide_eq_true (by first | (with_reducible assumption) | assumption); have q118 : a0 < (y115.length : Int) := of_decide_eq_true (by first | (with_reducible assumption) | assumption); obtain ⟨ad118, e118, hx118_0⟩ := Kd.at_string (Kd.R_reads' HO117.out).2.2 a0 p118 q118; cases e118; replace p118 := eq_true p118; replace q118 := eq_true q118))
          go_ret
          exact ⟨by first | rfl | (simp [errW_none, errW_some] <;> rfl) | (simp [*, errW_none, errW_some] <;> rfl), by repeat (first | (with_reducible first | exact HB.out | apply below_alloc | apply pw_below_drewN | apply below_drew1) | exact HB.out)⟩
        · rw [if_neg c9] at H
          exact absurd H (by simp)
      · rw [if_neg c8] at H
        exact absurd H (by simp)

end Go.Proofs.YtjhhgekpejdmoaaDoor.RB
