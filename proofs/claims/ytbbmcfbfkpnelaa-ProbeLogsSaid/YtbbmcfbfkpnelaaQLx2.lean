-- written by a program of mine (a changed copy of the printer): not the kit's print
import Derived.Test.YtbbmcfbfkpnelaaQLx0
import Derived.Test.YtbbmcfbfkpnelaaQLx1
namespace Go.Proofs.Ytbbmcfbfkpnelaa.QL
open Go.Proofs.Ytbbmcfbfkpnelaa.MyCut
open Go.RowKit Go.Proofs.YtbbmcfbfkpnelaaW.PrintWords Go.Proofs.YtbbmcfbfkpnelaaW.PrintLast Go.Proofs.YtbbmcfbfkpnelaaW.PrintMore
attribute [local go_sem] max2_int min2_int max_two min_two max_three min_three max_four min_four   -- for this text's walks alone
set_option linter.unusedVariables false
set_option linter.unusedSimpArgs false

/-! ### duffellaw40_ProbeLogs: function 3 -/
def duffellaw40_ProbeLogs.j0 : Nat → Int → Int → Int → Bool → Option (Bool)
  | 0, _, _, _, _ => none
  | k + 1, x0, x1, x7, x54 => if x54 = true then (some false) else ((probe_Log.f k x1).bind fun t109 => (if x1 < x0 then (if x1 > x0 then ((duffellaw40_lives.f k).bind fun t110 => (some t110)) else (if t109 ≤ x7 then ((duffellaw40_lives.f k).bind fun t111 => (some t111)) else (some false))) else (if t109 ≥ x7 then (if x1 > x0 then ((duffellaw40_lives.f k).bind fun t112 => (some t112)) else (if t109 ≤ x7 then ((duffellaw40_lives.f k).bind fun t113 => (some t113)) else (some false))) else (some false))))
def duffellaw40_ProbeLogs.f (k : Nat) (a0 : Int) (a1 : Int) (a2 : Int) : Option (Bool) := (probe_Log.f k a0).bind fun t104 => ((duffelref40_Log.f k a0).bind fun t105 => (if t104 = t105 then ((duffelref01_Within.f a2 0 61).bind fun t106 => (if 0 ≤ (IntKind.u64.wrap (t106)) then ((probe_Log.f k (shl .i64 1 (IntKind.u64.wrap (t106)))).bind fun t107 => (if t107 = (wrap64 (256 * t106)) then (if a0 < 1 then (if t104 = 0 then ((duffellaw40_lives.f k).bind fun t108 => (some t108)) else (some false)) else (if a0 ≥ (shl .i64 1 (IntKind.u64.wrap (t106))) then (if t104 < (wrap64 (256 * t106)) then (duffellaw40_ProbeLogs.j0 k a0 a1 t104 true) else (if a0 < (shl .i64 1 (IntKind.u64.wrap (t106))) then (duffellaw40_ProbeLogs.j0 k a0 a1 t104 (decide (t104 ≥ (wrap64 (256 * t106))))) else (duffellaw40_ProbeLogs.j0 k a0 a1 t104 false))) else (if a0 < (shl .i64 1 (IntKind.u64.wrap (t106))) then (duffellaw40_ProbeLogs.j0 k a0 a1 t104 (decide (t104 ≥ (wrap64 (256 * t106))))) else (duffellaw40_ProbeLogs.j0 k a0 a1 t104 false)))) else (some false))) else (none))) else (some false)))
theorem duffellaw40_ProbeLogs.mono_l : ∀ k, (∀ y0 y1 y2 y3, LeO (duffellaw40_ProbeLogs.j0 k y0 y1 y2 y3) (duffellaw40_ProbeLogs.j0 (k + 1) y0 y1 y2 y3))
  | 0 => fun _ _ _ _ r h => by simp [duffellaw40_ProbeLogs.j0] at h
  | k + 1 => by
    have ih0 := duffellaw40_ProbeLogs.mono_l k
    · intro y0 y1 y2 y3
      unfold duffellaw40_ProbeLogs.j0
      repeat' first
      | (with_reducible exact ih0 _ _ _ _)
      | (with_reducible exact duffellaw40_lives.mono _)
      | (with_reducible exact duffelref40_Log.mono _ _)
      | (with_reducible exact probe_Log.mono _ _)
      | (with_reducible exact LeO.refl _)
      | (with_reducible exact LeO.none _)
      | (with_reducible refine LeO.ite ?_ ?_)
      | (with_reducible refine LeO.bind ?_ (fun _ => ?_))
      | exact ih0 _ _ _ _
      | exact duffellaw40_lives.mono _
      | exact duffelref40_Log.mono _ _
      | exact probe_Log.mono _ _
      | exact LeO.none _
      | refine LeO.ite ?_ ?_
      | refine LeO.bind ?_ (fun _ => ?_)
theorem duffellaw40_ProbeLogs.mono : ∀ a0 a1 a2 k, LeO (duffellaw40_ProbeLogs.f k a0 a1 a2) (duffellaw40_ProbeLogs.f (k + 1) a0 a1 a2) := by
  intro a0 a1 a2 k
  have ih0 := duffellaw40_ProbeLogs.mono_l k
  unfold duffellaw40_ProbeLogs.f
  repeat' first
      | (with_reducible exact ih0 _ _ _ _)
      | (with_reducible exact duffellaw40_lives.mono _)
      | (with_reducible exact duffelref40_Log.mono _ _)
      | (with_reducible exact probe_Log.mono _ _)
      | (with_reducible exact LeO.refl _)
      | (with_reducible exact LeO.none _)
      | (with_reducible refine LeO.ite ?_ ?_)
      | (with_reducible refine LeO.bind ?_ (fun _ => ?_))
      | exact ih0 _ _ _ _
      | exact duffellaw40_lives.mono _
      | exact duffelref40_Log.mono _ _
      | exact probe_Log.mono _ _
      | exact LeO.none _
      | refine LeO.ite ?_ ?_
      | refine LeO.bind ?_ (fun _ => ?_)
set_option maxHeartbeats 8000000 in
set_option maxRecDepth 100000 in
theorem duffellaw40_ProbeLogs.calls (k : Nat) (a0 : Int) (a1 : Int) (a2 : Int) (r : Bool) (w : World) (h : duffellaw40_ProbeLogs.f k a0 a1 a2 = some r) :
    Calls Try.prog 3 #[.int .i64 a0, .int .i64 a1, .int .i64 a2] w fun e w' => e = .returned (.bool r) ∧ Below w.heap.size w w' := by
  have HB := Aside0.mk (Below.refl w.heap.size w)
  have H : ((probe_Log.f k a0).bind fun t104 => ((duffelref40_Log.f k a0).bind fun t105 => (if t104 = t105 then ((duffelref01_Within.f a2 0 61).bind fun t106 => (if 0 ≤ (IntKind.u64.wrap (t106)) then ((probe_Log.f k (shl .i64 1 (IntKind.u64.wrap (t106)))).bind fun t107 => (if t107 = (wrap64 (256 * t106)) then (if a0 < 1 then (if t104 = 0 then ((duffellaw40_lives.f k).bind fun t108 => (some t108)) else (some false)) else (if a0 ≥ (shl .i64 1 (IntKind.u64.wrap (t106))) then (if t104 < (wrap64 (256 * t106)) then (duffellaw40_ProbeLogs.j0 k a0 a1 t104 true) else (if a0 < (shl .i64 1 (IntKind.u64.wrap (t106))) then (duffellaw40_ProbeLogs.j0 k a0 a1 t104 (decide (t104 ≥ (wrap64 (256 * t106))))) else (duffellaw40_ProbeLogs.j0 k a0 a1 t104 false))) else (if a0 < (shl .i64 1 (IntKind.u64.wrap (t106))) then (duffellaw40_ProbeLogs.j0 k a0 a1 t104 (decide (t104 ≥ (wrap64 (256 * t106))))) else (duffellaw40_ProbeLogs.j0 k a0 a1 t104 false)))) else (some false))) else (none))) else (some false)))) = some r := h
  clear h
  replace H := Option.bind_eq_some_iff.mp H
  obtain ⟨t104, A40, H⟩ := H
  replace H : ((duffelref40_Log.f k a0).bind fun t105 => (if t104 = t105 then ((duffelref01_Within.f a2 0 61).bind fun t106 => (if 0 ≤ (IntKind.u64.wrap (t106)) then ((probe_Log.f k (shl .i64 1 (IntKind.u64.wrap (t106)))).bind fun t107 => (if t107 = (wrap64 (256 * t106)) then (if a0 < 1 then (if t104 = 0 then ((duffellaw40_lives.f k).bind fun t108 => (some t108)) else (some false)) else (if a0 ≥ (shl .i64 1 (IntKind.u64.wrap (t106))) then (if t104 < (wrap64 (256 * t106)) then (duffellaw40_ProbeLogs.j0 k a0 a1 t104 true) else (if a0 < (shl .i64 1 (IntKind.u64.wrap (t106))) then (duffellaw40_ProbeLogs.j0 k a0 a1 t104 (decide (t104 ≥ (wrap64 (256 * t106))))) else (duffellaw40_ProbeLogs.j0 k a0 a1 t104 false))) else (if a0 < (shl .i64 1 (IntKind.u64.wrap (t106))) then (duffellaw40_ProbeLogs.j0 k a0 a1 t104 (decide (t104 ≥ (wrap64 (256 * t106))))) else (duffellaw40_ProbeLogs.j0 k a0 a1 t104 false)))) else (some false))) else (none))) else (some false))) = some r := H
  have A4 := Aside0.mk A40
  clear A40
  replace H := Option.bind_eq_some_iff.mp H
  obtain ⟨t105, A50, H⟩ := H
  replace H : (if t104 = t105 then ((duffelref01_Within.f a2 0 61).bind fun t106 => (if 0 ≤ (IntKind.u64.wrap (t106)) then ((probe_Log.f k (shl .i64 1 (IntKind.u64.wrap (t106)))).bind fun t107 => (if t107 = (wrap64 (256 * t106)) then (if a0 < 1 then (if t104 = 0 then ((duffellaw40_lives.f k).bind fun t108 => (some t108)) else (some false)) else (if a0 ≥ (shl .i64 1 (IntKind.u64.wrap (t106))) then (if t104 < (wrap64 (256 * t106)) then (duffellaw40_ProbeLogs.j0 k a0 a1 t104 true) else (if a0 < (shl .i64 1 (IntKind.u64.wrap (t106))) then (duffellaw40_ProbeLogs.j0 k a0 a1 t104 (decide (t104 ≥ (wrap64 (256 * t106))))) else (duffellaw40_ProbeLogs.j0 k a0 a1 t104 false))) else (if a0 < (shl .i64 1 (IntKind.u64.wrap (t106))) then (duffellaw40_ProbeLogs.j0 k a0 a1 t104 (decide (t104 ≥ (wrap64 (256 * t106))))) else (duffellaw40_ProbeLogs.j0 k a0 a1 t104 false)))) else (some false))) else (none))) else (some false)) = some r := H
  have A5 := Aside0.mk A50
  clear A50
  by_cases c6 : t104 = t105
  · rw [if_pos c6] at H
    have c6b0 : (t104 == t105) = true := beq_iff_eq.mpr c6
    have c6b1 : (t104 != t105) = false := bne_eq_false_iff_eq.mpr c6
    clear c6
    replace H := Option.bind_eq_some_iff.mp H
    obtain ⟨t106, A70, H⟩ := H
    replace H : (if 0 ≤ (IntKind.u64.wrap (t106)) then ((probe_Log.f k (shl .i64 1 (IntKind.u64.wrap (t106)))).bind fun t107 => (if t107 = (wrap64 (256 * t106)) then (if a0 < 1 then (if t104 = 0 then ((duffellaw40_lives.f k).bind fun t108 => (some t108)) else (some false)) else (if a0 ≥ (shl .i64 1 (IntKind.u64.wrap (t106))) then (if t104 < (wrap64 (256 * t106)) then (duffellaw40_ProbeLogs.j0 k a0 a1 t104 true) else (if a0 < (shl .i64 1 (IntKind.u64.wrap (t106))) then (duffellaw40_ProbeLogs.j0 k a0 a1 t104 (decide (t104 ≥ (wrap64 (256 * t106))))) else (duffellaw40_ProbeLogs.j0 k a0 a1 t104 false))) else (if a0 < (shl .i64 1 (IntKind.u64.wrap (t106))) then (duffellaw40_ProbeLogs.j0 k a0 a1 t104 (decide (t104 ≥ (wrap64 (256 * t106))))) else (duffellaw40_ProbeLogs.j0 k a0 a1 t104 false)))) else (some false))) else (none)) = some r := H
    have A7 := Aside0.mk A70
    clear A70
    obtain ⟨ji8, hji8⟩ : ∃ j_ : Int, (IntKind.u64.wrap (t106)) = j_ := ⟨_, rfl⟩
    replace H : (if 0 ≤ (ji8) then ((probe_Log.f k (shl .i64 1 (ji8))).bind fun t107 => (if t107 = (wrap64 (256 * t106)) then (if a0 < 1 then (if t104 = 0 then ((duffellaw40_lives.f k).bind fun t108 => (some t108)) else (some false)) else (if a0 ≥ (shl .i64 1 (ji8)) then (if t104 < (wrap64 (256 * t106)) then (duffellaw40_ProbeLogs.j0 k a0 a1 t104 true) else (if a0 < (shl .i64 1 (ji8)) then (duffellaw40_ProbeLogs.j0 k a0 a1 t104 (decide (t104 ≥ (wrap64 (256 * t106))))) else (duffellaw40_ProbeLogs.j0 k a0 a1 t104 false))) else (if a0 < (shl .i64 1 (ji8)) then (duffellaw40_ProbeLogs.j0 k a0 a1 t104 (decide (t104 ≥ (wrap64 (256 * t106))))) else (duffellaw40_ProbeLogs.j0 k a0 a1 t104 false)))) else (some false))) else (none)) = some r := by first | (rw [hji8] at H; exact H) | (simp only [hji8] at H ⊢; exact H)
    (try rw [hji8] at A4)
    (try rw [hji8] at A5)
    (try rw [hji8] at A7)
    by_cases c9 : 0 ≤ (ji8)
    · rw [if_pos c9] at H
      have c9b0 := eq_true c9
      have c9b1 : decide (0 ≤ (ji8)) = true := decide_eq_true c9
      clear c9
      obtain ⟨ji10, hji10⟩ : ∃ j_ : Int, (shl .i64 1 (ji8)) = j_ := ⟨_, rfl⟩
      replace H : ((probe_Log.f k (ji10)).bind fun t107 => (if t107 = (wrap64 (256 * t106)) then (if a0 < 1 then (if t104 = 0 then ((duffellaw40_lives.f k).bind fun t108 => (some t108)) else (some false)) else (if a0 ≥ (ji10) then (if t104 < (wrap64 (256 * t106)) then (duffellaw40_ProbeLogs.j0 k a0 a1 t104 true) else (if a0 < (ji10) then (duffellaw40_ProbeLogs.j0 k a0 a1 t104 (decide (t104 ≥ (wrap64 (256 * t106))))) else (duffellaw40_ProbeLogs.j0 k a0 a1 t104 false))) else (if a0 < (ji10) then (duffellaw40_ProbeLogs.j0 k a0 a1 t104 (decide (t104 ≥ (wrap64 (256 * t106))))) else (duffellaw40_ProbeLogs.j0 k a0 a1 t104 false)))) else (some false))) = some r := by first | (rw [hji10] at H; exact H) | (simp only [hji10] at H ⊢; exact H)
      (try rw [hji10] at A4)
      (try rw [hji10] at A5)
      (try rw [hji10] at A7)
      have hji10_ : (IntKind.i64.wrap (1 * 2 ^ min (ji8).toNat 64)) = ji10 := hji10
      have hji10z : (ji8) ≤ 64 → (IntKind.i64.wrap (1 * 2 ^ (ji8).toNat)) = ji10 := shl_small hji10
      have hji10u : (IntKind.i64.wrap (2 ^ min (ji8).toNat 64)) = ji10 := by have h_ := hji10_; rw [Int.one_mul] at h_; exact h_
      have hji10v : (ji8) ≤ 64 → (IntKind.i64.wrap (2 ^ (ji8).toNat)) = ji10 := fun hle_ => by have h_ := hji10z hle_; rw [Int.one_mul] at h_; exact h_
      have hji10y : (wrap64 (1 * 2 ^ min (ji8).toNat 64)) = ji10 := (i64_w _).symm.trans hji10_
      have hji10x : (ji8) ≤ 64 → (wrap64 (1 * 2 ^ (ji8).toNat)) = ji10 := fun h_ => (i64_w _).symm.trans (hji10z h_)
      replace H := Option.bind_eq_some_iff.mp H
      obtain ⟨t107, A110, H⟩ := H
      replace H : (if t107 = (wrap64 (256 * t106)) then (if a0 < 1 then (if t104 = 0 then ((duffellaw40_lives.f k).bind fun t108 => (some t108)) else (some false)) else (if a0 ≥ (ji10) then (if t104 < (wrap64 (256 * t106)) then (duffellaw40_ProbeLogs.j0 k a0 a1 t104 true) else (if a0 < (ji10) then (duffellaw40_ProbeLogs.j0 k a0 a1 t104 (decide (t104 ≥ (wrap64 (256 * t106))))) else (duffellaw40_ProbeLogs.j0 k a0 a1 t104 false))) else (if a0 < (ji10) then (duffellaw40_ProbeLogs.j0 k a0 a1 t104 (decide (t104 ≥ (wrap64 (256 * t106))))) else (duffellaw40_ProbeLogs.j0 k a0 a1 t104 false)))) else (some false)) = some r := H
      have A11 := Aside0.mk A110
      clear A110
      by_cases c12 : t107 = (wrap64 (256 * t106))
      · rw [if_pos c12] at H
        have c12b0 : (t107 == (wrap64 (256 * t106))) = true := beq_iff_eq.mpr c12
        have c12b1 : (t107 != (wrap64 (256 * t106))) = false := bne_eq_false_iff_eq.mpr c12
        clear c12
        by_cases c13 : a0 < 1
        · rw [if_pos c13] at H
          have c13b0 : decide (a0 < 1) = true := decide_eq_true c13
          clear c13
          by_cases c14 : t104 = 0
          · rw [if_pos c14] at H
            have c14b0 : (t104 == 0) = true := beq_iff_eq.mpr c14
            have c14b1 : (t104 != 0) = false := bne_eq_false_iff_eq.mpr c14
            clear c14
            replace H := Option.bind_eq_some_iff.mp H
            obtain ⟨t108, A150, H⟩ := H
            replace H : (some t108) = some r := H
            have A15 := Aside0.mk A150
            clear A150
            obtain rfl := Option.some.inj H
            go_enter Try.func3, Try.ntmps3
            go_wp2_with (first | ((with_reducible refine gate_callee (f := 7) rfl ?_); refine goesL_ (some 10) rfl rfl Try.func7 (by kernel_rfl) rfl #[.int .i64 a0] rfl (by (try simp only [List.map_toArray, List.map_cons, List.map_nil]); first | done | rfl | (simp only [List.length_drop, List.length_take]; rfl)) ?_; (with_reducible refine (probe_Log.calls k a0 t104 _ A4.out).mono ?_); rintro e w' ⟨rfl, ⟨nd, rfl⟩⟩; refine ⟨_, rfl, ?_⟩) | ((with_reducible refine gate_callee (f := 8) rfl ?_); refine goesL_ (some 13) rfl rfl Try.func8 (by kernel_rfl) rfl #[.int .i64 a0] rfl (by (try simp only [List.map_toArray, List.map_cons, List.map_nil]); first | done | rfl | (simp only [List.length_drop, List.length_take]; rfl)) ?_; (with_reducible refine (duffelref40_Log.calls k a0 t105 _ A5.out).mono ?_); rintro e w' ⟨rfl, ⟨nd, rfl⟩⟩; refine ⟨_, rfl, ?_⟩) | ((with_reducible refine gate_callee (f := 9) rfl ?_); refine goesL_ (some 16) rfl rfl Try.func9 (by kernel_rfl) rfl #[.int .i64 a2, .int .i64 0, .int .i64 61] rfl (by (try simp only [List.map_toArray, List.map_cons, List.map_nil]); first | done | rfl | (simp only [List.length_drop, List.length_take]; rfl)) ?_; (with_reducible refine (duffelref01_Within.still a2 0 61 t106 _ A7.out).mono ?_); rintro e w' ⟨rfl, hs_⟩; subst hs_; refine ⟨_, rfl, ?_⟩) | ((with_reducible refine gate_callee (f := 7) rfl ?_); refine goesL_ (some 20) rfl rfl Try.func7 (by kernel_rfl) rfl #[.int .i64 ji10] rfl (by (try simp only [List.map_toArray, List.map_cons, List.map_nil]); first | done | (simp only [hji10]; rfl) | rfl | (simp only [List.length_drop, List.length_take]; rfl)) ?_; (with_reducible refine (probe_Log.calls k ji10 t107 _ A11.out).mono ?_); rintro e w' ⟨rfl, ⟨nd, rfl⟩⟩; refine ⟨_, rfl, ?_⟩) | (go_at_call 10; (with_reducible refine (duffellaw40_lives.calls k  t108 _ A15.out).mono ?_); rintro e w16 ⟨rfl, hb⟩; have n0_ := Aside0.mk (below_step (by repeat (first | (with_reducible first | exact HB.out | apply below_alloc | apply pw_below_drewN | apply below_drew1) | exact HB.out)) hb); clear HB; have HB := n0_; clear n0_; (try clear hb); (try clear hb2); (try clear hk); (try clear hi)))
            go_ret
            exact ⟨by first | rfl | (simp [errW_none, errW_some] <;> rfl) | (simp only [← hji8, ← hji10]; first | rfl | (simp [errW_none, errW_some] <;> rfl)) | (simp [*, errW_none, errW_some] <;> rfl), by repeat (first | (with_reducible first | exact HB.out | apply below_alloc | apply pw_below_drewN | apply below_drew1) | exact HB.out)⟩
          · rw [if_neg c14] at H
            have c14b0 : (t104 == 0) = false := beq_eq_false_iff_ne.mpr c14
            have c14b1 : (t104 != 0) = true := bne_iff_ne.mpr c14
            obtain rfl := Option.some.inj H
            go_enter Try.func3, Try.ntmps3
            go_wp2_with (first | ((with_reducible refine gate_callee (f := 7) rfl ?_); refine goesL_ (some 10) rfl rfl Try.func7 (by kernel_rfl) rfl #[.int .i64 a0] rfl (by (try simp only [List.map_toArray, List.map_cons, List.map_nil]); first | done | rfl | (simp only [List.length_drop, List.length_take]; rfl)) ?_; (with_reducible refine (probe_Log.calls k a0 t104 _ A4.out).mono ?_); rintro e w' ⟨rfl, ⟨nd, rfl⟩⟩; refine ⟨_, rfl, ?_⟩) | ((with_reducible refine gate_callee (f := 8) rfl ?_); refine goesL_ (some 13) rfl rfl Try.func8 (by kernel_rfl) rfl #[.int .i64 a0] rfl (by (try simp only [List.map_toArray, List.map_cons, List.map_nil]); first | done | rfl | (simp only [List.length_drop, List.length_take]; rfl)) ?_; (with_reducible refine (duffelref40_Log.calls k a0 t105 _ A5.out).mono ?_); rintro e w' ⟨rfl, ⟨nd, rfl⟩⟩; refine ⟨_, rfl, ?_⟩) | ((with_reducible refine gate_callee (f := 9) rfl ?_); refine goesL_ (some 16) rfl rfl Try.func9 (by kernel_rfl) rfl #[.int .i64 a2, .int .i64 0, .int .i64 61] rfl (by (try simp only [List.map_toArray, List.map_cons, List.map_nil]); first | done | rfl | (simp only [List.length_drop, List.length_take]; rfl)) ?_; (with_reducible refine (duffelref01_Within.still a2 0 61 t106 _ A7.out).mono ?_); rintro e w' ⟨rfl, hs_⟩; subst hs_; refine ⟨_, rfl, ?_⟩) | ((with_reducible refine gate_callee (f := 7) rfl ?_); refine goesL_ (some 20) rfl rfl Try.func7 (by kernel_rfl) rfl #[.int .i64 ji10] rfl (by (try simp only [List.map_toArray, List.map_cons, List.map_nil]); first | done | (simp only [hji10]; rfl) | rfl | (simp only [List.length_drop, List.length_take]; rfl)) ?_; (with_reducible refine (probe_Log.calls k ji10 t107 _ A11.out).mono ?_); rintro e w' ⟨rfl, ⟨nd, rfl⟩⟩; refine ⟨_, rfl, ?_⟩))
            go_ret
            exact ⟨by first | rfl | (simp [errW_none, errW_some] <;> rfl) | (simp only [← hji8, ← hji10]; first | rfl | (simp [errW_none, errW_some] <;> rfl)) | (simp [*, errW_none, errW_some] <;> rfl), by repeat (first | (with_reducible first | exact HB.out | apply below_alloc | apply pw_below_drewN | apply below_drew1) | exact HB.out)⟩
        · rw [if_neg c13] at H
          have c13b0 : decide (a0 < 1) = false := decide_eq_false c13
          clear c13
          have HC17 := Aside0.mk H
          clear H
          go_enter Try.func3, Try.ntmps3
          go_upto_region 9 with (first | ((with_reducible refine gate_callee (f := 7) rfl ?_); refine goesL_ (some 10) rfl rfl Try.func7 (by kernel_rfl) rfl #[.int .i64 a0] rfl (by (try simp only [List.map_toArray, List.map_cons, List.map_nil]); first | done | rfl | (simp only [List.length_drop, List.length_take]; rfl)) ?_; (with_reducible refine (probe_Log.calls k a0 t104 _ A4.out).mono ?_); rintro e w' ⟨rfl, ⟨nd, rfl⟩⟩; refine ⟨_, rfl, ?_⟩) | ((with_reducible refine gate_callee (f := 8) rfl ?_); refine goesL_ (some 13) rfl rfl Try.func8 (by kernel_rfl) rfl #[.int .i64 a0] rfl (by (try simp only [List.map_toArray, List.map_cons, List.map_nil]); first | done | rfl | (simp only [List.length_drop, List.length_take]; rfl)) ?_; (with_reducible refine (duffelref40_Log.calls k a0 t105 _ A5.out).mono ?_); rintro e w' ⟨rfl, ⟨nd, rfl⟩⟩; refine ⟨_, rfl, ?_⟩) | ((with_reducible refine gate_callee (f := 9) rfl ?_); refine goesL_ (some 16) rfl rfl Try.func9 (by kernel_rfl) rfl #[.int .i64 a2, .int .i64 0, .int .i64 61] rfl (by (try simp only [List.map_toArray, List.map_cons, List.map_nil]); first | done | rfl | (simp only [List.length_drop, List.length_take]; rfl)) ?_; (with_reducible refine (duffelref01_Within.still a2 0 61 t106 _ A7.out).mono ?_); rintro e w' ⟨rfl, hs_⟩; subst hs_; refine ⟨_, rfl, ?_⟩) | ((with_reducible refine gate_callee (f := 7) rfl ?_); refine goesL_ (some 20) rfl rfl Try.func7 (by kernel_rfl) rfl #[.int .i64 ji10] rfl (by (try simp only [List.map_toArray, List.map_cons, List.map_nil]); first | done | (simp only [hji10]; rfl) | rfl | (simp only [List.length_drop, List.length_take]; rfl)) ?_; (with_reducible refine (probe_Log.calls k ji10 t107 _ A11.out).mono ?_); rintro e w' ⟨rfl, ⟨nd, rfl⟩⟩; refine ⟨_, rfl, ?_⟩))
          (try simp only [Act.put, List.setIfInBounds_toArray, List.set_cons_zero, List.set_cons_succ])
          go_cut [54] (fun v54 wc => ∃ (kq : Nat) (x54_16 : Bool), v54 = .bool x54_16 ∧ Aside0 (duffellaw40_ProbeLogs.j0 kq a0 a1 t104 x54_16 = some r) ∧ Aside0 (kq ≤ k) ∧ Aside0 (Below w.heap.size w wc))
          case first =>
            have H := HC17.out
            clear HC17
            have c18b0 := eq_true (of_decide_eq_true (by first | (with_reducible assumption) | assumption) : 0 ≤ (ji8))
            by_cases c20 : a0 ≥ (ji10)
            · rw [if_pos c20] at H
              have c20b0 : decide ((ji10) ≤ a0) = true := decide_eq_true c20
              clear c20
              (first | rw [c20b0] | (simp only [i64_w, i32_w]; rw [c20b0]) | skip)
              by_cases c21 : t104 < (wrap64 (256 * t106))
              · rw [if_pos c21] at H
                have c21b0 : decide (t104 < (wrap64 (256 * t106))) = true := decide_eq_true c21
                clear c21
                have H' := Aside0.mk H
                clear H
                go_wp2
                go_meet
                case rel => exact ⟨_, (true), (by first | rfl | (simp; done) | (simp [*]; done)), H', ⟨by first | omega | exact Nat.le_refl _⟩, ⟨by repeat (first | (with_reducible first | exact HB.out | apply below_alloc | apply pw_below_drewN | apply below_drew1) | exact HB.out)⟩⟩
              · rw [if_neg c21] at H
                have c21b0 : decide (t104 < (wrap64 (256 * t106))) = false := decide_eq_false c21
                clear c21
                have c22b0 := eq_true (of_decide_eq_true (by first | (with_reducible assumption) | assumption) : 0 ≤ (ji8))
                by_cases c24 : a0 < (ji10)
                · rw [if_pos c24] at H
                  have c24b0 : decide (a0 < (ji10)) = true := decide_eq_true c24
                  clear c24
                  have H' := Aside0.mk H
                  clear H
                  go_wp2
                  go_meet
                  case rel => exact ⟨_, (decide (t104 ≥ (wrap64 (256 * t106)))), (by first | rfl | (simp; done) | (simp [*]; done)), H', ⟨by first | omega | exact Nat.le_refl _⟩, ⟨by repeat (first | (with_reducible first | exact HB.out | apply below_alloc | apply pw_below_drewN | apply below_drew1) | exact HB.out)⟩⟩
                · rw [if_neg c24] at H
                  have c24b0 : decide (a0 < (ji10)) = false := decide_eq_false c24
                  clear c24
                  have H' := Aside0.mk H
                  clear H
                  go_wp2
                  go_meet
                  case rel => exact ⟨_, (false), (by first | rfl | (simp; done) | (simp [*]; done)), H', ⟨by first | omega | exact Nat.le_refl _⟩, ⟨by repeat (first | (with_reducible first | exact HB.out | apply below_alloc | apply pw_below_drewN | apply below_drew1) | exact HB.out)⟩⟩
            · rw [if_neg c20] at H
              have c20b0 : decide ((ji10) ≤ a0) = false := decide_eq_false c20
              clear c20
              (first | rw [c20b0] | (simp only [i64_w, i32_w]; rw [c20b0]) | skip)
              have c25b0 := eq_true (of_decide_eq_true (by first | (with_reducible assumption) | assumption) : 0 ≤ (ji8))
              by_cases c27 : a0 < (ji10)
              · rw [if_pos c27] at H
                have c27b0 : decide (a0 < (ji10)) = true := decide_eq_true c27
                clear c27
                have H' := Aside0.mk H
                clear H
                go_wp2
                go_meet
                case rel => exact ⟨_, (decide (t104 ≥ (wrap64 (256 * t106)))), (by first | rfl | (simp; done) | (simp [*]; done)), H', ⟨by first | omega | exact Nat.le_refl _⟩, ⟨by repeat (first | (with_reducible first | exact HB.out | apply below_alloc | apply pw_below_drewN | apply below_drew1) | exact HB.out)⟩⟩
              · rw [if_neg c27] at H
                have c27b0 : decide (a0 < (ji10)) = false := decide_eq_false c27
                clear c27
                have H' := Aside0.mk H
                clear H
                go_wp2
                go_meet
                case rel => exact ⟨_, (false), (by first | rfl | (simp; done) | (simp [*]; done)), H', ⟨by first | omega | exact Nat.le_refl _⟩, ⟨by repeat (first | (with_reducible first | exact HB.out | apply below_alloc | apply pw_below_drewN | apply below_drew1) | exact HB.out)⟩⟩
          case rest =>
            clear HC17
            try clear c1
            try clear c2
            try clear p2
            try clear c3
            try clear c6
            try clear c6b0
            try clear c6b1
            try clear p6
            try clear c7
            try clear c8
            try clear c9
            try clear c9b0
            try clear c9b1
            try clear c12
            try clear c12b0
            try clear c12b1
            try clear c13
            try clear c13b0
            try clear c14
            try clear c14b0
            try clear c14b1
            try clear c18
            try clear c18b0
            try clear c19
            try clear c19b0
            try clear c20
            try clear c20b0
            try clear c21
            try clear c21b0
            try clear c22
            try clear c22b0
            try clear c23
            try clear c23b0
            try clear c24
            try clear c24b0
            try clear c25
            try clear c25b0
            try clear c26
            try clear c26b0
            try clear c27
            try clear c27b0
            obtain ⟨kq, x54_16, rfl, HA, HJ16, HB⟩ := hcut
            cases kq with
            | zero => exact absurd HA.out (by simp [duffellaw40_ProbeLogs.j0])
            | succ kj16 =>
              have H := HA.out
              clear HA
              simp only [duffellaw40_ProbeLogs.j0] at H
              by_cases c28 : x54_16 = true
              · subst c28
                have H1 : (some false) = some r := by rw [if_pos rfl] at H; exact H
                clear H
                have H := H1
                clear H1
                obtain rfl := Option.some.inj H
                go_wp2
                go_ret
                exact ⟨by first | rfl | (simp [errW_none, errW_some] <;> rfl) | (simp only [← hji8, ← hji10]; first | rfl | (simp [errW_none, errW_some] <;> rfl)) | (simp [*, errW_none, errW_some] <;> rfl), by repeat (first | (with_reducible first | exact HB.out | apply below_alloc | apply pw_below_drewN | apply below_drew1) | exact HB.out)⟩
              · replace c28 := Bool.eq_false_iff.mpr c28
                subst c28
                have H1 : ((probe_Log.f kj16 a1).bind fun t109 => (if a1 < a0 then (if a1 > a0 then ((duffellaw40_lives.f kj16).bind fun t110 => (some t110)) else (if t109 ≤ t104 then ((duffellaw40_lives.f kj16).bind fun t111 => (some t111)) else (some false))) else (if t109 ≥ t104 then (if a1 > a0 then ((duffellaw40_lives.f kj16).bind fun t112 => (some t112)) else (if t109 ≤ t104 then ((duffellaw40_lives.f kj16).bind fun t113 => (some t113)) else (some false))) else (some false)))) = some r := by rw [if_neg (show ¬ (false = true) by decide)] at H; exact H
                clear H
                have H := H1
                clear H1
                replace H := Option.bind_eq_some_iff.mp H
                obtain ⟨t109, A290, H⟩ := H
                replace H : (if a1 < a0 then (if a1 > a0 then ((duffellaw40_lives.f kj16).bind fun t110 => (some t110)) else (if t109 ≤ t104 then ((duffellaw40_lives.f kj16).bind fun t111 => (some t111)) else (some false))) else (if t109 ≥ t104 then (if a1 > a0 then ((duffellaw40_lives.f kj16).bind fun t112 => (some t112)) else (if t109 ≤ t104 then ((duffellaw40_lives.f kj16).bind fun t113 => (some t113)) else (some false))) else (some false))) = some r := H
                have A29 := Aside0.mk A290
                clear A290
                by_cases c30 : a1 < a0
                · rw [if_pos c30] at H
                  have c30b0 : decide (a1 < a0) = true := decide_eq_true c30
                  clear c30
                  by_cases c31 : a1 > a0
                  · rw [if_pos c31] at H
                    have c31b0 : decide (a0 < a1) = true := decide_eq_true c31
                    clear c31
                    replace H := Option.bind_eq_some_iff.mp H
                    obtain ⟨t110, A320, H⟩ := H
                    replace H : (some t110) = some r := H
                    have A32 := Aside0.mk A320
                    clear A320
                    obtain rfl := Option.some.inj H
                    go_wp2_with (first | ((with_reducible refine gate_callee (f := 7) rfl ?_); refine goesL_ (some 56) rfl rfl Try.func7 (by kernel_rfl) rfl #[.int .i64 a1] rfl (by (try simp only [List.map_toArray, List.map_cons, List.map_nil]); first | done | rfl | (simp only [List.length_drop, List.length_take]; rfl)) ?_; (with_reducible refine (probe_Log.calls kj16 a1 t109 _ A29.out).mono ?_); rintro e w' ⟨rfl, ⟨nd, rfl⟩⟩; refine ⟨_, rfl, ?_⟩) | (go_at_call 10; (with_reducible refine (duffellaw40_lives.calls kj16  t110 _ A32.out).mono ?_); rintro e w33 ⟨rfl, hb⟩; have n0_ := Aside0.mk (below_step (by repeat (first | (with_reducible first | exact HB.out | apply below_alloc | apply pw_below_drewN | apply below_drew1) | exact HB.out)) hb); clear HB; have HB := n0_; clear n0_; (try clear hb); (try clear hb2); (try clear hk); (try clear hi)))
                    go_ret
                    exact ⟨by first | rfl | (simp [errW_none, errW_some] <;> rfl) | (simp only [← hji8, ← hji10]; first | rfl | (simp [errW_none, errW_some] <;> rfl)) | (simp [*, errW_none, errW_some] <;> rfl), by repeat (first | (with_reducible first | exact HB.out | apply below_alloc | apply pw_below_drewN | apply below_drew1) | exact HB.out)⟩
                  · rw [if_neg c31] at H
                    have c31b0 : decide (a0 < a1) = false := decide_eq_false c31
                    clear c31
                    by_cases c34 : t109 ≤ t104
                    · rw [if_pos c34] at H
                      have c34b0 : decide (t109 ≤ t104) = true := decide_eq_true c34
                      clear c34
                      replace H := Option.bind_eq_some_iff.mp H
                      obtain ⟨t111, A350, H⟩ := H
                      replace H : (some t111) = some r := H
                      have A35 := Aside0.mk A350
                      clear A350
                      obtain rfl := Option.some.inj H
                      go_wp2_with (first | ((with_reducible refine gate_callee (f := 7) rfl ?_); refine goesL_ (some 56) rfl rfl Try.func7 (by kernel_rfl) rfl #[.int .i64 a1] rfl (by (try simp only [List.map_toArray, List.map_cons, List.map_nil]); first | done | rfl | (simp only [List.length_drop, List.length_take]; rfl)) ?_; (with_reducible refine (probe_Log.calls kj16 a1 t109 _ A29.out).mono ?_); rintro e w' ⟨rfl, ⟨nd, rfl⟩⟩; refine ⟨_, rfl, ?_⟩) | (go_at_call 10; (with_reducible refine (duffellaw40_lives.calls kj16  t111 _ A35.out).mono ?_); rintro e w36 ⟨rfl, hb⟩; have n0_ := Aside0.mk (below_step (by repeat (first | (with_reducible first | exact HB.out | apply below_alloc | apply pw_below_drewN | apply below_drew1) | exact HB.out)) hb); clear HB; have HB := n0_; clear n0_; (try clear hb); (try clear hb2); (try clear hk); (try clear hi)))
                      go_ret
                      exact ⟨by first | rfl | (simp [errW_none, errW_some] <;> rfl) | (simp only [← hji8, ← hji10]; first | rfl | (simp [errW_none, errW_some] <;> rfl)) | (simp [*, errW_none, errW_some] <;> rfl), by repeat (first | (with_reducible first | exact HB.out | apply below_alloc | apply pw_below_drewN | apply below_drew1) | exact HB.out)⟩
                    · rw [if_neg c34] at H
                      have c34b0 : decide (t109 ≤ t104) = false := decide_eq_false c34
                      clear c34
                      obtain rfl := Option.some.inj H
                      go_wp2_with (first | ((with_reducible refine gate_callee (f := 7) rfl ?_); refine goesL_ (some 56) rfl rfl Try.func7 (by kernel_rfl) rfl #[.int .i64 a1] rfl (by (try simp only [List.map_toArray, List.map_cons, List.map_nil]); first | done | rfl | (simp only [List.length_drop, List.length_take]; rfl)) ?_; (with_reducible refine (probe_Log.calls kj16 a1 t109 _ A29.out).mono ?_); rintro e w' ⟨rfl, ⟨nd, rfl⟩⟩; refine ⟨_, rfl, ?_⟩))
                      go_ret
                      exact ⟨by first | rfl | (simp [errW_none, errW_some] <;> rfl) | (simp only [← hji8, ← hji10]; first | rfl | (simp [errW_none, errW_some] <;> rfl)) | (simp [*, errW_none, errW_some] <;> rfl), by repeat (first | (with_reducible first | exact HB.out | apply below_alloc | apply pw_below_drewN | apply below_drew1) | exact HB.out)⟩
                · rw [if_neg c30] at H
                  have c30b0 : decide (a1 < a0) = false := decide_eq_false c30
                  clear c30
                  by_cases c37 : t109 ≥ t104
                  · rw [if_pos c37] at H
                    have c37b0 : decide (t104 ≤ t109) = true := decide_eq_true c37
                    clear c37
                    by_cases c38 : a1 > a0
                    · rw [if_pos c38] at H
                      have c38b0 : decide (a0 < a1) = true := decide_eq_true c38
                      clear c38
                      replace H := Option.bind_eq_some_iff.mp H
                      obtain ⟨t112, A390, H⟩ := H
                      replace H : (some t112) = some r := H
                      have A39 := Aside0.mk A390
                      clear A390
                      obtain rfl := Option.some.inj H
                      go_wp2_with (first | ((with_reducible refine gate_callee (f := 7) rfl ?_); refine goesL_ (some 56) rfl rfl Try.func7 (by kernel_rfl) rfl #[.int .i64 a1] rfl (by (try simp only [List.map_toArray, List.map_cons, List.map_nil]); first | done | rfl | (simp only [List.length_drop, List.length_take]; rfl)) ?_; (with_reducible refine (probe_Log.calls kj16 a1 t109 _ A29.out).mono ?_); rintro e w' ⟨rfl, ⟨nd, rfl⟩⟩; refine ⟨_, rfl, ?_⟩) | (go_at_call 10; (with_reducible refine (duffellaw40_lives.calls kj16  t112 _ A39.out).mono ?_); rintro e w40 ⟨rfl, hb⟩; have n0_ := Aside0.mk (below_step (by repeat (first | (with_reducible first | exact HB.out | apply below_alloc | apply pw_below_drewN | apply below_drew1) | exact HB.out)) hb); clear HB; have HB := n0_; clear n0_; (try clear hb); (try clear hb2); (try clear hk); (try clear hi)))
                      go_ret
                      exact ⟨by first | rfl | (simp [errW_none, errW_some] <;> rfl) | (simp only [← hji8, ← hji10]; first | rfl | (simp [errW_none, errW_some] <;> rfl)) | (simp [*, errW_none, errW_some] <;> rfl), by repeat (first | (with_reducible first | exact HB.out | apply below_alloc | apply pw_below_drewN | apply below_drew1) | exact HB.out)⟩
                    · rw [if_neg c38] at H
                      have c38b0 : decide (a0 < a1) = false := decide_eq_false c38
                      clear c38
                      by_cases c41 : t109 ≤ t104
                      · rw [if_pos c41] at H
                        have c41b0 : decide (t109 ≤ t104) = true := decide_eq_true c41
                        clear c41
                        replace H := Option.bind_eq_some_iff.mp H
                        obtain ⟨t113, A420, H⟩ := H
                        replace H : (some t113) = some r := H
                        have A42 := Aside0.mk A420
                        clear A420
                        obtain rfl := Option.some.inj H
                        go_wp2_with (first | ((with_reducible refine gate_callee (f := 7) rfl ?_); refine goesL_ (some 56) rfl rfl Try.func7 (by kernel_rfl) rfl #[.int .i64 a1] rfl (by (try simp only [List.map_toArray, List.map_cons, List.map_nil]); first | done | rfl | (simp only [List.length_drop, List.length_take]; rfl)) ?_; (with_reducible refine (probe_Log.calls kj16 a1 t109 _ A29.out).mono ?_); rintro e w' ⟨rfl, ⟨nd, rfl⟩⟩; refine ⟨_, rfl, ?_⟩) | (go_at_call 10; (with_reducible refine (duffellaw40_lives.calls kj16  t113 _ A42.out).mono ?_); rintro e w43 ⟨rfl, hb⟩; have n0_ := Aside0.mk (below_step (by repeat (first | (with_reducible first | exact HB.out | apply below_alloc | apply pw_below_drewN | apply below_drew1) | exact HB.out)) hb); clear HB; have HB := n0_; clear n0_; (try clear hb); (try clear hb2); (try clear hk); (try clear hi)))
                        go_ret
                        exact ⟨by first | rfl | (simp [errW_none, errW_some] <;> rfl) | (simp only [← hji8, ← hji10]; first | rfl | (simp [errW_none, errW_some] <;> rfl)) | (simp [*, errW_none, errW_some] <;> rfl), by repeat (first | (with_reducible first | exact HB.out | apply below_alloc | apply pw_below_drewN | apply below_drew1) | exact HB.out)⟩
                      · rw [if_neg c41] at H
                        have c41b0 : decide (t109 ≤ t104) = false := decide_eq_false c41
                        clear c41
                        obtain rfl := Option.some.inj H
                        go_wp2_with (first | ((with_reducible refine gate_callee (f := 7) rfl ?_); refine goesL_ (some 56) rfl rfl Try.func7 (by kernel_rfl) rfl #[.int .i64 a1] rfl (by (try simp only [List.map_toArray, List.map_cons, List.map_nil]); first | done | rfl | (simp only [List.length_drop, List.length_take]; rfl)) ?_; (with_reducible refine (probe_Log.calls kj16 a1 t109 _ A29.out).mono ?_); rintro e w' ⟨rfl, ⟨nd, rfl⟩⟩; refine ⟨_, rfl, ?_⟩))
                        go_ret
                        exact ⟨by first | rfl | (simp [errW_none, errW_some] <;> rfl) | (simp only [← hji8, ← hji10]; first | rfl | (simp [errW_none, errW_some] <;> rfl)) | (simp [*, errW_none, errW_some] <;> rfl), by repeat (first | (with_reducible first | exact HB.out | apply below_alloc | apply pw_below_drewN | apply below_drew1) | exact HB.out)⟩
                  · rw [if_neg c37] at H
                    have c37b0 : decide (t104 ≤ t109) = false := decide_eq_false c37
                    clear c37
                    obtain rfl := Option.some.inj H
                    go_wp2_with (first | ((with_reducible refine gate_callee (f := 7) rfl ?_); refine goesL_ (some 56) rfl rfl Try.func7 (by kernel_rfl) rfl #[.int .i64 a1] rfl (by (try simp only [List.map_toArray, List.map_cons, List.map_nil]); first | done | rfl | (simp only [List.length_drop, List.length_take]; rfl)) ?_; (with_reducible refine (probe_Log.calls kj16 a1 t109 _ A29.out).mono ?_); rintro e w' ⟨rfl, ⟨nd, rfl⟩⟩; refine ⟨_, rfl, ?_⟩))
                    go_ret
                    exact ⟨by first | rfl | (simp [errW_none, errW_some] <;> rfl) | (simp only [← hji8, ← hji10]; first | rfl | (simp [errW_none, errW_some] <;> rfl)) | (simp [*, errW_none, errW_some] <;> rfl), by repeat (first | (with_reducible first | exact HB.out | apply below_alloc | apply pw_below_drewN | apply below_drew1) | exact HB.out)⟩
      · rw [if_neg c12] at H
        have c12b0 : (t107 == (wrap64 (256 * t106))) = false := beq_eq_false_iff_ne.mpr c12
        have c12b1 : (t107 != (wrap64 (256 * t106))) = true := bne_iff_ne.mpr c12
        obtain rfl := Option.some.inj H
        go_enter Try.func3, Try.ntmps3
        go_wp2_with (first | ((with_reducible refine gate_callee (f := 7) rfl ?_); refine goesL_ (some 10) rfl rfl Try.func7 (by kernel_rfl) rfl #[.int .i64 a0] rfl (by (try simp only [List.map_toArray, List.map_cons, List.map_nil]); first | done | rfl | (simp only [List.length_drop, List.length_take]; rfl)) ?_; (with_reducible refine (probe_Log.calls k a0 t104 _ A4.out).mono ?_); rintro e w' ⟨rfl, ⟨nd, rfl⟩⟩; refine ⟨_, rfl, ?_⟩) | ((with_reducible refine gate_callee (f := 8) rfl ?_); refine goesL_ (some 13) rfl rfl Try.func8 (by kernel_rfl) rfl #[.int .i64 a0] rfl (by (try simp only [List.map_toArray, List.map_cons, List.map_nil]); first | done | rfl | (simp only [List.length_drop, List.length_take]; rfl)) ?_; (with_reducible refine (duffelref40_Log.calls k a0 t105 _ A5.out).mono ?_); rintro e w' ⟨rfl, ⟨nd, rfl⟩⟩; refine ⟨_, rfl, ?_⟩) | ((with_reducible refine gate_callee (f := 9) rfl ?_); refine goesL_ (some 16) rfl rfl Try.func9 (by kernel_rfl) rfl #[.int .i64 a2, .int .i64 0, .int .i64 61] rfl (by (try simp only [List.map_toArray, List.map_cons, List.map_nil]); first | done | rfl | (simp only [List.length_drop, List.length_take]; rfl)) ?_; (with_reducible refine (duffelref01_Within.still a2 0 61 t106 _ A7.out).mono ?_); rintro e w' ⟨rfl, hs_⟩; subst hs_; refine ⟨_, rfl, ?_⟩) | ((with_reducible refine gate_callee (f := 7) rfl ?_); refine goesL_ (some 20) rfl rfl Try.func7 (by kernel_rfl) rfl #[.int .i64 ji10] rfl (by (try simp only [List.map_toArray, List.map_cons, List.map_nil]); first | done | (simp only [hji10]; rfl) | rfl | (simp only [List.length_drop, List.length_take]; rfl)) ?_; (with_reducible refine (probe_Log.calls k ji10 t107 _ A11.out).mono ?_); rintro e w' ⟨rfl, ⟨nd, rfl⟩⟩; refine ⟨_, rfl, ?_⟩))
        go_ret
        exact ⟨by first | rfl | (simp [errW_none, errW_some] <;> rfl) | (simp only [← hji8, ← hji10]; first | rfl | (simp [errW_none, errW_some] <;> rfl)) | (simp [*, errW_none, errW_some] <;> rfl), by repeat (first | (with_reducible first | exact HB.out | apply below_alloc | apply pw_below_drewN | apply below_drew1) | exact HB.out)⟩
    · rw [if_neg c9] at H
      exact absurd H (by simp)
  · rw [if_neg c6] at H
    have c6b0 : (t104 == t105) = false := beq_eq_false_iff_ne.mpr c6
    have c6b1 : (t104 != t105) = true := bne_iff_ne.mpr c6
    obtain rfl := Option.some.inj H
    go_enter Try.func3, Try.ntmps3
    go_wp2_with (first | ((with_reducible refine gate_callee (f := 7) rfl ?_); refine goesL_ (some 10) rfl rfl Try.func7 (by kernel_rfl) rfl #[.int .i64 a0] rfl (by (try simp only [List.map_toArray, List.map_cons, List.map_nil]); first | done | rfl | (simp only [List.length_drop, List.length_take]; rfl)) ?_; (with_reducible refine (probe_Log.calls k a0 t104 _ A4.out).mono ?_); rintro e w' ⟨rfl, ⟨nd, rfl⟩⟩; refine ⟨_, rfl, ?_⟩) | ((with_reducible refine gate_callee (f := 8) rfl ?_); refine goesL_ (some 13) rfl rfl Try.func8 (by kernel_rfl) rfl #[.int .i64 a0] rfl (by (try simp only [List.map_toArray, List.map_cons, List.map_nil]); first | done | rfl | (simp only [List.length_drop, List.length_take]; rfl)) ?_; (with_reducible refine (duffelref40_Log.calls k a0 t105 _ A5.out).mono ?_); rintro e w' ⟨rfl, ⟨nd, rfl⟩⟩; refine ⟨_, rfl, ?_⟩))
    go_ret
    exact ⟨by first | rfl | (simp [errW_none, errW_some] <;> rfl) | (simp [*, errW_none, errW_some] <;> rfl), by repeat (first | (with_reducible first | exact HB.out | apply below_alloc | apply pw_below_drewN | apply below_drew1) | exact HB.out)⟩

/-- THE ONE PURE STATEMENT of duffellaw40_ProbeLogs: yours. -/
def duffellaw40_ProbeLogs.Pure : Prop := ∀ (a0 : Int) (a1 : Int) (a2 : Int), (Lit.int .i64 a0).wf = true → (Lit.int .i64 a1).wf = true → (Lit.int .i64 a2).wf = true → ∃ k, duffellaw40_ProbeLogs.f k a0 a1 a2 = some true
theorem duffellaw40_ProbeLogs.walk (P : duffellaw40_ProbeLogs.Pure) (a0 : Int) (a1 : Int) (a2 : Int) (w : World) (w0 : (Lit.int .i64 a0).wf = true) (w1 : (Lit.int .i64 a1).wf = true) (w2 : (Lit.int .i64 a2).wf = true) :
    Calls Try.prog 3 #[.int .i64 a0, .int .i64 a1, .int .i64 a2] w fun e w' => e = .returned (.bool true) ∧ Below w.heap.size w w' := by
  obtain ⟨k, h⟩ := P a0 a1 a2 w0 w1 w2
  refine (duffellaw40_ProbeLogs.calls k a0 a1 a2 true w h).mono ?_
  rintro e w' ⟨rfl, hd⟩
  exact ⟨rfl, hd⟩

end Go.Proofs.Ytbbmcfbfkpnelaa.QL
