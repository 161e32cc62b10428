/- The law FieldWrites, walked. -/
import Derived.Test.YtedboieaefdbdaaFieldWritesP
import Derived.Test.YtedboieaefdbdaaFieldLives
import Derived.Lib.Builder
namespace Go.Proofs.Ytedboieaefdbdaa.Fld
open Go.Proofs.Ytedboieaefdbdaa.FR Go.Proofs.Ytedboieaefdbdaa.FRR
open Go.RowKit Go.Proofs.YtedboieaefdbdaaW.PrintWords Go.Proofs.YtedboieaefdbdaaW.PrintLast Go.Proofs.YtedboieaefdbdaaW.PrintMore Go.Proofs.Ytedboieaefdbdaa.MyOpen
set_option linter.unusedVariables false
set_option linter.unusedSimpArgs false
theorem ptr_same (g : Nat) : ∀ W : World, (binOp .neq 32 (.pointer (some ⟨g, 0, none⟩)) (.pointer (some ⟨g, 0, none⟩))).run Try.prog W = .ok (.bool false) W := by
  intro W
  obtain ⟨j, hj⟩ : ∃ j, Try.prog.info? 62 = some j := Option.isSome_iff_exists.mp (by kernel_rfl)
  exact Go.Lib.run_neq_ptr_same W ⟨g, 0, none⟩ Try.underlying32 hj
set_option maxHeartbeats 8000000 in
set_option maxRecDepth 100000 in
theorem writes_any (A0 : Option Addr) (c0 : Nat) (X : List WT) (w : World) (h0 : Kd.C (KW 5) w A0 X.length X) (hg : ∀ x ∈ X, GoodW x) :
    Calls Try.prog 4 #[.slice A0 X.length c0] w fun e w' => e = .returned (.bool true) ∧ Below w.heap.size w w' := by
  have HX := Aside0.mk h0
  have HG := Aside0.mk hg
  have HXM : Aside0 (X.length ≤ 9223372036854775807) := ⟨Kd.C_max h0⟩
  obtain ⟨m, hm⟩ : ∃ m, min X.length 60 = m := ⟨_, rfl⟩
  have HM : Aside0 (m ≤ X.length ∧ m ≤ 60) := ⟨by omega⟩
  have HM2 : Aside0 (∀ i, i < X.length → i < 60 → i < m) := ⟨fun i h1 h2 => by omega⟩
  clear h0 hg hm
  go_enter Try.func4, Try.ntmps4
  go_wp2_with (go_at_call 15; refine (rs_new w).mono ?_; rintro e w1 ⟨g, v1, rfl, hr, hb⟩; have HR := Aside0.mk hr; have HB := Aside0.mk hb; clear hr hb)
  go_loopw [4, 5, 6] (fun v4 v5 v6 wr => WRel w w.heap.size g m v4 v5 v6 wr) (fun v4 v5 v6 _ => m - (intOf v6).toNat)
  case atStart => exact ⟨0, v1, [], 0, rfl, rfl, Nat.zero_le _, HR.out.row, Nat.le_refl _, own_nil _ _ _ _, Nat.le_refl _, fun k hk => (by cases hk), HB.out⟩
  case round =>
    clear HR HB
    rename World => wr
    obtain ⟨i, v, L, e, rfl, rfl, hi, hws⟩ := hrel
    have HS := Aside0.mk hws
    clear hws
    have hpe := ptr_same g
    by_cases hlt : i < X.length ∧ i < 60
    · obtain ⟨hl1, hl2⟩ := hlt
      have him := HM2.out i hl1 hl2
      obtain ⟨ad, A3, c3, e1, hx0, hx1, hx2, hx3, hlc, hC3⟩ := writes_at HX.out i hl1
      subst e1
      have d1 : decide ((i : Int) < 60) = true := decide_eq_true (by omega)
      have d2 : decide (i < X.length) = true := decide_eq_true hl1
      have d3 : decide ((i : Int) < (X.length : Int)) = true := decide_eq_true (by omega)
      have hgx := HG.out X[i] (List.getElem_mem hl1)
      have hy := bounds_u32 hgx.2.2.1
      obtain ⟨kd, hkd⟩ : ∃ kd, X[i].1 = kd := ⟨_, rfl⟩
      obtain ⟨x, hx⟩ : ∃ x, X[i].2.1 = x := ⟨_, rfl⟩
      obtain ⟨y, hyy⟩ : ∃ y, X[i].2.2.1 = y := ⟨_, rfl⟩
      obtain ⟨b0, hb0⟩ : ∃ b0, X[i].2.2.2 = b0 := ⟨_, rfl⟩
      rw [hkd] at hx0
      rw [hx] at hx1
      rw [hyy] at hx2 hy
      rw [hb0] at hx3 hlc hC3
      have hb3 : (ad.add (i * 4)).block < w.heap.size := block_lt_of_cell hx0
      have HX1 := Aside0.mk hx1
      have HX2 := Aside0.mk hx2
      have HX3 := Aside0.mk hx3
      have HLC := Aside0.mk hlc
      have HC3 := Aside0.mk hC3
      have HY := Aside0.mk hy
      replace hx0 := (HS.out.bel.cell (p := ad.add (i * 4)) hb3).trans hx0
      replace hx1 := below_cells HS.out.bel _ _ _ hb3 hx1
      replace hx2 := below_cells HS.out.bel _ _ _ hb3 hx2
      replace hx3 := below_cells HS.out.bel _ _ _ hb3 hx3
      have hlr : L.length ≤ 46 * i := HS.out.len
      have HLR := Aside0.mk hlr
      have H46 : Aside0 (46 * i ≤ 46 * (i + 1) ∧ 46 * i ≤ 2800 ∧ 46 * i + 46 = 46 * (i + 1)) := ⟨by omega⟩
      have hiB : i < 60 := hl2
      clear hkd hx hyy hb0 hlc hC3 hgx hy hlr hl2
      by_cases k0 : kd = 0
      · subst k0
        by_cases he : e = 0
        · subst he
          rw [outL_0] at HS
          by_cases hxr : 0 ≤ x ∧ x ≤ 65535
          · have c1 : decide (x < 0) = false := decide_eq_false (by omega)
            have c2 : decide (65535 < x) = false := decide_eq_false (by omega)
            have hw := wi_in x
            obtain ⟨z, hz⟩ : ∃ z, wi x = z := ⟨_, rfl⟩
            rw [hz] at hw
            have HW : Aside0 (∀ W, Calls Try.prog 17 #[.int .i64 x, .int .i64 0, .int .i64 65535] W fun e w' => e = .returned (.int .i64 z) ∧ W = w') := ⟨fun W => hz ▸ within_any x W⟩
            have hcv : IntKind.u32.wrap z = z := IntWalk.u32_in _ ⟨by omega, by omega⟩
            have hzx : z = x := by rw [← hz]; unfold wi; rw [if_neg (by omega), if_neg (by omega)]
            subst hzx
            obtain ⟨M, hM⟩ : ∃ M, le z 2 = M := ⟨_, rfl⟩
            have hML : M.length ≤ 40 := by rw [← hM]; rw [le_length]; omega
            have HN : Aside0 (duffelref02_Put.f 10 z 2 = some M) := ⟨hM ▸ put_run z ⟨hw.1, by omega⟩ 2 (by decide) 10 (by decide)⟩
            obtain ⟨K, hK⟩ : ∃ K, L ++ M = K := ⟨_, rfl⟩
            have hKL : K.length ≤ 46 * (i + 1) := by rw [← hK, List.length_append]; have := HLR.out; omega
            have HK := Aside0.mk hK
            have HL9 := Aside0.mk hKL
            have HLK : Aside0 (K.length ≤ 1000000000) := ⟨by omega⟩
            have HLM : Aside0 ((L.length + M.length) * 1 ≤ 140737488355328) := ⟨by have := HLR.out; omega⟩
            have HU : Aside0 (Calls Try.prog 16 #[.pointer (some ⟨g, 0, none⟩), .int .i64 z] wr (RPost wr w.heap.size g v K 0)) := ⟨by have h := row_u16 wr w.heap.size g v L z 0 HS.out.row (by have := HLR.out; omega); rwa [show u16L L 0 z = K by unfold u16L; rw [if_pos ⟨rfl, by omega, by omega⟩, hM, hK], show u16E 0 z = 0 by unfold u16E; rw [if_neg (fun h => h.2 ⟨by omega, by omega⟩)]] at h⟩
            have HSM : Aside0 (duffelref01_Same.f 4000 K K = some true) := ⟨same_ok K (by have := HLK.out; have := HL9.out; have := H46.out; omega) 4000 (by have := HL9.out; have := H46.out; omega)⟩
            clear hz hM hK hML hKL hw hxr
            go_wp2_with (first
              | (go_at_call 16; refine HU.out.mono ?_; rintro r w9 ⟨v9, rfl, hr, hk⟩; have HS := Aside0.mk (HS.out.op hr hk HL9.out H46.out.1); have hx1 := below_cells HS.out.bel _ _ _ hb3 HX1.out; have hx2 := below_cells HS.out.bel _ _ _ hb3 HX2.out; clear hr hk)
              | (go_at_call 17; refine (HW.out _).mono ?_; rintro r w' ⟨rfl, hs_⟩; subst hs_)
              | (go_at_call 10; refine (duffelref02_Put.calls 10 z 2 M _ HN.out).mono ?_; rintro r w8 ⟨v5, rfl, hR, hb⟩; obtain ⟨A5, c5, rfl⟩ := own_slice (Kd.own_of_R hR); have HO5 := Aside0.mk (Kd.own_of_R hR); have HS := Aside0.mk (HS.out.new hb); have hx1 := below_cells HS.out.bel _ _ _ hb3 HX1.out; clear hR hb)
              | (at_builtin; refine print_append_row (w0 := w) w.heap.size rfl (.tmp 105) (.tmp 106) 22 5 .u8 1 rfl Try.underlying22 infoE (by decide) _ L M A5 M.length c5 rfl rfl HS.out.want (Kd.reads_of_C (own_C HO5.out).2.1) HS.out.bel HS.out.base HLM.out ?_; intro v2 w7 hown hbel hgr hat; have HS := Aside0.mk (HS.out.app hown hbel hgr hat HK.out HL9.out); obtain ⟨A2, c2, rfl⟩ := own_slice HS.out.want; clear hown hbel hgr hat)
              | (go_at_call 21; refine (row_bytes _ _ _ _ _ HS.out.row HLK.out).mono ?_; rintro r w6 ⟨v6, rfl, ho, hb⟩; obtain ⟨A6, c6, rfl⟩ := own_slice ho; have HO6 := Aside0.mk (own_C ho); have HS := Aside0.mk (HS.out.new hb); clear ho hb)
              | (go_at_call 20; refine (duffelref01_Same.calls 4000 A6 c6 K A2 c2 K true _ HO6.out.2.1 HO6.out.2.2.1 (own_C HS.out.want).2.1 (own_C HS.out.want).2.2.1 HSM.out).mono ?_; rintro r wz ⟨rfl, ⟨nd, hnd⟩⟩; have HS := Aside0.mk (HS.out.new (hnd ▸ pw_below_drewN (Below.refl _ _) nd)); clear hnd)
              | (go_at_call 22; refine (row_err _ _ _ _ _ _ HS.out.row).mono ?_; rintro r w' ⟨rfl, hs_⟩; subst hs_))
            all_goals
              try go_split_ands
              try go_wp2
              go_roundw
              all_goals
                have hwk : wrap64 ((i : Int) + 1) = ((i + 1 : Nat) : Int) := by rw [IntWalk.wrap64_in _ ⟨by omega, by omega⟩]; omega
              case rel => exact ⟨i + 1, _, _, _, (by first | rw [hwk] | go_num), rfl, by omega, HS.out⟩
              case measure => (try rw [hwk]); simp [intOf]; omega
          · by_cases hxn : x < 0
            · have c1 : decide (x < 0) = true := decide_eq_true hxn
              have hw := wi_in x
              obtain ⟨z, hz⟩ : ∃ z, wi x = z := ⟨_, rfl⟩
              rw [hz] at hw
              have HW : Aside0 (∀ W, Calls Try.prog 17 #[.int .i64 x, .int .i64 0, .int .i64 65535] W fun e w' => e = .returned (.int .i64 z) ∧ W = w') := ⟨fun W => hz ▸ within_any x W⟩
              have hcv : IntKind.u32.wrap z = z := IntWalk.u32_in _ ⟨by omega, by omega⟩
              obtain ⟨M, hM⟩ : ∃ M, le z 2 = M := ⟨_, rfl⟩
              have hML : M.length ≤ 40 := by rw [← hM]; rw [le_length]; omega
              have HN : Aside0 (duffelref02_Put.f 10 z 2 = some M) := ⟨hM ▸ put_run z ⟨hw.1, by omega⟩ 2 (by decide) 10 (by decide)⟩
              have HL9 : Aside0 (L.length ≤ 46 * (i + 1)) := ⟨by have := HLR.out; omega⟩
              have HE : Aside0 ((18 : Int) ≠ 0) := ⟨by decide⟩
              have HU : Aside0 (Calls Try.prog 16 #[.pointer (some ⟨g, 0, none⟩), .int .i64 x] wr (RPost wr w.heap.size g v L 18)) := ⟨by have h := row_u16 wr w.heap.size g v L x 0 HS.out.row (by have := HLR.out; omega); rwa [show u16L L 0 x = L from if_neg (fun h => hxr h.2), show u16E 0 x = 18 from if_pos ⟨rfl, hxr⟩] at h⟩
              have HSM : Aside0 (duffelref01_Same.f 4000 [] [] = some true) := ⟨same_ok [] (by decide) 4000 (by decide)⟩
              clear hz hM hML hw hxr hxn
              go_wp2_with (first
                | (go_at_call 16; refine HU.out.mono ?_; rintro r w9 ⟨v9, rfl, hr, hk⟩; have HS := Aside0.mk (HS.out.op hr hk HL9.out H46.out.1); have hx1 := below_cells HS.out.bel _ _ _ hb3 HX1.out; have hx2 := below_cells HS.out.bel _ _ _ hb3 HX2.out; clear hr hk)
                | (go_at_call 17; refine (HW.out _).mono ?_; rintro r w' ⟨rfl, hs_⟩; subst hs_)
                | (go_at_call 10; refine (duffelref02_Put.calls 10 z 2 M _ HN.out).mono ?_; rintro r w8 ⟨v5, rfl, hR, hb⟩; obtain ⟨A5, c5, rfl⟩ := own_slice (Kd.own_of_R hR); have HO5 := Aside0.mk (Kd.own_of_R hR); have HS := Aside0.mk (HS.out.new hb); have hx1 := below_cells HS.out.bel _ _ _ hb3 HX1.out; clear hR hb)
                | (go_at_call 21; refine (row_bytes_bad _ _ _ _ _ _ HS.out.row HE.out).mono ?_; rintro r w6 ⟨v6, rfl, ho, hb⟩; obtain ⟨A6, c6, rfl⟩ := own_slice ho; have HO6 := Aside0.mk (own_C ho); have HS := Aside0.mk (HS.out.nil.new hb); clear ho hb)
                | (go_at_call 20; refine (duffelref01_Same.calls 4000 A6 c6 [] none 0 [] true _ HO6.out.2.1 HO6.out.2.2.1 (Kd.C_nil _ _) (Nat.le_refl _) HSM.out).mono ?_; rintro r wz ⟨rfl, ⟨nd, hnd⟩⟩; have HS := Aside0.mk (HS.out.new (hnd ▸ pw_below_drewN (Below.refl _ _) nd)); clear hnd)
                | (go_at_call 22; refine (row_err _ _ _ _ _ _ HS.out.row).mono ?_; rintro r w' ⟨rfl, hs_⟩; subst hs_))
              all_goals
                try go_split_ands
                try go_wp2
                go_roundw
                all_goals
                  have hwk : wrap64 ((i : Int) + 1) = ((i + 1 : Nat) : Int) := by rw [IntWalk.wrap64_in _ ⟨by omega, by omega⟩]; omega
                case rel => exact ⟨i + 1, _, _, _, (by first | rw [hwk] | go_num), rfl, by omega, (outL_bad _ HE.out).symm ▸ HS.out⟩
                case measure => (try rw [hwk]); simp [intOf]; omega
            · have c1 : decide (x < 0) = false := decide_eq_false hxn
              have c2 : decide (65535 < x) = true := decide_eq_true (by omega)
              have hw := wi_in x
              obtain ⟨z, hz⟩ : ∃ z, wi x = z := ⟨_, rfl⟩
              rw [hz] at hw
              have HW : Aside0 (∀ W, Calls Try.prog 17 #[.int .i64 x, .int .i64 0, .int .i64 65535] W fun e w' => e = .returned (.int .i64 z) ∧ W = w') := ⟨fun W => hz ▸ within_any x W⟩
              have hcv : IntKind.u32.wrap z = z := IntWalk.u32_in _ ⟨by omega, by omega⟩
              obtain ⟨M, hM⟩ : ∃ M, le z 2 = M := ⟨_, rfl⟩
              have hML : M.length ≤ 40 := by rw [← hM]; rw [le_length]; omega
              have HN : Aside0 (duffelref02_Put.f 10 z 2 = some M) := ⟨hM ▸ put_run z ⟨hw.1, by omega⟩ 2 (by decide) 10 (by decide)⟩
              have HL9 : Aside0 (L.length ≤ 46 * (i + 1)) := ⟨by have := HLR.out; omega⟩
              have HE : Aside0 ((18 : Int) ≠ 0) := ⟨by decide⟩
              have HU : Aside0 (Calls Try.prog 16 #[.pointer (some ⟨g, 0, none⟩), .int .i64 x] wr (RPost wr w.heap.size g v L 18)) := ⟨by have h := row_u16 wr w.heap.size g v L x 0 HS.out.row (by have := HLR.out; omega); rwa [show u16L L 0 x = L from if_neg (fun h => hxr h.2), show u16E 0 x = 18 from if_pos ⟨rfl, hxr⟩] at h⟩
              have HSM : Aside0 (duffelref01_Same.f 4000 [] [] = some true) := ⟨same_ok [] (by decide) 4000 (by decide)⟩
              clear hz hM hML hw hxr hxn
              go_wp2_with (first
                | (go_at_call 16; refine HU.out.mono ?_; rintro r w9 ⟨v9, rfl, hr, hk⟩; have HS := Aside0.mk (HS.out.op hr hk HL9.out H46.out.1); have hx1 := below_cells HS.out.bel _ _ _ hb3 HX1.out; have hx2 := below_cells HS.out.bel _ _ _ hb3 HX2.out; clear hr hk)
                | (go_at_call 17; refine (HW.out _).mono ?_; rintro r w' ⟨rfl, hs_⟩; subst hs_)
                | (go_at_call 10; refine (duffelref02_Put.calls 10 z 2 M _ HN.out).mono ?_; rintro r w8 ⟨v5, rfl, hR, hb⟩; obtain ⟨A5, c5, rfl⟩ := own_slice (Kd.own_of_R hR); have HO5 := Aside0.mk (Kd.own_of_R hR); have HS := Aside0.mk (HS.out.new hb); have hx1 := below_cells HS.out.bel _ _ _ hb3 HX1.out; clear hR hb)
                | (go_at_call 21; refine (row_bytes_bad _ _ _ _ _ _ HS.out.row HE.out).mono ?_; rintro r w6 ⟨v6, rfl, ho, hb⟩; obtain ⟨A6, c6, rfl⟩ := own_slice ho; have HO6 := Aside0.mk (own_C ho); have HS := Aside0.mk (HS.out.nil.new hb); clear ho hb)
                | (go_at_call 20; refine (duffelref01_Same.calls 4000 A6 c6 [] none 0 [] true _ HO6.out.2.1 HO6.out.2.2.1 (Kd.C_nil _ _) (Nat.le_refl _) HSM.out).mono ?_; rintro r wz ⟨rfl, ⟨nd, hnd⟩⟩; have HS := Aside0.mk (HS.out.new (hnd ▸ pw_below_drewN (Below.refl _ _) nd)); clear hnd)
                | (go_at_call 22; refine (row_err _ _ _ _ _ _ HS.out.row).mono ?_; rintro r w' ⟨rfl, hs_⟩; subst hs_))
              all_goals
                try go_split_ands
                try go_wp2
                go_roundw
                all_goals
                  have hwk : wrap64 ((i : Int) + 1) = ((i + 1 : Nat) : Int) := by rw [IntWalk.wrap64_in _ ⟨by omega, by omega⟩]; omega
                case rel => exact ⟨i + 1, _, _, _, (by first | rw [hwk] | go_num), rfl, by omega, (outL_bad _ HE.out).symm ▸ HS.out⟩
                case measure => (try rw [hwk]); simp [intOf]; omega
        · have hw := wi_in x
          obtain ⟨z, hz⟩ : ∃ z, wi x = z := ⟨_, rfl⟩
          rw [hz] at hw
          have HW : Aside0 (∀ W, Calls Try.prog 17 #[.int .i64 x, .int .i64 0, .int .i64 65535] W fun e w' => e = .returned (.int .i64 z) ∧ W = w') := ⟨fun W => hz ▸ within_any x W⟩
          have hcv : IntKind.u32.wrap z = z := IntWalk.u32_in _ ⟨by omega, by omega⟩
          obtain ⟨M, hM⟩ : ∃ M, le z 2 = M := ⟨_, rfl⟩
          have hML : M.length ≤ 40 := by rw [← hM]; rw [le_length]; omega
          have HN : Aside0 (duffelref02_Put.f 10 z 2 = some M) := ⟨hM ▸ put_run z ⟨hw.1, by omega⟩ 2 (by decide) 10 (by decide)⟩
          have HL9 : Aside0 (L.length ≤ 46 * (i + 1)) := ⟨by have := HLR.out; omega⟩
          have HE := Aside0.mk he
          have ce : decide (e = 0) = false := decide_eq_false he
          have ce2 : (e == 0) = false := beq_eq_false_iff_ne.mpr he
          have HU : Aside0 (Calls Try.prog 16 #[.pointer (some ⟨g, 0, none⟩), .int .i64 x] wr (RPost wr w.heap.size g v L e)) := ⟨by have h := row_u16 wr w.heap.size g v L x e HS.out.row (by have := HLR.out; omega); rwa [show u16L L e x = L from if_neg (fun h => he h.1), show u16E e x = e from if_neg (fun h => he h.1)] at h⟩
          have HSM : Aside0 (duffelref01_Same.f 4000 [] [] = some true) := ⟨same_ok [] (by decide) 4000 (by decide)⟩
          clear hz hM hML hw he
          go_wp2_with (first
            | (go_at_call 16; refine HU.out.mono ?_; rintro r w9 ⟨v9, rfl, hr, hk⟩; have HS := Aside0.mk (HS.out.op hr hk HL9.out H46.out.1); have hx1 := below_cells HS.out.bel _ _ _ hb3 HX1.out; have hx2 := below_cells HS.out.bel _ _ _ hb3 HX2.out; clear hr hk)
            | (go_at_call 17; refine (HW.out _).mono ?_; rintro r w' ⟨rfl, hs_⟩; subst hs_)
            | (go_at_call 10; refine (duffelref02_Put.calls 10 z 2 M _ HN.out).mono ?_; rintro r w8 ⟨v5, rfl, hR, hb⟩; obtain ⟨A5, c5, rfl⟩ := own_slice (Kd.own_of_R hR); have HO5 := Aside0.mk (Kd.own_of_R hR); have HS := Aside0.mk (HS.out.new hb); have hx1 := below_cells HS.out.bel _ _ _ hb3 HX1.out; clear hR hb)
            | (go_at_call 21; refine (row_bytes_bad _ _ _ _ _ _ HS.out.row HE.out).mono ?_; rintro r w6 ⟨v6, rfl, ho, hb⟩; obtain ⟨A6, c6, rfl⟩ := own_slice ho; have HO6 := Aside0.mk (own_C ho); have HS := Aside0.mk (HS.out.nil.new hb); clear ho hb)
            | (go_at_call 20; refine (duffelref01_Same.calls 4000 A6 c6 [] none 0 [] true _ HO6.out.2.1 HO6.out.2.2.1 (Kd.C_nil _ _) (Nat.le_refl _) HSM.out).mono ?_; rintro r wz ⟨rfl, ⟨nd, hnd⟩⟩; have HS := Aside0.mk (HS.out.new (hnd ▸ pw_below_drewN (Below.refl _ _) nd)); clear hnd)
            | (go_at_call 22; refine (row_err _ _ _ _ _ _ HS.out.row).mono ?_; rintro r w' ⟨rfl, hs_⟩; subst hs_))
          all_goals
            try go_split_ands
            try go_wp2
            go_roundw
            all_goals
              have hwk : wrap64 ((i : Int) + 1) = ((i + 1 : Nat) : Int) := by rw [IntWalk.wrap64_in _ ⟨by omega, by omega⟩]; omega
            case rel => exact ⟨i + 1, _, _, _, (by first | rw [hwk] | go_num), rfl, by omega, (outL_bad _ HE.out).symm ▸ HS.out⟩
            case measure => (try rw [hwk]); simp [intOf]; omega
      · have kq0 : decide (kd = 0) = false := decide_eq_false k0
        have kr0 : (kd == 0) = false := beq_eq_false_iff_ne.mpr k0
        by_cases k1 : kd = 1
        · subst k1
          by_cases he : e = 0
          · subst he
            rw [outL_0] at HS
            obtain ⟨M, hM⟩ : ∃ M, le y 4 = M := ⟨_, rfl⟩
            have hML : M.length ≤ 40 := by rw [← hM]; rw [le_length]; omega
            have HN : Aside0 (duffelref02_Put.f 10 y 4 = some M) := ⟨hM ▸ put_run y ⟨HY.out.1, by have := HY.out; omega⟩ 4 (by decide) 10 (by decide)⟩
            obtain ⟨K, hK⟩ : ∃ K, L ++ M = K := ⟨_, rfl⟩
            have hKL : K.length ≤ 46 * (i + 1) := by rw [← hK, List.length_append]; have := HLR.out; omega
            have HK := Aside0.mk hK
            have HL9 := Aside0.mk hKL
            have HLK : Aside0 (K.length ≤ 1000000000) := ⟨by omega⟩
            have HLM : Aside0 ((L.length + M.length) * 1 ≤ 140737488355328) := ⟨by have := HLR.out; omega⟩
            have HU : Aside0 (Calls Try.prog 18 #[.pointer (some ⟨g, 0, none⟩), .int .u32 y] wr (RPost wr w.heap.size g v K 0)) := ⟨by have h := row_u32 wr w.heap.size g v L y 0 HS.out.row HY.out.1 (by have := HLR.out; omega); rwa [show u32L L 0 y = K by unfold u32L; rw [if_pos rfl, hM, hK]] at h⟩
            have HSM : Aside0 (duffelref01_Same.f 4000 K K = some true) := ⟨same_ok K (by have := HLK.out; have := HL9.out; have := H46.out; omega) 4000 (by have := HL9.out; have := H46.out; omega)⟩
            clear hM hK hML hKL
            go_wp2_with (first
              | (go_at_call 18; refine HU.out.mono ?_; rintro r w9 ⟨v9, rfl, hr, hk⟩; have HS := Aside0.mk (HS.out.op hr hk HL9.out H46.out.1); have hx1 := below_cells HS.out.bel _ _ _ hb3 HX1.out; have hx2 := below_cells HS.out.bel _ _ _ hb3 HX2.out; clear hr hk)
              | (go_at_call 10; refine (duffelref02_Put.calls 10 y 4 M _ HN.out).mono ?_; rintro r w8 ⟨v5, rfl, hR, hb⟩; obtain ⟨A5, c5, rfl⟩ := own_slice (Kd.own_of_R hR); have HO5 := Aside0.mk (Kd.own_of_R hR); have HS := Aside0.mk (HS.out.new hb); have hx1 := below_cells HS.out.bel _ _ _ hb3 HX1.out; clear hR hb)
              | (at_builtin; refine print_append_row (w0 := w) w.heap.size rfl (.tmp 105) (.tmp 106) 22 5 .u8 1 rfl Try.underlying22 infoE (by decide) _ L M A5 M.length c5 rfl rfl HS.out.want (Kd.reads_of_C (own_C HO5.out).2.1) HS.out.bel HS.out.base HLM.out ?_; intro v2 w7 hown hbel hgr hat; have HS := Aside0.mk (HS.out.app hown hbel hgr hat HK.out HL9.out); obtain ⟨A2, c2, rfl⟩ := own_slice HS.out.want; clear hown hbel hgr hat)
              | (go_at_call 21; refine (row_bytes _ _ _ _ _ HS.out.row HLK.out).mono ?_; rintro r w6 ⟨v6, rfl, ho, hb⟩; obtain ⟨A6, c6, rfl⟩ := own_slice ho; have HO6 := Aside0.mk (own_C ho); have HS := Aside0.mk (HS.out.new hb); clear ho hb)
              | (go_at_call 20; refine (duffelref01_Same.calls 4000 A6 c6 K A2 c2 K true _ HO6.out.2.1 HO6.out.2.2.1 (own_C HS.out.want).2.1 (own_C HS.out.want).2.2.1 HSM.out).mono ?_; rintro r wz ⟨rfl, ⟨nd, hnd⟩⟩; have HS := Aside0.mk (HS.out.new (hnd ▸ pw_below_drewN (Below.refl _ _) nd)); clear hnd)
              | (go_at_call 22; refine (row_err _ _ _ _ _ _ HS.out.row).mono ?_; rintro r w' ⟨rfl, hs_⟩; subst hs_))
            all_goals
              try go_split_ands
              try go_wp2
              go_roundw
              all_goals
                have hwk : wrap64 ((i : Int) + 1) = ((i + 1 : Nat) : Int) := by rw [IntWalk.wrap64_in _ ⟨by omega, by omega⟩]; omega
              case rel => exact ⟨i + 1, _, _, _, (by first | rw [hwk] | go_num), rfl, by omega, HS.out⟩
              case measure => (try rw [hwk]); simp [intOf]; omega
          · obtain ⟨M, hM⟩ : ∃ M, le y 4 = M := ⟨_, rfl⟩
            have hML : M.length ≤ 40 := by rw [← hM]; rw [le_length]; omega
            have HN : Aside0 (duffelref02_Put.f 10 y 4 = some M) := ⟨hM ▸ put_run y ⟨HY.out.1, by have := HY.out; omega⟩ 4 (by decide) 10 (by decide)⟩
            have HL9 : Aside0 (L.length ≤ 46 * (i + 1)) := ⟨by have := HLR.out; omega⟩
            have HE := Aside0.mk he
            have ce : decide (e = 0) = false := decide_eq_false he
            have ce2 : (e == 0) = false := beq_eq_false_iff_ne.mpr he
            have HU : Aside0 (Calls Try.prog 18 #[.pointer (some ⟨g, 0, none⟩), .int .u32 y] wr (RPost wr w.heap.size g v L e)) := ⟨by have h := row_u32 wr w.heap.size g v L y e HS.out.row HY.out.1 (by have := HLR.out; omega); rwa [show u32L L e y = L from if_neg he] at h⟩
            have HSM : Aside0 (duffelref01_Same.f 4000 [] [] = some true) := ⟨same_ok [] (by decide) 4000 (by decide)⟩
            clear hM hML he
            go_wp2_with (first
              | (go_at_call 18; refine HU.out.mono ?_; rintro r w9 ⟨v9, rfl, hr, hk⟩; have HS := Aside0.mk (HS.out.op hr hk HL9.out H46.out.1); have hx1 := below_cells HS.out.bel _ _ _ hb3 HX1.out; have hx2 := below_cells HS.out.bel _ _ _ hb3 HX2.out; clear hr hk)
              | (go_at_call 10; refine (duffelref02_Put.calls 10 y 4 M _ HN.out).mono ?_; rintro r w8 ⟨v5, rfl, hR, hb⟩; obtain ⟨A5, c5, rfl⟩ := own_slice (Kd.own_of_R hR); have HO5 := Aside0.mk (Kd.own_of_R hR); have HS := Aside0.mk (HS.out.new hb); have hx1 := below_cells HS.out.bel _ _ _ hb3 HX1.out; clear hR hb)
              | (go_at_call 21; refine (row_bytes_bad _ _ _ _ _ _ HS.out.row HE.out).mono ?_; rintro r w6 ⟨v6, rfl, ho, hb⟩; obtain ⟨A6, c6, rfl⟩ := own_slice ho; have HO6 := Aside0.mk (own_C ho); have HS := Aside0.mk (HS.out.nil.new hb); clear ho hb)
              | (go_at_call 20; refine (duffelref01_Same.calls 4000 A6 c6 [] none 0 [] true _ HO6.out.2.1 HO6.out.2.2.1 (Kd.C_nil _ _) (Nat.le_refl _) HSM.out).mono ?_; rintro r wz ⟨rfl, ⟨nd, hnd⟩⟩; have HS := Aside0.mk (HS.out.new (hnd ▸ pw_below_drewN (Below.refl _ _) nd)); clear hnd)
              | (go_at_call 22; refine (row_err _ _ _ _ _ _ HS.out.row).mono ?_; rintro r w' ⟨rfl, hs_⟩; subst hs_))
            all_goals
              try go_split_ands
              try go_wp2
              go_roundw
              all_goals
                have hwk : wrap64 ((i : Int) + 1) = ((i + 1 : Nat) : Int) := by rw [IntWalk.wrap64_in _ ⟨by omega, by omega⟩]; omega
              case rel => exact ⟨i + 1, _, _, _, (by first | rw [hwk] | go_num), rfl, by omega, (outL_bad _ HE.out).symm ▸ HS.out⟩
              case measure => (try rw [hwk]); simp [intOf]; omega
        · have kq1 : decide (kd = 1) = false := decide_eq_false k1
          have kr1 : (kd == 1) = false := beq_eq_false_iff_ne.mpr k1
          clear k0 k1
          by_cases he : e = 0
          · subst he
            rw [outL_0] at HS
            obtain ⟨M, hM⟩ : ∃ M, b0.take 40 = M := ⟨_, rfl⟩
            have hML : M.length ≤ 40 := by rw [← hM]; rw [List.length_take]; omega
            have HCUT : Aside0 (MyCut.cut_u8.f b0 40 = some M) := ⟨hM ▸ MyCut.cut_u8.nat b0 40⟩
            have HC : Aside0 (Kd.C (Kd.int .u8) wr A3 M.length M) := ⟨Kd.C_below (MyCut.C_cut_u8 HC3.out HCUT.out) (HS.out.bel)⟩
            have HCC : Aside0 (M.length ≤ c3) := ⟨MyCut.le_cut_u8 HLC.out HCUT.out⟩
            have HCP : Aside0 (duffelref01_Copy.f M = some M) := ⟨copy_ok M (by omega)⟩
            have HMB : Aside0 (M.length ≤ 40) := ⟨hML⟩
            obtain ⟨K, hK⟩ : ∃ K, L ++ M = K := ⟨_, rfl⟩
            have hKL : K.length ≤ 46 * (i + 1) := by rw [← hK, List.length_append]; have := HLR.out; omega
            have HK := Aside0.mk hK
            have HL9 := Aside0.mk hKL
            have HLK : Aside0 (K.length ≤ 1000000000) := ⟨by omega⟩
            have HLM : Aside0 ((L.length + M.length) * 1 ≤ 140737488355328) := ⟨by have := HLR.out; omega⟩
            have HU : Aside0 (∀ W A c, RowAt W w.heap.size g v L 0 → Kd.C (Kd.int .u8) W A M.length M → Calls Try.prog 19 #[.pointer (some ⟨g, 0, none⟩), .slice A M.length c] W (RPost W w.heap.size g v K 0)) := ⟨fun W A c h h2 => by have h := row_put W w.heap.size g v L 0 A c M h h2 (by have := HLR.out; omega); rwa [show putL L 0 M = K by unfold putL; rw [if_pos rfl, hK]] at h⟩
            have HSM : Aside0 (duffelref01_Same.f 4000 K K = some true) := ⟨same_ok K (by have := HLK.out; have := HL9.out; have := H46.out; omega) 4000 (by have := HL9.out; have := H46.out; omega)⟩
            clear hM hK hML hKL
            go_wp2_with (first
              | (go_at_call 9; refine (MyCut.cut_u8.calls A3 c3 b0 40 M _ HLC.out HCUT.out).mono ?_; rintro r w' ⟨rfl, hs_⟩; subst hs_)
              | (go_at_call 19; refine (HU.out _ Ab cb HS.out.row (own_C HOB.out).2.1).mono ?_; rintro r w9 ⟨v9, rfl, hr, hk⟩; have HNB9 := Aside0.mk (ne_after HOB.out hk (fun k h => (HNB.out k h).1)); have HOB9 := Aside0.mk (own_beside_row HOB.out HS.out.row hk (fun k h => (HNB.out k h).1)); have HS9 := Aside0.mk (HS.out.op hr hk HL9.out H46.out.1); clear hr hk)
              | (go_at_call 8; refine (duffelref01_Copy.calls Ab cb M M _ (own_C HOB9.out).2.1 (own_C HOB9.out).2.2.1 HCP.out).mono ?_; rintro r w8 ⟨v5, rfl, hR, hb⟩; obtain ⟨A5, c5, rfl⟩ := own_slice (Kd.own_of_R hR); have HO5 := Aside0.mk (Kd.own_of_R hR); have HN5 : Aside0 (∀ k, (Value.slice Ab M.length cb).ownBlock = some k → (Value.slice A5 M.length c5).ownBlock ≠ some k) := ⟨fun k hk h => by have h1 := own_base HO5.out k h; have h2 := own_lt HOB9.out k hk; omega⟩; have HOB8 := Aside0.mk (pw_own_below HOB9.out hb); have HS8 := Aside0.mk (HS9.out.new hb); clear hR hb)
              | (go_at_call 8; refine (duffelref01_Copy.calls A3 c3 M M _ HC.out HCC.out HCP.out).mono ?_; rintro r wa ⟨vb, rfl, hR, hb⟩; obtain ⟨Ab, cb, rfl⟩ := own_slice (Kd.own_of_R hR); have HOB := Aside0.mk (Kd.own_of_R hR); have HNB : Aside0 (∀ k, (Value.slice Ab M.length cb).ownBlock = some k → v.ownBlock ≠ some k ∧ u4.ownBlock ≠ some k ∧ w.heap.size ≤ k) := ⟨fun k hk => have h1 := own_base HOB.out k hk; ⟨fun h => by have := own_lt HS.out.row.own k h; omega, fun h => by have := own_lt HS.out.want k h; omega, Nat.le_trans HS.out.base h1⟩⟩; have HS := Aside0.mk (HS.out.new hb); clear hR hb))
            go_loopw [10] (fun v10 wq => WLoop w w.heap.size g v9 K 0 u4 (outL L 0) (46 * (i + 1)) wr.heap.size Ab M.length cb w9.heap.size A5 M c5 v10 wq) (fun v10 _ => M.length - (intOf v10).toNat)
            case atStart => exact ⟨0, M, rfl, Nat.zero_le _, rfl, HS8.out, HOB8.out, HO5.out⟩
            case round =>
              rename World => wq
              obtain ⟨q, ys, rfl, hq, hys, hws, hown, hown5⟩ := hrel
              have G1 := Aside0.mk hys
              have HS := Aside0.mk hws
              have G3 := Aside0.mk hown
              have HO5 := Aside0.mk hown5
              clear hys hws hown hown5 HS8 HOB8
              by_cases hlt3 : q < M.length
              · obtain ⟨g3, e3, hg3, hg4, cells, hcells⟩ := own_form' G3.out (by omega)
                subst e3
                obtain ⟨hc, hf⟩ := own_at G3.out (q : Int) (by omega) (by omega)
                obtain ⟨hst, _⟩ := own_store G3.out (q : Int) (IntKind.u8.wrap (rd ys (q : Int) + 1))
                rw [Int.toNat_natCast] at hc hf hst
                obtain ⟨u, hu⟩ : ∃ u, rd ys (q : Int) = u := ⟨_, rfl⟩
                rw [hu] at hc hst
                have H4 := Aside0.mk hst
                have H5 := Aside0.mk hcells
                have H6 := Aside0.mk (HNB.out g3 rfl)
                have H7 := Aside0.mk (HNB9.out g3 rfl)
                have H8 := Aside0.mk (HN5.out g3 rfl)
                clear hst hcells hg3 hg4
                go_wp2
                have hb200 : M.length ≤ 40 := HMB.out
                have hwk : wrap64 ((q : Int) + 1) = ((q + 1 : Nat) : Int) := by rw [IntWalk.wrap64_in _ ⟨by omega, by omega⟩]; omega
                refine ⟨⟨q + 1, _, by rw [hwk], by omega, ?_, HS.out.store H5.out H6.out.2.2 H7.out H6.out.2.1 _ _, H4.out, own_setCell HO5.out (fun e => H8.out e.symm) _⟩, by rw [hwk]; simp [intOf]; omega⟩
                rw [List.length_set, G1.out]
              · clear G1 G3
                go_wp2_with (first
                  | (at_builtin; refine print_append_row (w0 := w) w.heap.size rfl (.tmp 105) (.tmp 106) 22 5 .u8 1 rfl Try.underlying22 infoE (by decide) _ L M A5 M.length c5 rfl rfl HS.out.want (Kd.reads_of_C (own_C HO5.out).2.1) HS.out.bel HS.out.base HLM.out ?_; intro v2 w7 hown hbel hgr hat; have HS := Aside0.mk (HS.out.app hown hbel hgr hat HK.out HL9.out); obtain ⟨A2, c2, rfl⟩ := own_slice HS.out.want; clear hown hbel hgr hat)
                  | (go_at_call 21; refine (row_bytes _ _ _ _ _ HS.out.row HLK.out).mono ?_; rintro r w6 ⟨v6, rfl, ho, hb⟩; obtain ⟨A6, c6, rfl⟩ := own_slice ho; have HO6 := Aside0.mk (own_C ho); have HS := Aside0.mk (HS.out.new hb); clear ho hb)
                  | (go_at_call 20; refine (duffelref01_Same.calls 4000 A6 c6 K A2 c2 K true _ HO6.out.2.1 HO6.out.2.2.1 (own_C HS.out.want).2.1 (own_C HS.out.want).2.2.1 HSM.out).mono ?_; rintro r wz ⟨rfl, ⟨nd, hnd⟩⟩; have HS := Aside0.mk (HS.out.new (hnd ▸ pw_below_drewN (Below.refl _ _) nd)); clear hnd)
                  | (go_at_call 22; refine (row_err _ _ _ _ _ _ HS.out.row).mono ?_; rintro r w' ⟨rfl, hs_⟩; subst hs_))
                all_goals
                  try go_split_ands
                  try go_wp2
                  go_roundw
                  all_goals
                    have hwk : wrap64 ((i : Int) + 1) = ((i + 1 : Nat) : Int) := by rw [IntWalk.wrap64_in _ ⟨by omega, by omega⟩]; omega
                  case rel => exact ⟨i + 1, _, _, _, (by first | rw [hwk] | go_num), rfl, by omega, HS.out⟩
                  case measure => (try rw [hwk]); simp [intOf]; omega
          · obtain ⟨M, hM⟩ : ∃ M, b0.take 40 = M := ⟨_, rfl⟩
            have hML : M.length ≤ 40 := by rw [← hM]; rw [List.length_take]; omega
            have HCUT : Aside0 (MyCut.cut_u8.f b0 40 = some M) := ⟨hM ▸ MyCut.cut_u8.nat b0 40⟩
            have HC : Aside0 (Kd.C (Kd.int .u8) wr A3 M.length M) := ⟨Kd.C_below (MyCut.C_cut_u8 HC3.out HCUT.out) (HS.out.bel)⟩
            have HCC : Aside0 (M.length ≤ c3) := ⟨MyCut.le_cut_u8 HLC.out HCUT.out⟩
            have HCP : Aside0 (duffelref01_Copy.f M = some M) := ⟨copy_ok M (by omega)⟩
            have HMB : Aside0 (M.length ≤ 40) := ⟨hML⟩
            have HL9 : Aside0 (L.length ≤ 46 * (i + 1)) := ⟨by have := HLR.out; omega⟩
            have HE := Aside0.mk he
            have ce : decide (e = 0) = false := decide_eq_false he
            have ce2 : (e == 0) = false := beq_eq_false_iff_ne.mpr he
            have HU : Aside0 (∀ W A c, RowAt W w.heap.size g v L e → Kd.C (Kd.int .u8) W A M.length M → Calls Try.prog 19 #[.pointer (some ⟨g, 0, none⟩), .slice A M.length c] W (RPost W w.heap.size g v L e)) := ⟨fun W A c h h2 => by have h := row_put W w.heap.size g v L e A c M h h2 (by have := HLR.out; omega); rwa [show putL L e M = L from if_neg he] at h⟩
            have HSM : Aside0 (duffelref01_Same.f 4000 [] [] = some true) := ⟨same_ok [] (by decide) 4000 (by decide)⟩
            clear hM hML he
            go_wp2_with (first
              | (go_at_call 9; refine (MyCut.cut_u8.calls A3 c3 b0 40 M _ HLC.out HCUT.out).mono ?_; rintro r w' ⟨rfl, hs_⟩; subst hs_)
              | (go_at_call 19; refine (HU.out _ Ab cb HS.out.row (own_C HOB.out).2.1).mono ?_; rintro r w9 ⟨v9, rfl, hr, hk⟩; have HNB9 := Aside0.mk (ne_after HOB.out hk (fun k h => (HNB.out k h).1)); have HOB9 := Aside0.mk (own_beside_row HOB.out HS.out.row hk (fun k h => (HNB.out k h).1)); have HS9 := Aside0.mk (HS.out.op hr hk HL9.out H46.out.1); clear hr hk)
              | (go_at_call 8; refine (duffelref01_Copy.calls Ab cb M M _ (own_C HOB9.out).2.1 (own_C HOB9.out).2.2.1 HCP.out).mono ?_; rintro r w8 ⟨v5, rfl, hR, hb⟩; obtain ⟨A5, c5, rfl⟩ := own_slice (Kd.own_of_R hR); have HO5 := Aside0.mk (Kd.own_of_R hR); have HN5 : Aside0 (∀ k, (Value.slice Ab M.length cb).ownBlock = some k → (Value.slice A5 M.length c5).ownBlock ≠ some k) := ⟨fun k hk h => by have h1 := own_base HO5.out k h; have h2 := own_lt HOB9.out k hk; omega⟩; have HOB8 := Aside0.mk (pw_own_below HOB9.out hb); have HS8 := Aside0.mk (HS9.out.new hb); clear hR hb)
              | (go_at_call 8; refine (duffelref01_Copy.calls A3 c3 M M _ HC.out HCC.out HCP.out).mono ?_; rintro r wa ⟨vb, rfl, hR, hb⟩; obtain ⟨Ab, cb, rfl⟩ := own_slice (Kd.own_of_R hR); have HOB := Aside0.mk (Kd.own_of_R hR); have HNB : Aside0 (∀ k, (Value.slice Ab M.length cb).ownBlock = some k → v.ownBlock ≠ some k ∧ u4.ownBlock ≠ some k ∧ w.heap.size ≤ k) := ⟨fun k hk => have h1 := own_base HOB.out k hk; ⟨fun h => by have := own_lt HS.out.row.own k h; omega, fun h => by have := own_lt HS.out.want k h; omega, Nat.le_trans HS.out.base h1⟩⟩; have HS := Aside0.mk (HS.out.new hb); clear hR hb))
            go_loopw [10] (fun v10 wq => WLoop w w.heap.size g v9 L e u4 (outL L e) (46 * (i + 1)) wr.heap.size Ab M.length cb w9.heap.size A5 M c5 v10 wq) (fun v10 _ => M.length - (intOf v10).toNat)
            case atStart => exact ⟨0, M, rfl, Nat.zero_le _, rfl, HS8.out, HOB8.out, HO5.out⟩
            case round =>
              rename World => wq
              obtain ⟨q, ys, rfl, hq, hys, hws, hown, hown5⟩ := hrel
              have G1 := Aside0.mk hys
              have HS := Aside0.mk hws
              have G3 := Aside0.mk hown
              have HO5 := Aside0.mk hown5
              clear hys hws hown hown5 HS8 HOB8
              by_cases hlt3 : q < M.length
              · obtain ⟨g3, e3, hg3, hg4, cells, hcells⟩ := own_form' G3.out (by omega)
                subst e3
                obtain ⟨hc, hf⟩ := own_at G3.out (q : Int) (by omega) (by omega)
                obtain ⟨hst, _⟩ := own_store G3.out (q : Int) (IntKind.u8.wrap (rd ys (q : Int) + 1))
                rw [Int.toNat_natCast] at hc hf hst
                obtain ⟨u, hu⟩ : ∃ u, rd ys (q : Int) = u := ⟨_, rfl⟩
                rw [hu] at hc hst
                have H4 := Aside0.mk hst
                have H5 := Aside0.mk hcells
                have H6 := Aside0.mk (HNB.out g3 rfl)
                have H7 := Aside0.mk (HNB9.out g3 rfl)
                have H8 := Aside0.mk (HN5.out g3 rfl)
                clear hst hcells hg3 hg4
                go_wp2
                have hb200 : M.length ≤ 40 := HMB.out
                have hwk : wrap64 ((q : Int) + 1) = ((q + 1 : Nat) : Int) := by rw [IntWalk.wrap64_in _ ⟨by omega, by omega⟩]; omega
                refine ⟨⟨q + 1, _, by rw [hwk], by omega, ?_, HS.out.store H5.out H6.out.2.2 H7.out H6.out.2.1 _ _, H4.out, own_setCell HO5.out (fun e => H8.out e.symm) _⟩, by rw [hwk]; simp [intOf]; omega⟩
                rw [List.length_set, G1.out]
              · clear G1 G3
                go_wp2_with (first
                  | (go_at_call 21; refine (row_bytes_bad _ _ _ _ _ _ HS.out.row HE.out).mono ?_; rintro r w6 ⟨v6, rfl, ho, hb⟩; obtain ⟨A6, c6, rfl⟩ := own_slice ho; have HO6 := Aside0.mk (own_C ho); have HS := Aside0.mk (HS.out.nil.new hb); clear ho hb)
                  | (go_at_call 20; refine (duffelref01_Same.calls 4000 A6 c6 [] none 0 [] true _ HO6.out.2.1 HO6.out.2.2.1 (Kd.C_nil _ _) (Nat.le_refl _) HSM.out).mono ?_; rintro r wz ⟨rfl, ⟨nd, hnd⟩⟩; have HS := Aside0.mk (HS.out.new (hnd ▸ pw_below_drewN (Below.refl _ _) nd)); clear hnd)
                  | (go_at_call 22; refine (row_err _ _ _ _ _ _ HS.out.row).mono ?_; rintro r w' ⟨rfl, hs_⟩; subst hs_))
                all_goals
                  try go_split_ands
                  try go_wp2
                  go_roundw
                  all_goals
                    have hwk : wrap64 ((i : Int) + 1) = ((i + 1 : Nat) : Int) := by rw [IntWalk.wrap64_in _ ⟨by omega, by omega⟩]; omega
                  case rel => exact ⟨i + 1, _, _, _, (by first | rw [hwk] | go_num), rfl, by omega, (outL_bad _ HE.out).symm ▸ HS.out⟩
                  case measure => (try rw [hwk]); simp [intOf]; omega
    · have hcon : (decide (i < X.length) = false ∧ decide ((i : Int) < (X.length : Int)) = false) ∨ (decide (i < X.length) = true ∧ decide ((i : Int) < (X.length : Int)) = true ∧ decide ((i : Int) < 60) = false) := by
        by_cases h1 : i < X.length
        · exact .inr ⟨decide_eq_true h1, decide_eq_true (by omega), decide_eq_false (by omega)⟩
        · exact .inl ⟨decide_eq_false h1, decide_eq_false (by omega)⟩
      clear hlt
      rcases hcon with ⟨hcon, hcon1⟩ | ⟨hcon, hcon1, hcon2⟩
      all_goals
        go_wp2_with (go_at_call 14; refine (field_lives _).mono ?_; rintro r wl ⟨rfl, hb⟩; have HB9 := Aside0.mk (HS.out.bel.trans (hb.mono HS.out.base)); clear hb)
        go_ret
        exact ⟨rfl, HB9.out⟩
end Go.Proofs.Ytedboieaefdbdaa.Fld
