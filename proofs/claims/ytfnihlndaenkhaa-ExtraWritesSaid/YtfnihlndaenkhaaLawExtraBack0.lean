/- The law ExtraBack, walked. -/
import Derived.Test.YtfnihlndaenkhaaExtraF0
import Derived.Test.YtfnihlndaenkhaaPureExtra
import Derived.Test.YtfnihlndaenkhaaPureExtraB
import Derived.Test.YtfnihlndaenkhaaMyFields
namespace Go.Proofs.Ytfnihlndaenkhaa.Fld
open Go.Proofs.Ytfnihlndaenkhaa.EX Go.Proofs.Ytfnihlndaenkhaa.EXR
open Go.RowKit Go.Proofs.YtfnihlndaenkhaaW.PrintWords Go.Proofs.YtfnihlndaenkhaaW.PrintLast Go.Proofs.YtfnihlndaenkhaaW.PrintMore Go.Proofs.Ytfnihlndaenkhaa.MyOpen
set_option linter.unusedVariables false
set_option linter.unusedSimpArgs false
def toF (p : Int × List Int) : FT := ⟨p.1, p.2⟩
theorem C_toF {w : World} {A : Option Addr} {n : Nat} {l : List (Int × List Int)} (h : Kd.C (KF 5) w A n l) : Kd.C k27 w A n (l.map toF) := by
  obtain ⟨h1, h2, h3⟩ := h
  refine ⟨by rw [List.length_map]; exact h1, h2, fun hn => ?_⟩
  obtain ⟨ad, e, h4⟩ := h3 hn
  refine ⟨ad, e, fun j x hj => ?_⟩
  rw [List.getElem?_map] at hj
  obtain ⟨p, hp, rfl⟩ := Option.map_eq_some_iff.1 hj
  exact h4 j p hp
theorem sum_le (X : List FT) (M : Nat) (h : ∀ x ∈ X, x.f1.length ≤ M) : (X.map fun x => 2 + 2 + x.f1.length).sum ≤ X.length * (4 + M) := by
  induction X with
  | nil => simp
  | cons x X ih =>
    have h1 := h x (by simp)
    have h2 := ih (fun y hy => h y (by simp [hy]))
    rw [List.map_cons, List.sum_cons, List.length_cons, Nat.succ_mul]
    omega
theorem szF_le (X : List FT) (M : Nat) (h : ∀ x ∈ X, x.f1.length ≤ M) : szF X X.length ≤ X.length * (4 + M) := by
  unfold szF; rw [List.take_length]; exact sum_le X M h
theorem few_mem (X : List FT) (n long : Nat) (x : FT) (h : x ∈ few X n long) : ∃ y ∈ X, x.f0 = y.f0 ∧ x.f1 = y.f1.take long := by
  obtain ⟨y, hy, rfl⟩ := List.mem_map.1 h
  exact ⟨y, List.mem_of_mem_take hy, rfl, rfl⟩
set_option maxHeartbeats 8000000 in
set_option maxRecDepth 100000 in
theorem back_any (A0 : Option Addr) (c0 : Nat) (l0 : List (Int × List Int)) (A1 : Option Addr) (c1 : Nat) (l1 : List Int) (w : World) (h0 : Kd.C (KF 5) w A0 l0.length l0) (hg : ∀ x ∈ l0, GoodF x) (h1 : Kd.C (Kd.int .u8) w A1 l1.length l1) (hc1 : l1.length ≤ c1) (hby : ∀ x ∈ l1, 0 ≤ x ∧ x ≤ 255) (hnil : A1 = none → c1 = 0) :
    Calls Try.prog 5 #[.slice A0 l0.length c0, .slice A1 l1.length c1] w fun e w' => e = .returned (.bool true) ∧ Below w.heap.size w w' := by
  obtain ⟨X, hX⟩ : ∃ X, l0.map toF = X := ⟨_, rfl⟩
  have hXC := C_toF h0
  have hXG : ∀ x ∈ X, ∀ y ∈ x.f1, 0 ≤ y ∧ y ≤ 255 := by
    intro x hx
    rw [← hX] at hx
    obtain ⟨p, hp, rfl⟩ := List.mem_map.1 hx
    exact fun y hy => bounds_u8 ((hg p hp).2 y hy)
  have hXl : l0.length = X.length := by rw [← hX, List.length_map]
  rw [hX, hXl] at hXC
  rw [hXl]
  clear hX h0 hg hXl
  obtain ⟨F, hF⟩ : ∃ F, few X 12 200 = F := ⟨_, rfl⟩
  have hFl : F.length ≤ 12 := by rw [← hF, few_len]; omega
  have hFm : ∀ x ∈ F, x.f1.length ≤ 200 ∧ ∀ y ∈ x.f1, 0 ≤ y ∧ y ≤ 255 := by
    intro x hx
    rw [← hF] at hx
    obtain ⟨y, hy, _, e⟩ := few_mem X 12 200 x hx
    rw [e]
    exact ⟨by rw [List.length_take]; omega, fun u hu => hXG y hy u (List.mem_of_mem_take hu)⟩
  have hFs := szF_le F 200 (fun x hx => (hFm x hx).1)
  have HFW : Aside0 (∀ W A c, Kd.C k27 W A X.length X → Calls Try.prog 7 #[.slice A X.length c, .int .i64 12, .int .i64 200] W (FwPost W F)) := ⟨fun W A c h => by have := ex_few A c X W 12 200 h (by decide) (by decide); rwa [hF] at this⟩
  have HXC := Aside0.mk hXC
  obtain ⟨D, hD⟩ : ∃ D, wrL F = D := ⟨_, rfl⟩
  have hDb := wrL_bytes F (fun x hx => (hFm x hx).2)
  have hDl := wrL_len F
  rw [hD] at hDb hDl
  have HSM : Aside0 (duffelref23_Same.f 2000 F F = some true) := ⟨rsame_ok F 300 (fun x hx => by have := (hFm x hx).1; omega) (by omega) (by omega) 2000 (by omega)⟩
  obtain ⟨b, hbq⟩ : ∃ b, l1.take 300 = b := ⟨_, rfl⟩
  have HCUT : Aside0 (MyCut.cut_u8.f l1 300 = some b) := ⟨hbq ▸ MyCut.cut_u8.nat l1 300⟩
  have HC1 := Aside0.mk hc1
  have HC : Aside0 (Kd.C (Kd.int .u8) w A1 b.length b) := ⟨MyCut.C_cut_u8 h1 HCUT.out⟩
  have HCC : Aside0 (b.length ≤ c1) := ⟨MyCut.le_cut_u8 hc1 HCUT.out⟩
  have hl : b.length ≤ 300 := by rw [← hbq, List.length_take]; omega
  have hb : ∀ x ∈ b, 0 ≤ x ∧ x ≤ 255 := fun x hx => hby x (List.mem_of_mem_take (hbq ▸ hx))
  have HSB : Aside0 (duffelref01_Same.f 2000 b b = some true) := ⟨same_ok b (by omega) 2000 (by omega)⟩
  have HNIL := Aside0.mk hnil
  obtain ⟨z1, z2, z3, z4⟩ := rdA_size b hb
  clear hby h1 hc1 hbq hnil hXC hXG hF
  rcases wrE_two F with hE | hE
  · have HW : Aside0 (∀ W A c, Kd.C k27 W A F.length F → Calls Try.prog 9 #[.slice A F.length c] W (WPost W D 0)) := ⟨fun W A c h => by have := ex_write A c F W h (by omega); rwa [hD, hE] at this⟩
    have hrw := rd_of_wr F hE
    rw [hD] at hrw
    have HR : Aside0 (∀ W A c, Kd.C (Kd.int .u8) W A D.length D → (A = none → c = 0) → Calls Try.prog 16 #[.slice A D.length c] W (RdPost W F 0)) := ⟨fun W A c h h2 => by have := ex_read A c D W h h2 hDb (by omega); rwa [hrw] at this⟩
    clear hrw
    rcases rdA_two b hb with ⟨ys, y1, y2, y3⟩ | y1
    · have HRB : Aside0 (∀ W A c, Kd.C (Kd.int .u8) W A b.length b → (A = none → c = 0) → Calls Try.prog 16 #[.slice A b.length c] W (RdPost W ys 0)) := ⟨fun W A c h h2 => by have := ex_read A c b W h h2 hb (by omega); rwa [y1] at this⟩
      have hq := wr_of_rd b ys y2 y3 (by omega)
      rw [y1] at z3
      have z3' : szF ys ys.length ≤ b.length := z3
      have HWY : Aside0 (∀ W A c, Kd.C k27 W A ys.length ys → Calls Try.prog 9 #[.slice A ys.length c] W (WPost W b 0)) := ⟨fun W A c h => by have := ex_write A c ys W h (by omega); rwa [hq.1, hq.2] at this⟩
      clear hq z3' y1 y2 y3
      clear hb hl z1 z2 z3 z4 hFl hFm hFs hD hDb hDl hE
      go_enter Try.func5, Try.ntmps5
      go_wp2_with (first
        | (go_at_call 14; (with_reducible refine (MyCut.cut_u8.calls A1 c1 l1 300 b _ HC1.out HCUT.out).mono ?_); rintro e w' ⟨rfl, hs_⟩; subst hs_)
        | (go_at_call 7; (with_reducible refine (HFW.out _ A0 c0 HXC.out).mono ?_); rintro r w1 ⟨v1, rfl, hR, hb⟩; obtain ⟨AF, cF, rfl⟩ := Kd.R_slice hR; have HRF := Aside0.mk hR; have HB := Aside0.mk hb; clear hR hb)
        | (go_at_call 9; (with_reducible refine (HW.out _ AF cF (Kd.R_reads' HRF.out).2.2).mono ?_); rintro r w2 ⟨v2, rfl, ho, hb⟩; obtain ⟨AD, cD, rfl⟩ := own_slice ho; have HOD := Aside0.mk (own_C ho); have HRF := Aside0.mk (Kd.R_below HRF.out hb); have HB := Aside0.mk (HB.out.trans (hb.mono HB.out.size)); clear ho hb)
        | (go_at_call 16; (with_reducible refine (HR.out _ AD cD HOD.out.2.1 HOD.out.2.2.2).mono ?_); rintro r w3 ⟨v3, rfl, hR, hb⟩; obtain ⟨AM, cM, rfl⟩ := Kd.R_slice hR; have HRM := Aside0.mk hR; have HRF := Aside0.mk (Kd.R_below HRF.out hb); have HB := Aside0.mk (HB.out.trans (hb.mono HB.out.size)); clear hR hb)
        | (go_at_call 12; (with_reducible refine (duffelref23_Same.calls 2000 AF cF F AM cM F true _ (Kd.R_reads' HRF.out).2.2 (Kd.R_reads' HRF.out).2.1 (Kd.R_reads' HRM.out).2.2 (Kd.R_reads' HRM.out).2.1 HSM.out).mono ?_); rintro r w4 ⟨rfl, ⟨nd, hnd⟩⟩; have HB := Aside0.mk (show Below w.heap.size w w4 from hnd ▸ pw_below_drewN HB.out nd); clear hnd)
        | (go_at_call 16; (with_reducible refine (HRB.out _ A1 c1 (Kd.C_below HC.out HB.out) HNIL.out).mono ?_); rintro r w5 ⟨v5, rfl, hR, hb⟩; obtain ⟨AY, cY, rfl⟩ := Kd.R_slice hR; have HRY := Aside0.mk hR; have HB := Aside0.mk (HB.out.trans (hb.mono HB.out.size)); clear hR hb)
        | (go_at_call 9; (with_reducible refine (HWY.out _ AY cY (Kd.R_reads' HRY.out).2.2).mono ?_); rintro r w6 ⟨v6, rfl, ho, hb⟩; obtain ⟨AE, cE, rfl⟩ := own_slice ho; have HOE := Aside0.mk (own_C ho); have HB := Aside0.mk (HB.out.trans (hb.mono HB.out.size)); clear ho hb)
        | (go_at_call 11; (with_reducible refine (duffelref01_Same.calls 2000 AE cE b A1 c1 b true _ HOE.out.2.1 HOE.out.2.2.1 (Kd.C_below HC.out HB.out) HCC.out HSB.out).mono ?_); rintro r w7 ⟨rfl, ⟨nd, hnd⟩⟩; have HB := Aside0.mk (show Below w.heap.size w w7 from hnd ▸ pw_below_drewN HB.out nd); clear hnd)
        | (go_at_call 13; (with_reducible refine (ex_lives _).mono ?_); rintro r wl ⟨rfl, hb⟩; have HB9 := Aside0.mk (HB.out.trans (hb.mono HB.out.size)); clear hb))
      all_goals
        go_ret
        exact ⟨rfl, HB9.out⟩
    · have HRB : Aside0 (∀ W A c, Kd.C (Kd.int .u8) W A b.length b → (A = none → c = 0) → Calls Try.prog 16 #[.slice A b.length c] W (RdPost W [] 3)) := ⟨fun W A c h h2 => by have := ex_read A c b W h h2 hb (by omega); rwa [y1] at this⟩
      clear y1
      clear hb hl z1 z2 z3 z4 hFl hFm hFs hD hDb hDl hE
      go_enter Try.func5, Try.ntmps5
      go_wp2_with (first
        | (go_at_call 14; (with_reducible refine (MyCut.cut_u8.calls A1 c1 l1 300 b _ HC1.out HCUT.out).mono ?_); rintro e w' ⟨rfl, hs_⟩; subst hs_)
        | (go_at_call 7; (with_reducible refine (HFW.out _ A0 c0 HXC.out).mono ?_); rintro r w1 ⟨v1, rfl, hR, hb⟩; obtain ⟨AF, cF, rfl⟩ := Kd.R_slice hR; have HRF := Aside0.mk hR; have HB := Aside0.mk hb; clear hR hb)
        | (go_at_call 9; (with_reducible refine (HW.out _ AF cF (Kd.R_reads' HRF.out).2.2).mono ?_); rintro r w2 ⟨v2, rfl, ho, hb⟩; obtain ⟨AD, cD, rfl⟩ := own_slice ho; have HOD := Aside0.mk (own_C ho); have HRF := Aside0.mk (Kd.R_below HRF.out hb); have HB := Aside0.mk (HB.out.trans (hb.mono HB.out.size)); clear ho hb)
        | (go_at_call 16; (with_reducible refine (HR.out _ AD cD HOD.out.2.1 HOD.out.2.2.2).mono ?_); rintro r w3 ⟨v3, rfl, hR, hb⟩; obtain ⟨AM, cM, rfl⟩ := Kd.R_slice hR; have HRM := Aside0.mk hR; have HRF := Aside0.mk (Kd.R_below HRF.out hb); have HB := Aside0.mk (HB.out.trans (hb.mono HB.out.size)); clear hR hb)
        | (go_at_call 12; (with_reducible refine (duffelref23_Same.calls 2000 AF cF F AM cM F true _ (Kd.R_reads' HRF.out).2.2 (Kd.R_reads' HRF.out).2.1 (Kd.R_reads' HRM.out).2.2 (Kd.R_reads' HRM.out).2.1 HSM.out).mono ?_); rintro r w4 ⟨rfl, ⟨nd, hnd⟩⟩; have HB := Aside0.mk (show Below w.heap.size w w4 from hnd ▸ pw_below_drewN HB.out nd); clear hnd)
        | (go_at_call 16; (with_reducible refine (HRB.out _ A1 c1 (Kd.C_below HC.out HB.out) HNIL.out).mono ?_); rintro r w5 ⟨v5, rfl, hR, hb⟩; obtain ⟨AY, cY, rfl⟩ := Kd.R_slice hR; have HRY := Aside0.mk hR; have HB := Aside0.mk (HB.out.trans (hb.mono HB.out.size)); clear hR hb)
        | (go_at_call 13; (with_reducible refine (ex_lives _).mono ?_); rintro r wl ⟨rfl, hb⟩; have HB9 := Aside0.mk (HB.out.trans (hb.mono HB.out.size)); clear hb))
      all_goals
        go_ret
        exact ⟨rfl, HB9.out⟩
  · have HW : Aside0 (∀ W A c, Kd.C k27 W A F.length F → Calls Try.prog 9 #[.slice A F.length c] W (WPost W D 18)) := ⟨fun W A c h => by have := ex_write A c F W h (by omega); rwa [hD, hE] at this⟩
    rcases rdA_two b hb with ⟨ys, y1, y2, y3⟩ | y1
    · have HRB : Aside0 (∀ W A c, Kd.C (Kd.int .u8) W A b.length b → (A = none → c = 0) → Calls Try.prog 16 #[.slice A b.length c] W (RdPost W ys 0)) := ⟨fun W A c h h2 => by have := ex_read A c b W h h2 hb (by omega); rwa [y1] at this⟩
      have hq := wr_of_rd b ys y2 y3 (by omega)
      rw [y1] at z3
      have z3' : szF ys ys.length ≤ b.length := z3
      have HWY : Aside0 (∀ W A c, Kd.C k27 W A ys.length ys → Calls Try.prog 9 #[.slice A ys.length c] W (WPost W b 0)) := ⟨fun W A c h => by have := ex_write A c ys W h (by omega); rwa [hq.1, hq.2] at this⟩
      clear hq z3' y1 y2 y3
      clear hb hl z1 z2 z3 z4 hFl hFm hFs hD hDb hDl hE
      go_enter Try.func5, Try.ntmps5
      go_wp2_with (first
        | (go_at_call 14; (with_reducible refine (MyCut.cut_u8.calls A1 c1 l1 300 b _ HC1.out HCUT.out).mono ?_); rintro e w' ⟨rfl, hs_⟩; subst hs_)
        | (go_at_call 7; (with_reducible refine (HFW.out _ A0 c0 HXC.out).mono ?_); rintro r w1 ⟨v1, rfl, hR, hb⟩; obtain ⟨AF, cF, rfl⟩ := Kd.R_slice hR; have HRF := Aside0.mk hR; have HB := Aside0.mk hb; clear hR hb)
        | (go_at_call 9; (with_reducible refine (HW.out _ AF cF (Kd.R_reads' HRF.out).2.2).mono ?_); rintro r w2 ⟨v2, rfl, ho, hb⟩; obtain ⟨AD, cD, rfl⟩ := own_slice ho; have HOD := Aside0.mk (own_C ho); have HRF := Aside0.mk (Kd.R_below HRF.out hb); have HB := Aside0.mk (HB.out.trans (hb.mono HB.out.size)); clear ho hb)
        | (go_at_call 16; (with_reducible refine (HRB.out _ A1 c1 (Kd.C_below HC.out HB.out) HNIL.out).mono ?_); rintro r w5 ⟨v5, rfl, hR, hb⟩; obtain ⟨AY, cY, rfl⟩ := Kd.R_slice hR; have HRY := Aside0.mk hR; have HB := Aside0.mk (HB.out.trans (hb.mono HB.out.size)); clear hR hb)
        | (go_at_call 9; (with_reducible refine (HWY.out _ AY cY (Kd.R_reads' HRY.out).2.2).mono ?_); rintro r w6 ⟨v6, rfl, ho, hb⟩; obtain ⟨AE, cE, rfl⟩ := own_slice ho; have HOE := Aside0.mk (own_C ho); have HB := Aside0.mk (HB.out.trans (hb.mono HB.out.size)); clear ho hb)
        | (go_at_call 11; (with_reducible refine (duffelref01_Same.calls 2000 AE cE b A1 c1 b true _ HOE.out.2.1 HOE.out.2.2.1 (Kd.C_below HC.out HB.out) HCC.out HSB.out).mono ?_); rintro r w7 ⟨rfl, ⟨nd, hnd⟩⟩; have HB := Aside0.mk (show Below w.heap.size w w7 from hnd ▸ pw_below_drewN HB.out nd); clear hnd)
        | (go_at_call 13; (with_reducible refine (ex_lives _).mono ?_); rintro r wl ⟨rfl, hb⟩; have HB9 := Aside0.mk (HB.out.trans (hb.mono HB.out.size)); clear hb))
      all_goals
        go_ret
        exact ⟨rfl, HB9.out⟩
    · have HRB : Aside0 (∀ W A c, Kd.C (Kd.int .u8) W A b.length b → (A = none → c = 0) → Calls Try.prog 16 #[.slice A b.length c] W (RdPost W [] 3)) := ⟨fun W A c h h2 => by have := ex_read A c b W h h2 hb (by omega); rwa [y1] at this⟩
      clear y1
      clear hb hl z1 z2 z3 z4 hFl hFm hFs hD hDb hDl hE
      go_enter Try.func5, Try.ntmps5
      go_wp2_with (first
        | (go_at_call 14; (with_reducible refine (MyCut.cut_u8.calls A1 c1 l1 300 b _ HC1.out HCUT.out).mono ?_); rintro e w' ⟨rfl, hs_⟩; subst hs_)
        | (go_at_call 7; (with_reducible refine (HFW.out _ A0 c0 HXC.out).mono ?_); rintro r w1 ⟨v1, rfl, hR, hb⟩; obtain ⟨AF, cF, rfl⟩ := Kd.R_slice hR; have HRF := Aside0.mk hR; have HB := Aside0.mk hb; clear hR hb)
        | (go_at_call 9; (with_reducible refine (HW.out _ AF cF (Kd.R_reads' HRF.out).2.2).mono ?_); rintro r w2 ⟨v2, rfl, ho, hb⟩; obtain ⟨AD, cD, rfl⟩ := own_slice ho; have HOD := Aside0.mk (own_C ho); have HRF := Aside0.mk (Kd.R_below HRF.out hb); have HB := Aside0.mk (HB.out.trans (hb.mono HB.out.size)); clear ho hb)
        | (go_at_call 16; (with_reducible refine (HRB.out _ A1 c1 (Kd.C_below HC.out HB.out) HNIL.out).mono ?_); rintro r w5 ⟨v5, rfl, hR, hb⟩; obtain ⟨AY, cY, rfl⟩ := Kd.R_slice hR; have HRY := Aside0.mk hR; have HB := Aside0.mk (HB.out.trans (hb.mono HB.out.size)); clear hR hb)
        | (go_at_call 13; (with_reducible refine (ex_lives _).mono ?_); rintro r wl ⟨rfl, hb⟩; have HB9 := Aside0.mk (HB.out.trans (hb.mono HB.out.size)); clear hb))
      all_goals
        go_ret
        exact ⟨rfl, HB9.out⟩
end Go.Proofs.Ytfnihlndaenkhaa.Fld
