/- The law ExtraWrites, walked. -/
import Derived.Test.YtfnihlndaenkhaaLawExtraBack0
namespace Go.Proofs.Ytfnihlndaenkhaa.Fld
open Go.Proofs.Ytfnihlndaenkhaa.EX Go.Proofs.Ytfnihlndaenkhaa.EXR
open Go.RowKit Go.Proofs.YtfnihlndaenkhaaW.PrintWords Go.Proofs.YtfnihlndaenkhaaW.PrintLast Go.Proofs.YtfnihlndaenkhaaW.PrintMore Go.Proofs.Ytfnihlndaenkhaa.MyOpen
set_option linter.unusedVariables false
set_option linter.unusedSimpArgs false
theorem cut_set_ne (l : List Value) (i j : Nat) (v : Value) (h : j ≠ i) : ((l.set (i * 2 + 1) v).drop (j * 2)).take 2 = (l.drop (j * 2)).take 2 := by
  apply List.ext_getElem?
  intro m
  simp only [List.getElem?_take, List.getElem?_drop, List.getElem?_set]
  by_cases hm : m < 2
  · rw [if_pos hm, if_pos hm, if_neg (by omega)]
  · rw [if_neg hm, if_neg hm]
theorem cut_set_eq (l : List Value) (i : Nat) (v a b : Value) (h : (l.drop (i * 2)).take 2 = [a, b]) : ((l.set (i * 2 + 1) v).drop (i * 2)).take 2 = [a, v] := by
  have h0 : l[i * 2]? = some a := by
    have := congrArg (fun l => l[0]?) h
    simpa [List.getElem?_take, List.getElem?_drop] using this
  have h1 : l[i * 2 + 1]? = some b := by
    have := congrArg (fun l => l[1]?) h
    simpa [List.getElem?_take, List.getElem?_drop] using this
  have hl := (List.getElem?_eq_some_iff.1 h1).1
  apply List.ext_getElem?
  intro m
  simp only [List.getElem?_take, List.getElem?_drop, List.getElem?_set]
  match m with
  | 0 => rw [if_pos (by decide), if_neg (by omega)]; exact h0
  | 1 => rw [if_pos (by decide), if_pos (by omega), if_pos hl]; rfl
  | m + 2 => rw [if_neg (by omega)]; rfl
/-- a field's data is another row now -/
theorem R_setdata {w : World} {B g c : Nat} {F : List FT} {i : Nat} {okM : Nat → Prop} {vM : Value} {M : List Int} (hR : Kd.R k27 27 w B (fun _ => True) (.slice (some ⟨g, 0, none⟩) F.length c) F) (hi : i < F.length)
    (hM : Kd.R (Kd.int .u8) 5 w B okM vM M) (hok : ∀ k, okM k → k ≠ g) :
    Kd.R k27 27 (w.setCell ⟨g, i * 2 + 1, none⟩ vM) B (fun _ => True) (.slice (some ⟨g, 0, none⟩) F.length c) (F.set i ⟨F[i].f0, M⟩) := by
  obtain ⟨h0, inner, ho, hrl, hr⟩ := hR
  have hst := (ho.stored (i * 2 + 1) vM).1
  refine ⟨fun _ _ => trivial, inner.set (i * 2 + 1) vM, by rw [List.length_set]; exact hst, by rw [List.length_set, List.length_set]; exact hrl, fun j p hj => ?_⟩
  have hne : ∀ k, (True ∧ some k ≠ (Value.slice (some ⟨g, 0, none⟩) F.length c).ownBlock) → k ≠ g := fun k hk e => hk.2 (by rw [e]; rfl)
  by_cases hji : j = i
  · subst hji
    rw [List.getElem?_set, if_pos rfl, if_pos hi] at hj
    obtain rfl := Option.some.inj hj
    obtain ⟨v1, hcs, _⟩ := k27_openM (hr j F[j] (List.getElem?_eq_getElem hi))
    rw [show k27.sz = 2 from rfl] at hcs ⊢
    rw [cut_set_eq inner j vM _ _ hcs]
    exact k27_mkM _ _ _ (⟨F[j].f0, M⟩ : FT) (Kd.R_mono (Kd.R_far (p := ⟨g, j * 2 + 1, none⟩) hM (fun k hk => hok k hk) vM) (fun k hk => ⟨trivial, fun e => hok k hk (by simpa [Value.ownBlock] using e)⟩))
  · rw [List.getElem?_set, if_neg (fun e => hji e.symm)] at hj
    rw [show k27.sz = 2 from rfl]
    rw [cut_set_ne inner i j vM hji]
    exact Kd.M_far (p := ⟨g, i * 2 + 1, none⟩) (hr j p hj) hne vM
theorem few_id (X : List FT) (n long : Nat) (h : X.length ≤ n) (h2 : ∀ x ∈ X, x.f1.length ≤ long) : few X n long = X := by
  unfold few
  rw [List.take_of_length_le h]
  conv => rhs; rw [← List.map_id X]
  refine List.map_congr_left fun x hx => ?_
  rw [List.take_of_length_le (h2 x hx)]
  rfl
def wz (x : Int) : Int := if x < 0 then 0 else if 70000 < x then 70000 else x
theorem wz_in (x : Int) : 0 ≤ wz x ∧ wz x ≤ 70000 := by unfold wz; split <;> (try split) <;> omega
theorem within_z (x : Int) (w : World) : Calls Try.prog 8 #[.int .i64 x, .int .i64 0, .int .i64 70000] w fun e w' => e = .returned (.int .i64 (wz x)) ∧ ∃ nd, w' = w.drewN nd := by
  have hf : duffelref01_Within.f x 0 70000 = some (wz x) := by
    unfold duffelref01_Within.f wz
    split
    · rfl
    · split <;> rfl
  exact (duffelref01_Within.calls x 0 70000 (wz x) w hf).mono fun e w' ⟨h1, h2⟩ => ⟨h1, by obtain ⟨nd, h⟩ := h2; exact ⟨nd, h⟩⟩
/-- the cell that is stored into, behind the new row -/
theorem cell_set {w : World} {B g c : Nat} {F : List FT} {i : Nat} {ad : Addr} (hR : Kd.R k27 27 w B (fun _ => True) (.slice (some ⟨g, 0, none⟩) F.length c) F) (had : ad = ⟨g, 0, none⟩) (hi : i < F.length) (z : Nat) :
    (∃ u, (w.alloc (.cells (madeCells #[.int .u8 0] z) 5)).cell? ⟨(ad.add (i * 2)).block, (ad.add (i * 2)).off + 1, none⟩ = some u) ∧ (w.alloc (.cells (madeCells #[.int .u8 0] z) 5)).frozen? ⟨(ad.add (i * 2)).block, (ad.add (i * 2)).off + 1, none⟩ = false := by
  subst had
  have e : (⟨g, 0, none⟩ : Addr).add (i * 2) = ⟨g, i * 2, none⟩ := by rw [Addr.add_mid, Nat.zero_add]
  rw [e]
  have hR2 := Kd.R_alloc hR (.cells (madeCells #[.int .u8 0] z) 5)
  obtain ⟨_, inner, ho, hrl, _⟩ := hR2
  obtain ⟨_, cap, cur, hv, hb, hh, hcur⟩ : ∃ g' cap cur, (Value.slice (some ⟨g, 0, none⟩) F.length c) = .slice (some ⟨g', 0, none⟩) F.length cap ∧ B ≤ g' ∧ (w.alloc (.cells (madeCells #[.int .u8 0] z) 5)).heap[g']? = some (.cells cur 27 (0, 0)) ∧ F.length * 2 ≤ cur.size := by
    rcases ho.2 with ⟨hv, _⟩ | ⟨g', cap, cur, hv, hb, hh, hle, _, hsz, _⟩
    · injection hv with h1; cases h1
    · exact ⟨g', cap, cur, hv, hb, hh, by rw [hsz]; exact Nat.mul_le_mul_right 2 hle⟩
  obtain rfl : g = _ := by injection hv with h1; injection h1 with h1; injection h1
  have hlt : i * 2 + 1 < cur.size := by omega
  exact ⟨⟨cur[i * 2 + 1], (blk_cell hh _).trans (Array.getElem?_eq_getElem hlt)⟩, blk_frozen hh _⟩
theorem set_after {w : World} {B g c : Nat} {F G : List FT} {i : Nat} {ad : Addr} (hR : Kd.R k27 27 w B (fun _ => True) (.slice (some ⟨g, 0, none⟩) F.length c) F) (had : ad = ⟨g, 0, none⟩) (hi : i < F.length) (z : Nat) (hz : z ≤ 70000)
    (hG : F.set i ⟨F[i].f0, List.replicate z 0⟩ = G) (hl : G.length = F.length) :
    Kd.R k27 27 ((w.alloc (.cells (madeCells #[.int .u8 0] z) 5)).setCell ⟨(ad.add (i * 2)).block, (ad.add (i * 2)).off + 1, none⟩ (.slice (some ⟨w.heap.size, 0, none⟩) z z)) B (fun _ => True) (.slice (some ad) G.length c) G := by
  subst had
  have e : (⟨g, 0, none⟩ : Addr).add (i * 2) = ⟨g, i * 2, none⟩ := by rw [Addr.add_mid, Nat.zero_add]
  rw [e, hl, ← hG]
  have hgl : g < w.heap.size := Kd.R_lt hR g rfl
  have hB : B ≤ w.heap.size := by have := Kd.R_base hR g rfl; omega
  have ho := own_made w B 5 .u8 z hB (by omega)
  have hM : Kd.R (Kd.int .u8) 5 (w.alloc (.cells (madeCells #[.int .u8 0] z) 5)) B (fun k => some k = (Value.slice (some ⟨w.heap.size, 0, none⟩) z z).ownBlock) (.slice (some ⟨w.heap.size, 0, none⟩) z z) (List.replicate z 0) :=
    R_bytes (by rw [List.length_replicate]; exact ho) (Nat.le_refl _)
  exact R_setdata (Kd.R_alloc hR _) hi hM (fun k hk e => by
    have : k = w.heap.size := by simpa [Value.ownBlock] using hk
    omega)
theorem below_after {w0 w : World} {g : Nat} {ad : Addr} (hb : Below w0.heap.size w0 w) (had : ad = ⟨g, 0, none⟩) (hg : w0.heap.size ≤ g) (k z : Nat) (u : Value) :
    Below w0.heap.size w0 ((w.alloc (.cells (madeCells #[.int .u8 0] z) 5)).setCell ⟨(ad.add k).block, (ad.add k).off + 1, none⟩ u) := by
  subst had
  have e : (⟨g, 0, none⟩ : Addr).add k = ⟨g, k, none⟩ := by rw [Addr.add_mid, Nat.zero_add]
  rw [e]
  exact (below_alloc hb _).setCell hg u
set_option maxHeartbeats 8000000 in
set_option maxRecDepth 100000 in
theorem writes_any (A0 : Option Addr) (c0 : Nat) (l0 : List (Int × List Int)) (a1 a2 : Int) (w : World) (h0 : Kd.C (KF 5) w A0 l0.length l0) (hg : ∀ x ∈ l0, GoodF x) :
    Calls Try.prog 3 #[.slice A0 l0.length c0, .int .i64 a1, .int .i64 a2] w fun e w' => e = .returned (.bool true) ∧ Below w.heap.size w w' := by
  obtain ⟨X, hX⟩ : ∃ X, l0.map toF = X := ⟨_, rfl⟩
  have hXC := C_toF h0
  have hXl : l0.length = X.length := by rw [← hX, List.length_map]
  rw [hX, hXl] at hXC
  rw [hXl]
  clear hX h0 hg hXl
  obtain ⟨F, hF⟩ : ∃ F, few X 12 200 = F := ⟨_, rfl⟩
  have hFl : F.length ≤ 12 := by rw [← hF, few_len]; omega
  have hFm : ∀ x ∈ F, x.f1.length ≤ 200 := by
    intro x hx
    rw [← hF] at hx
    obtain ⟨y, hy, _, e⟩ := few_mem X 12 200 x hx
    rw [e, List.length_take]; omega
  have HFW : Aside0 (∀ W A c, Kd.C k27 W A X.length X → Calls Try.prog 7 #[.slice A X.length c, .int .i64 12, .int .i64 200] W (FwPost W F)) := ⟨fun W A c h => by have := ex_few A c X W 12 200 h (by decide) (by decide); rwa [hF] at this⟩
  have HXC := Aside0.mk hXC
  have hG : ∀ G : List FT, G.length = F.length → (∀ x ∈ G, x.f1.length ≤ 70000) →
      Aside0 (∀ W A c, Kd.C k27 W A G.length G → Calls Try.prog 7 #[.slice A G.length c, .int .i64 12, .int .i64 70000] W (FwPost W G)) ∧
      Aside0 (∀ W A c, Kd.C k27 W A G.length G → Calls Try.prog 9 #[.slice A G.length c] W (WPost W (wrL G) (wrE G))) ∧
      Aside0 (duffelref23_Write.f 1000 G = some (wrL G, wrE G)) ∧ Aside0 (duffelref23_Same.f 100000 G G = some true) ∧ Aside0 (duffelref01_Same.f 100000 (wrL G) (wrL G) = some true) := by
    intro G hl hm
    have hs := szF_le G 70000 hm
    have hwl := wrL_len G
    exact ⟨⟨fun W A c h => by have := ex_few A c G W 12 70000 h (by decide) (by decide); rwa [few_id G 12 70000 (by omega) hm] at this⟩, ⟨fun W A c h => ex_write A c G W h (by omega)⟩, ⟨rwrite_run G (by omega) (by omega) 1000 (by omega)⟩,
      ⟨rsame_ok G 70000 hm (by omega) (by omega) 100000 (by omega)⟩, ⟨same_ok (wrL G) (by omega) 100000 (by omega)⟩⟩
  clear hXC hF
  by_cases h1 : a1 < 0
  · obtain ⟨G1, G2, G3, G4, G5⟩ := hG F rfl (fun x hx => by have := hFm x hx; omega)
    obtain ⟨D, HQL⟩ : ∃ D, Aside0 (wrL F = D) := ⟨_, ⟨rfl⟩⟩
    obtain ⟨E, HQE⟩ : ∃ E, Aside0 (wrE F = E) := ⟨_, ⟨rfl⟩⟩
    have G3 : Aside0 (duffelref23_Write.f 1000 F = some (D, E)) := ⟨HQL.out ▸ HQE.out ▸ G3.out⟩
    have G5 : Aside0 (duffelref01_Same.f 100000 D D = some true) := ⟨HQL.out ▸ G5.out⟩
    have d1 : decide ((0 : Int) ≤ a1) = false := decide_eq_false (by omega)
    clear hG hFl hFm
    go_enter Try.func3, Try.ntmps3
    go_wp2_with (first
      | (go_at_call 7; (with_reducible refine (HFW.out _ A0 c0 HXC.out).mono ?_); rintro r w1 ⟨v1, rfl, hR, hb⟩; obtain ⟨AG, cG, rfl⟩ := Kd.R_slice hR; have HRG := Aside0.mk hR; have HB := Aside0.mk hb; clear hR hb)
      | (go_at_call 7; (with_reducible refine (G1.out _ _ _ (Kd.R_reads' HRG.out).2.2).mono ?_); rintro r w3 ⟨v3, rfl, hR, hb⟩; obtain ⟨AM, cM, rfl⟩ := Kd.R_slice hR; have HRM := Aside0.mk hR; have HRG := Aside0.mk (Kd.R_below HRG.out hb); have HB := Aside0.mk (HB.out.trans (hb.mono HB.out.size)); clear hR hb)
      | (go_at_call 9; (with_reducible refine (G2.out _ AM cM (Kd.R_reads' HRM.out).2.2).mono ?_); rintro r w4 ⟨v4, rfl, ho, hb⟩; rw [HQE.out] ; replace ho := HQL.out ▸ ho; obtain ⟨AD, cD, rfl⟩ := own_slice ho; have HOD := Aside0.mk ho; have HRG := Aside0.mk (Kd.R_below HRG.out hb); have HRM := Aside0.mk (Kd.R_below HRM.out hb); have HB := Aside0.mk (HB.out.trans (hb.mono HB.out.size)); clear ho hb)
      | (go_at_call 10; (with_reducible refine (duffelref23_Write.calls 1000 _ _ F D E _ (Kd.R_reads' HRG.out).2.2 (Kd.R_reads' HRG.out).2.1 G3.out).mono ?_); rintro r w5 ⟨v5, rfl, hR, hb⟩; have ho := Kd.own_of_R hR; obtain ⟨AE, cE, rfl⟩ := own_slice ho; have HOE := Aside0.mk (own_C ho); have HOD := Aside0.mk (pw_own_below HOD.out hb); have HRG := Aside0.mk (Kd.R_below HRG.out hb); have HRM := Aside0.mk (Kd.R_below HRM.out hb); have HB := Aside0.mk (HB.out.trans (hb.mono HB.out.size)); clear hR ho hb)
      | (go_at_call 11; (with_reducible refine (duffelref01_Same.calls 100000 AD cD D AE cE D true _ (own_C HOD.out).2.1 (own_C HOD.out).2.2.1 HOE.out.2.1 HOE.out.2.2.1 G5.out).mono ?_); rintro r w6 ⟨rfl, ⟨nd, hnd⟩⟩; have hb := (hnd ▸ pw_below_drewN (Below.refl _ _) nd : Below w5.heap.size w5 w6); have HRG := Aside0.mk (Kd.R_below HRG.out hb); have HRM := Aside0.mk (Kd.R_below HRM.out hb); have HB := Aside0.mk (HB.out.trans (hb.mono HB.out.size)); clear hb hnd)
      | (go_at_call 12; (with_reducible refine (duffelref23_Same.calls 100000 AM cM F _ _ F true _ (Kd.R_reads' HRM.out).2.2 (Kd.R_reads' HRM.out).2.1 (Kd.R_reads' HRG.out).2.2 (Kd.R_reads' HRG.out).2.1 G4.out).mono ?_); rintro r w7 ⟨rfl, ⟨nd, hnd⟩⟩; have HB := Aside0.mk (show Below w.heap.size w w7 from hnd ▸ pw_below_drewN HB.out nd); clear hnd)
      | (go_at_call 13; (with_reducible refine (ex_lives _).mono ?_); rintro r wl ⟨rfl, hb⟩; have HB9 := Aside0.mk (HB.out.trans (hb.mono HB.out.size)); clear hb))
    all_goals
      go_ret
      exact ⟨rfl, HB9.out⟩
  · by_cases h2 : (F.length : Int) ≤ a1
    · obtain ⟨G1, G2, G3, G4, G5⟩ := hG F rfl (fun x hx => by have := hFm x hx; omega)
      obtain ⟨D, HQL⟩ : ∃ D, Aside0 (wrL F = D) := ⟨_, ⟨rfl⟩⟩
      obtain ⟨E, HQE⟩ : ∃ E, Aside0 (wrE F = E) := ⟨_, ⟨rfl⟩⟩
      have G3 : Aside0 (duffelref23_Write.f 1000 F = some (D, E)) := ⟨HQL.out ▸ HQE.out ▸ G3.out⟩
      have G5 : Aside0 (duffelref01_Same.f 100000 D D = some true) := ⟨HQL.out ▸ G5.out⟩
      have d1 : decide ((0 : Int) ≤ a1) = true := decide_eq_true (by omega)
      have d2 : decide (a1 < (F.length : Int)) = false := decide_eq_false (by omega)
      clear hG hFl hFm
      go_enter Try.func3, Try.ntmps3
      go_wp2_with (first
        | (go_at_call 7; (with_reducible refine (HFW.out _ A0 c0 HXC.out).mono ?_); rintro r w1 ⟨v1, rfl, hR, hb⟩; obtain ⟨AG, cG, rfl⟩ := Kd.R_slice hR; have HRG := Aside0.mk hR; have HB := Aside0.mk hb; clear hR hb)
        | (go_at_call 7; (with_reducible refine (G1.out _ _ _ (Kd.R_reads' HRG.out).2.2).mono ?_); rintro r w3 ⟨v3, rfl, hR, hb⟩; obtain ⟨AM, cM, rfl⟩ := Kd.R_slice hR; have HRM := Aside0.mk hR; have HRG := Aside0.mk (Kd.R_below HRG.out hb); have HB := Aside0.mk (HB.out.trans (hb.mono HB.out.size)); clear hR hb)
        | (go_at_call 9; (with_reducible refine (G2.out _ AM cM (Kd.R_reads' HRM.out).2.2).mono ?_); rintro r w4 ⟨v4, rfl, ho, hb⟩; rw [HQE.out] ; replace ho := HQL.out ▸ ho; obtain ⟨AD, cD, rfl⟩ := own_slice ho; have HOD := Aside0.mk ho; have HRG := Aside0.mk (Kd.R_below HRG.out hb); have HRM := Aside0.mk (Kd.R_below HRM.out hb); have HB := Aside0.mk (HB.out.trans (hb.mono HB.out.size)); clear ho hb)
        | (go_at_call 10; (with_reducible refine (duffelref23_Write.calls 1000 _ _ F D E _ (Kd.R_reads' HRG.out).2.2 (Kd.R_reads' HRG.out).2.1 G3.out).mono ?_); rintro r w5 ⟨v5, rfl, hR, hb⟩; have ho := Kd.own_of_R hR; obtain ⟨AE, cE, rfl⟩ := own_slice ho; have HOE := Aside0.mk (own_C ho); have HOD := Aside0.mk (pw_own_below HOD.out hb); have HRG := Aside0.mk (Kd.R_below HRG.out hb); have HRM := Aside0.mk (Kd.R_below HRM.out hb); have HB := Aside0.mk (HB.out.trans (hb.mono HB.out.size)); clear hR ho hb)
        | (go_at_call 11; (with_reducible refine (duffelref01_Same.calls 100000 AD cD D AE cE D true _ (own_C HOD.out).2.1 (own_C HOD.out).2.2.1 HOE.out.2.1 HOE.out.2.2.1 G5.out).mono ?_); rintro r w6 ⟨rfl, ⟨nd, hnd⟩⟩; have hb := (hnd ▸ pw_below_drewN (Below.refl _ _) nd : Below w5.heap.size w5 w6); have HRG := Aside0.mk (Kd.R_below HRG.out hb); have HRM := Aside0.mk (Kd.R_below HRM.out hb); have HB := Aside0.mk (HB.out.trans (hb.mono HB.out.size)); clear hb hnd)
        | (go_at_call 12; (with_reducible refine (duffelref23_Same.calls 100000 AM cM F _ _ F true _ (Kd.R_reads' HRM.out).2.2 (Kd.R_reads' HRM.out).2.1 (Kd.R_reads' HRG.out).2.2 (Kd.R_reads' HRG.out).2.1 G4.out).mono ?_); rintro r w7 ⟨rfl, ⟨nd, hnd⟩⟩; have HB := Aside0.mk (show Below w.heap.size w w7 from hnd ▸ pw_below_drewN HB.out nd); clear hnd)
        | (go_at_call 13; (with_reducible refine (ex_lives _).mono ?_); rintro r wl ⟨rfl, hb⟩; have HB9 := Aside0.mk (HB.out.trans (hb.mono HB.out.size)); clear hb))
      all_goals
        go_ret
        exact ⟨rfl, HB9.out⟩
    · obtain ⟨i, rfl⟩ : ∃ i : Nat, a1 = (i : Int) := ⟨a1.toNat, by omega⟩
      have hi : i < F.length := by omega
      have hzi := wz_in a2
      obtain ⟨z, hz⟩ : ∃ z : Nat, wz a2 = (z : Int) := ⟨(wz a2).toNat, by omega⟩
      rw [hz] at hzi
      have HW : Aside0 (∀ W, Calls Try.prog 8 #[.int .i64 a2, .int .i64 0, .int .i64 70000] W fun e w' => e = .returned (.int .i64 (z : Int)) ∧ ∃ nd, w' = W.drewN nd) := ⟨fun W => hz ▸ within_z a2 W⟩
      have hmk := print_make (P := Try.prog) 24 5 .u8 1 Try.underlying24 infoE (by decide) z (by omega)
      obtain ⟨G, hGF⟩ : ∃ G, F.set i ⟨F[i].f0, List.replicate z 0⟩ = G := ⟨_, rfl⟩
      have hGl : G.length = F.length := by rw [← hGF, List.length_set]
      obtain ⟨G1, G2, G3, G4, G5⟩ := hG G hGl (fun x hx => by
        rw [← hGF] at hx
        rcases List.mem_or_eq_of_mem_set hx with h | rfl
        · have := hFm x h; omega
        · show (List.replicate z (0 : Int)).length ≤ 70000
          rw [List.length_replicate]; omega)
      obtain ⟨D, HQL⟩ : ∃ D, Aside0 (wrL G = D) := ⟨_, ⟨rfl⟩⟩
      obtain ⟨E, HQE⟩ : ∃ E, Aside0 (wrE G = E) := ⟨_, ⟨rfl⟩⟩
      have G3 : Aside0 (duffelref23_Write.f 1000 G = some (D, E)) := ⟨HQL.out ▸ HQE.out ▸ G3.out⟩
      have G5 : Aside0 (duffelref01_Same.f 100000 D D = some true) := ⟨HQL.out ▸ G5.out⟩
      have d1 : decide ((0 : Int) ≤ (i : Int)) = true := decide_eq_true (by omega)
      have hi2 : i < G.length := by omega
      have d2 : decide ((i : Int) < (G.length : Int)) = true := decide_eq_true (by omega)
      have d3 : decide (i < G.length) = true := decide_eq_true hi2
      have HGF := Aside0.mk hGF
      have HGL := Aside0.mk hGl
      have HZ : Aside0 (z ≤ 70000) := ⟨by omega⟩
      clear hG hFl hFm hz hzi hGF hGl
      go_enter Try.func3, Try.ntmps3
      go_wp2_with (first
        | (go_at_call 7; (with_reducible refine (HFW.out _ A0 c0 HXC.out).mono ?_); rintro r w1 ⟨v1, rfl, hR, hb⟩; obtain ⟨gF, cF, rfl, hgB, hgl, _⟩ := Kd.R_form hR (by omega); obtain ⟨ad, had⟩ : ∃ ad : Addr, ad = ⟨gF, 0, none⟩ := ⟨_, rfl⟩; have HAD := Aside0.mk had; have HRF := Aside0.mk hR; rw [← had, ← HGL.out]; clear had; have HB := Aside0.mk hb; clear hR hb)
        | (go_at_call 8; (with_reducible refine (HW.out _).mono ?_); rintro r w2 ⟨rfl, nd, hnd⟩; have HB := Aside0.mk (show Below w.heap.size w w2 from hnd ▸ pw_below_drewN HB.out nd); have HRF := Aside0.mk (show Kd.R k27 27 w2 w.heap.size (fun _ => True) (.slice (some ⟨gF, 0, none⟩) F.length cF) F from hnd ▸ Kd.R_drewN HRF.out nd); have HCX := Aside0.mk (cell_set HRF.out HAD.out hi z); obtain ⟨u, hcx⟩ := HCX.out.1; have hfx := HCX.out.2; have HRG := Aside0.mk (set_after HRF.out HAD.out hi z (HZ.out) HGF.out HGL.out); have HB := Aside0.mk (below_after HB.out HAD.out hgB (i * 2) z (.slice (some ⟨w2.heap.size, 0, none⟩) z z)); clear hnd)
        | (go_at_call 7; (with_reducible refine (G1.out _ _ _ (Kd.R_reads' HRG.out).2.2).mono ?_); rintro r w3 ⟨v3, rfl, hR, hb⟩; obtain ⟨AM, cM, rfl⟩ := Kd.R_slice hR; have HRM := Aside0.mk hR; have HRG := Aside0.mk (Kd.R_below HRG.out hb); have HB := Aside0.mk (HB.out.trans (hb.mono HB.out.size)); clear hR hb)
        | (go_at_call 9; (with_reducible refine (G2.out _ AM cM (Kd.R_reads' HRM.out).2.2).mono ?_); rintro r w4 ⟨v4, rfl, ho, hb⟩; rw [HQE.out] ; replace ho := HQL.out ▸ ho; obtain ⟨AD, cD, rfl⟩ := own_slice ho; have HOD := Aside0.mk ho; have HRG := Aside0.mk (Kd.R_below HRG.out hb); have HRM := Aside0.mk (Kd.R_below HRM.out hb); have HB := Aside0.mk (HB.out.trans (hb.mono HB.out.size)); clear ho hb)
        | (go_at_call 10; (with_reducible refine (duffelref23_Write.calls 1000 _ _ G D E _ (Kd.R_reads' HRG.out).2.2 (Kd.R_reads' HRG.out).2.1 G3.out).mono ?_); rintro r w5 ⟨v5, rfl, hR, hb⟩; have ho := Kd.own_of_R hR; obtain ⟨AE, cE, rfl⟩ := own_slice ho; have HOE := Aside0.mk (own_C ho); have HOD := Aside0.mk (pw_own_below HOD.out hb); have HRG := Aside0.mk (Kd.R_below HRG.out hb); have HRM := Aside0.mk (Kd.R_below HRM.out hb); have HB := Aside0.mk (HB.out.trans (hb.mono HB.out.size)); clear hR ho hb)
        | (go_at_call 11; (with_reducible refine (duffelref01_Same.calls 100000 AD cD D AE cE D true _ (own_C HOD.out).2.1 (own_C HOD.out).2.2.1 HOE.out.2.1 HOE.out.2.2.1 G5.out).mono ?_); rintro r w6 ⟨rfl, ⟨nd, hnd⟩⟩; have hb := (hnd ▸ pw_below_drewN (Below.refl _ _) nd : Below w5.heap.size w5 w6); have HRG := Aside0.mk (Kd.R_below HRG.out hb); have HRM := Aside0.mk (Kd.R_below HRM.out hb); have HB := Aside0.mk (HB.out.trans (hb.mono HB.out.size)); clear hb hnd)
        | (go_at_call 12; (with_reducible refine (duffelref23_Same.calls 100000 AM cM G _ _ G true _ (Kd.R_reads' HRM.out).2.2 (Kd.R_reads' HRM.out).2.1 (Kd.R_reads' HRG.out).2.2 (Kd.R_reads' HRG.out).2.1 G4.out).mono ?_); rintro r w7 ⟨rfl, ⟨nd, hnd⟩⟩; have HB := Aside0.mk (show Below w.heap.size w w7 from hnd ▸ pw_below_drewN HB.out nd); clear hnd)
        | (go_at_call 13; (with_reducible refine (ex_lives _).mono ?_); rintro r wl ⟨rfl, hb⟩; have HB9 := Aside0.mk (HB.out.trans (hb.mono HB.out.size)); clear hb))
      all_goals
        go_ret
        exact ⟨rfl, HB9.out⟩
end Go.Proofs.Ytfnihlndaenkhaa.Fld
