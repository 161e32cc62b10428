/- The law ExtraReads, walked. -/
import Derived.Test.YtfnihlndaenkhaaExtraF0
import Derived.Test.YtfnihlndaenkhaaPureExtra
import Derived.Test.YtfnihlndaenkhaaPureExtraB
namespace Go.Proofs.Ytfnihlndaenkhaa.Fld
open Go.Proofs.Ytfnihlndaenkhaa.EX Go.Proofs.Ytfnihlndaenkhaa.EXR
open Go.RowKit Go.Proofs.YtfnihlndaenkhaaW.PrintWords Go.Proofs.YtfnihlndaenkhaaW.PrintLast Go.Proofs.YtfnihlndaenkhaaW.PrintMore
set_option linter.unusedVariables false
set_option linter.unusedSimpArgs false
theorem own_formE {W : World} {base n c : Nat} {A : Option Addr} {xs : List Value} (h : W.ownsRow base 5 1 (.slice A n c) n xs) (hn : 0 < n) : ∃ g, A = some ⟨g, 0, none⟩ ∧ base ≤ g ∧ g < W.heap.size := by
  rcases h.2 with ⟨hv, _⟩ | ⟨g, cap, cur, hv, hg, hh, _⟩
  · injection hv with _ h2; omega
  · injection hv with h1
    exact ⟨g, h1, hg, blk_lt hh⟩
/-- a loop that stores into bytes: two lists of fields that lie behind them stay -/
def ERel (w0 : World) (B N : Nat) (A3 : Option Addr) (n c3 : Nat) (v4 v6 : Value) (L : List FT) (vi : Value) (wr : World) : Prop :=
  ∃ (q : Nat) (ys : List Int), vi = .int .i64 q ∧ q ≤ n ∧ ys.length = n ∧ wr.ownsRow B 5 1 (.slice A3 n c3) n (nums .u8 ys) ∧
    Kd.R k27 27 wr B (fun k => N ≤ k) v4 L ∧ Kd.R k27 27 wr B (fun k => N ≤ k) v6 L ∧ Below B w0 wr ∧ N ≤ wr.heap.size
set_option maxHeartbeats 8000000 in
set_option maxRecDepth 100000 in
theorem reads_any (A0 : Option Addr) (c0 : Nat) (l0 : List Int) (w : World) (h0 : Kd.C (Kd.int .u8) w A0 l0.length l0) (hc0 : l0.length ≤ c0) (hby : ∀ x ∈ l0, 0 ≤ x ∧ x ≤ 255) :
    Calls Try.prog 4 #[.slice A0 l0.length c0] w fun e w' => e = .returned (.bool true) ∧ Below w.heap.size w w' := by
  obtain ⟨b, hbq⟩ : ∃ b, l0.take 300 = b := ⟨_, rfl⟩
  have HCUT : Aside0 (MyCut.cut_u8.f l0 300 = some b) := ⟨hbq ▸ MyCut.cut_u8.nat l0 300⟩
  have HC0 := Aside0.mk hc0
  have HC : Aside0 (Kd.C (Kd.int .u8) w A0 b.length b) := ⟨MyCut.C_cut_u8 h0 HCUT.out⟩
  have HCC : Aside0 (b.length ≤ c0) := ⟨MyCut.le_cut_u8 hc0 HCUT.out⟩
  have hl : b.length ≤ 300 := by rw [← hbq, List.length_take]; omega
  have hb : ∀ x ∈ b, 0 ≤ x ∧ x ≤ 255 := fun x hx => hby x (List.mem_of_mem_take (hbq ▸ hx))
  obtain ⟨s1, s2, s3, s4⟩ := rdA_size b hb
  obtain ⟨X, E, hrd⟩ : ∃ X E, rdA b = (X, E) := ⟨_, _, rfl⟩
  rw [hrd] at s1 s2
  replace s1 : X.length ≤ b.length := s1
  have HRD := Aside0.mk hrd
  have HRR : Aside0 (duffelref23_Read.f 1000 b = some (X, E)) := ⟨hrd ▸ rread_run b hb (by omega) 1000 (by omega)⟩
  have HSM : Aside0 (duffelref23_Same.f 2000 X X = some true) := ⟨rsame_ok X 300 (fun x hx => Nat.le_trans (s2 x hx) hl) (by omega) (by omega) 2000 (by omega)⟩
  have HSB : Aside0 (duffelref01_Same.f 2000 b b = some true) := ⟨same_ok b (by omega) 2000 (by omega)⟩
  have HCP : Aside0 (duffelref01_Copy.f b = some b) := ⟨copy_ok b (by omega)⟩
  have HBY := Aside0.mk hb
  have HL := Aside0.mk hl
  clear h0 hc0 hby hbq hl hb s1 s2 s3 s4 hrd
  go_enter Try.func4, Try.ntmps4
  go_wp2_with (first
    | (go_at_call 14; refine (MyCut.cut_u8.calls A0 c0 l0 300 b _ HC0.out HCUT.out).mono ?_; rintro e w' ⟨rfl, hs_⟩; subst hs_)
    | (go_at_call 15; refine (duffelref01_Copy.calls A0 c0 b b _ HC.out HCC.out HCP.out).mono ?_; rintro e w1 ⟨v, rfl, hR, hb⟩; obtain ⟨A3, c3, rfl⟩ := own_slice (Kd.own_of_R hR); have HO := Aside0.mk (Kd.own_of_R hR); have HO3 := Aside0.mk (own_C (Kd.own_of_R hR)); have HB := Aside0.mk hb; clear hR hb)
    | (go_at_call 16; refine (ex_read A3 c3 b w1 HO3.out.2.1 HO3.out.2.2.2 HBY.out (by have := HL.out; omega)).mono ?_; rintro e w2 ⟨v4, rfl, hR, hb⟩; rw [HRD.out] at hR ⊢; obtain ⟨A4, c4, rfl⟩ := Kd.R_slice hR; have HR4 := Aside0.mk (Kd.R_mono (Kd.R_bound hR) (fun k hk => hk.2.1)); have HO2 := Aside0.mk (pw_own_below HO.out hb); have HB2 := Aside0.mk (HB.out.trans (hb.mono HB.out.size)); have HSZ2 := Aside0.mk hb.size; clear hR hb)
    | (go_at_call 17; refine (duffelref23_Read.calls 1000 A0 c0 b X E _ (Kd.C_below HC.out HB2.out) HCC.out HRR.out).mono ?_; rintro e w3 ⟨v6, rfl, hS, hb⟩; obtain ⟨A6, c6, rfl⟩ := Kd.S_slice hS; have HR6 := Aside0.mk (Kd.R_mono (Kd.R_bound (Kd.S_R hS)) (fun k hk => Nat.le_trans HSZ2.out hk.2.1)); have HR4 := Aside0.mk (Kd.R_below HR4.out hb); have HO2 := Aside0.mk (pw_own_below HO2.out hb); have HB2 := Aside0.mk (HB2.out.trans (hb.mono HB2.out.size)); have HSZ2 := Aside0.mk (Nat.le_trans HSZ2.out hb.size); clear hS hb)
    | (go_at_call 12; refine (duffelref23_Same.calls 2000 A4 c4 X A6 c6 X true _ (Kd.R_reads' HR4.out).2.2 (Kd.R_reads' HR4.out).2.1 (Kd.R_reads' HR6.out).2.2 (Kd.R_reads' HR6.out).2.1 HSM.out).mono ?_; rintro r wz ⟨rfl, ⟨nd, hnd⟩⟩; have hb := (hnd ▸ pw_below_drewN (Below.refl _ _) nd : Below w3.heap.size w3 wz); have HR4 := Aside0.mk (Kd.R_below HR4.out hb); have HR6 := Aside0.mk (Kd.R_below HR6.out hb); have HO2 := Aside0.mk (pw_own_below HO2.out hb); have HB2 := Aside0.mk (HB2.out.trans (hb.mono HB2.out.size)); have HSZ2 := Aside0.mk (Nat.le_trans HSZ2.out hb.size); clear hb hnd)
    | (go_at_call 11; refine (duffelref01_Same.calls 2000 A3 c3 b A0 c0 b true _ (own_C HO2.out).2.1 (own_C HO2.out).2.2.1 (Kd.C_below HC.out HB2.out) HCC.out HSB.out).mono ?_; rintro r wy ⟨rfl, ⟨nd, hnd⟩⟩; have hb := (hnd ▸ pw_below_drewN (Below.refl _ _) nd : Below wz.heap.size wz wy); have HR4 := Aside0.mk (Kd.R_below HR4.out hb); have HR6 := Aside0.mk (Kd.R_below HR6.out hb); have HO2 := Aside0.mk (pw_own_below HO2.out hb); have HB2 := Aside0.mk (HB2.out.trans (hb.mono HB2.out.size)); have HSZ2 := Aside0.mk (Nat.le_trans HSZ2.out hb.size); clear hb hnd))
  have HS1 : Aside0 (w.heap.size ≤ w1.heap.size ∧ w1.heap.size ≤ w2.heap.size) := ⟨HB.out.size, Aside0.out (by assumption)⟩
  go_loopw [8] (fun v8 wr => ERel w w.heap.size w1.heap.size A3 b.length c3 (.slice A4 X.length c4) (.slice A6 X.length c6) X v8 wr) (fun v8 _ => b.length - (intOf v8).toNat)
  case atStart => exact ⟨0, b, rfl, Nat.zero_le _, rfl, HO2.out, Kd.R_lower HR4.out HS1.out.1, Kd.R_lower HR6.out (Nat.le_trans HS1.out.1 HS1.out.2), HB2.out, HSZ2.out⟩
  case round =>
    rename World => wq
    clear HR4 HR6 HO2 HB2 HSZ2
    obtain ⟨q, ys, rfl, hq, hys, hown, hR4, hR6, hbel, hsz⟩ := hrel
    have G1 := Aside0.mk hys
    have HO2 := Aside0.mk hown
    have HR4 := Aside0.mk hR4
    have HR6 := Aside0.mk hR6
    have HB2 := Aside0.mk hbel
    have HSZ2 := Aside0.mk hsz
    clear hys hown hR4 hR6 hbel hsz
    by_cases hlt : q < b.length
    · obtain ⟨g3, e3, hg3, hg4⟩ := own_formE HO.out (by omega)
      subst e3
      obtain ⟨hc, hf⟩ := own_at HO2.out (q : Int) (by omega) (by omega)
      obtain ⟨hst, _⟩ := own_store HO2.out (q : Int) (IntKind.u8.wrap (rd ys (q : Int) + 1))
      rw [Int.toNat_natCast] at hc hf hst
      obtain ⟨u, hu⟩ : ∃ u, rd ys (q : Int) = u := ⟨_, rfl⟩
      rw [hu] at hc hst
      have H4 := Aside0.mk hst
      have hf4 := fun u => Kd.R_far (p := ⟨g3, q, none⟩) HR4.out (fun k (hk : w1.heap.size ≤ k) (e : k = g3) => by omega) u
      have hf6 := fun u => Kd.R_far (p := ⟨g3, q, none⟩) HR6.out (fun k (hk : w1.heap.size ≤ k) (e : k = g3) => by omega) u
      have HF4 := Aside0.mk hf4
      have HF6 := Aside0.mk hf6
      have HBS := Aside0.mk (fun u => HB2.out.setCell (p := ⟨g3, q, none⟩) hg3 u)
      clear hst hg3 hg4 hf4 hf6
      go_wp2
      have hb300 : b.length ≤ 300 := HL.out
      have hwk : wrap64 ((q : Int) + 1) = ((q + 1 : Nat) : Int) := by rw [IntWalk.wrap64_in _ ⟨by omega, by omega⟩]; omega
      refine ⟨⟨q + 1, _, by rw [hwk], by omega, ?_, H4.out, HF4.out _, HF6.out _, HBS.out _, by simpa using HSZ2.out⟩, by rw [hwk]; simp [intOf]; omega⟩
      rw [List.length_set, G1.out]
    · clear G1
      go_wp2_with (first
        | (go_at_call 12; refine (duffelref23_Same.calls 2000 A4 c4 X A6 c6 X true _ (Kd.R_reads' HR4.out).2.2 (Kd.R_reads' HR4.out).2.1 (Kd.R_reads' HR6.out).2.2 (Kd.R_reads' HR6.out).2.1 HSM.out).mono ?_; rintro r wz ⟨rfl, ⟨nd, hnd⟩⟩; have HB2 := Aside0.mk (HB2.out.trans ((hnd ▸ pw_below_drewN (Below.refl _ _) nd : Below wq.heap.size wq wz).mono HB2.out.size)); clear hnd)
        | (go_at_call 13; refine (ex_lives _).mono ?_; rintro r wl ⟨rfl, hb⟩; have HB9 := Aside0.mk (HB2.out.trans (hb.mono HB2.out.size)); clear hb))
      all_goals
        go_ret
        exact ⟨rfl, HB9.out⟩
end Go.Proofs.Ytfnihlndaenkhaa.Fld
