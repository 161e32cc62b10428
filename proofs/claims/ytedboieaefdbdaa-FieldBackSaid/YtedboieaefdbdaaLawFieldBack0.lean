/- The law FieldBack, walked. -/
import Derived.Test.YtedboieaefdbdaaFieldBackP
import Derived.Test.YtedboieaefdbdaaFieldLives
import Derived.Test.YtedboieaefdbdaaFRSame
import Derived.Deep.RegionHeld3
namespace Go.Proofs.Ytedboieaefdbdaa.Fld
open Go.Proofs.Ytedboieaefdbdaa.FR Go.Proofs.Ytedboieaefdbdaa.FRR
open Go.RowKit Go.Proofs.YtedboieaefdbdaaW.PrintWords Go.Proofs.YtedboieaefdbdaaW.PrintLast Go.Proofs.YtedboieaefdbdaaW.PrintMore Go.Proofs.Ytedboieaefdbdaa.MyOpen
set_option linter.unusedVariables false
set_option linter.unusedSimpArgs false
theorem RowAt.drewN {w : World} {base g : Nat} {v : Value} {L : List Int} {e : Int} (h : RowAt w base g v L e) (n : Nat) : RowAt (w.drewN n) base g v L e := ⟨h.blk, h.own, h.ge⟩
theorem CurAt.drew {w : World} {base g : Nat} {v : Value} {b : List Int} {a : Nat} {e : Int} (h : CurAt w base g v b a e) : CurAt w.drew base g v b a e := ⟨h.blk, h.own, h.ge, h.le, h.len⟩
theorem neRC_types : (62 : Nat) ≠ 58 := by decide
/-- a row beside what a cursor did -/
theorem RowAt.beside {w w' : World} {base g gc base2 : Nat} {v vc : Value} {L b : List Int} {e e2 : Int} {a : Nat} (h : RowAt w base g v L e) (hc : CurAt w base2 gc vc b a e2) (hk : CKept w w' base2 gc) : RowAt w' base g v L e := by
  have hg : g ≠ gc := blk_ne h.blk hc.blk neRC_types
  have hv := own_ne h.own hc.blk neC_types
  exact ⟨blk_kept h.blk hk.kept hg, own_move h.own (fun k hk2 => hk.kept.2 k (own_lt h.own k hk2) (fun e => hv (by rw [hk2, e]))), h.ge⟩
theorem RowAt.below {w w' : World} {base g : Nat} {v : Value} {L : List Int} {e : Int} (h : RowAt w base g v L e) (hb : Below w.heap.size w w') : RowAt w' base g v L e := ⟨blk_below h.blk hb, pw_own_below h.own hb, h.ge⟩
/-- i writings were put -/
def PutRel (w0 : World) (X : List WT) (w1 : World) (v1 : Value) (B g : Nat) (m : Nat) (vi : Value) (wr : World) : Prop :=
  ∃ (i : Nat) (v : Value), vi = .int .i64 i ∧ i ≤ m ∧ RS w1 v1 wr B g v (cat X i, 0) (46 * i) ∧ Below B w0 wr
/-- i writings were read -/
def GetRel (w0 : World) (X : List WT) (L : List Int) (B g : Nat) (v : Value) (B2 gc : Nat) (vc : Value) (m : Nat) (vi : Value) (wr : World) : Prop :=
  ∃ (i : Nat), vi = .int .i64 i ∧ i ≤ m ∧ CurAt wr B2 gc vc L (cat X i).length 0 ∧ RowAt wr B g v L 0 ∧ Below B w0 wr
set_option maxHeartbeats 8000000 in
set_option maxRecDepth 100000 in
theorem back_any (A0 : Option Addr) (c0 : Nat) (X : List WT) (w : World) (h0 : Kd.C (KW 5) w A0 X.length X) (hg : ∀ x ∈ X, GoodW x) :
    Calls Try.prog 6 #[.slice A0 X.length c0] w fun e w' => e = .returned (.bool true) ∧ Below w.heap.size w w' := by
  have HX := Aside0.mk h0
  have HG := Aside0.mk hg
  have HXM : Aside0 (X.length ≤ 9223372036854775807) := ⟨Kd.C_max h0⟩
  obtain ⟨m, hm⟩ : ∃ m, min X.length 60 = m := ⟨_, rfl⟩
  have HM : Aside0 (m ≤ X.length ∧ m ≤ 60) := ⟨by omega⟩
  have HM2 : Aside0 (∀ i, i < X.length → i < 60 → i < m) := ⟨fun i h1 h2 => by omega⟩
  clear h0 hg hm
  go_enter Try.func6, Try.ntmps6
  go_wp2_with (go_at_call 15; refine (rs_new w).mono ?_; rintro e w1 ⟨g, v1, rfl, hr, hb⟩; have HR := Aside0.mk hr; have HB := Aside0.mk hb; clear hr hb)
  go_loopw [4] (fun v4 wr => PutRel w X w1 v1 w.heap.size g m v4 wr) (fun v4 _ => m - (intOf v4).toNat)
  case atStart => exact ⟨0, v1, rfl, Nat.zero_le _, HR.out, HB.out⟩
  case round =>
    obtain ⟨i, v, rfl, hi, hrs, hbel⟩ := hrel
    have HR := Aside0.mk hrs
    have HB := Aside0.mk hbel
    clear hrs hbel
    by_cases hlt : i < X.length ∧ i < 60
    · obtain ⟨hl1, hl2⟩ := hlt
      have him := HM2.out i hl1 hl2
      obtain ⟨ad, A3, c3, e1, hx0, hx1, hx2, hx3, hlc, hC3⟩ := writes_at HX.out i hl1
      subst e1
      have d1 : decide ((i : Int) < 60) = true := decide_eq_true (by omega)
      have d2 : decide (i < X.length) = true := decide_eq_true hl1
      have d3 : decide ((i : Int) < (X.length : Int)) = true := decide_eq_true (by omega)
      have hst := st_piece X i hl1
      have hgx := HG.out X[i] (List.getElem_mem hl1)
      have hy := bounds_u32 hgx.2.2.1
      obtain ⟨x, hx⟩ : ∃ x, X[i].2.1 = x := ⟨_, rfl⟩
      obtain ⟨y, hyy⟩ : ∃ y, X[i].2.2.1 = y := ⟨_, rfl⟩
      obtain ⟨b0, hb0⟩ : ∃ b0, X[i].2.2.2 = b0 := ⟨_, rfl⟩
      rw [hx] at hx1 hst
      rw [hyy] at hx2 hst hy
      rw [hb0] at hx3 hlc hC3 hst
      obtain ⟨b, hb⟩ : ∃ b, b0.take 40 = b := ⟨_, rfl⟩
      rw [hb] at hst
      have HCUT : Aside0 (MyCut.cut_u8.f b0 40 = some b) := ⟨hb ▸ MyCut.cut_u8.nat b0 40⟩
      have HLC := Aside0.mk hlc
      have HC : Aside0 (Kd.C (Kd.int .u8) w A3 b.length b) := ⟨MyCut.C_cut_u8 hC3 HCUT.out⟩
      have HL : Aside0 (b.length ≤ 40) := ⟨by rw [← hb, List.length_take]; omega⟩
      have HY : Aside0 (0 ≤ y) := ⟨hy.1⟩
      have HST := Aside0.mk hst
      have H60 : Aside0 (46 * i ≤ 3000) := ⟨by omega⟩
      have hb3 : (ad.add (i * 4)).block < w.heap.size := block_lt_of_cell hx0
      replace hx1 := below_cells HB.out _ _ _ hb3 hx1
      replace hx2 := below_cells HB.out _ _ _ hb3 hx2
      replace hx3 := below_cells HB.out _ _ _ hb3 hx3
      have HR := Aside0.mk HR.out.drew
      have HB := Aside0.mk (below_drew HB.out)
      clear hx hyy hb0 hb hlc hC3 hst hgx hy hx0
      go_wp2_with fail
      go_region_held3 (fun w' => w'.cell? ⟨(ad.add (i * 4)).block, (ad.add (i * 4)).off + 1, none⟩ = some (.int .i64 x) ∧ w'.cell? ⟨(ad.add (i * 4)).block, (ad.add (i * 4)).off + 2, none⟩ = some (.int .u32 y) ∧ w'.cell? ⟨(ad.add (i * 4)).block, (ad.add (i * 4)).off + 3, none⟩ = some (.slice A3 b0.length c3))
        (first
          | go_keep
          | (go_split_ands
             refine ⟨?_, ?_, ?_⟩
             all_goals (exact kp _ _ _ hb3 (by assumption))))
        (first
          | (go_at_call 17; refine (within_any _ _).mono ?_; rintro e w' ⟨rfl, hs_⟩; subst hs_)
          | (go_at_call 9; refine (MyCut.cut_u8.calls A3 c3 b0 40 b _ HLC.out HCUT.out).mono ?_; rintro e w' ⟨rfl, hs_⟩; subst hs_)
          | (go_at_call 16; refine (rs_u16 (Aside0.out (by assumption)) (by have := H60.out; omega)).mono ?_; rintro e w9 ⟨v9, rfl, hr, hk⟩; have HR := Aside0.mk hr; have HB := Aside0.mk (HB.out.trans hk); have kp := below_cells hk; clear hr hk)
          | (go_at_call 18; refine (rs_u32 (Aside0.out (by assumption)) HY.out (by have := H60.out; omega)).mono ?_; rintro e w9 ⟨v9, rfl, hr, hk⟩; have HR := Aside0.mk hr; have HB := Aside0.mk (HB.out.trans hk); have kp := below_cells hk; clear hr hk)
          | (go_at_call 19; refine (rs_put (m := 40) (Aside0.out (by assumption)) (Kd.C_below HC.out HB.out) HL.out (by have := H60.out; omega)).mono ?_; rintro e w9 ⟨v9, rfl, hr, hk⟩; have HR := Aside0.mk hr; have HB := Aside0.mk (HB.out.trans hk); have kp := below_cells hk; clear hr hk))
      all_goals
        go_split_ands
        go_wp2
        go_roundw
        case rel =>
          have h9 := HR.out
          rw [HST.out, show 46 * i + 2 + 4 + 40 = 46 * (i + 1) by omega] at h9
          exact ⟨i + 1, _, by go_num, by omega, h9, HB.out⟩
        case measure => simp [intOf]; omega
    · have hmm := HM.out
      have him : i = m := by
        by_cases h1 : i < X.length
        · have : ¬ i < 60 := fun h2 => hlt ⟨h1, h2⟩
          omega
        · omega
      subst him
      have hLL := cat_len X i hmm.1
      obtain ⟨L, hL⟩ : ∃ L, cat X i = L := ⟨_, rfl⟩
      have hLB := cat_bytes X HG.out i
      rw [hL] at hLL hLB
      have HRow : Aside0 (RowAt wr w.heap.size g v L 0) := ⟨hL ▸ HR.out.row⟩
      have HLN : Aside0 (L.length ≤ 1000000000) := ⟨by omega⟩
      have HLB := Aside0.mk hLB
      have HLE := Aside0.mk hL
      clear hL hLL hLB HR hmm
      have hcon : (decide (i < X.length) = false ∧ decide ((i : Int) < (X.length : Int)) = false) ∨ (decide (i < X.length) = true ∧ decide ((i : Int) < (X.length : Int)) = true ∧ decide ((i : Int) < 60) = false) := by
        by_cases h1 : i < X.length
        · exact .inr ⟨decide_eq_true h1, decide_eq_true (by omega), decide_eq_false (by omega)⟩
        · exact .inl ⟨decide_eq_false h1, decide_eq_false (by omega)⟩
      clear hlt
      rcases hcon with ⟨hcon, hcon1⟩ | ⟨hcon, hcon1, hcon2⟩
      all_goals
        go_wp2_with (first
          | (go_at_call 21; refine (row_bytes _ _ _ _ _ HRow.out HLN.out).mono ?_; rintro e w2 ⟨v2, rfl, ho, hb⟩; obtain ⟨A2, c2, rfl⟩ := own_slice ho; have HO := Aside0.mk (own_C ho); have HB2 := Aside0.mk hb; have HRow := Aside0.mk (HRow.out.below hb); clear ho hb)
          | (go_at_call 23; refine (cur_open _ A2 c2 L HO.out.2.1 HO.out.2.2.2 HLN.out).mono ?_; rintro e w3 ⟨gc, vc, rfl, hcur, hb⟩; have HCU := Aside0.mk hcur; have HB3 := Aside0.mk hb; have HRow := Aside0.mk (HRow.out.below hb); clear hcur hb))
        have HBB : Aside0 (Below w.heap.size w w3) := ⟨HB.out.trans ((HB2.out.mono HB.out.size).trans (HB3.out.mono (Nat.le_trans HB.out.size HB2.out.size)))⟩
        have HB2L : Aside0 (w.heap.size ≤ w2.heap.size) := ⟨Nat.le_trans HB.out.size HB2.out.size⟩
        clear HB HB2 HB3 HO
        go_loopw [6] (fun v6 wr => GetRel w X L w.heap.size g v w2.heap.size gc vc i v6 wr) (fun v6 _ => i - (intOf v6).toNat)
        case atStart => exact ⟨0, rfl, Nat.zero_le _, HCU.out, HRow.out, HBB.out⟩
        case round =>
          rename World => wq
          obtain ⟨j, rfl, hj, hcur, hrow, hbel⟩ := hrel
          have HCU := Aside0.mk hcur
          have HRow := Aside0.mk hrow
          have HB := Aside0.mk hbel
          clear hcur hrow hbel HBB
          by_cases hlt2 : j < i
          · obtain ⟨hmm1, hmm2⟩ := HM.out
            have hl1 : j < X.length := by omega
            obtain ⟨ad, A3, c3, e1, hx0, hx1, hx2, hx3, hlc, hC3⟩ := writes_at HX.out j hl1
            subst e1
            have d1 : decide ((j : Int) < 60) = true := decide_eq_true (by omega)
            have d2 : decide (j < X.length) = true := decide_eq_true hl1
            have d3 : decide ((j : Int) < (X.length : Int)) = true := decide_eq_true (by omega)
            have hgx := HG.out X[j] (List.getElem_mem hl1)
            have hy := bounds_u32 hgx.2.2.1
            obtain ⟨T, hT⟩ := cat_split X j (i - 1 - j) (by omega)
            rw [show j + (i - 1 - j) + 1 = i by omega, HLE.out] at hT
            have hrp := reads_piece (cat X j) T X[j] L hT
            have hcs : (cat X (j + 1)).length = (cat X j).length + (piece X[j]).length := by rw [cat_succ X j hl1, List.length_append]
            obtain ⟨x, hx⟩ : ∃ x, X[j].2.1 = x := ⟨_, rfl⟩
            obtain ⟨y, hyy⟩ : ∃ y, X[j].2.2.1 = y := ⟨_, rfl⟩
            obtain ⟨b0, hb0⟩ : ∃ b0, X[j].2.2.2 = b0 := ⟨_, rfl⟩
            rw [hx] at hx1 hrp
            rw [hyy] at hx2 hrp hy
            rw [hb0] at hx3 hlc hC3 hrp
            obtain ⟨b, hb⟩ : ∃ b, b0.take 40 = b := ⟨_, rfl⟩
            rw [hb, ← hcs] at hrp
            have hw := wi_in x
            have hn2 := num_le2 (wi x) hw.1 hw.2
            have hn4 := num_le4 y hy.1 (by omega)
            obtain ⟨z, hz⟩ : ∃ z, wi x = z := ⟨_, rfl⟩
            obtain ⟨p, hp⟩ : ∃ p, (cat X j).length = p := ⟨_, rfl⟩
            obtain ⟨p', hp'⟩ : ∃ p', (cat X (j + 1)).length = p' := ⟨_, rfl⟩
            rw [hz] at hrp hn2
            rw [hp, hp'] at hrp
            rw [hp] at HCU
            have HP := Aside0.mk hp'
            have HW : Aside0 (∀ W, Calls Try.prog 17 #[.int .i64 x, .int .i64 0, .int .i64 65535] W fun e w' => e = .returned (.int .i64 z) ∧ W = w') := ⟨fun W => hz ▸ within_any x W⟩
            obtain ⟨⟨r1, r2, r3⟩, ⟨r4, r5, r6⟩, ⟨r7, r8, r9⟩⟩ := hrp
            have HU : Aside0 (∀ W, CurAt W w2.heap.size gc vc L p 0 → Calls Try.prog 24 #[.pointer (some ⟨gc, 0, none⟩)] W (IPost W w2.heap.size gc vc L (p + 2) 0 (.int .i64 z))) := ⟨fun W h => by have := cur_u16 W w2.heap.size gc vc L p 0 h HLB.out; rwa [r1, r2, r3, hn2] at this⟩
            have HV : Aside0 (∀ W, CurAt W w2.heap.size gc vc L (p + 2) 0 → Calls Try.prog 26 #[.pointer (some ⟨gc, 0, none⟩)] W (IPost W w2.heap.size gc vc L (p + 6) 0 (.int .u32 y))) := ⟨fun W h => by have := cur_u32 W w2.heap.size gc vc L (p + 2) 0 h HLB.out; rwa [r4, r5, r6, hn4] at this⟩
            have HT : Aside0 (∀ W, CurAt W w2.heap.size gc vc L (p + 6) 0 → Calls Try.prog 27 #[.pointer (some ⟨gc, 0, none⟩), .int .i64 b.length] W (BPost W w2.heap.size gc vc L b p' 0)) := ⟨fun W h => by have := cur_bytes W w2.heap.size gc vc L (p + 6) 0 (b.length : Int) h; rwa [r7, r8, r9] at this⟩
            have HCUT : Aside0 (MyCut.cut_u8.f b0 40 = some b) := ⟨hb ▸ MyCut.cut_u8.nat b0 40⟩
            have HLC := Aside0.mk hlc
            have HCC : Aside0 (b.length ≤ c3) := ⟨MyCut.le_cut_u8 hlc HCUT.out⟩
            have HC : Aside0 (Kd.C (Kd.int .u8) w A3 b.length b) := ⟨MyCut.C_cut_u8 hC3 HCUT.out⟩
            have HN : Aside0 (duffelref01_Same.f 1000 b b = some true) := ⟨same_ok b (by rw [← hb, List.length_take]; omega) 1000 (by rw [← hb, List.length_take]; omega)⟩
            have hb3 : (ad.add (j * 4)).block < w.heap.size := block_lt_of_cell hx0
            replace hx1 := below_cells HB.out _ _ _ hb3 hx1
            replace hx2 := below_cells HB.out _ _ _ hb3 hx2
            replace hx3 := below_cells HB.out _ _ _ hb3 hx3
            clear hx hyy hb0 hb hlc hC3 hgx hy hx0 hT hcs hw hn2 hn4 hz hp hp' r1 r2 r3 r4 r5 r6 r7 r8 r9 hmm1 hmm2
            go_wp2_with (go_at_call 9; refine (MyCut.cut_u8.calls A3 c3 b0 40 b _ HLC.out HCUT.out).mono ?_; rintro e w' ⟨rfl, hs_⟩; subst hs_)
            have HCU := Aside0.mk HCU.out.drew
            have HRow := Aside0.mk HRow.out.drew
            have HB := Aside0.mk (below_drew HB.out)
            go_region_held3 (fun w' => w'.cell? ⟨(ad.add (j * 4)).block, (ad.add (j * 4)).off + 1, none⟩ = some (.int .i64 x) ∧ w'.cell? ⟨(ad.add (j * 4)).block, (ad.add (j * 4)).off + 2, none⟩ = some (.int .u32 y))
              (first
                | go_keep
                | (go_split_ands
                   refine ⟨?_, ?_⟩
                   all_goals (exact kp _ _ _ hb3 (by assumption))))
              (first
                | (go_at_call 17; refine (HW.out _).mono ?_; rintro e w' ⟨rfl, hs_⟩; subst hs_)
                | (go_at_call 24; refine (HU.out _ (Aside0.out (by assumption))).mono ?_; rintro e w9 ⟨rfl, hcur, hk⟩; have HRow := Aside0.mk (HRow.out.beside HCU.out hk); have HB := Aside0.mk (HB.out.trans (hk.below.mono HB2L.out)); have kp := below_cells (hk.below.mono HB2L.out); have HCU := Aside0.mk hcur; clear hcur hk)
                | (go_at_call 26; refine (HV.out _ (Aside0.out (by assumption))).mono ?_; rintro e w9 ⟨rfl, hcur, hk⟩; have HRow := Aside0.mk (HRow.out.beside HCU.out hk); have HB := Aside0.mk (HB.out.trans (hk.below.mono HB2L.out)); have kp := below_cells (hk.below.mono HB2L.out); have HCU := Aside0.mk hcur; clear hcur hk)
                | (go_at_call 27; refine (HT.out _ (Aside0.out (by assumption))).mono ?_; rintro e w9 ⟨v9, rfl, ho, hcur, hk⟩; obtain ⟨A9, c9, rfl⟩ := own_slice ho; have HO9 := Aside0.mk (own_C ho); have HRow := Aside0.mk (HRow.out.beside HCU.out hk); have HB := Aside0.mk (HB.out.trans (hk.below.mono HB2L.out)); have kp := below_cells (hk.below.mono HB2L.out); have HCU := Aside0.mk hcur; clear ho hcur hk)
                | (go_at_call 20; refine (duffelref01_Same.calls 1000 A9 c9 b A3 c3 b true _ HO9.out.2.1 HO9.out.2.2.1 (Kd.C_below HC.out HB.out) HCC.out HN.out).mono ?_; rintro r wz ⟨rfl, ⟨nd, hnd⟩⟩; have HCU := Aside0.mk (show CurAt wz w2.heap.size gc vc L p' 0 from hnd ▸ HCU.out.drewN nd); have HRow := Aside0.mk (show RowAt wz w.heap.size g v L 0 from hnd ▸ HRow.out.drewN nd); have kp : OldCells _ wz w.heap.size := below_cells (hnd ▸ pw_below_drewN (Below.refl _ _) nd); have HB := Aside0.mk (show Below w.heap.size w wz from hnd ▸ pw_below_drewN HB.out nd); clear hnd))
            all_goals
              go_split_ands
              go_wp2
              go_roundw
              all_goals
                have hmm := HM.out
                have hwk : wrap64 ((j : Int) + 1) = ((j + 1 : Nat) : Int) := by rw [IntWalk.wrap64_in _ ⟨by omega, by omega⟩]; omega
              case rel => exact ⟨j + 1, by rw [hwk], by omega, by rw [HP.out]; exact HCU.out, HRow.out, HB.out⟩
              case measure => rw [hwk]; simp [intOf]; omega
          · obtain rfl : j = i := by omega
            have HCU : Aside0 (CurAt wq w2.heap.size gc vc L L.length 0) := ⟨by have := HCU.out; rwa [HLE.out] at this⟩
            have he : endN L L.length 0 = 0 := by unfold endN; rw [if_pos rfl, if_neg (Nat.lt_irrefl _)]
            have HE : Aside0 (∀ W, CurAt W w2.heap.size gc vc L L.length 0 → Calls Try.prog 32 #[.pointer (some ⟨gc, 0, none⟩)] W fun r w' => r = .returned (.int .i64 0) ∧ ∃ n, w' = W.drewN n) := ⟨fun W h => he ▸ cur_end W _ _ _ _ _ _ h⟩
            clear he hlt2
            go_wp2_with (first
              | (go_at_call 22; refine (row_err _ _ _ _ _ _ HRow.out).mono ?_; rintro e w' ⟨rfl, hs_⟩; subst hs_)
              | (go_at_call 32; refine (HE.out _ HCU.out).mono ?_; rintro e w8 ⟨rfl, nd, hnd⟩; have HB := Aside0.mk (show Below w.heap.size w w8 from hnd ▸ pw_below_drewN HB.out nd); clear hnd)
              | (go_at_call 14; refine (field_lives _).mono ?_; rintro r wl ⟨rfl, hb⟩; have HB9 := Aside0.mk (HB.out.trans (hb.mono HB.out.size)); clear hb))
            all_goals
              go_ret
              exact ⟨rfl, HB9.out⟩
end Go.Proofs.Ytedboieaefdbdaa.Fld
