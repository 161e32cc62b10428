/- The law RecordBack, walked. -/
import Derived.Test.YtpmiofjhgmdghaaRecLaw0
import Derived.Test.YtpmiofjhgmdghaaRecBack0
import Derived.Test.YtpmiofjhgmdghaaRSx1
namespace Go.Proofs.Ytpmiofjhgmdghaa.Fld
open Go.RowKit Go.Proofs.YtpmiofjhgmdghaaW.PrintWords Go.Proofs.YtpmiofjhgmdghaaW.PrintLast Go.Proofs.YtpmiofjhgmdghaaW.PrintMore
set_option linter.unusedVariables false
set_option linter.unusedSimpArgs false
open Go.Proofs.Ytpmiofjhgmdghaa.RS
theorem s_w64i (x : Int) (h0 : -9223372036854775808 ≤ x) (h1 : x < 9223372036854775808) : wrap64 x = x := IntWalk.wrap64_in _ ⟨h0, by omega⟩
theorem s_loop (L : List Int) (hl : L.length ≤ 1000000000) : ∀ (K i : Nat), i ≤ L.length → L.length - i + 1 ≤ K → duffelref01_Same.l0 K L L (i : Int) = some true
  | 0, i, h, hK => by omega
  | K + 1, i, h, hK => by
    rw [duffelref01_Same.l0]
    by_cases c : i < L.length
    · have e2 : wrap64 ((i : Int) + 1) = ((i + 1 : Nat) : Int) := by rw [s_w64i _ (by omega) (by omega)]; omega
      rw [if_pos (by omega), if_pos (by omega), if_pos (by omega), if_pos rfl, e2]
      exact s_loop L hl K (i + 1) (by omega) (by omega)
    · rw [if_neg (by omega)]
theorem s_ok (L : List Int) (hl : L.length ≤ 100) : duffelref01_Same.f 200 L L = some true := by
  unfold duffelref01_Same.f
  rw [if_pos rfl]
  exact s_loop L (by omega) 200 0 (by omega) (by omega)
theorem s_head (a0 a1 a2 a3 a4 a5 a6 a7 : Int) (l m : List Int) (hl : l.length ≤ 100) (hm : m.length ≤ 100) : duffelref24_SameHead.f 200 a0 a1 a2 a3 a4 a5 a6 a7 l m a0 a1 a2 a3 a4 a5 a6 a7 l m = some true := by
  unfold duffelref24_SameHead.f
  simp only [if_true, s_ok l hl, s_ok m hm, Option.bind_some]
theorem s_cen (a0 a1 a2 a3 a4 a5 a6 a7 b0 b1 b2 b3 b4 : Int) (l m n : List Int) (hl : l.length ≤ 100) (hm : m.length ≤ 100) (hn : n.length ≤ 100) : duffelref24_SameCentral.f 200 a0 a1 a2 a3 a4 a5 a6 a7 l m b0 b1 b2 b3 b4 n a0 a1 a2 a3 a4 a5 a6 a7 l m b0 b1 b2 b3 b4 n = some true := by
  unfold duffelref24_SameCentral.f
  simp only [if_true, s_head a0 a1 a2 a3 a4 a5 a6 a7 l m hl hm, s_ok n hn, Option.bind_some]
theorem s_end (a0 a1 a2 a3 a4 a5 : Int) (l : List Int) (hl : l.length ≤ 100) : duffelref24_SameEnd.f 200 a0 a1 a2 a3 a4 a5 l a0 a1 a2 a3 a4 a5 l = some true := by
  unfold duffelref24_SameEnd.f
  simp only [if_true, s_ok l hl, Option.bind_some]
theorem cs_left {w : World} {B g n : Nat} {v : Value} {b : List Int} {e : Int} (h : CS w B g v b (n, e)) : Calls Try.prog 38 #[.pointer (some ⟨g, 0, none⟩)] w fun r w' => r = .returned (.int .i64 (leftN b n e)) ∧ ∃ n, w' = w.drewN n := cur_left w B g v b n e h
theorem left_of {L bh : List Int} {n : Nat} (h : n = L.length) : leftN (L ++ bh) n 0 = (bh.length : Int) := by
  unfold leftN
  rw [if_pos rfl, List.length_append]
  omega
set_option maxHeartbeats 16000000 in
set_option maxRecDepth 100000 in
theorem back (w : World) (a0 a1 a2 a3 a4 a5 a6 a7 : Int) (A8 : Option Addr) (b8 : List Int) (c8 : Nat) (A9 : Option Addr) (b9 : List Int) (c9 : Nat) (x0 x1 x2 x3 x4 x5 x6 x7 : Int) (X8 : Option Addr) (p8 : List Int) (d8 : Nat) (X9 : Option Addr) (p9 : List Int) (d9 : Nat) (x10 x11 x12 x13 x14 : Int) (X15 : Option Addr) (p15 : List Int) (d15 : Nat) (y0 y1 y2 y3 y4 y5 : Int) (Y6 : Option Addr) (q6 : List Int) (e6 : Nat) (B0 : Option Addr) (bh0 : List Int) (cb : Nat) (h8 : Rd w A8 b8 c8) (h9 : Rd w A9 b9 c9) (hx8 : Rd w X8 p8 d8) (hx9 : Rd w X9 p9 d9) (hx15 : Rd w X15 p15 d15) (hy6 : Rd w Y6 q6 e6) (hB : Rd w B0 bh0 cb) (w5 : 0 ≤ a5 ∧ a5 < 4294967296) (w6 : 0 ≤ a6 ∧ a6 < 4294967296) (w7 : 0 ≤ a7 ∧ a7 < 4294967296) (v5 : 0 ≤ x5 ∧ x5 < 4294967296) (v6 : 0 ≤ x6 ∧ x6 < 4294967296) (v7 : 0 ≤ x7 ∧ x7 < 4294967296) (v13 : 0 ≤ x13 ∧ x13 < 4294967296) (v14 : 0 ≤ x14 ∧ x14 < 4294967296) (z4 : 0 ≤ y4 ∧ y4 < 4294967296) (z5 : 0 ≤ y5 ∧ y5 < 4294967296) (yb8 : Byte b8) (yb9 : Byte b9) (ybx8 : Byte p8) (ybx9 : Byte p9) (ybx15 : Byte p15) (yby6 : Byte q6) (ybb : Byte bh0) :
    Calls Try.prog 8 #[.agg #[.int .i64 a0, .int .i64 a1, .int .i64 a2, .int .i64 a3, .int .i64 a4, .int .u32 a5, .int .u32 a6, .int .u32 a7, .slice A8 b8.length c8, .slice A9 b9.length c9], .agg #[.int .i64 x0, .int .i64 x1, .int .i64 x2, .int .i64 x3, .int .i64 x4, .int .u32 x5, .int .u32 x6, .int .u32 x7, .slice X8 p8.length d8, .slice X9 p9.length d9, .int .i64 x10, .int .i64 x11, .int .i64 x12, .int .u32 x13, .int .u32 x14, .slice X15 p15.length d15], .agg #[.int .i64 y0, .int .i64 y1, .int .i64 y2, .int .i64 y3, .int .u32 y4, .int .u32 y5, .slice Y6 q6.length e6], .slice B0 bh0.length cb] w (fun e w' => e = .returned (.bool true) ∧ Below w.heap.size w w') := by
  obtain ⟨r8, hr8⟩ : ∃ r, b8.take 100 = r := ⟨_, rfl⟩
  have lr8 : r8.length ≤ 100 := by rw [← hr8]; simp; omega
  have yrr8 : Byte r8 := hr8 ▸ fun x hx => yb8 x (List.mem_of_mem_take hx)
  obtain ⟨r9, hr9⟩ : ∃ r, b9.take 100 = r := ⟨_, rfl⟩
  have lr9 : r9.length ≤ 100 := by rw [← hr9]; simp; omega
  have yrr9 : Byte r9 := hr9 ▸ fun x hx => yb9 x (List.mem_of_mem_take hx)
  obtain ⟨s8, hs8⟩ : ∃ r, p8.take 100 = r := ⟨_, rfl⟩
  have ls8 : s8.length ≤ 100 := by rw [← hs8]; simp; omega
  have yrs8 : Byte s8 := hs8 ▸ fun x hx => ybx8 x (List.mem_of_mem_take hx)
  obtain ⟨s9, hs9⟩ : ∃ r, p9.take 100 = r := ⟨_, rfl⟩
  have ls9 : s9.length ≤ 100 := by rw [← hs9]; simp; omega
  have yrs9 : Byte s9 := hs9 ▸ fun x hx => ybx9 x (List.mem_of_mem_take hx)
  obtain ⟨s15, hs15⟩ : ∃ r, p15.take 100 = r := ⟨_, rfl⟩
  have ls15 : s15.length ≤ 100 := by rw [← hs15]; simp; omega
  have yrs15 : Byte s15 := hs15 ▸ fun x hx => ybx15 x (List.mem_of_mem_take hx)
  obtain ⟨t6, ht6⟩ : ∃ r, q6.take 100 = r := ⟨_, rfl⟩
  have lt6 : t6.length ≤ 100 := by rw [← ht6]; simp; omega
  have yrt6 : Byte t6 := ht6 ▸ fun x hx => yby6 x (List.mem_of_mem_take hx)
  obtain ⟨bh, hbh⟩ : ∃ r, bh0.take 60 = r := ⟨_, rfl⟩
  have lbh : bh.length ≤ 60 := by rw [← hbh]; simp; omega
  have ybh : Byte bh := hbh ▸ fun x hx => ybb x (List.mem_of_mem_take hx)
  have HFB : Aside0 (MyCut.cut_u8.f bh0 60 = some bh) := ⟨hbh ▸ MyCut.cut_u8.nat bh0 60⟩
  have HLB := Aside0.mk hB.2
  have HBH : Aside0 (∀ W, Below w.heap.size w W → Rd W B0 bh cb) := ⟨fun W hb => ⟨MyCut.C_cut_u8 (Kd.C_below hB.1 hb) HFB.out, MyCut.le_cut_u8 hB.2 HFB.out⟩⟩
  have HFW : Aside0 (∀ W, Below w.heap.size w W → Calls Try.prog 16 #[.agg #[.int .i64 a0, .int .i64 a1, .int .i64 a2, .int .i64 a3, .int .i64 a4, .int .u32 a5, .int .u32 a6, .int .u32 a7, .slice A8 b8.length c8, .slice A9 b9.length c9], .agg #[.int .i64 x0, .int .i64 x1, .int .i64 x2, .int .i64 x3, .int .i64 x4, .int .u32 x5, .int .u32 x6, .int .u32 x7, .slice X8 p8.length d8, .slice X9 p9.length d9, .int .i64 x10, .int .i64 x11, .int .i64 x12, .int .u32 x13, .int .u32 x14, .slice X15 p15.length d15], .agg #[.int .i64 y0, .int .i64 y1, .int .i64 y2, .int .i64 y3, .int .u32 y4, .int .u32 y5, .slice Y6 q6.length e6]] W (FewPost W (fun A18 c18 A19 c19 => #[.int .i64 a0, .int .i64 a1, .int .i64 a2, .int .i64 a3, .int .i64 a4, .int .u32 a5, .int .u32 a6, .int .u32 a7, .slice A18 r8.length c18, .slice A19 r9.length c19]) (fun X18 d18 X19 d19 => #[.int .i64 x0, .int .i64 x1, .int .i64 x2, .int .i64 x3, .int .i64 x4, .int .u32 x5, .int .u32 x6, .int .u32 x7, .slice X18 s8.length d18, .slice X19 s9.length d19, .int .i64 x10, .int .i64 x11, .int .i64 x12, .int .u32 x13, .int .u32 x14, .slice X15 s15.length d15]) (fun _ _ _ _ => #[.int .i64 y0, .int .i64 y1, .int .i64 y2, .int .i64 y3, .int .u32 y4, .int .u32 y5, .slice Y6 t6.length e6]) r8 r9 s8 s9)) :=
    ⟨fun W hb => hr8 ▸ hr9 ▸ hs8 ▸ hs9 ▸ hs15 ▸ ht6 ▸ few W a0 a1 a2 a3 a4 a5 a6 a7 A8 b8 c8 A9 b9 c9 x0 x1 x2 x3 x4 x5 x6 x7 X8 p8 d8 X9 p9 d9 x10 x11 x12 x13 x14 X15 p15 d15 y0 y1 y2 y3 y4 y5 Y6 q6 e6 ⟨Kd.C_below h8.1 hb, h8.2⟩ ⟨Kd.C_below h9.1 hb, h9.2⟩ ⟨Kd.C_below hx8.1 hb, hx8.2⟩ ⟨Kd.C_below hx9.1 hb, hx9.2⟩ ⟨Kd.C_below hx15.1 hb, hx15.2⟩ ⟨Kd.C_below hy6.1 hb, hy6.2⟩⟩
  have HX15 : Aside0 (∀ W, Below w.heap.size w W → Rd W X15 s15 d15) := ⟨fun W hb => hs15 ▸ ⟨MyCut.C_cut_u8 (Kd.C_below hx15.1 hb) (MyCut.cut_u8.nat p15 100), MyCut.le_cut_u8 hx15.2 (MyCut.cut_u8.nat p15 100)⟩⟩
  have HY6 : Aside0 (∀ W, Below w.heap.size w W → Rd W Y6 t6 e6) := ⟨fun W hb => ht6 ▸ ⟨MyCut.C_cut_u8 (Kd.C_below hy6.1 hb) (MyCut.cut_u8.nat q6 100), MyCut.le_cut_u8 hy6.2 (MyCut.cut_u8.nat q6 100)⟩⟩
  obtain ⟨L1, hL1⟩ : ∃ L, outOf (locS a0 a1 a2 a3 a4 a5 a6 a7 r8 r9) = L := ⟨_, rfl⟩
  obtain ⟨E1, hE1⟩ : ∃ e, (locS a0 a1 a2 a3 a4 a5 a6 a7 r8 r9).2 = e := ⟨_, rfl⟩
  have HN1 : Aside0 (L1.length ≤ 1000000000) := ⟨by have h9 := Go.Proofs.Ytpmiofjhgmdghaa.RecP.loc_len a0 a1 a2 a3 a4 a5 a6 a7 r8 r9 (by omega) (by omega); rw [hL1] at h9; omega⟩
  obtain ⟨L2, hL2⟩ : ∃ L, outOf (cenS x0 x1 x2 x3 x4 x5 x6 x7 s8 s9 x10 x11 x12 x13 x14 s15) = L := ⟨_, rfl⟩
  obtain ⟨E2, hE2⟩ : ∃ e, (cenS x0 x1 x2 x3 x4 x5 x6 x7 s8 s9 x10 x11 x12 x13 x14 s15).2 = e := ⟨_, rfl⟩
  have HN2 : Aside0 (L2.length ≤ 1000000000) := ⟨by have h9 := Go.Proofs.Ytpmiofjhgmdghaa.RecP.cen_len x0 x1 x2 x3 x4 x5 x6 x7 x10 x11 x12 x13 x14 s8 s9 s15 (by omega) (by omega) (by omega); rw [hL2] at h9; omega⟩
  obtain ⟨L3, hL3⟩ : ∃ L, outOf (endS y0 y1 y2 y3 y4 y5 t6) = L := ⟨_, rfl⟩
  obtain ⟨E3, hE3⟩ : ∃ e, (endS y0 y1 y2 y3 y4 y5 t6).2 = e := ⟨_, rfl⟩
  have HN3 : Aside0 (L3.length ≤ 1000000000) := ⟨by have h9 := Go.Proofs.Ytpmiofjhgmdghaa.RecP.end_len y0 y1 y2 y3 y4 y5 t6 (by omega); rw [hL3] at h9; omega⟩
  have HW1 : Aside0 (∀ W A18 c18 A19 c19, Rd W A18 r8 c18 → Rd W A19 r9 c19 → Calls Try.prog 17 #[.agg #[.int .i64 a0, .int .i64 a1, .int .i64 a2, .int .i64 a3, .int .i64 a4, .int .u32 a5, .int .u32 a6, .int .u32 a7, .slice A18 r8.length c18, .slice A19 r9.length c19]] W (Mine2 W L1 E1)) := ⟨fun W A18 c18 A19 c19 h1 h2 => hL1 ▸ hE1 ▸ rec_writeLocal a0 a1 a2 a3 a4 a5 a6 a7 A18 c18 r8 A19 c19 r9 W h1.1 (by omega) h2.1 (by omega) w5.1 w6.1 w7.1⟩
  have HW2 : Aside0 (∀ W A18 c18 A19 c19 A20 c20, Rd W A18 s8 c18 → Rd W A19 s9 c19 → Rd W A20 s15 c20 → Calls Try.prog 20 #[.agg #[.int .i64 x0, .int .i64 x1, .int .i64 x2, .int .i64 x3, .int .i64 x4, .int .u32 x5, .int .u32 x6, .int .u32 x7, .slice A18 s8.length c18, .slice A19 s9.length c19, .int .i64 x10, .int .i64 x11, .int .i64 x12, .int .u32 x13, .int .u32 x14, .slice A20 s15.length c20]] W (Mine2 W L2 E2)) := ⟨fun W A18 c18 A19 c19 A20 c20 h1 h2 h3 => hL2 ▸ hE2 ▸ rec_writeCentral x0 x1 x2 x3 x4 x5 x6 x7 A18 c18 s8 A19 c19 s9 x10 x11 x12 x13 x14 A20 c20 s15 W h1.1 (by omega) h2.1 (by omega) h3.1 (by omega) v5.1 v6.1 v7.1 v13.1 v14.1⟩
  have HW3 : Aside0 (∀ W A20 c20, Rd W A20 t6 c20 → Calls Try.prog 13 #[.agg #[.int .i64 y0, .int .i64 y1, .int .i64 y2, .int .i64 y3, .int .u32 y4, .int .u32 y5, .slice A20 t6.length c20]] W (Mine2 W L3 E3)) := ⟨fun W A20 c20 h3 => hL3 ▸ hE3 ▸ rec_writeEnd y0 y1 y2 y3 y4 y5 A20 c20 t6 W h3.1 z4.1 z5.1 (by omega)⟩
  have HE1 : Aside0 (E1 = 0 ∨ E1 = 18) := ⟨hE1 ▸ Go.Proofs.Ytpmiofjhgmdghaa.RecP.loc_two a0 a1 a2 a3 a4 a5 a6 a7 r8 r9⟩
  have HE2 : Aside0 (E2 = 0 ∨ E2 = 18) := ⟨hE2 ▸ Go.Proofs.Ytpmiofjhgmdghaa.RecP.cen_two x0 x1 x2 x3 x4 x5 x6 x7 x10 x11 x12 x13 x14 s8 s9 s15⟩
  have HE3 : Aside0 (E3 = 0 ∨ E3 = 18) := ⟨hE3 ▸ Go.Proofs.Ytpmiofjhgmdghaa.RecP.end_two y0 y1 y2 y3 y4 y5 t6⟩
  obtain ⟨bb1, hbb1⟩ : ∃ b, L1 ++ bh = b := ⟨_, rfl⟩
  obtain ⟨n1, hn1⟩ : ∃ n : Nat, 30 + r8.length + r9.length = n := ⟨_, rfl⟩
  have HBB1 := Aside0.mk hbb1
  have HBL1 : Aside0 (bb1.length ≤ 1000000000 ∧ L1.length ≤ 10000000) := ⟨by have h9 := Go.Proofs.Ytpmiofjhgmdghaa.RecP.loc_len a0 a1 a2 a3 a4 a5 a6 a7 r8 r9 (by omega) (by omega); rw [hL1] at h9; rw [← hbb1, List.length_append]; omega⟩
  have HRD1 : Aside0 (E1 = 0 → leftN bb1 n1 0 = (bh.length : Int) ∧ ∀ W B g v, CS W B g v bb1 (0, 0) → Calls Try.prog 23 #[.pointer (some ⟨g, 0, none⟩)] W (fun r w' => ∃ A21 c21 A22 c22, RPost1 W B g v bb1 (n1, 0) #[.int .i64 a0, .int .i64 a1, .int .i64 a2, .int .i64 a3, .int .i64 a4, .int .u32 a5, .int .u32 a6, .int .u32 a7, .slice A21 r8.length c21, .slice A22 r9.length c22] 0 r w' ∧ Rd w' A21 r8 c21 ∧ Rd w' A22 r9 c22)) := ⟨fun he => by
    have hz : (locS a0 a1 a2 a3 a4 a5 a6 a7 r8 r9).2 = 0 := hE1.trans he
    have ho : outOf (locS a0 a1 a2 a3 a4 a5 a6 a7 r8 r9) = (locS a0 a1 a2 a3 a4 a5 a6 a7 r8 r9).1 := if_pos hz
    have hq := (Go.Proofs.Ytpmiofjhgmdghaa.RecP.loc_zero hz).2
    have hl : n1 = L1.length := by rw [← hL1, ho, hq, ← hn1]; simp only [List.length_append, le_length, List.length_nil]
    have e1 : (locS a0 a1 a2 a3 a4 a5 a6 a7 r8 r9).1 ++ bh = bb1 := by rw [← hbb1, ← hL1, ho]
    refine ⟨hbb1 ▸ left_of hl, fun W B g v hc => ?_⟩
    have h9 := loc_back a0 a1 a2 a3 a4 a5 a6 a7 r8 r9 bh w5 w6 w7 yrr8 yrr9 ybh hz W B g v
    rw [e1] at h9
    refine (h9 hc).mono ?_
    rintro r w' h
    rw [hn1] at h
    exact h⟩
  obtain ⟨bb2, hbb2⟩ : ∃ b, L2 ++ bh = b := ⟨_, rfl⟩
  obtain ⟨n2, hn2⟩ : ∃ n : Nat, 46 + s8.length + s9.length + s15.length = n := ⟨_, rfl⟩
  have HBB2 := Aside0.mk hbb2
  have HBL2 : Aside0 (bb2.length ≤ 1000000000 ∧ L2.length ≤ 10000000) := ⟨by have h9 := Go.Proofs.Ytpmiofjhgmdghaa.RecP.cen_len x0 x1 x2 x3 x4 x5 x6 x7 x10 x11 x12 x13 x14 s8 s9 s15 (by omega) (by omega) (by omega); rw [hL2] at h9; rw [← hbb2, List.length_append]; omega⟩
  have HRD2 : Aside0 (E2 = 0 → leftN bb2 n2 0 = (bh.length : Int) ∧ ∀ W B g v, CS W B g v bb2 (0, 0) → Calls Try.prog 24 #[.pointer (some ⟨g, 0, none⟩)] W (fun r w' => ∃ A21 c21 A22 c22 A23 c23, RPost1 W B g v bb2 (n2, 0) #[.int .i64 x0, .int .i64 x1, .int .i64 x2, .int .i64 x3, .int .i64 x4, .int .u32 x5, .int .u32 x6, .int .u32 x7, .slice A21 s8.length c21, .slice A22 s9.length c22, .int .i64 x10, .int .i64 x11, .int .i64 x12, .int .u32 x13, .int .u32 x14, .slice A23 s15.length c23] 0 r w' ∧ Rd w' A21 s8 c21 ∧ Rd w' A22 s9 c22 ∧ Rd w' A23 s15 c23)) := ⟨fun he => by
    have hz : (cenS x0 x1 x2 x3 x4 x5 x6 x7 s8 s9 x10 x11 x12 x13 x14 s15).2 = 0 := hE2.trans he
    have ho : outOf (cenS x0 x1 x2 x3 x4 x5 x6 x7 s8 s9 x10 x11 x12 x13 x14 s15) = (cenS x0 x1 x2 x3 x4 x5 x6 x7 s8 s9 x10 x11 x12 x13 x14 s15).1 := if_pos hz
    have hq := (Go.Proofs.Ytpmiofjhgmdghaa.RecP.cen_zero hz).2
    have hl : n2 = L2.length := by rw [← hL2, ho, hq, ← hn2]; simp only [List.length_append, le_length, List.length_nil]
    have e1 : (cenS x0 x1 x2 x3 x4 x5 x6 x7 s8 s9 x10 x11 x12 x13 x14 s15).1 ++ bh = bb2 := by rw [← hbb2, ← hL2, ho]
    refine ⟨hbb2 ▸ left_of hl, fun W B g v hc => ?_⟩
    have h9 := cen_back x0 x1 x2 x3 x4 x5 x6 x7 x10 x11 x12 x13 x14 s8 s9 s15 bh v5 v6 v7 v13 v14 yrs8 yrs9 yrs15 ybh hz W B g v
    rw [e1] at h9
    refine (h9 hc).mono ?_
    rintro r w' h
    rw [hn2] at h
    exact h⟩
  obtain ⟨bb3, hbb3⟩ : ∃ b, L3 ++ bh = b := ⟨_, rfl⟩
  obtain ⟨n3, hn3⟩ : ∃ n : Nat, 22 + t6.length = n := ⟨_, rfl⟩
  have HBB3 := Aside0.mk hbb3
  have HBL3 : Aside0 (bb3.length ≤ 1000000000 ∧ L3.length ≤ 10000000) := ⟨by have h9 := Go.Proofs.Ytpmiofjhgmdghaa.RecP.end_len y0 y1 y2 y3 y4 y5 t6 (by omega); rw [hL3] at h9; rw [← hbb3, List.length_append]; omega⟩
  have HRD3 : Aside0 (E3 = 0 → leftN bb3 n3 0 = (bh.length : Int) ∧ ∀ W B g v, CS W B g v bb3 (0, 0) → Calls Try.prog 25 #[.pointer (some ⟨g, 0, none⟩)] W (fun r w' => ∃ A21 c21, RPost1 W B g v bb3 (n3, 0) #[.int .i64 y0, .int .i64 y1, .int .i64 y2, .int .i64 y3, .int .u32 y4, .int .u32 y5, .slice A21 t6.length c21] 0 r w' ∧ Rd w' A21 t6 c21)) := ⟨fun he => by
    have hz : (endS y0 y1 y2 y3 y4 y5 t6).2 = 0 := hE3.trans he
    have ho : outOf (endS y0 y1 y2 y3 y4 y5 t6) = (endS y0 y1 y2 y3 y4 y5 t6).1 := if_pos hz
    have hq := (Go.Proofs.Ytpmiofjhgmdghaa.RecP.end_zero hz).2
    have hl : n3 = L3.length := by rw [← hL3, ho, hq, ← hn3]; simp only [List.length_append, le_length, List.length_nil]
    have e1 : (endS y0 y1 y2 y3 y4 y5 t6).1 ++ bh = bb3 := by rw [← hbb3, ← hL3, ho]
    refine ⟨hbb3 ▸ left_of hl, fun W B g v hc => ?_⟩
    have h9 := end_back y0 y1 y2 y3 y4 y5 t6 bh z4 z5 yrt6 ybh hz W B g v
    rw [e1] at h9
    refine (h9 hc).mono ?_
    rintro r w' h
    rw [hn3] at h
    exact h⟩
  have HSM1 : Aside0 (∀ W A18 c18 A19 c19 A21 c21 A22 c22, Rd W A18 r8 c18 → Rd W A19 r9 c19 → Rd W A21 r8 c21 → Rd W A22 r9 c22 → Calls Try.prog 26 #[.agg #[.int .i64 a0, .int .i64 a1, .int .i64 a2, .int .i64 a3, .int .i64 a4, .int .u32 a5, .int .u32 a6, .int .u32 a7, .slice A18 r8.length c18, .slice A19 r9.length c19], .agg #[.int .i64 a0, .int .i64 a1, .int .i64 a2, .int .i64 a3, .int .i64 a4, .int .u32 a5, .int .u32 a6, .int .u32 a7, .slice A21 r8.length c21, .slice A22 r9.length c22]] W (fun r w' => r = .returned (.bool true) ∧ Below W.heap.size W w')) := ⟨fun W A18 c18 A19 c19 A21 c21 A22 c22 g0 g1 g2 g3 => duffelref24_SameHead.calls 200 a0 a1 a2 a3 a4 a5 a6 a7 A18 c18 r8 A19 c19 r9 a0 a1 a2 a3 a4 a5 a6 a7 A21 c21 r8 A22 c22 r9 true W g0.1 g0.2 g1.1 g1.2 g2.1 g2.2 g3.1 g3.2 (s_head a0 a1 a2 a3 a4 a5 a6 a7 r8 r9 lr8 lr9)⟩
  have HSM2 : Aside0 (∀ W A18 c18 A19 c19 A20 c20 A21 c21 A22 c22 A23 c23, Rd W A18 s8 c18 → Rd W A19 s9 c19 → Rd W A20 s15 c20 → Rd W A21 s8 c21 → Rd W A22 s9 c22 → Rd W A23 s15 c23 → Calls Try.prog 27 #[.agg #[.int .i64 x0, .int .i64 x1, .int .i64 x2, .int .i64 x3, .int .i64 x4, .int .u32 x5, .int .u32 x6, .int .u32 x7, .slice A18 s8.length c18, .slice A19 s9.length c19, .int .i64 x10, .int .i64 x11, .int .i64 x12, .int .u32 x13, .int .u32 x14, .slice A20 s15.length c20], .agg #[.int .i64 x0, .int .i64 x1, .int .i64 x2, .int .i64 x3, .int .i64 x4, .int .u32 x5, .int .u32 x6, .int .u32 x7, .slice A21 s8.length c21, .slice A22 s9.length c22, .int .i64 x10, .int .i64 x11, .int .i64 x12, .int .u32 x13, .int .u32 x14, .slice A23 s15.length c23]] W (fun r w' => r = .returned (.bool true) ∧ Below W.heap.size W w')) := ⟨fun W A18 c18 A19 c19 A20 c20 A21 c21 A22 c22 A23 c23 g0 g1 g2 g3 g4 g5 => duffelref24_SameCentral.calls 200 x0 x1 x2 x3 x4 x5 x6 x7 A18 c18 s8 A19 c19 s9 x10 x11 x12 x13 x14 A20 c20 s15 x0 x1 x2 x3 x4 x5 x6 x7 A21 c21 s8 A22 c22 s9 x10 x11 x12 x13 x14 A23 c23 s15 true W g0.1 g0.2 g1.1 g1.2 g2.1 g2.2 g3.1 g3.2 g4.1 g4.2 g5.1 g5.2 (s_cen x0 x1 x2 x3 x4 x5 x6 x7 x10 x11 x12 x13 x14 s8 s9 s15 ls8 ls9 ls15)⟩
  have HSM3 : Aside0 (∀ W A20 c20 A21 c21, Rd W A20 t6 c20 → Rd W A21 t6 c21 → Calls Try.prog 28 #[.agg #[.int .i64 y0, .int .i64 y1, .int .i64 y2, .int .i64 y3, .int .u32 y4, .int .u32 y5, .slice A20 t6.length c20], .agg #[.int .i64 y0, .int .i64 y1, .int .i64 y2, .int .i64 y3, .int .u32 y4, .int .u32 y5, .slice A21 t6.length c21]] W (fun r w' => r = .returned (.bool true) ∧ Below W.heap.size W w')) := ⟨fun W A20 c20 A21 c21 g0 g1 => duffelref24_SameEnd.calls 200 y0 y1 y2 y3 y4 y5 A20 c20 t6 y0 y1 y2 y3 y4 y5 A21 c21 t6 true W g0.1 g0.2 g1.1 g1.2 (s_end y0 y1 y2 y3 y4 y5 t6 lt6)⟩
  have HLN : Aside0 (bh.length ≤ 60) := ⟨lbh⟩
  clear h8 yb8 h9 yb9 hx8 ybx8 hx9 ybx9 hx15 ybx15 hy6 yby6 hr8 lr8 yrr8 hr9 lr9 yrr9 hs8 ls8 yrs8 hs9 ls9 yrs9 hs15 ls15 yrs15 ht6 lt6 yrt6 hbh lbh ybh ybb hB hL1 hL2 hL3 hE1 hE2 hE3 w5 w6 w7 v5 v6 v7 v13 v14 z4 z5 hbb1 hbb2 hbb3 hn1 hn2 hn3
  have HK : Aside0 (K3 w (((w.alloc (.cells #[.int .i64 a0, .int .i64 a1, .int .i64 a2, .int .i64 a3, .int .i64 a4, .int .u32 a5, .int .u32 a6, .int .u32 a7, .slice A8 b8.length c8, .slice A9 b9.length c9] 37)).alloc (.cells #[.int .i64 x0, .int .i64 x1, .int .i64 x2, .int .i64 x3, .int .i64 x4, .int .u32 x5, .int .u32 x6, .int .u32 x7, .slice X8 p8.length d8, .slice X9 p9.length d9, .int .i64 x10, .int .i64 x11, .int .i64 x12, .int .u32 x13, .int .u32 x14, .slice X15 p15.length d15] 39)).alloc (.cells #[.int .i64 y0, .int .i64 y1, .int .i64 y2, .int .i64 y3, .int .u32 y4, .int .u32 y5, .slice Y6 q6.length e6] 29)) #[.int .i64 a0, .int .i64 a1, .int .i64 a2, .int .i64 a3, .int .i64 a4, .int .u32 a5, .int .u32 a6, .int .u32 a7, .slice A8 b8.length c8, .slice A9 b9.length c9] #[.int .i64 x0, .int .i64 x1, .int .i64 x2, .int .i64 x3, .int .i64 x4, .int .u32 x5, .int .u32 x6, .int .u32 x7, .slice X8 p8.length d8, .slice X9 p9.length d9, .int .i64 x10, .int .i64 x11, .int .i64 x12, .int .u32 x13, .int .u32 x14, .slice X15 p15.length d15] #[.int .i64 y0, .int .i64 y1, .int .i64 y2, .int .i64 y3, .int .u32 y4, .int .u32 y5, .slice Y6 q6.length e6]) := by
    refine ⟨⟨?_, ?_, ?_, ?_⟩⟩
    · exact (blk_alloc (blk_alloc (by simpa using heap_alloc_new w (.cells #[.int .i64 a0, .int .i64 a1, .int .i64 a2, .int .i64 a3, .int .i64 a4, .int .u32 a5, .int .u32 a6, .int .u32 a7, .slice A8 b8.length c8, .slice A9 b9.length c9] 37)) _) _)
    · exact (blk_alloc (by simpa using heap_alloc_new (w.alloc (.cells #[.int .i64 a0, .int .i64 a1, .int .i64 a2, .int .i64 a3, .int .i64 a4, .int .u32 a5, .int .u32 a6, .int .u32 a7, .slice A8 b8.length c8, .slice A9 b9.length c9] 37)) (.cells #[.int .i64 x0, .int .i64 x1, .int .i64 x2, .int .i64 x3, .int .i64 x4, .int .u32 x5, .int .u32 x6, .int .u32 x7, .slice X8 p8.length d8, .slice X9 p9.length d9, .int .i64 x10, .int .i64 x11, .int .i64 x12, .int .u32 x13, .int .u32 x14, .slice X15 p15.length d15] 39)) _)
    · exact (by simpa using heap_alloc_new ((w.alloc (.cells #[.int .i64 a0, .int .i64 a1, .int .i64 a2, .int .i64 a3, .int .i64 a4, .int .u32 a5, .int .u32 a6, .int .u32 a7, .slice A8 b8.length c8, .slice A9 b9.length c9] 37)).alloc (.cells #[.int .i64 x0, .int .i64 x1, .int .i64 x2, .int .i64 x3, .int .i64 x4, .int .u32 x5, .int .u32 x6, .int .u32 x7, .slice X8 p8.length d8, .slice X9 p9.length d9, .int .i64 x10, .int .i64 x11, .int .i64 x12, .int .u32 x13, .int .u32 x14, .slice X15 p15.length d15] 39)) (.cells #[.int .i64 y0, .int .i64 y1, .int .i64 y2, .int .i64 y3, .int .u32 y4, .int .u32 y5, .slice Y6 q6.length e6] 29))
    · exact (below_alloc (below_alloc (below_alloc (Below.refl _ _) _) _) _)
  go_enter Try.func8, Try.ntmps8
  go_upto_region 1 with fail
  refine wp_gen (fun W => K3 w W #[.int .i64 a0, .int .i64 a1, .int .i64 a2, .int .i64 a3, .int .i64 a4, .int .u32 a5, .int .u32 a6, .int .u32 a7, .slice A8 b8.length c8, .slice A9 b9.length c9] #[.int .i64 x0, .int .i64 x1, .int .i64 x2, .int .i64 x3, .int .i64 x4, .int .u32 x5, .int .u32 x6, .int .u32 x7, .slice X8 p8.length d8, .slice X9 p9.length d9, .int .i64 x10, .int .i64 x11, .int .i64 x12, .int .u32 x13, .int .u32 x14, .slice X15 p15.length d15] #[.int .i64 y0, .int .i64 y1, .int .i64 y2, .int .i64 y3, .int .u32 y4, .int .u32 y5, .slice Y6 q6.length e6]) HK.out ?_
  rintro W1 hk1
  replace HK := Aside0.mk hk1
  clear hk1
  go_upto_region 3 with (first
    | ((with_reducible refine gate_dst (N := 25) rfl ?_); refine wpList_load_row rfl 37 (.tmp 4) rfl (w.heap.size) rfl 37 _ (0, 0) _ HK.out.x0 Try.underlying37 rfl (by kernel_rfl) ?_)
    | ((with_reducible refine gate_dst (N := 26) rfl ?_); refine wpList_load_row rfl 39 (.tmp 5) rfl (w.heap.size + 1) rfl 39 _ (0, 0) _ HK.out.x1 Try.underlying39 rfl (by kernel_rfl) ?_)
    | ((with_reducible refine gate_dst (N := 27) rfl ?_); refine wpList_load_row rfl 29 (.tmp 6) rfl (w.heap.size + 1 + 1) rfl 29 _ (0, 0) _ HK.out.x2 Try.underlying29 rfl (by kernel_rfl) ?_)
    | (go_at_call 16; (with_reducible refine (HFW.out _ HK.out.b).mono ?_); rintro r w9 ⟨A18, c18, A19, c19, X18, d18, X19, d19, rfl, o1, o2, o3, o4, hb⟩; have OA : Aside0 (Ow w w9 A18 r8 c18) := ⟨own_weaken o1 HK.out.b.size⟩; have OB : Aside0 (Ow w w9 A19 r9 c19) := ⟨own_weaken o2 HK.out.b.size⟩; have OX : Aside0 (Ow w w9 X18 s8 d18) := ⟨own_weaken o3 HK.out.b.size⟩; have OZ : Aside0 (Ow w w9 X19 s9 d19) := ⟨own_weaken o4 HK.out.b.size⟩; replace HK := Aside0.mk (HK.out.bel hb); clear o1 o2 o3 o4 hb)
    | ((with_reducible refine gate_store (t := 37) (p := 4) (v := .tmp 29) rfl ?_); refine wpList_store_mid rfl 37 (.tmp 4) (.tmp 29) rfl (w.heap.size) 0 #[.int .i64 a0, .int .i64 a1, .int .i64 a2, .int .i64 a3, .int .i64 a4, .int .u32 a5, .int .u32 a6, .int .u32 a7, .slice A18 r8.length c18, .slice A19 r9.length c19] rfl rfl (there_of HK.out.x0 _ (by simp)) (by kernel_rfl) (by simp [Value.oneCell']) ?_; refine wpl_gen (fun W => K3 w W #[.int .i64 a0, .int .i64 a1, .int .i64 a2, .int .i64 a3, .int .i64 a4, .int .u32 a5, .int .u32 a6, .int .u32 a7, .slice A18 r8.length c18, .slice A19 r9.length c19] #[.int .i64 x0, .int .i64 x1, .int .i64 x2, .int .i64 x3, .int .i64 x4, .int .u32 x5, .int .u32 x6, .int .u32 x7, .slice X8 p8.length d8, .slice X9 p9.length d9, .int .i64 x10, .int .i64 x11, .int .i64 x12, .int .u32 x13, .int .u32 x14, .slice X15 p15.length d15] #[.int .i64 y0, .int .i64 y1, .int .i64 y2, .int .i64 y3, .int .u32 y4, .int .u32 y5, .slice Y6 q6.length e6] ∧ Ow w W A18 r8 c18 ∧ Ow w W A19 r9 c19 ∧ Ow w W X18 s8 d18 ∧ Ow w W X19 s9 d19) ⟨HK.out.put0 _ rfl, own_setCells OA.out HK.out.x0 (by decide) _, own_setCells OB.out HK.out.x0 (by decide) _, own_setCells OX.out HK.out.x0 (by decide) _, own_setCells OZ.out HK.out.x0 (by decide) _⟩ ?_; rintro W8 ⟨hk, q0, q1, q2, q3⟩; replace HK := Aside0.mk hk; replace OA := Aside0.mk q0; replace OB := Aside0.mk q1; replace OX := Aside0.mk q2; replace OZ := Aside0.mk q3; clear hk q0 q1 q2 q3)
    | ((with_reducible refine gate_store (t := 39) (p := 5) (v := .tmp 30) rfl ?_); refine wpList_store_mid rfl 39 (.tmp 5) (.tmp 30) rfl (w.heap.size + 1) 0 #[.int .i64 x0, .int .i64 x1, .int .i64 x2, .int .i64 x3, .int .i64 x4, .int .u32 x5, .int .u32 x6, .int .u32 x7, .slice X18 s8.length d18, .slice X19 s9.length d19, .int .i64 x10, .int .i64 x11, .int .i64 x12, .int .u32 x13, .int .u32 x14, .slice X15 s15.length d15] rfl rfl (there_of HK.out.x1 _ (by simp)) (by kernel_rfl) (by simp [Value.oneCell']) ?_; refine wpl_gen (fun W => K3 w W #[.int .i64 a0, .int .i64 a1, .int .i64 a2, .int .i64 a3, .int .i64 a4, .int .u32 a5, .int .u32 a6, .int .u32 a7, .slice A18 r8.length c18, .slice A19 r9.length c19] #[.int .i64 x0, .int .i64 x1, .int .i64 x2, .int .i64 x3, .int .i64 x4, .int .u32 x5, .int .u32 x6, .int .u32 x7, .slice X18 s8.length d18, .slice X19 s9.length d19, .int .i64 x10, .int .i64 x11, .int .i64 x12, .int .u32 x13, .int .u32 x14, .slice X15 s15.length d15] #[.int .i64 y0, .int .i64 y1, .int .i64 y2, .int .i64 y3, .int .u32 y4, .int .u32 y5, .slice Y6 q6.length e6] ∧ Ow w W A18 r8 c18 ∧ Ow w W A19 r9 c19 ∧ Ow w W X18 s8 d18 ∧ Ow w W X19 s9 d19) ⟨HK.out.put1 _ rfl, own_setCells OA.out HK.out.x1 (by decide) _, own_setCells OB.out HK.out.x1 (by decide) _, own_setCells OX.out HK.out.x1 (by decide) _, own_setCells OZ.out HK.out.x1 (by decide) _⟩ ?_; rintro W8 ⟨hk, q0, q1, q2, q3⟩; replace HK := Aside0.mk hk; replace OA := Aside0.mk q0; replace OB := Aside0.mk q1; replace OX := Aside0.mk q2; replace OZ := Aside0.mk q3; clear hk q0 q1 q2 q3)
    | ((with_reducible refine gate_store (t := 29) (p := 6) (v := .tmp 31) rfl ?_); refine wpList_store_mid rfl 29 (.tmp 6) (.tmp 31) rfl (w.heap.size + 1 + 1) 0 #[.int .i64 y0, .int .i64 y1, .int .i64 y2, .int .i64 y3, .int .u32 y4, .int .u32 y5, .slice Y6 t6.length e6] rfl rfl (there_of HK.out.x2 _ (by simp)) (by kernel_rfl) (by simp [Value.oneCell']) ?_; refine wpl_gen (fun W => K3 w W #[.int .i64 a0, .int .i64 a1, .int .i64 a2, .int .i64 a3, .int .i64 a4, .int .u32 a5, .int .u32 a6, .int .u32 a7, .slice A18 r8.length c18, .slice A19 r9.length c19] #[.int .i64 x0, .int .i64 x1, .int .i64 x2, .int .i64 x3, .int .i64 x4, .int .u32 x5, .int .u32 x6, .int .u32 x7, .slice X18 s8.length d18, .slice X19 s9.length d19, .int .i64 x10, .int .i64 x11, .int .i64 x12, .int .u32 x13, .int .u32 x14, .slice X15 s15.length d15] #[.int .i64 y0, .int .i64 y1, .int .i64 y2, .int .i64 y3, .int .u32 y4, .int .u32 y5, .slice Y6 t6.length e6] ∧ Ow w W A18 r8 c18 ∧ Ow w W A19 r9 c19 ∧ Ow w W X18 s8 d18 ∧ Ow w W X19 s9 d19) ⟨HK.out.put2 _ rfl, own_setCells OA.out HK.out.x2 (by decide) _, own_setCells OB.out HK.out.x2 (by decide) _, own_setCells OX.out HK.out.x2 (by decide) _, own_setCells OZ.out HK.out.x2 (by decide) _⟩ ?_; rintro W8 ⟨hk, q0, q1, q2, q3⟩; replace HK := Aside0.mk hk; replace OA := Aside0.mk q0; replace OB := Aside0.mk q1; replace OX := Aside0.mk q2; replace OZ := Aside0.mk q3; clear hk q0 q1 q2 q3)
    | (go_at_call 9; (with_reducible refine (MyCut.cut_u8.calls B0 cb bh0 60 bh _ HLB.out HFB.out).mono ?_); rintro e w' ⟨rfl, hs_⟩; subst hs_)
    | fail)
  refine wp_gen (fun W => K3 w W #[.int .i64 a0, .int .i64 a1, .int .i64 a2, .int .i64 a3, .int .i64 a4, .int .u32 a5, .int .u32 a6, .int .u32 a7, .slice A18 r8.length c18, .slice A19 r9.length c19] #[.int .i64 x0, .int .i64 x1, .int .i64 x2, .int .i64 x3, .int .i64 x4, .int .u32 x5, .int .u32 x6, .int .u32 x7, .slice X18 s8.length d18, .slice X19 s9.length d19, .int .i64 x10, .int .i64 x11, .int .i64 x12, .int .u32 x13, .int .u32 x14, .slice X15 s15.length d15] #[.int .i64 y0, .int .i64 y1, .int .i64 y2, .int .i64 y3, .int .u32 y4, .int .u32 y5, .slice Y6 t6.length e6] ∧ Ow w W A18 r8 c18 ∧ Ow w W A19 r9 c19 ∧ Ow w W X18 s8 d18 ∧ Ow w W X19 s9 d19) ⟨HK.out, OA.out, OB.out, OX.out, OZ.out⟩ ?_
  rintro wc ⟨hk, q0, q1, q2, q3⟩
  replace HK := Aside0.mk hk
  replace OA := Aside0.mk q0
  replace OB := Aside0.mk q1
  replace OX := Aside0.mk q2
  replace OZ := Aside0.mk q3
  clear hk q0 q1 q2 q3
  go_upto_if 40 with (first
    | ((with_reducible refine gate_dst (N := 35) rfl ?_); refine wpList_load_row rfl 37 (.tmp 4) rfl (w.heap.size) rfl 37 _ (0, 0) _ HK.out.x0 Try.underlying37 rfl (by kernel_rfl) ?_)
    | (go_at_call 17; (with_reducible refine (HW1.out _ _ _ _ _ OA.out.rd OB.out.rd).mono ?_); rintro r w9 ⟨u1, rfl, ho, hb⟩; obtain ⟨B1, f1, rfl⟩ := own_slice ho; have P1 := Aside0.mk ho; have HBW := Aside0.mk hb; clear ho hb)
    | fail)
  go_cut [] from 24 (fun W => K3 w W #[.int .i64 a0, .int .i64 a1, .int .i64 a2, .int .i64 a3, .int .i64 a4, .int .u32 a5, .int .u32 a6, .int .u32 a7, .slice A18 r8.length c18, .slice A19 r9.length c19] #[.int .i64 x0, .int .i64 x1, .int .i64 x2, .int .i64 x3, .int .i64 x4, .int .u32 x5, .int .u32 x6, .int .u32 x7, .slice X18 s8.length d18, .slice X19 s9.length d19, .int .i64 x10, .int .i64 x11, .int .i64 x12, .int .u32 x13, .int .u32 x14, .slice X15 s15.length d15] #[.int .i64 y0, .int .i64 y1, .int .i64 y2, .int .i64 y3, .int .u32 y4, .int .u32 y5, .slice Y6 t6.length e6] ∧ Ow w W A18 r8 c18 ∧ Ow w W A19 r9 c19 ∧ Ow w W X18 s8 d18 ∧ Ow w W X19 s9 d19)
  case first =>
    by_cases hE : E1 = 0
    · have HZ := HRD1.out hE
      have HLF := Aside0.mk HZ.1
      have HRR := Aside0.mk HZ.2
      clear HZ
      subst hE
      have HOB : Aside0 (Below wc.heap.size wc w9) := HBW
      go_wp2_with (first
        | (at_builtin; refine print_append_row (w0 := wc) wc.heap.size rfl (.tmp 41) (.tmp 42) 22 5 .u8 1 rfl Try.underlying22 infoE (by decide) (.slice B1 L1.length f1) L1 bh B0 bh.length cb rfl rfl P1.out (Kd.reads_of_C (HBH.out _ (below_step HK.out.b HBW.out)).1) HBW.out HBW.out.size (by have h8 := HBL1.out; have h9 := HLN.out; omega) ?_; intro v2 w1 hown hbel hgr hat; rw [HBB1.out] at hown; obtain ⟨A2, c2, rfl⟩ := own_slice hown; have HOW := Aside0.mk hown; replace HOB := Aside0.mk hbel; clear hown hbel hgr hat)
        | (go_at_call 30; (with_reducible refine (cur_open _ A2 c2 bb1 (own_C HOW.out).2.1 (own_C HOW.out).2.2.2 HBL1.out.1).mono ?_); rintro r w2 ⟨g, v3, rfl, hcur, hb2⟩; have HCC : Aside0 (CS w2 w1.heap.size g v3 bb1 (0, 0)) := ⟨hcur⟩; have HSZ := Aside0.mk HOB.out.size; replace HOB := Aside0.mk (below_step HOB.out hb2); clear hcur hb2)
        | (go_at_call 23; (with_reducible refine (HRR.out _ _ _ _ HCC.out).mono ?_); rintro r w4 ⟨A21, c21, A22, c22, ⟨rfl, hcs, hck⟩, e0, e1⟩; replace HCC := Aside0.mk hcs; replace HOB := Aside0.mk (HOB.out.trans (hck.below.mono HSZ.out)); have RD0 := Aside0.mk e0; have RD1 := Aside0.mk e1; clear hcs hck e0 e1)
        | ((with_reducible refine gate_store (t := 37) (p := 12) (v := .tmp 48) rfl ?_); refine wpList_store_mid rfl 37 (.tmp 12) (.tmp 48) rfl w4.heap.size 0 #[.int .i64 a0, .int .i64 a1, .int .i64 a2, .int .i64 a3, .int .i64 a4, .int .u32 a5, .int .u32 a6, .int .u32 a7, .slice A21 r8.length c21, .slice A22 r9.length c22] rfl rfl (there_of (heap_alloc_new w4 _) _ (by simp)) (by kernel_rfl) (by simp [Value.oneCell']) ?_; refine wpl_gen (fun W => Below w4.heap.size w4 W ∧ W.heap[w4.heap.size]? = some (.cells #[.int .i64 a0, .int .i64 a1, .int .i64 a2, .int .i64 a3, .int .i64 a4, .int .u32 a5, .int .u32 a6, .int .u32 a7, .slice A21 r8.length c21, .slice A22 r9.length c22] 37 (0, 0))) ⟨below_setCells (below_alloc (Below.refl _ _) _) (Nat.le_refl _) _, blk_putall (heap_alloc_new w4 _) rfl⟩ ?_; rintro w5 ⟨hb5, hx5⟩; have HX := Aside0.mk hx5; replace RD0 := Aside0.mk (RD0.out.bel hb5); replace RD1 := Aside0.mk (RD1.out.bel hb5); replace HCC := Aside0.mk (HCC.out.below hb5); replace HOB := Aside0.mk (below_step HOB.out hb5); clear hb5 hx5)
        | ((with_reducible refine gate_dst (N := 53) rfl ?_); (try (refine gate_guard (by rfl) ?_; dsimp only)); refine wpList_load_row rfl 37 (.tmp 4) rfl (w.heap.size) rfl 37 _ (0, 0) _ (HK.out.bel HOB.out).x0 Try.underlying37 rfl (by kernel_rfl) ?_)
        | ((with_reducible refine gate_dst (N := 54) rfl ?_); (try (refine gate_guard (by rfl) ?_; dsimp only)); refine wpList_load_row rfl 37 (.tmp 12) rfl w4.heap.size rfl 37 _ (0, 0) _ HX.out Try.underlying37 rfl (by kernel_rfl) ?_)
        | (go_at_call 26; (with_reducible refine (HSM1.out _ _ _ _ _ _ _ _ _ (OA.out.bel HOB.out).rd (OB.out.bel HOB.out).rd RD0.out RD1.out).mono ?_); rintro r w6 ⟨rfl, hb6⟩; replace HCC := Aside0.mk (HCC.out.below hb6); replace HOB := Aside0.mk (below_step HOB.out hb6); clear hb6)
        | (go_at_call 38; (with_reducible refine (cs_left HCC.out).mono ?_); rintro r w7 ⟨rfl, nd, rfl⟩; rw [HLF.out]; replace HOB := Aside0.mk (pw_below_drewN HOB.out nd))
        | fail)
      go_meet
      case rel => exact ⟨HK.out.bel HOB.out, OA.out.bel HOB.out, OB.out.bel HOB.out, OX.out.bel HOB.out, OZ.out.bel HOB.out⟩
    · have k1 : decide (E1 = 0) = false := decide_eq_false hE
      have k2 : (E1 == 0) = false := beq_eq_false_iff_ne.mpr hE
      clear hE
      go_wp2_with fail
      go_meet
      case rel => exact ⟨HK.out.bel HBW.out, OA.out.bel HBW.out, OB.out.bel HBW.out, OX.out.bel HBW.out, OZ.out.bel HBW.out⟩
  clear HK OA OB OX OZ P1 HBW
  obtain ⟨hk, q0, q1, q2, q3⟩ := hcut
  replace HK := Aside0.mk hk
  replace OA := Aside0.mk q0
  replace OB := Aside0.mk q1
  replace OX := Aside0.mk q2
  replace OZ := Aside0.mk q3
  clear hk q0 q1 q2 q3
  go_upto_if 71 with (first
    | ((with_reducible refine gate_dst (N := 66) rfl ?_); refine wpList_load_row rfl 39 (.tmp 5) rfl (w.heap.size + 1) rfl 39 _ (0, 0) _ HK.out.x1 Try.underlying39 rfl (by kernel_rfl) ?_)
    | (go_at_call 20; (with_reducible refine (HW2.out _ _ _ _ _ _ _ OX.out.rd OZ.out.rd (HX15.out _ HK.out.b)).mono ?_); rintro r w9 ⟨u1, rfl, ho, hb⟩; obtain ⟨B1, f1, rfl⟩ := own_slice ho; have P1 := Aside0.mk ho; have HBW := Aside0.mk hb; clear ho hb)
    | fail)
  go_cut [] from 24 (fun W => K3 w W #[.int .i64 a0, .int .i64 a1, .int .i64 a2, .int .i64 a3, .int .i64 a4, .int .u32 a5, .int .u32 a6, .int .u32 a7, .slice A18 r8.length c18, .slice A19 r9.length c19] #[.int .i64 x0, .int .i64 x1, .int .i64 x2, .int .i64 x3, .int .i64 x4, .int .u32 x5, .int .u32 x6, .int .u32 x7, .slice X18 s8.length d18, .slice X19 s9.length d19, .int .i64 x10, .int .i64 x11, .int .i64 x12, .int .u32 x13, .int .u32 x14, .slice X15 s15.length d15] #[.int .i64 y0, .int .i64 y1, .int .i64 y2, .int .i64 y3, .int .u32 y4, .int .u32 y5, .slice Y6 t6.length e6] ∧ Ow w W A18 r8 c18 ∧ Ow w W A19 r9 c19 ∧ Ow w W X18 s8 d18 ∧ Ow w W X19 s9 d19)
  case first =>
    by_cases hE : E2 = 0
    · have HZ := HRD2.out hE
      have HLF := Aside0.mk HZ.1
      have HRR := Aside0.mk HZ.2
      clear HZ
      subst hE
      have HOB : Aside0 (Below wc.heap.size wc w9) := HBW
      go_wp2_with (first
        | (at_builtin; refine print_append_row (w0 := wc) wc.heap.size rfl (.tmp 72) (.tmp 73) 22 5 .u8 1 rfl Try.underlying22 infoE (by decide) (.slice B1 L2.length f1) L2 bh B0 bh.length cb rfl rfl P1.out (Kd.reads_of_C (HBH.out _ (below_step HK.out.b HBW.out)).1) HBW.out HBW.out.size (by have h8 := HBL2.out; have h9 := HLN.out; omega) ?_; intro v2 w1 hown hbel hgr hat; rw [HBB2.out] at hown; obtain ⟨A2, c2, rfl⟩ := own_slice hown; have HOW := Aside0.mk hown; replace HOB := Aside0.mk hbel; clear hown hbel hgr hat)
        | (go_at_call 30; (with_reducible refine (cur_open _ A2 c2 bb2 (own_C HOW.out).2.1 (own_C HOW.out).2.2.2 HBL2.out.1).mono ?_); rintro r w2 ⟨g, v3, rfl, hcur, hb2⟩; have HCC : Aside0 (CS w2 w1.heap.size g v3 bb2 (0, 0)) := ⟨hcur⟩; have HSZ := Aside0.mk HOB.out.size; replace HOB := Aside0.mk (below_step HOB.out hb2); clear hcur hb2)
        | (go_at_call 24; (with_reducible refine (HRR.out _ _ _ _ HCC.out).mono ?_); rintro r w4 ⟨A21, c21, A22, c22, A23, c23, ⟨rfl, hcs, hck⟩, e0, e1, e2⟩; replace HCC := Aside0.mk hcs; replace HOB := Aside0.mk (HOB.out.trans (hck.below.mono HSZ.out)); have RD0 := Aside0.mk e0; have RD1 := Aside0.mk e1; have RD2 := Aside0.mk e2; clear hcs hck e0 e1 e2)
        | ((with_reducible refine gate_store (t := 39) (p := 17) (v := .tmp 79) rfl ?_); refine wpList_store_mid rfl 39 (.tmp 17) (.tmp 79) rfl w4.heap.size 0 #[.int .i64 x0, .int .i64 x1, .int .i64 x2, .int .i64 x3, .int .i64 x4, .int .u32 x5, .int .u32 x6, .int .u32 x7, .slice A21 s8.length c21, .slice A22 s9.length c22, .int .i64 x10, .int .i64 x11, .int .i64 x12, .int .u32 x13, .int .u32 x14, .slice A23 s15.length c23] rfl rfl (there_of (heap_alloc_new w4 _) _ (by simp)) (by kernel_rfl) (by simp [Value.oneCell']) ?_; refine wpl_gen (fun W => Below w4.heap.size w4 W ∧ W.heap[w4.heap.size]? = some (.cells #[.int .i64 x0, .int .i64 x1, .int .i64 x2, .int .i64 x3, .int .i64 x4, .int .u32 x5, .int .u32 x6, .int .u32 x7, .slice A21 s8.length c21, .slice A22 s9.length c22, .int .i64 x10, .int .i64 x11, .int .i64 x12, .int .u32 x13, .int .u32 x14, .slice A23 s15.length c23] 39 (0, 0))) ⟨below_setCells (below_alloc (Below.refl _ _) _) (Nat.le_refl _) _, blk_putall (heap_alloc_new w4 _) rfl⟩ ?_; rintro w5 ⟨hb5, hx5⟩; have HX := Aside0.mk hx5; replace RD0 := Aside0.mk (RD0.out.bel hb5); replace RD1 := Aside0.mk (RD1.out.bel hb5); replace RD2 := Aside0.mk (RD2.out.bel hb5); replace HCC := Aside0.mk (HCC.out.below hb5); replace HOB := Aside0.mk (below_step HOB.out hb5); clear hb5 hx5)
        | ((with_reducible refine gate_dst (N := 84) rfl ?_); (try (refine gate_guard (by rfl) ?_; dsimp only)); refine wpList_load_row rfl 39 (.tmp 5) rfl (w.heap.size + 1) rfl 39 _ (0, 0) _ (HK.out.bel HOB.out).x1 Try.underlying39 rfl (by kernel_rfl) ?_)
        | ((with_reducible refine gate_dst (N := 85) rfl ?_); (try (refine gate_guard (by rfl) ?_; dsimp only)); refine wpList_load_row rfl 39 (.tmp 17) rfl w4.heap.size rfl 39 _ (0, 0) _ HX.out Try.underlying39 rfl (by kernel_rfl) ?_)
        | (go_at_call 27; (with_reducible refine (HSM2.out _ _ _ _ _ _ _ _ _ _ _ _ _ (OX.out.bel HOB.out).rd (OZ.out.bel HOB.out).rd (HX15.out _ (below_step HK.out.b HOB.out)) RD0.out RD1.out RD2.out).mono ?_); rintro r w6 ⟨rfl, hb6⟩; replace HCC := Aside0.mk (HCC.out.below hb6); replace HOB := Aside0.mk (below_step HOB.out hb6); clear hb6)
        | (go_at_call 38; (with_reducible refine (cs_left HCC.out).mono ?_); rintro r w7 ⟨rfl, nd, rfl⟩; rw [HLF.out]; replace HOB := Aside0.mk (pw_below_drewN HOB.out nd))
        | fail)
      go_meet
      case rel => exact ⟨HK.out.bel HOB.out, OA.out.bel HOB.out, OB.out.bel HOB.out, OX.out.bel HOB.out, OZ.out.bel HOB.out⟩
    · have k1 : decide (E2 = 0) = false := decide_eq_false hE
      have k2 : (E2 == 0) = false := beq_eq_false_iff_ne.mpr hE
      clear hE
      go_wp2_with fail
      go_meet
      case rel => exact ⟨HK.out.bel HBW.out, OA.out.bel HBW.out, OB.out.bel HBW.out, OX.out.bel HBW.out, OZ.out.bel HBW.out⟩
  clear HK OA OB OX OZ P1 HBW
  obtain ⟨hk, q0, q1, q2, q3⟩ := hcut
  replace HK := Aside0.mk hk
  replace OA := Aside0.mk q0
  replace OB := Aside0.mk q1
  replace OX := Aside0.mk q2
  replace OZ := Aside0.mk q3
  clear hk q0 q1 q2 q3
  go_upto_if 102 with (first
    | ((with_reducible refine gate_dst (N := 97) rfl ?_); refine wpList_load_row rfl 29 (.tmp 6) rfl (w.heap.size + 1 + 1) rfl 29 _ (0, 0) _ HK.out.x2 Try.underlying29 rfl (by kernel_rfl) ?_)
    | (go_at_call 13; (with_reducible refine (HW3.out _ _ _ (HY6.out _ HK.out.b)).mono ?_); rintro r w9 ⟨u1, rfl, ho, hb⟩; obtain ⟨B1, f1, rfl⟩ := own_slice ho; have P1 := Aside0.mk ho; have HBW := Aside0.mk hb; clear ho hb)
    | fail)
  go_cut [] from 24 (fun W => K3 w W #[.int .i64 a0, .int .i64 a1, .int .i64 a2, .int .i64 a3, .int .i64 a4, .int .u32 a5, .int .u32 a6, .int .u32 a7, .slice A18 r8.length c18, .slice A19 r9.length c19] #[.int .i64 x0, .int .i64 x1, .int .i64 x2, .int .i64 x3, .int .i64 x4, .int .u32 x5, .int .u32 x6, .int .u32 x7, .slice X18 s8.length d18, .slice X19 s9.length d19, .int .i64 x10, .int .i64 x11, .int .i64 x12, .int .u32 x13, .int .u32 x14, .slice X15 s15.length d15] #[.int .i64 y0, .int .i64 y1, .int .i64 y2, .int .i64 y3, .int .u32 y4, .int .u32 y5, .slice Y6 t6.length e6] ∧ Ow w W A18 r8 c18 ∧ Ow w W A19 r9 c19 ∧ Ow w W X18 s8 d18 ∧ Ow w W X19 s9 d19)
  case first =>
    by_cases hE : E3 = 0
    · have HZ := HRD3.out hE
      have HLF := Aside0.mk HZ.1
      have HRR := Aside0.mk HZ.2
      clear HZ
      subst hE
      have HOB : Aside0 (Below wc.heap.size wc w9) := HBW
      go_wp2_with (first
        | (at_builtin; refine print_append_row (w0 := wc) wc.heap.size rfl (.tmp 103) (.tmp 104) 22 5 .u8 1 rfl Try.underlying22 infoE (by decide) (.slice B1 L3.length f1) L3 bh B0 bh.length cb rfl rfl P1.out (Kd.reads_of_C (HBH.out _ (below_step HK.out.b HBW.out)).1) HBW.out HBW.out.size (by have h8 := HBL3.out; have h9 := HLN.out; omega) ?_; intro v2 w1 hown hbel hgr hat; rw [HBB3.out] at hown; obtain ⟨A2, c2, rfl⟩ := own_slice hown; have HOW := Aside0.mk hown; replace HOB := Aside0.mk hbel; clear hown hbel hgr hat)
        | (go_at_call 30; (with_reducible refine (cur_open _ A2 c2 bb3 (own_C HOW.out).2.1 (own_C HOW.out).2.2.2 HBL3.out.1).mono ?_); rintro r w2 ⟨g, v3, rfl, hcur, hb2⟩; have HCC : Aside0 (CS w2 w1.heap.size g v3 bb3 (0, 0)) := ⟨hcur⟩; have HSZ := Aside0.mk HOB.out.size; replace HOB := Aside0.mk (below_step HOB.out hb2); clear hcur hb2)
        | (go_at_call 25; (with_reducible refine (HRR.out _ _ _ _ HCC.out).mono ?_); rintro r w4 ⟨A21, c21, ⟨rfl, hcs, hck⟩, e0⟩; replace HCC := Aside0.mk hcs; replace HOB := Aside0.mk (HOB.out.trans (hck.below.mono HSZ.out)); have RD0 := Aside0.mk e0; clear hcs hck e0)
        | ((with_reducible refine gate_store (t := 29) (p := 22) (v := .tmp 110) rfl ?_); refine wpList_store_mid rfl 29 (.tmp 22) (.tmp 110) rfl w4.heap.size 0 #[.int .i64 y0, .int .i64 y1, .int .i64 y2, .int .i64 y3, .int .u32 y4, .int .u32 y5, .slice A21 t6.length c21] rfl rfl (there_of (heap_alloc_new w4 _) _ (by simp)) (by kernel_rfl) (by simp [Value.oneCell']) ?_; refine wpl_gen (fun W => Below w4.heap.size w4 W ∧ W.heap[w4.heap.size]? = some (.cells #[.int .i64 y0, .int .i64 y1, .int .i64 y2, .int .i64 y3, .int .u32 y4, .int .u32 y5, .slice A21 t6.length c21] 29 (0, 0))) ⟨below_setCells (below_alloc (Below.refl _ _) _) (Nat.le_refl _) _, blk_putall (heap_alloc_new w4 _) rfl⟩ ?_; rintro w5 ⟨hb5, hx5⟩; have HX := Aside0.mk hx5; replace RD0 := Aside0.mk (RD0.out.bel hb5); replace HCC := Aside0.mk (HCC.out.below hb5); replace HOB := Aside0.mk (below_step HOB.out hb5); clear hb5 hx5)
        | ((with_reducible refine gate_dst (N := 115) rfl ?_); (try (refine gate_guard (by rfl) ?_; dsimp only)); refine wpList_load_row rfl 29 (.tmp 6) rfl (w.heap.size + 1 + 1) rfl 29 _ (0, 0) _ (HK.out.bel HOB.out).x2 Try.underlying29 rfl (by kernel_rfl) ?_)
        | ((with_reducible refine gate_dst (N := 116) rfl ?_); (try (refine gate_guard (by rfl) ?_; dsimp only)); refine wpList_load_row rfl 29 (.tmp 22) rfl w4.heap.size rfl 29 _ (0, 0) _ HX.out Try.underlying29 rfl (by kernel_rfl) ?_)
        | (go_at_call 28; (with_reducible refine (HSM3.out _ _ _ _ _ (HY6.out _ (below_step HK.out.b HOB.out)) RD0.out).mono ?_); rintro r w6 ⟨rfl, hb6⟩; replace HCC := Aside0.mk (HCC.out.below hb6); replace HOB := Aside0.mk (below_step HOB.out hb6); clear hb6)
        | (go_at_call 38; (with_reducible refine (cs_left HCC.out).mono ?_); rintro r w7 ⟨rfl, nd, rfl⟩; rw [HLF.out]; replace HOB := Aside0.mk (pw_below_drewN HOB.out nd))
        | fail)
      go_meet
      case rel => exact ⟨HK.out.bel HOB.out, OA.out.bel HOB.out, OB.out.bel HOB.out, OX.out.bel HOB.out, OZ.out.bel HOB.out⟩
    · have k1 : decide (E3 = 0) = false := decide_eq_false hE
      have k2 : (E3 == 0) = false := beq_eq_false_iff_ne.mpr hE
      clear hE
      go_wp2_with fail
      go_meet
      case rel => exact ⟨HK.out.bel HBW.out, OA.out.bel HBW.out, OB.out.bel HBW.out, OX.out.bel HBW.out, OZ.out.bel HBW.out⟩
  clear HK OA OB OX OZ P1 HBW
  obtain ⟨hk, q0, q1, q2, q3⟩ := hcut
  replace HK := Aside0.mk hk
  clear hk q0 q1 q2 q3
  go_wp2_with (go_at_call 12; refine (lives_now _).mono ?_; rintro r w9 ⟨rfl, hb⟩; replace HK := Aside0.mk (HK.out.bel hb); clear hb)
  go_ret
  exact ⟨rfl, HK.out.b⟩
end Go.Proofs.Ytpmiofjhgmdghaa.Fld
