/- The law CrcPieces, walked. No conditions. -/
import Derived.Test.YtlemagpmhenmmaaCrcLives0
import Derived.Test.YtlemagpmhenmmaaCrcPure
import Derived.Test.YtlemagpmhenmmaaMyCut
import Derived.Test.YtlemagpmhenmmaaQBx1
import Derived.StillTailTactics
import Derived.Test.YtlemagpmhenmmaaMyStill
import Derived.Deep.RegionWith
import Derived.Laws.Tables
namespace Go.Proofs.Ytlemagpmhenmmaa.CrcWalk
open Go.RowKit Go.Proofs.YtlemagpmhenmmaaW.PrintWords Go.Proofs.YtlemagpmhenmmaaW.PrintLast Go.Proofs.YtlemagpmhenmmaaW.PrintMore Go.Proofs.Ytlemagpmhenmmaa.CrcPure
set_option linter.unusedVariables false
set_option linter.unusedSimpArgs false
theorem infoI : (Try.prog.info? 3).map (fun i => (i.zero, i.size, i.bytes)) = some (some (.int .i64 0), 1, 8) := by kernel_rfl
theorem within_eq (x hi : Int) (h : 0 ≤ hi) : ∃ n : Nat, (n : Int) ≤ hi ∧ QB.duffelref01_Within.f x 0 hi = some (n : Int) := by
  unfold QB.duffelref01_Within.f
  by_cases d1 : x < 0
  · rw [if_pos d1]; exact ⟨0, by omega, rfl⟩
  rw [if_neg d1]
  by_cases d2 : x > hi
  · rw [if_pos d2]; exact ⟨hi.toNat, by omega, by congr 1; omega⟩
  rw [if_neg d2]
  exact ⟨x.toNat, by omega, by congr 1; omega⟩
/-- What the loop holds: s is the sum of the first p bytes, rest is what stands behind them; the table stands in block g. -/
def PRel (w : World) (b : List Int) (g : Nat) (v6 v7 v8 : Value) (wr : World) : Prop :=
  ∃ (p i : Nat) (A : Option Addr) (c : Nat) (R : List Int) (s : Int), v8 = .int .i64 i ∧ i ≤ 50 ∧ Hid (p ≤ b.length ∧ R = b.drop p ∧ s = addF tabL 0 (b.take p)) ∧ v6 = .int .u32 s ∧ v7 = .slice A R.length c ∧ R.length ≤ c ∧
    Kd.C (Kd.int .u8) wr A R.length R ∧ wr.heap[g]? = some (.cells (tabV tabL) 23 (0, 0)) ∧ Below w.heap.size w wr ∧ g < wr.heap.size
theorem addF_piece (b : List Int) (hb : Bytes b) (p n : Nat) : addF tabL (addF tabL 0 (b.take p)) ((b.drop p).take n) = addF tabL 0 (b.take (p + n)) := by
  have h1 := Crc.run_lt (toN (b.take p)) (x := full) (by decide) (toN_lt (hb.take p))
  have hx : full ^^^ Crc.run full (toN (b.take p)) < 4294967296 := Nat.xor_lt_two_pow (n := 32) (by decide) h1
  rw [sum_eq _ (hb.take p), addF_eq _ hx _ ((hb.drop p).take n), sum_eq _ (hb.take (p + n)), ← Nat.xor_assoc, Nat.xor_self, Nat.zero_xor, ← Crc.run_append]
  have e : toN (b.take p) ++ toN ((b.drop p).take n) = toN (b.take (p + n)) := by
    rw [List.take_add]; simp [toN]
  rw [e]
theorem addF_nil : addF tabL 0 [] = 0 := by decide +kernel
theorem load_tab (w : World) (g : Nat) (hg : w.heap[g]? = some (.cells (tabV tabL) 23 (0, 0))) : (loadVar 23 ⟨g, 0, none⟩).run Try.prog w = .ok (.agg (tabV tabL)) w :=
  run_loadVar_row w g 23 23 _ (0, 0) _ hg Try.underlying23 rfl (by kernel_rfl)
set_option maxHeartbeats 400000 in
set_option maxRecDepth 100000 in
theorem pieces_any (A0 : Option Addr) (c0 : Nat) (l0 : List Int) (A1 : Option Addr) (c1 : Nat) (l1 : List Int) (w : World) (hr0 : Kd.C (Kd.int .u8) w A0 l0.length l0) (hc0 : l0.length ≤ c0) (hb : Bytes l0)
    (hr1 : Kd.C (Kd.int .i64) w A1 l1.length l1) (hc1 : l1.length ≤ c1) :
    Calls Try.prog 5 #[.slice A0 l0.length c0, .slice A1 l1.length c1] w fun e w' => e = .returned (.bool true) ∧ Below w.heap.size w w' := by
  have hcut := MyCut.cut_u8.nat l0 2000
  have hrb := MyCut.C_cut_u8 hr0 hcut
  have hcb := MyCut.le_cut_u8 hc0 hcut
  have hbb : Bytes (l0.take 2000) := hb.take 2000
  have hlb : (l0.take 2000).length ≤ 2000 := by rw [List.length_take]; omega
  have HCUT := Aside0.mk hcut
  have HC0 := Aside0.mk hc0
  have HR1 := Aside0.mk hr1
  have HC1 := Aside0.mk hc1
  clear hcut hr0 hb hr1 hc1
  generalize l0.take 2000 = b at *
  have HR := Aside0.mk hrb
  have HC := Aside0.mk hcb
  have HBY := Aside0.mk hbb
  have HLB := Aside0.mk hlb
  clear hrb hcb hbb hlb hc0
  go_enter Try.func5, Try.ntmps5
  go_wp2_with (first
    | (go_at_call 11; refine (MyCut.cut_u8.calls A0 c0 l0 _ b _ HC0.out HCUT.out).mono ?_; rintro e w' ⟨rfl, ⟨nd, rfl⟩⟩)
    | (go_at_call 8; refine (table_any _).mono ?_; rintro e w1 ⟨rfl, hb⟩; have HB := Aside0.mk hb; clear hb; rw [tabTo_tabL])
    | (refine wpList_alloc_as rfl 23 rfl _ Z zInfo rfl ?_)
    | (refine wpList_store_row rfl 23 _ _ rfl w1.heap.size (tabV tabL) rfl rfl 23 Z (heap_alloc_new w1 _) (by kernel_rfl) (by simp [tabV, tabL, Z]) (by simp [tabV, Value.oneCell']) ?_))
  have hBel : Below w.heap.size w ((w1.alloc (.cells Z 23)).setRow w1.heap.size (tabV tabL)) :=
    below_step (pw_below_drewN (Below.refl _ _) nd) (below_step HB.out (((Below.refl w1.heap.size w1).alloc (Nat.le_refl _) _).trans ⟨rfl, rfl, rfl, by simp, fun k hk => setRow_other _ _ _ _ (by omega)⟩))
  have hg0 : ((w1.alloc (.cells Z 23)).setRow w1.heap.size (tabV tabL)).heap[w1.heap.size]? = some (.cells (tabV tabL) 23 (0, 0)) := setRow_heap _ _ _ _ _ _ (heap_alloc_new w1 _)
  have hgl : w1.heap.size < ((w1.alloc (.cells Z 23)).setRow w1.heap.size (tabV tabL)).heap.size := by simp
  have HBel := Aside0.mk hBel
  have HG0 := Aside0.mk hg0
  have HGL := Aside0.mk hgl
  clear hBel hg0 hgl
  generalize (w1.alloc (.cells Z 23)).setRow w1.heap.size (tabV tabL) = W2 at *
  obtain ⟨g, hgg⟩ : ∃ g, g = w1.heap.size := ⟨_, rfl⟩
  rw [← hgg] at HG0 HGL ⊢
  clear hgg
  go_loopw [6, 7, 8] (fun v6 v7 v8 wr => PRel w b g v6 v7 v8 wr) (fun _ _ v8 _ => 50 - (intOf v8).toNat)
  case atStart =>
    have h := Kd.C_below HR.out HBel.out
    exact ⟨0, 0, A0, c0, b, 0, rfl, by omega, ⟨by omega, by simp, by rw [List.take_zero, addF_nil]⟩, rfl, rfl, HC.out, h, HG0.out, HBel.out, HGL.out⟩
  case round =>
    obtain ⟨p, i, A, c, R, s, rfl, hi, HP, rfl, rfl, hc, hr, hg, hbel, hgl⟩ := hrel
    have RC := Aside0.mk hc
    have RR := Aside0.mk hr
    have RG := Aside0.mk hg
    have RB := Aside0.mk hbel
    have RL := Aside0.mk hgl
    clear hc hr hg hbel hgl
    by_cases c1 : i < l1.length
    · by_cases c2 : i < 50
      · obtain ⟨ad, e, hcell⟩ := Kd.at_int (Kd.C_below HR1.out RB.out) i (by omega) (by omega)
        cases e
        rw [Int.toNat_natCast] at hcell
        obtain ⟨n, hn, hw⟩ := within_eq (rd l1 i) (R.length : Int) (by omega)
        have HW := Aside0.mk hw
        clear hw
        go_wp2_with (first
          | (go_at_call 18; refine (QB.duffelref01_Within.calls (rd l1 i) 0 (R.length : Int) (n : Int) _ HW.out).mono ?_; rintro e w' ⟨rfl, ⟨nd, rfl⟩⟩))
        obtain ⟨R1, HR1E, hs1, HR1C, HR1L⟩ := MyWords.take_letter (P := Try.prog) .u8 28 5 .i64 Try.underlying28 (by kernel_rfl) A c R n (by omega) hn RC.out
        obtain ⟨R2, A2, c2, HR2E, hs2, HR2C, HR2L⟩ := MyWords.drop_letter (P := Try.prog) .u8 28 5 .i64 Try.underlying28 (by kernel_rfl) A c R n (by omega) hn RC.out
        have hgz : (wr.drewN nd).heap[g]? = some (.cells (tabV tabL) 23 (0, 0)) := RG.out
        have RRz : Aside0 (Kd.C (Kd.int .u8) (wr.drewN nd) A R.length R) := ⟨Kd.C_drewN RR.out nd⟩
        have RBz : Aside0 (Below w.heap.size w (wr.drewN nd)) := ⟨pw_below_drewN RB.out nd⟩
        have RLz : Aside0 (g < (wr.drewN nd).heap.size) := ⟨RL.out⟩
        generalize wr.drewN nd = wz at *
        refine wp_region_still_tail 5 (by kernel_rfl) (by kernel_rfl) ?_
        simp only [List.take_succ_cons, List.take_zero, List.drop_succ_cons, List.drop_zero]
        refine MyStill.still_load_row rfl 23 _ rfl g rfl 23 _ _ _ (show (wz.drew).heap[g]? = _ from hgz) Try.underlying23 rfl (by kernel_rfl) ?_
        have HGz : Aside0 ((wz.drew).heap[g]? = some (.cells (tabV tabL) 23 (0, 0))) := ⟨hgz⟩
        clear hgz
        repeat still_step
        refine wpStill_nil ?_
        have HS1 : Aside0 (R1.length ≤ 140737488355328) := ⟨by rw [HR1E.out, List.length_take, HP.out.2.1, List.length_drop]; have := HLB.out; omega⟩
        have RRz' : Aside0 (Kd.C (Kd.int .u8) wz.drew A R.length R) := ⟨Kd.C_drew RRz.out⟩
        have RBz' : Aside0 (Below w.heap.size w wz.drew) := ⟨below_drew RBz.out⟩
        go_wp2_with (first
          | (go_at_call 15; refine (add_any tabL tabL_len s A c R1 _ (HR1C.out _ RRz'.out) HR1L.out HS1.out).mono ?_; rintro e w5 ⟨rfl, hb5⟩; have HB5 := Aside0.mk hb5; clear hb5))
        go_roundw
        case rel =>
          obtain ⟨hp1, hp2, hp3⟩ := HP.out
          have e1 := HR1E.out
          have e2 := HR2E.out
          rw [Int.toNat_natCast] at e1 e2
          have hlR : R.length = b.length - p := by rw [hp2, List.length_drop]
          refine ⟨p + n, i + 1, A2, c2, R2, _, by go_num, by omega, ⟨by omega, by rw [e2, hp2, List.drop_drop], by rw [hp3, e1, hp2]; exact addF_piece b HBY.out p n⟩, rfl, rfl, HR2L.out, Kd.C_below (HR2C.out _ RRz'.out) HB5.out, ?_, below_step RBz'.out HB5.out, ?_⟩
          · exact (HB5.out.block g RLz.out).trans HGz.out
          · exact Nat.lt_of_lt_of_le RLz.out HB5.out.size
        case measure => simp [intOf]; omega
      · have hE : addF tabL s R = addF tabL 0 b := by
          obtain ⟨hp1, hp2, hp3⟩ := HP.out
          have h := addF_piece b HBY.out p (b.length - p)
          have e : (b.drop p).take (b.length - p) = b.drop p := List.take_of_length_le (by rw [List.length_drop]; omega)
          rw [e, show p + (b.length - p) = b.length by omega, List.take_length, ← hp2, ← hp3] at h
          exact h
        have HE := Aside0.mk hE
        have HSR : Aside0 (R.length ≤ 140737488355328) := ⟨by rw [HP.out.2.1, List.length_drop]; have := HLB.out; omega⟩
        clear hE
        go_wp2_with (first
          | (refine wpList_load_row rfl 23 _ rfl g rfl 23 _ _ _ RG.out Try.underlying23 rfl (by kernel_rfl) ?_)
          | (go_at_call 15; refine (add_any tabL tabL_len s A c R _ RR.out RC.out HSR.out).mono ?_; rintro e w5 ⟨rfl, hb5⟩; have HB5 := Aside0.mk hb5; clear hb5; rw [HE.out])
          | (go_at_call 13; refine (sum_any A0 c0 b _ (Kd.C_below HR.out (below_step RB.out HB5.out)) HC.out (by have := HLB.out; omega)).mono ?_; rintro e w6 ⟨rfl, hb6⟩; have HB6 := Aside0.mk hb6; clear hb6)
          | (go_at_call 10; refine (lives_any _).mono ?_; rintro e w7 ⟨rfl, hb7⟩; have HB7 := Aside0.mk hb7; clear hb7))
        go_ret
        exact ⟨rfl, below_step (below_step (below_step RB.out HB5.out) HB6.out) HB7.out⟩
    · have hE : addF tabL s R = addF tabL 0 b := by
        obtain ⟨hp1, hp2, hp3⟩ := HP.out
        have h := addF_piece b HBY.out p (b.length - p)
        have e : (b.drop p).take (b.length - p) = b.drop p := List.take_of_length_le (by rw [List.length_drop]; omega)
        rw [e, show p + (b.length - p) = b.length by omega, List.take_length, ← hp2, ← hp3] at h
        exact h
      have HE := Aside0.mk hE
      have HSR : Aside0 (R.length ≤ 140737488355328) := ⟨by rw [HP.out.2.1, List.length_drop]; have := HLB.out; omega⟩
      clear hE
      go_wp2_with (first
        | (refine wpList_load_row rfl 23 _ rfl g rfl 23 _ _ _ RG.out Try.underlying23 rfl (by kernel_rfl) ?_)
        | (go_at_call 15; refine (add_any tabL tabL_len s A c R _ RR.out RC.out HSR.out).mono ?_; rintro e w5 ⟨rfl, hb5⟩; have HB5 := Aside0.mk hb5; clear hb5; rw [HE.out])
        | (go_at_call 13; refine (sum_any A0 c0 b _ (Kd.C_below HR.out (below_step RB.out HB5.out)) HC.out (by have := HLB.out; omega)).mono ?_; rintro e w6 ⟨rfl, hb6⟩; have HB6 := Aside0.mk hb6; clear hb6)
        | (go_at_call 10; refine (lives_any _).mono ?_; rintro e w7 ⟨rfl, hb7⟩; have HB7 := Aside0.mk hb7; clear hb7))
      go_ret
      exact ⟨rfl, below_step (below_step (below_step RB.out HB5.out) HB6.out) HB7.out⟩
end Go.Proofs.Ytlemagpmhenmmaa.CrcWalk
