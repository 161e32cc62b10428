/- extra: lives; the reference's Few, walked. -/
import Derived.Test.YtfnihlndaenkhaaExtraR0
namespace Go.Proofs.Ytfnihlndaenkhaa.Fld
open Go.Proofs.Ytfnihlndaenkhaa.EX
open Go.RowKit Go.Proofs.YtfnihlndaenkhaaW.PrintWords Go.Proofs.YtfnihlndaenkhaaW.PrintLast Go.Proofs.YtfnihlndaenkhaaW.PrintMore
set_option linter.unusedVariables false
set_option linter.unusedSimpArgs false
theorem C_one {W : World} {g : Nat} {A1 : Option Addr} {c1 : Nat} (x : FT) (hb : W.heap[g]? = some (.cells #[.int .i64 x.f0, .slice A1 x.f1.length c1] 27 (0, 0))) (hl : x.f1.length ≤ c1) (hC : Kd.C (Kd.int .u8) W A1 x.f1.length x.f1) :
    Kd.C k27 W (some ⟨g, 0, none⟩) 1 [x] := by
  refine ⟨rfl, by decide, fun _ => ⟨_, rfl, fun j y hj => ?_⟩⟩
  cases j with
  | succ j => simp at hj
  | zero =>
    obtain rfl : x = y := by simpa using hj
    refine ⟨[.int .i64 x.f0, .slice A1 x.f1.length c1], rfl, k27_mk W x hl hC, fun i u hu => ?_⟩
    match i, hu with
    | 0, hu => obtain rfl : _ = u := by simpa using hu
               exact (blk_cell hb 0).trans rfl
    | 1, hu => obtain rfl : _ = u := by simpa using hu
               exact (blk_cell hb 1).trans rfl
    | i + 2, hu => simp at hu
theorem wr_one : wrL [⟨1, [2]⟩] = [1, 0, 1, 0, 2] ∧ wrE [⟨1, [2]⟩] = 0 ∧ szF [⟨1, [2]⟩] 1 = 5 := by decide +kernel
set_option maxHeartbeats 4000000 in
theorem ex_lives (w : World) : Calls Try.prog 13 #[] w fun e w' => e = .returned (.bool true) ∧ Below w.heap.size w w' := by
  obtain ⟨W, hW⟩ : ∃ W, (w.alloc (.cells #[.int .u8 2] 5)).alloc (.cells #[.int .i64 1, .slice (some ⟨w.heap.size, 0, none⟩) 1 1] 27) = W := ⟨_, rfl⟩
  have hb : Below w.heap.size w W := hW ▸ below_alloc (below_alloc (Below.refl _ _) _) _
  have hC1 : Kd.C (Kd.int .u8) W (some ⟨w.heap.size, 0, none⟩) 1 [2] := hW ▸ Kd.C_alloc (MyWords.C_new .u8 w [2] 5 _ (by decide)) _
  have hbk : W.heap[w.heap.size + 1]? = some (.cells #[.int .i64 1, .slice (some ⟨w.heap.size, 0, none⟩) 1 1] 27 (0, 0)) := by
    rw [← hW]
    have := heap_alloc_new (w.alloc (.cells #[.int .u8 2] 5)) (.cells #[.int .i64 1, .slice (some ⟨w.heap.size, 0, none⟩) 1 1] 27)
    simpa using this
  have hC : Kd.C k27 W (some ⟨w.heap.size + 1, 0, none⟩) 1 [⟨1, [2]⟩] := C_one (⟨1, [2]⟩ : FT) hbk (by decide) hC1
  have hw := ex_write (some ⟨w.heap.size + 1, 0, none⟩) 1 [⟨1, [2]⟩] W hC (by rw [show ([⟨1, [2]⟩] : List FT).length = 1 from rfl, wr_one.2.2]; decide)
  rw [wr_one.1, wr_one.2.1, ← hW] at hw
  have HW := Aside0.mk hw
  rw [← hW] at hb
  have HB := Aside0.mk hb
  clear hb hC1 hbk hC hw hW
  go_enter Try.func13, Try.ntmps13
  go_wp2_with (go_at_call 9; refine HW.out.mono ?_; rintro r w2 ⟨v2, rfl, ho, hb⟩; obtain ⟨A2, c2, rfl⟩ := own_slice ho; have HB2 := Aside0.mk (HB.out.trans (hb.mono HB.out.size)); clear ho hb)
  go_ret
  exact ⟨rfl, HB2.out⟩
def few (X : List FT) (n long : Nat) : List FT := (X.take n).map fun x => ⟨x.f0, x.f1.take long⟩
theorem few_len (X : List FT) (n long : Nat) : (few X n long).length = min n X.length := by simp [few]
theorem few_succ (X : List FT) (i long : Nat) (h : i < X.length) : few X (i + 1) long = few X i long ++ [⟨X[i].f0, X[i].f1.take long⟩] := by
  unfold few; rw [take_one X i h, List.map_append]; rfl
def FwPost (w : World) (L : List FT) (r : Ending) (w' : World) : Prop :=
  ∃ v, r = .returned v ∧ Kd.R k27 27 w' w.heap.size (fun _ => True) v L ∧ Below w.heap.size w w'
def FwRel (w0 : World) (X : List FT) (B m long : Nat) (v7 v8 : Value) (wr : World) : Prop :=
  ∃ i : Nat, v8 = .int .i64 i ∧ i ≤ m ∧ Kd.R k27 27 wr B (fun _ => True) v7 (few X i long) ∧ Below B w0 wr
set_option maxHeartbeats 8000000 in
set_option maxRecDepth 100000 in
theorem ex_few (A0 : Option Addr) (c0 : Nat) (X : List FT) (w : World) (n long : Nat) (h0 : Kd.C k27 w A0 X.length X) (hn : n ≤ 1000) (hlo : long ≤ 1000000) :
    Calls Try.prog 7 #[.slice A0 X.length c0, .int .i64 n, .int .i64 long] w (FwPost w (few X n long)) := by
  have HX := Aside0.mk h0
  have HXM : Aside0 (X.length ≤ 9223372036854775807) := ⟨Kd.C_max h0⟩
  obtain ⟨m, hm⟩ : ∃ m, min n X.length = m := ⟨_, rfl⟩
  have HM : Aside0 (m ≤ X.length ∧ m ≤ n ∧ n ≤ 1000 ∧ long ≤ 1000000 ∧ (few X m long = few X n long)) := ⟨by omega, by omega, hn, hlo, by rw [← hm]; exact congrArg (List.map _) (List.take_eq_take_iff.2 (by omega))⟩
  have HM2 : Aside0 (∀ i, i < X.length → i < n → i < m) := ⟨fun i h1 h2 => by omega⟩
  clear h0 hm hn hlo
  go_enter Try.func7, Try.ntmps7
  go_wp2_with fail
  go_loopw [7, 8] (fun v7 v8 wr => FwRel w X w.heap.size m long v7 v8 wr) (fun v7 v8 _ => m - (intOf v8).toNat)
  case atStart => exact ⟨0, rfl, Nat.zero_le _, Kd.R_nil _ _ _ _ _, Below.refl _ _⟩
  case round =>
    rename World => wr
    obtain ⟨i, rfl, hi, hR, hbel⟩ := hrel
    obtain ⟨xs, hxs⟩ : ∃ xs, few X i long = xs := ⟨_, rfl⟩
    rw [hxs] at hR
    obtain ⟨A4, c4, rfl⟩ := Kd.R_slice hR
    have HR := Aside0.mk hR
    have HB := Aside0.mk hbel
    clear hR hbel
    by_cases hlt : i < X.length ∧ i < n
    · obtain ⟨hl1, hl2⟩ := hlt
      have him := HM2.out i hl1 hl2
      obtain ⟨ad, A1, c1, e1, hcs, hlc, hC1⟩ := fld_at HX.out i hl1
      subst e1
      have d1 : decide ((i : Int) < (n : Int)) = true := decide_eq_true (by omega)
      have d1' : decide (i < n) = true := decide_eq_true (by omega)
      have d2 : decide (i < X.length) = true := decide_eq_true hl1
      have d3 : decide ((i : Int) < (X.length : Int)) = true := decide_eq_true (by omega)
      have hfs := few_succ X i long hl1
      have hfl := few_len X i long
      have hmm := HM.out
      have hx0 := hcs 0 _ rfl
      have hx1 := hcs 1 _ rfl
      rw [Go.Deep.add_add] at hx0 hx1
      rw [Nat.add_zero] at hx0
      rw [add_field _ _ 1 (by omega)] at hx1
      have hb3 : (ad.add (i * 2)).block < w.heap.size := block_lt_of_cell hx0
      obtain ⟨x0, h0⟩ : ∃ x0, X[i].f0 = x0 := ⟨_, rfl⟩
      obtain ⟨b0, h1⟩ : ∃ b0, X[i].f1 = b0 := ⟨_, rfl⟩
      obtain ⟨b, hb⟩ : ∃ b, b0.take long = b := ⟨_, rfl⟩
      rw [h0] at hx0
      rw [h1] at hx1 hlc hC1
      rw [h0, h1, hb, hxs] at hfs
      rw [hxs] at hfl
      have HFS := Aside0.mk hfs
      have HX0 := Aside0.mk hx0
      have HCUT : Aside0 (MyCut.cut_u8.f b0 long = some b) := ⟨hb ▸ MyCut.cut_u8.nat b0 long⟩
      have HLC := Aside0.mk hlc
      have HC : Aside0 (Kd.C (Kd.int .u8) w A1 b.length b) := ⟨MyCut.C_cut_u8 hC1 HCUT.out⟩
      have HCC : Aside0 (b.length ≤ c1) := ⟨MyCut.le_cut_u8 hlc HCUT.out⟩
      have HCP : Aside0 (duffelref01_Copy.f b = some b) := ⟨if_pos (by rw [← hb, List.length_take]; simp; omega)⟩
      have HLM : Aside0 ((xs.length + 1) * 32 ≤ 140737488355328) := ⟨by omega⟩
      replace hx0 : wr.cell? (ad.add (i * 2)) = some (.int .i64 x0) := (HB.out.cell (p := ad.add (i * 2)) hb3).trans hx0
      replace hx1 : wr.cell? ⟨(ad.add (i * 2)).block, (ad.add (i * 2)).off + 1, none⟩ = some (.slice A1 b0.length c1) := (HB.out.cell (p := ⟨(ad.add (i * 2)).block, (ad.add (i * 2)).off + 1, none⟩) hb3).trans hx1
      have HB := Aside0.mk (below_drew HB.out)
      have HR := Aside0.mk (Kd.R_drew HR.out)
      clear h0 h1 hb hxs hfs hfl hlc hC1 hcs hmm
      go_wp2_with fail
      go_region_law (first
        | (go_simp; go_at_call 14; refine (MyCut.cut_u8.calls A1 c1 b0 long b _ HLC.out HCUT.out).mono ?_; rintro r w' ⟨rfl, hs_⟩; subst hs_)
        | (go_simp; go_at_call 15; refine (duffelref01_Copy.calls A1 c1 b b _ (Kd.C_below HC.out HB.out) HCC.out HCP.out).mono ?_; rintro r w9 ⟨v9, rfl, hRb, hb9⟩; obtain ⟨A9, c9, rfl⟩ := own_slice (Kd.own_of_R hRb); have HOW := Aside0.mk (Kd.own_of_R hRb); have HO := Aside0.mk (R_bytes (Kd.own_of_R hRb) HB.out.size); have HR := Aside0.mk (Kd.R_below HR.out hb9); have HB := Aside0.mk (HB.out.trans (hb9.mono HB.out.size)); have hx0 : w9.cell? (ad.add (i * 2)) = some (.int .i64 x0) := (HB.out.cell (p := ad.add (i * 2)) hb3).trans HX0.out; clear hRb hb9)
        | (refine Kd.R_append_step k27 (w0 := w) w.heap.size (by rfl) (.tmp 20) (.tmp 35) 22 27 (.agg #[(.int .i64 0), (.slice none 0 0)]) 32 rfl Try.underlying22 info27 rfl (by decide) (by omega) (.slice A4 xs.length c4) xs (⟨x0, b⟩ : S27) [.int .i64 x0, .slice A9 b.length c9] (fun _ => True) (fun k => some k = (Value.slice A9 b.length c9).ownBlock) rfl rfl (k27_mkM _ _ _ (⟨x0, b⟩ : S27) HO.out) (fun k hk => ⟨trivial, apart_of HOW.out HR.out k hk⟩) (fun _ _ => trivial) HR.out HB.out HB.out.size HLM.out ?_; intro vn w8 hRn hBn hgn han; have HR := Aside0.mk hRn; have HB := Aside0.mk hBn; clear hRn hBn hgn han))
      all_goals
        go_wp2
        go_roundw
        all_goals
          have hmm := HM.out
          have hwk : wrap64 ((i : Int) + 1) = ((i + 1 : Nat) : Int) := by rw [IntWalk.wrap64_in _ ⟨by omega, by omega⟩]; omega
        case rel => exact ⟨i + 1, (by first | rw [hwk] | go_num), by omega, by rw [HFS.out]; exact HR.out, HB.out⟩
        case measure => (try rw [hwk]); simp [intOf]; omega
    · have hmm := HM.out
      have him : i = m := by
        by_cases h1 : i < X.length
        · have h3 : ¬ i < n := fun h2 => hlt ⟨h1, h2⟩
          omega
        · omega
      subst him
      have hcon : (decide (i < X.length) = false ∧ decide ((i : Int) < (X.length : Int)) = false) ∨ (decide (i < X.length) = true ∧ decide ((i : Int) < (X.length : Int)) = true ∧ decide ((i : Int) < (n : Int)) = false ∧ decide (i < n) = false) := by
        by_cases h1 : i < X.length
        · have h3 : ¬ i < n := fun h2 => hlt ⟨h1, h2⟩
          exact .inr ⟨decide_eq_true h1, decide_eq_true (by omega), decide_eq_false (by omega), decide_eq_false h3⟩
        · exact .inl ⟨decide_eq_false h1, decide_eq_false (by omega)⟩
      have HXS : Aside0 (xs = few X n long) := ⟨by rw [← hmm.2.2.2.2, hxs]⟩
      clear hlt hmm hi hxs
      rcases hcon with ⟨hcon, hcon1⟩ | ⟨hcon, hcon1, hcon2, hcon3⟩
      all_goals
        go_wp2_with fail
        go_ret
        exact ⟨_, rfl, HXS.out ▸ HR.out, HB.out⟩
end Go.Proofs.Ytfnihlndaenkhaa.Fld
