/- The law ExtraFinds, walked. -/
import Derived.Test.YtfnihlndaenkhaaExtraD1
import Derived.Test.YtfnihlndaenkhaaPureExtra
namespace Go.Proofs.Ytfnihlndaenkhaa.Fld
open Go.Proofs.Ytfnihlndaenkhaa.EX Go.Proofs.Ytfnihlndaenkhaa.EXR
open Go.RowKit Go.Proofs.YtfnihlndaenkhaaW.PrintWords Go.Proofs.YtfnihlndaenkhaaW.PrintLast Go.Proofs.YtfnihlndaenkhaaW.PrintMore
set_option linter.unusedVariables false
set_option linter.unusedSimpArgs false
/-- a row of cells of the call's own reads as a list of fields -/
theorem C_of_own {w : World} {B : Nat} {v : Value} {Y : List FT} {inner : List Value} (ho : w.ownsRow B 27 2 v Y.length inner) (hr : Reps (k27.K w) 2 Y inner) : ∃ A c, v = .slice A Y.length c ∧ Y.length ≤ c ∧ Kd.C k27 w A Y.length Y := by
  have ho' := ho
  rcases ho.2 with ⟨hv, h0⟩ | ⟨g, cap, cur, hv, hb, hh, hle, hm, hsz, hcur⟩
  · have hY := List.eq_nil_of_length_eq_zero h0
    subst hY
    exact ⟨none, 0, hv, Nat.le_refl _, rfl, by decide, fun hn => absurd hn (by simp)⟩
  · subst hv
    refine ⟨some ⟨g, 0, none⟩, cap, rfl, hle, rfl, by unfold maxLen at hm; omega, fun hn => ⟨_, rfl, fun j x hj => ?_⟩⟩
    have hk := hr.2 j x hj
    refine ⟨_, k27.K_len hk, hk, fun i u hu => ?_⟩
    have hi : i < 2 := by
      have h1 := (List.getElem?_eq_some_iff.1 hu).1
      have h2 : ((inner.drop (j * 2)).take 2).length ≤ 2 := by rw [List.length_take]; exact Nat.min_le_left _ _
      omega
    rw [List.getElem?_take, if_pos hi, List.getElem?_drop] at hu
    exact ho'.cells (g := g) rfl _ _ hu
theorem fnd_snoc (X : List FT) (id : Int) (i : Nat) (h : i < X.length) : fnd (X.take (i + 1)) id = match fnd (X.take i) id with | some x => some x | none => if X[i].f0 = id then some X[i] else none := by
  unfold fnd
  rw [take_one X i h, List.find?_append]
  cases hf : (X.take i).find? fun x => decide (x.f0 = id) with
  | some x => rfl
  | none =>
    by_cases c : X[i].f0 = id
    · simp [c]
    · simp [c]
def FiRel (wL : World) (X : List FT) (id : Int) (v10 v11 v12 v13 : Value) (wr : World) : Prop :=
  ∃ (i : Nat) (inner : List Value) (A : Option Addr) (c : Nat), v13 = .int .i64 i ∧ i ≤ X.length ∧ wr.ownsRow wL.heap.size 27 2 v10 (keepF (X.take i) id).length inner ∧ Reps (k27.K wL) 2 (keepF (X.take i) id) inner ∧
    v12 = .bool (fnd (X.take i) id).isSome ∧ v11 = .slice A (fdD (X.take i) id).length c ∧ Kd.C (Kd.int .u8) wL A (fdD (X.take i) id).length (fdD (X.take i) id) ∧ (fdD (X.take i) id).length ≤ c ∧ Below wL.heap.size wL wr
theorem keep_all (X : List FT) (id : Int) : keepF (X.take X.length) id = keepF X id := by rw [List.take_length]
theorem fnd_keep (X : List FT) (id : Int) : fnd (keepF X id) id = none := by
  refine List.find?_eq_none.2 fun x hx => ?_
  have := (List.mem_filter.1 hx).2
  simpa using this
set_option maxHeartbeats 8000000 in
set_option maxRecDepth 100000 in
theorem finds_any (A0 : Option Addr) (c0 : Nat) (l0 : List Int) (id : Int) (w : World) (h0 : Kd.C (Kd.int .u8) w A0 l0.length l0) (hc0 : l0.length ≤ c0) (hby : ∀ x ∈ l0, 0 ≤ x ∧ x ≤ 255) (hnil : A0 = none → c0 = 0) :
    Calls Try.prog 6 #[.slice A0 l0.length c0, .int .i64 id] w fun e w' => e = .returned (.bool true) ∧ Below w.heap.size w w' := by
  obtain ⟨b, hbq⟩ : ∃ b, l0.take 300 = b := ⟨_, rfl⟩
  have HCUT : Aside0 (MyCut.cut_u8.f l0 300 = some b) := ⟨hbq ▸ MyCut.cut_u8.nat l0 300⟩
  have HC0 := Aside0.mk hc0
  have HC : Aside0 (Kd.C (Kd.int .u8) w A0 b.length b) := ⟨MyCut.C_cut_u8 h0 HCUT.out⟩
  have HCC : Aside0 (b.length ≤ c0) := ⟨MyCut.le_cut_u8 hc0 HCUT.out⟩
  have hl : b.length ≤ 300 := by rw [← hbq, List.length_take]; omega
  have hb : ∀ x ∈ b, 0 ≤ x ∧ x ≤ 255 := fun x hx => hby x (List.mem_of_mem_take (hbq ▸ hx))
  clear h0 hc0 hby hbq
  rcases rdA_two b hb with ⟨X, hrd, hf, hok⟩ | hrd
  · obtain ⟨D, hD⟩ : ∃ D, fdD X id = D := ⟨_, rfl⟩
    obtain ⟨ok, hO⟩ : ∃ ok, (fnd X id).isSome = ok := ⟨_, rfl⟩
    obtain ⟨Y, hY⟩ : ∃ Y, keepF X id = Y := ⟨_, rfl⟩
    obtain ⟨Lw, hLw⟩ : ∃ Lw, Y.flatMap fb = Lw := ⟨_, rfl⟩
    have hYok : Y.all okF = true := by
      rw [List.all_eq_true] at hok ⊢
      exact fun x hx => hok x (List.mem_filter.1 (by rw [← hY] at hx; exact hx)).1
    have hLl : Lw.length ≤ 300 := by
      have h1 := flat_sub Y X (hY ▸ List.filter_sublist)
      rw [hf, hLw] at h1
      omega
    have hLb : ∀ x ∈ Lw, 0 ≤ x ∧ x ≤ 255 := by
      intro x hx
      rw [← hLw] at hx
      obtain ⟨y, hy, hxy⟩ := List.mem_flatMap.1 hx
      have hyX : y ∈ X := (List.mem_filter.1 (by rw [← hY] at hy; exact hy)).1
      exact hb x (hf ▸ List.mem_flatMap.2 ⟨y, hyX, hxy⟩)
    have hYl := flat_card Y
    rw [hLw] at hYl
    have hXl := flat_card X
    rw [hf] at hXl
    have hYs := flat_len Y
    rw [hLw] at hYs
    have hwr := wr_of_rd Lw Y hLw hYok (by omega)
    have hrl : rdA Lw = (Y, 0) := by
      have h1 := rd_of_wr Y hwr.2
      rwa [hwr.1] at h1
    have hDl : D.length ≤ 300 := by
      rw [← hD]
      unfold fdD
      cases hq : fnd X id with
      | none => exact Nat.zero_le _
      | some x =>
        have h1 := List.mem_of_find?_eq_some hq
        have h2 := flat_mem X x h1
        rw [hf] at h2
        show x.f1.length ≤ 300
        omega
    have HRR : Aside0 (duffelref23_Read.f 1000 b = some (X, 0)) := ⟨hrd ▸ rread_run b hb (by omega) 1000 (by omega)⟩
    have HFD : Aside0 (∀ W, Kd.C (Kd.int .u8) W A0 b.length b → Calls Try.prog 18 #[.slice A0 b.length c0, .int .i64 id] W (FdPost W D ok)) := ⟨fun W h => by have := ex_find A0 c0 b id W h hnil hb (by omega); rwa [hrd, hD, hO] at this⟩
    have HWO : Aside0 (∀ W, Kd.C (Kd.int .u8) W A0 b.length b → Calls Try.prog 19 #[.slice A0 b.length c0, .int .i64 id] W (WoPost W Lw)) := ⟨fun W h => by have := ex_without A0 c0 b id W h hnil hb (by omega); rwa [show woL b id = Lw by unfold woL; rw [hrd, if_pos rfl, hY, hLw]] at this⟩
    have HFL : Aside0 (∀ W A c, Kd.C (Kd.int .u8) W A Lw.length Lw → (A = none → c = 0) → Calls Try.prog 18 #[.slice A Lw.length c, .int .i64 id] W (FdPost W [] false)) := ⟨fun W A c h h2 => by
      have := ex_find A c Lw id W h h2 hLb (by omega)
      rw [hrl] at this
      have e : fnd Y id = none := by rw [← hY]; exact fnd_keep X id
      have e2 : fdD Y id = [] := by unfold fdD; rw [e]
      rwa [show ((Y, (0 : Int)).1) = Y from rfl, e2, e] at this⟩
    have HWR : Aside0 (duffelref23_Write.f 1000 Y = some (Lw, 0)) := ⟨by have h1 := rwrite_run Y (by omega) (by omega) 1000 (by omega); rwa [hwr.1, hwr.2] at h1⟩
    have HSD : Aside0 (duffelref01_Same.f 2000 D D = some true) := ⟨same_ok D (by omega) 2000 (by omega)⟩
    have HSL : Aside0 (duffelref01_Same.f 2000 Lw Lw = some true) := ⟨same_ok Lw (by omega) 2000 (by omega)⟩
    have HFIN : Aside0 (keepF (X.take X.length) id = Y ∧ fdD (X.take X.length) id = D ∧ (fnd (X.take X.length) id).isSome = ok) := ⟨by rw [List.take_length]; exact ⟨hY, hD, hO⟩⟩
    have HXL : Aside0 (X.length ≤ 300) := ⟨by omega⟩
    clear hrd hf hok hD hO hY hLw hYok hLl hLb hYl hXl hYs hwr hrl hDl hb hl hnil
    go_enter Try.func6, Try.ntmps6
    go_wp2_with (first
      | (go_at_call 14; (with_reducible refine (MyCut.cut_u8.calls A0 c0 l0 300 b _ HC0.out HCUT.out).mono ?_); rintro e w' ⟨rfl, hs_⟩; subst hs_)
      | (go_at_call 17; (with_reducible refine (duffelref23_Read.calls 1000 A0 c0 b X 0 _ HC.out HCC.out HRR.out).mono ?_); rintro e w1 ⟨v1, rfl, hS, hb⟩; obtain ⟨A1, c1, rfl⟩ := Kd.S_slice hS; have HX := Aside0.mk (Kd.R_reads' (Kd.S_R hS)).2.2; have HB := Aside0.mk hb; clear hS hb)
      | (go_at_call 18; (with_reducible refine (HFD.out _ (Kd.C_below HC.out HB.out)).mono ?_); rintro r w2 ⟨AG, cG, rfl, hG, hGc, hb⟩; have HG := Aside0.mk hG; have HGC := Aside0.mk hGc; have HX := Aside0.mk (Kd.C_below HX.out hb); have HB := Aside0.mk (HB.out.trans (hb.mono HB.out.size)); clear hG hGc hb)
      | (go_at_call 19; (with_reducible refine (HWO.out _ (Kd.C_below HC.out HB.out)).mono ?_); rintro r w3 ⟨v3, rfl, ho, hb⟩; obtain ⟨AL, cL, rfl⟩ := own_slice ho; have HLF := Aside0.mk (own_C ho); have HX := Aside0.mk (Kd.C_below HX.out hb); have HG := Aside0.mk (Kd.C_below HG.out hb); have HB := Aside0.mk (HB.out.trans (hb.mono HB.out.size)); clear ho hb))
    go_loopw [10, 11, 12, 13] (fun v10 v11 v12 v13 wr => FiRel w3 X id v10 v11 v12 v13 wr) (fun v10 v11 v12 v13 _ => X.length - (intOf v13).toNat)
    case atStart => exact ⟨0, [], none, 0, rfl, Nat.zero_le _, own_nil _ _ _ _, Reps.none _ _, rfl, rfl, Kd.C_nil _ _, Nat.le_refl _, Below.refl _ _⟩
    case round =>
      rename World => wr
      obtain ⟨i, inner, Aw, cw, rfl, hi, hown, hrep, rfl, rfl, hCw, hcw, hbel⟩ := hrel
      obtain ⟨Yi, hYi⟩ : ∃ Yi, keepF (X.take i) id = Yi := ⟨_, rfl⟩
      obtain ⟨Di, hDi⟩ : ∃ Di, fdD (X.take i) id = Di := ⟨_, rfl⟩
      obtain ⟨oi, hoi⟩ : ∃ oi, (fnd (X.take i) id).isSome = oi := ⟨_, rfl⟩
      rw [hYi] at hown hrep
      rw [hDi] at hCw hcw ⊢
      rw [hoi]
      obtain ⟨A7, c7, rfl⟩ := own_slice hown
      have HOWN := Aside0.mk hown
      have HREP := Aside0.mk hrep
      have HCW := Aside0.mk hCw
      have HCWL := Aside0.mk hcw
      have HBL := Aside0.mk hbel
      clear hown hrep hCw hcw hbel
      by_cases hlt : i < X.length
      · obtain ⟨ad, A9, c9, e9, hcs, hlc, hC9⟩ := fld_at HX.out i hlt
        subst e9
        have d2 : decide (i < X.length) = true := decide_eq_true hlt
        have d3 : decide ((i : Int) < (X.length : Int)) = true := decide_eq_true (by omega)
        have hks := keepF_snoc X id i hlt
        have hfs := fnd_snoc X id i hlt
        have hmk := k27_mk w3 X[i] hlc hC9
        have hYl : Yi.length ≤ 300 := by
          rw [← hYi]
          have h1 := (List.filter_sublist (p := fun x : FT => decide (x.f0 ≠ id)) (l := X.take i)).length_le
          have h2 := HXL.out
          have h3 : (X.take i).length ≤ X.length := by rw [List.length_take]; exact Nat.min_le_right _ _
          unfold keepF
          omega
        obtain ⟨x0, hx0⟩ : ∃ x0, X[i].f0 = x0 := ⟨_, rfl⟩
        obtain ⟨b1, hb1⟩ : ∃ b1, X[i].f1 = b1 := ⟨_, rfl⟩
        rw [hx0, hb1] at hcs hmk
        rw [hb1] at hlc hC9
        rw [hx0, hYi] at hks
        rw [hx0] at hfs
        have hc0 := hcs 0 _ rfl
        have hc1 := hcs 1 _ rfl
        rw [Go.Deep.add_add] at hc0 hc1
        rw [Nat.add_zero] at hc0
        rw [add_field _ _ 1 (by omega)] at hc1
        have hb3 : (ad.add (i * 2)).block < w3.heap.size := block_lt_of_cell hc0
        replace hc0 := (HBL.out.cell (p := ad.add (i * 2)) hb3).trans hc0
        replace hc1 := (HBL.out.cell (p := ⟨(ad.add (i * 2)).block, (ad.add (i * 2)).off + 1, none⟩) hb3).trans hc1
        have HCS : Aside0 (∀ j v, ([.int .i64 x0, .slice A9 b1.length c9] : List Value)[j]? = some v → wr.cell? ((ad.add (i * 2)).add j) = some v) := ⟨fun j v hj => (HBL.out.cell (p := (ad.add (i * 2)).add j) (by rw [show ((ad.add (i * 2)).add j).block = (ad.add (i * 2)).block from add_block _ _]; exact hb3)).trans (hcs j v hj)⟩
        have HMK := Aside0.mk hmk
        have HLC9 := Aside0.mk hlc
        have HC9 := Aside0.mk hC9
        have HLM : Aside0 ((Yi.length + 1) * 32 ≤ 140737488355328) := ⟨by omega⟩
        clear hcs hlc hC9 hmk hYl hx0
        by_cases hid : x0 = id
        · have d4 : decide (x0 = id) = true := decide_eq_true hid
          have d5 : (x0 == id) = true := by rw [hid]; exact beq_self_eq_true id
          have d6 : (x0 != id) = false := by rw [hid]; simp
          rw [if_pos hid] at hks hfs
          have HKS := Aside0.mk hks
          cases hq : fnd (X.take i) id with
          | some x =>
            rw [hq] at hfs hoi
            obtain rfl : true = oi := hoi
            have HFS : Aside0 (fdD (X.take (i + 1)) id = Di ∧ (fnd (X.take (i + 1)) id).isSome = true) := ⟨by
              refine ⟨?_, by rw [hfs]; rfl⟩
              rw [← hDi]; unfold fdD; rw [hfs, hq]⟩
            clear hks hfs hq hDi hYi hid hb1
            go_wp2_with fail
            go_roundw
            all_goals
              have hxm := HXL.out
              have hwk : wrap64 ((i : Int) + 1) = ((i + 1 : Nat) : Int) := by rw [IntWalk.wrap64_in _ ⟨by omega, by omega⟩]; omega
            case rel => exact ⟨i + 1, inner, Aw, cw, (by first | rw [hwk] | go_num), by omega, by rw [HKS.out]; exact HOWN.out, by rw [HKS.out]; exact HREP.out, by rw [HFS.out.2], by rw [HFS.out.1], by rw [HFS.out.1]; exact HCW.out, by rw [HFS.out.1]; exact HCWL.out, HBL.out⟩
            case measure => (try rw [hwk]); simp [intOf]; omega
          | none =>
            rw [hq] at hfs hoi
            obtain rfl : false = oi := hoi
            have HFS : Aside0 (fdD (X.take (i + 1)) id = b1 ∧ (fnd (X.take (i + 1)) id).isSome = true) := ⟨by
              refine ⟨?_, by rw [hfs]; rfl⟩
              unfold fdD; rw [hfs]; exact hb1⟩
            clear hks hfs hq hDi hYi hid hb1
            go_wp2_with fail
            go_roundw
            all_goals
              have hxm := HXL.out
              have hwk : wrap64 ((i : Int) + 1) = ((i + 1 : Nat) : Int) := by rw [IntWalk.wrap64_in _ ⟨by omega, by omega⟩]; omega
            case rel => exact ⟨i + 1, inner, A9, c9, (by first | rw [hwk] | go_num), by omega, by rw [HKS.out]; exact HOWN.out, by rw [HKS.out]; exact HREP.out, by rw [HFS.out.2], by rw [HFS.out.1], by rw [HFS.out.1]; exact HC9.out, by rw [HFS.out.1]; exact HLC9.out, HBL.out⟩
            case measure => (try rw [hwk]); simp [intOf]; omega
        · have d4 : decide (x0 = id) = false := decide_eq_false hid
          have d5 : (x0 == id) = false := beq_eq_false_iff_ne.mpr hid
          have d6 : (x0 != id) = true := by simp [hid]
          rw [if_neg hid] at hks hfs
          have hfs2 : fnd (X.take (i + 1)) id = fnd (X.take i) id := by rw [hfs]; cases fnd (X.take i) id <;> rfl
          have HKS := Aside0.mk hks
          have HFS : Aside0 (fdD (X.take (i + 1)) id = Di ∧ (fnd (X.take (i + 1)) id).isSome = oi) := ⟨by
            refine ⟨?_, by rw [hfs2]; exact hoi⟩
            rw [← hDi]; unfold fdD; rw [hfs2]⟩
          clear hks hfs hfs2 hDi hYi hoi hid hb1
          go_wp2_with (first
            | ((with_reducible refine gate_dst (N := 68) rfl ?_); refine wpList_load_any rfl 27 (.tmp 67) rfl (ad.add (i * 2)) rfl [.int .i64 x0, .slice A9 b1.length c9] _ HCS.out Try.underlying27 rfl (by kernel_rfl) ?_)
            | (at_builtin; refine print_append_cells (w0 := w3) w3.heap.size rfl (.tmp 64) (.tmp 69) 22 27 (.agg #[(.int .i64 0), (.slice none 0 0)]) 2 32 rfl Try.underlying22 info27 rfl (by decide) (by decide) (.slice A7 Yi.length c7) Yi.length inner [.int .i64 x0, .slice A9 b1.length c9] rfl rfl rfl (by simp [Value.oneCell']) HOWN.out HBL.out HBL.out.size HLM.out ?_; intro vn w8 hown hbel hgr hat; have HOWN8 := Aside0.mk hown; have HBL := Aside0.mk hbel; clear hown hbel hgr hat))
          go_roundw
          all_goals
            have hxm := HXL.out
            have hwk : wrap64 ((i : Int) + 1) = ((i + 1 : Nat) : Int) := by rw [IntWalk.wrap64_in _ ⟨by omega, by omega⟩]; omega
          case rel => exact ⟨i + 1, inner ++ [.int .i64 x0, .slice A9 b1.length c9], Aw, cw, (by first | rw [hwk] | go_num), by omega, by rw [HKS.out, List.length_append]; exact HOWN8.out, by rw [HKS.out]; exact Reps.snoc HREP.out HMK.out rfl, by rw [HFS.out.2], by rw [HFS.out.1], by rw [HFS.out.1]; exact HCW.out, by rw [HFS.out.1]; exact HCWL.out, HBL.out⟩
          case measure => (try rw [hwk]); simp [intOf]; omega
      · obtain rfl : i = X.length := by omega
        have dd : decide (X.length < X.length) = false := decide_eq_false (by omega)
        have dd2 : decide ((X.length : Int) < (X.length : Int)) = false := decide_eq_false (by omega)
        obtain ⟨e1, e2, e3⟩ := HFIN.out
        obtain rfl : Yi = Y := hYi.symm.trans e1
        obtain rfl : Di = D := hDi.symm.trans e2
        obtain rfl : oi = ok := hoi.symm.trans e3
        obtain ⟨AY, cY, hv, hYc, hCY⟩ := C_of_own HOWN.out ⟨HREP.out.1, fun j p hj => k27.K_below HBL.out (HREP.out.2 j p hj)⟩
        obtain ⟨rfl, rfl⟩ : A7 = AY ∧ c7 = cY := by injection hv with h1 h2 h3; exact ⟨h1, h3⟩
        have HCY := Aside0.mk hCY
        have HYC := Aside0.mk hYc
        have HB := Aside0.mk (HB.out.trans (HBL.out.mono HB.out.size))
        have HG := Aside0.mk (Kd.C_below HG.out HBL.out)
        have HLL := Aside0.mk (Kd.C_below HLF.out.2.1 HBL.out)
        have HCW := Aside0.mk (Kd.C_below HCW.out HBL.out)
        clear hlt hi e1 e2 e3 hYi hDi hoi hv hYc hCY
        cases hoo : oi
        all_goals
          subst hoo
          go_wp2_with (first
            | (go_at_call 10; (with_reducible refine (duffelref23_Write.calls 1000 A7 c7 Yi Lw 0 _ HCY.out HYC.out HWR.out).mono ?_); rintro r w5 ⟨v5, rfl, hR, hb⟩; have ho := Kd.own_of_R hR; obtain ⟨AE, cE, rfl⟩ := own_slice ho; have HOE := Aside0.mk (own_C ho).2.1; have HOEL := Aside0.mk (own_C ho).2.2.1; have HG := Aside0.mk (Kd.C_below HG.out hb); have HLL := Aside0.mk (Kd.C_below HLL.out hb); have HCW := Aside0.mk (Kd.C_below HCW.out hb); have HB := Aside0.mk (HB.out.trans (hb.mono HB.out.size)); clear hR ho hb)
            | (go_at_call 18; (with_reducible refine (HFL.out _ AL cL HLL.out HLF.out.2.2.2).mono ?_); rintro r w6 ⟨AF, cF, rfl, hG6, hGc, hb⟩; have HG := Aside0.mk (Kd.C_below HG.out hb); have HLL := Aside0.mk (Kd.C_below HLL.out hb); have HCW := Aside0.mk (Kd.C_below HCW.out hb); have HOE := Aside0.mk (Kd.C_below HOE.out hb); have HB := Aside0.mk (HB.out.trans (hb.mono HB.out.size)); clear hG6 hGc hb)
            | (go_at_call 11; (with_reducible refine (duffelref01_Same.calls 2000 AG cG Di Aw cw Di true _ HG.out HGC.out HCW.out HCWL.out HSD.out).mono ?_); rintro r w7 ⟨rfl, ⟨nd, hnd⟩⟩; have hb := (hnd ▸ pw_below_drewN (Below.refl _ _) nd : Below w6.heap.size w6 w7); have HLL := Aside0.mk (Kd.C_below HLL.out hb); have HOE := Aside0.mk (Kd.C_below HOE.out hb); have HB := Aside0.mk (HB.out.trans (hb.mono HB.out.size)); clear hb hnd)
            | (go_at_call 11; (with_reducible refine (duffelref01_Same.calls 2000 AL cL Lw AE cE Lw true _ HLL.out HLF.out.2.2.1 HOE.out HOEL.out HSL.out).mono ?_); rintro r w8 ⟨rfl, ⟨nd, hnd⟩⟩; have HB := Aside0.mk (show Below w.heap.size w w8 from hnd ▸ pw_below_drewN HB.out nd); clear hnd)
            | (go_at_call 13; (with_reducible refine (ex_lives _).mono ?_); rintro r wl ⟨rfl, hb⟩; have HB9 := Aside0.mk (HB.out.trans (hb.mono HB.out.size)); clear hb))
          go_ret
          exact ⟨rfl, HB9.out⟩
  · have HRR : Aside0 (duffelref23_Read.f 1000 b = some ([], 3)) := ⟨hrd ▸ rread_run b hb (by omega) 1000 (by omega)⟩
    have HFD : Aside0 (∀ W, Kd.C (Kd.int .u8) W A0 b.length b → Calls Try.prog 18 #[.slice A0 b.length c0, .int .i64 id] W (FdPost W [] false)) := ⟨fun W h => by have := ex_find A0 c0 b id W h hnil hb (by omega); rwa [hrd] at this⟩
    have HWO : Aside0 (∀ W, Kd.C (Kd.int .u8) W A0 b.length b → Calls Try.prog 19 #[.slice A0 b.length c0, .int .i64 id] W (WoPost W b)) := ⟨fun W h => by have := ex_without A0 c0 b id W h hnil hb (by omega); rwa [show woL b id = b by unfold woL; rw [hrd, if_neg (by decide)]] at this⟩
    have HSL : Aside0 (duffelref01_Same.f 2000 b b = some true) := ⟨same_ok b (by omega) 2000 (by omega)⟩
    clear hrd hb hl hnil
    go_enter Try.func6, Try.ntmps6
    go_wp2_with (first
      | (go_at_call 14; (with_reducible refine (MyCut.cut_u8.calls A0 c0 l0 300 b _ HC0.out HCUT.out).mono ?_); rintro e w' ⟨rfl, hs_⟩; subst hs_)
      | (go_at_call 17; (with_reducible refine (duffelref23_Read.calls 1000 A0 c0 b [] 3 _ HC.out HCC.out HRR.out).mono ?_); rintro e w1 ⟨v1, rfl, hS, hb⟩; have HB := Aside0.mk hb; clear hS hb)
      | (go_at_call 18; (with_reducible refine (HFD.out _ (Kd.C_below HC.out HB.out)).mono ?_); rintro r w2 ⟨AG, cG, rfl, hG, hGc, hb⟩; have HB := Aside0.mk (HB.out.trans (hb.mono HB.out.size)); clear hG hGc hb)
      | (go_at_call 19; (with_reducible refine (HWO.out _ (Kd.C_below HC.out HB.out)).mono ?_); rintro r w3 ⟨v3, rfl, ho, hb⟩; obtain ⟨AL, cL, rfl⟩ := own_slice ho; have HLF := Aside0.mk (own_C ho); have HB := Aside0.mk (HB.out.trans (hb.mono HB.out.size)); clear ho hb)
      | (go_at_call 11; (with_reducible refine (duffelref01_Same.calls 2000 AL cL b A0 c0 b true _ HLF.out.2.1 HLF.out.2.2.1 (Kd.C_below HC.out HB.out) HCC.out HSL.out).mono ?_); rintro r w8 ⟨rfl, ⟨nd, hnd⟩⟩; have HB := Aside0.mk (show Below w.heap.size w w8 from hnd ▸ pw_below_drewN HB.out nd); clear hnd)
      | (go_at_call 13; (with_reducible refine (ex_lives _).mono ?_); rintro r wl ⟨rfl, hb⟩; have HB9 := Aside0.mk (HB.out.trans (hb.mono HB.out.size)); clear hb))
    go_ret
    exact ⟨rfl, HB9.out⟩
end Go.Proofs.Ytfnihlndaenkhaa.Fld
