/- extra.Without, walked. -/
import Derived.Test.YtfnihlndaenkhaaExtraD0
namespace Go.Proofs.Ytfnihlndaenkhaa.Fld
open Go.Proofs.Ytfnihlndaenkhaa.EX
open Go.RowKit Go.Proofs.YtfnihlndaenkhaaW.PrintWords Go.Proofs.YtfnihlndaenkhaaW.PrintLast Go.Proofs.YtfnihlndaenkhaaW.PrintMore
set_option linter.unusedVariables false
set_option linter.unusedSimpArgs false
def keepF (X : List FT) (id : Int) : List FT := X.filter fun x => decide (x.f0 ≠ id)
def woF (X : List FT) (id : Int) (i : Nat) : List Int := (keepF (X.take i) id).flatMap fb
def woL (b : List Int) (id : Int) : List Int := if (rdA b).2 = 0 then (keepF (rdA b).1 id).flatMap fb else b
theorem keepF_snoc (X : List FT) (id : Int) (i : Nat) (h : i < X.length) : keepF (X.take (i + 1)) id = if X[i].f0 = id then keepF (X.take i) id else keepF (X.take i) id ++ [X[i]] := by
  unfold keepF
  rw [take_one X i h, List.filter_append]
  by_cases c : X[i].f0 = id
  · rw [if_pos c]; simp [c]
  · rw [if_neg c]; simp [c]
theorem woF_no (X : List FT) (id : Int) (i : Nat) (h : i < X.length) (c : X[i].f0 = id) : woF X id (i + 1) = woF X id i := by
  unfold woF; rw [keepF_snoc X id i h, if_pos c]
theorem woF_yes (X : List FT) (id : Int) (i : Nat) (h : i < X.length) (c : X[i].f0 ≠ id) : woF X id (i + 1) = woF X id i ++ fb X[i] := by
  unfold woF; rw [keepF_snoc X id i h, if_neg c, List.flatMap_append]; simp
theorem flat_sub (X Y : List FT) (h : X.Sublist Y) : (X.flatMap fb).length ≤ (Y.flatMap fb).length := by
  induction h with
  | slnil => simp
  | cons a _ ih => rw [List.flatMap_cons, List.length_append]; omega
  | cons_cons a _ ih => rw [List.flatMap_cons, List.flatMap_cons, List.length_append, List.length_append]; omega
theorem woF_len (X : List FT) (id : Int) (i : Nat) : (woF X id i).length ≤ (X.flatMap fb).length :=
  flat_sub _ _ ((List.filter_sublist).trans (List.take_sublist i X))
theorem box_grown {w w' : World} {B bx : Nat} {v : Value} {L : List Int} {cs : Array Value} (hb : w.heap[bx]? = some (.cells cs 27 (0, 0))) (hR : Kd.R (Kd.int .u8) 5 w B (fun _ => True) v L) (hg : w.grownBy w' v.ownBlock) : w'.heap[bx]? = some (.cells cs 27 (0, 0)) :=
  blk_grown hb hg (own_ne (Kd.own_of_R hR) hb ne8F_types)
def WoPost (w : World) (L : List Int) (r : Ending) (w' : World) : Prop :=
  ∃ v, r = .returned v ∧ w'.ownsRow w.heap.size 5 1 v L.length (nums .u8 L) ∧ Below w.heap.size w w'
def WoRel (w1 : World) (X : List FT) (id : Int) (v7 v21 : Value) (wr : World) : Prop :=
  ∃ i : Nat, v21 = .int .i64 i ∧ i ≤ X.length ∧ Kd.R (Kd.int .u8) 5 wr w1.heap.size (fun _ => True) v7 (woF X id i) ∧ Below w1.heap.size w1 wr
set_option maxHeartbeats 8000000 in
set_option maxRecDepth 100000 in
theorem ex_without (A0 : Option Addr) (c0 : Nat) (b : List Int) (id : Int) (w : World) (h0 : Kd.C (Kd.int .u8) w A0 b.length b) (hc : A0 = none → c0 = 0) (hby : ∀ x ∈ b, 0 ≤ x ∧ x ≤ 255) (hl : b.length ≤ 1000000) :
    Calls Try.prog 19 #[.slice A0 b.length c0, .int .i64 id] w (WoPost w (woL b id)) := by
  have H0 := Aside0.mk h0
  have HNIL := Aside0.mk hc
  have HL := Aside0.mk hl
  rcases rdA_two b hby with ⟨X, hr, hf, hok⟩ | hr
  · have HRD : Aside0 (Calls Try.prog 16 #[.slice A0 b.length c0] w (RdPost w X 0)) := ⟨by have := ex_read A0 c0 b w h0 hc hby hl; rwa [hr] at this⟩
    have HE : Aside0 (woL b id = woF X id X.length) := ⟨by unfold woL woF; rw [hr, if_pos rfl, List.take_length]⟩
    have HTOT : Aside0 ((X.flatMap fb).length ≤ 1000000) := ⟨by rw [hf]; exact hl⟩
    have HOK : Aside0 (∀ x ∈ X, okF x = true) := ⟨fun x hx => List.all_eq_true.1 hok x hx⟩
    have HMEM : Aside0 (∀ x ∈ X, x.f1.length ≤ 1000000) := ⟨fun x hx => by have := flat_mem X x hx; rw [hf] at this; omega⟩
    clear h0 hc hby hl hr hf hok
    go_enter Try.func19, Try.ntmps19
    go_wp2_with (go_at_call 16; (with_reducible refine HRD.out.mono ?_); rintro r w1 ⟨v1, rfl, hR, hb⟩; obtain ⟨A1, c1, rfl⟩ := Kd.R_slice hR; have HX := Aside0.mk (Kd.R_reads' hR).2.2; have HB1 := Aside0.mk hb; have HXM := Aside0.mk (Kd.C_max (Kd.R_reads' hR).2.2); clear hR hb)
    go_loopw [7, 21] (fun v7 v21 wr => WoRel w1 X id v7 v21 wr) (fun v7 v21 _ => X.length - (intOf v21).toNat)
    case atStart => exact ⟨0, rfl, Nat.zero_le _, Kd.R_nil _ _ _ _ _, Below.refl _ _⟩
    case round =>
      rename World => wr
      obtain ⟨i, rfl, hi, hR, hbel⟩ := hrel
      obtain ⟨Lo, hLo⟩ : ∃ Lo, woF X id i = Lo := ⟨_, rfl⟩
      rw [hLo] at hR
      obtain ⟨A7, c7, rfl⟩ := Kd.R_slice hR
      have HR := Aside0.mk hR
      have HB := Aside0.mk hbel
      clear hR hbel
      by_cases hlt : i < X.length
      · obtain ⟨ad, A9, c9, e9, hcs, hlc, hC9⟩ := fld_at HX.out i hlt
        subst e9
        have d2 : decide (i < X.length) = true := decide_eq_true hlt
        have d3 : decide ((i : Int) < (X.length : Int)) = true := decide_eq_true (by omega)
        have hb3 : (ad.add (i * 2)).block < w1.heap.size := block_lt_of_cell (by have := hcs 0 _ rfl; rwa [Go.Deep.add_add] at this)
        have hno := woF_no X id i hlt
        have hyes := woF_yes X id i hlt
        have hok := HOK.out X[i] (List.getElem_mem hlt)
        have hst := st_ok [] X[i] hok
        have hml := HMEM.out X[i] (List.getElem_mem hlt)
        have hll := woF_len X id i
        have hfl := fb_len X[i]
        obtain ⟨x0, hx0⟩ : ∃ x0, X[i].f0 = x0 := ⟨_, rfl⟩
        obtain ⟨b1, hb⟩ : ∃ b1, X[i].f1 = b1 := ⟨_, rfl⟩
        obtain ⟨fx, hfx⟩ : ∃ fx, fb X[i] = fx := ⟨_, rfl⟩
        have hst2 : stF ([], 0) X[i] = stPut (st16 (st16 ([], 0) x0) (b1.length : Int)) b1 := by rw [← hx0, ← hb]; rfl
        rw [hst2, hfx, List.nil_append] at hst
        rw [hfx] at hyes hfl
        rw [hx0, hb] at hcs
        rw [hb] at hlc hC9 hml hfl
        rw [hx0] at hno hyes
        rw [hLo] at hno hyes hll
        have HCS : Aside0 (∀ j v, ([.int .i64 x0, .slice A9 b1.length c9] : List Value)[j]? = some v → wr.cell? ((ad.add (i * 2)).add j) = some v) := ⟨fun j v hj => (HB.out.cell (p := (ad.add (i * 2)).add j) (by rw [show ((ad.add (i * 2)).add j).block = (ad.add (i * 2)).block from add_block _ _]; exact hb3)).trans (hcs j v hj)⟩
        have HBX : Aside0 ((wr.alloc (.cells #[.int .i64 x0, .slice A9 b1.length c9] 27)).heap[wr.heap.size]? = some (.cells #[.int .i64 x0, .slice A9 b1.length c9] 27 (0, 0))) := ⟨heap_alloc_new wr _⟩
        have hbx0 : (wr.alloc (.cells #[.int .i64 x0, .slice A9 b1.length c9] 27)).cell? ⟨wr.heap.size, 0, none⟩ = some (.int .i64 x0) := (blk_cell HBX.out 0).trans rfl
        have hbb : Below wr.heap.size wr (wr.alloc (.cells #[.int .i64 x0, .slice A9 b1.length c9] 27)) := below_alloc (Below.refl _ _) _
        have HRA := Aside0.mk (Kd.R_alloc HR.out (.cells #[.int .i64 x0, .slice A9 b1.length c9] 27))
        have HBA := Aside0.mk (HB.out.trans (hbb.mono HB.out.size))
        have HST := Aside0.mk hst
        have HLN : Aside0 (b1.length ≤ 1000000 ∧ Lo.length ≤ 1000000 ∧ fx.length ≤ 1000004) := ⟨hml, by have := HTOT.out; omega, by omega⟩
        have HLM : Aside0 ((Lo.length + fx.length) * 1 ≤ 140737488355328) := ⟨by have := HTOT.out; omega⟩
        have HC9 := Aside0.mk hC9
        clear hx0 hb hfx hLo hst hst2 hok hml hll hfl hcs hlc hC9 hbb
        by_cases hid : x0 = id
        · have d4 : decide (x0 = id) = true := decide_eq_true hid
          have d5 : (x0 == id) = true := by rw [hid]; exact beq_self_eq_true id
          have d6 : (x0 != id) = false := by rw [hid]; simp
          have HNO := Aside0.mk (hno hid)
          clear hno hyes hid
          go_wp2_with ((with_reducible refine gate_dst (N := 24) rfl ?_); refine wpList_load_any rfl 27 (.tmp 23) rfl (ad.add (i * 2)) rfl [.int .i64 x0, .slice A9 b1.length c9] _ HCS.out Try.underlying27 rfl (by kernel_rfl) ?_)
          go_roundw
          all_goals
            have hxm := HXM.out
            have hwk : wrap64 ((i : Int) + 1) = ((i + 1 : Nat) : Int) := by rw [IntWalk.wrap64_in _ ⟨by omega, by omega⟩]; omega
          case rel => exact ⟨i + 1, (by first | rw [hwk] | go_num), by omega, by rw [HNO.out]; exact HRA.out, HBA.out⟩
          case measure => (try rw [hwk]); simp [intOf]; omega
        · have d4 : decide (x0 = id) = false := decide_eq_false hid
          have d5 : (x0 == id) = false := beq_eq_false_iff_ne.mpr hid
          have d6 : (x0 != id) = true := by simp [hid]
          have HYES := Aside0.mk (hyes hid)
          clear hno hyes hid
          obtain ⟨wN, hwN⟩ : ∃ wN, (wr.alloc (.cells #[.int .i64 x0, .slice A9 b1.length c9] 27)).drew = wN := ⟨_, rfl⟩
          have HBXD : Aside0 ((wr.alloc (.cells #[.int .i64 x0, .slice A9 b1.length c9] 27)).drew.heap[wr.heap.size]? = some (.cells #[.int .i64 x0, .slice A9 b1.length c9] 27 (0, 0))) := ⟨HBX.out⟩
          have hq0 := Aside0.mk ((blk_cell HBXD.out 0).trans (show _ = some (Value.int .i64 x0) from rfl))
          have hq1 := Aside0.mk ((blk_cell HBXD.out 1).trans (show _ = some (Value.slice A9 b1.length c9) from rfl))
          have HBN : Aside0 (Below wN.heap.size wN wN) := ⟨Below.refl _ _⟩
          have HRN : Aside0 (Kd.R (Kd.int .u8) 5 wN w1.heap.size (fun _ => True) (.slice A7 Lo.length c7) Lo) := ⟨hwN ▸ Kd.R_drew HRA.out⟩
          have HB1N : Aside0 (Below w1.heap.size w1 wN) := ⟨hwN ▸ below_drew HBA.out⟩
          have HBXN : Aside0 (wN.heap[wr.heap.size]? = some (.cells #[.int .i64 x0, .slice A9 b1.length c9] 27 (0, 0))) := ⟨hwN ▸ HBX.out⟩
          go_wp2_with ((with_reducible refine gate_dst (N := 24) rfl ?_); refine wpList_load_any rfl 27 (.tmp 23) rfl (ad.add (i * 2)) rfl [.int .i64 x0, .slice A9 b1.length c9] _ HCS.out Try.underlying27 rfl (by kernel_rfl) ?_)
          go_region_held3 (fun w' => w'.cell? ⟨wr.heap.size, 0, none⟩ = some (.int .i64 x0) ∧ w'.cell? ⟨wr.heap.size, 1, none⟩ = some (.slice A9 b1.length c9))
            (first
              | exact ⟨hq0.out, hq1.out⟩
              | exact ⟨(blk_cell HBXE.out 0).trans rfl, (blk_cell HBXE.out 1).trans rfl⟩
              | exact ⟨(blk_cell (blk_below HBXN.out HBN.out) 0).trans rfl, (blk_cell (blk_below HBXN.out HBN.out) 1).trans rfl⟩
              | go_keep)
            (first
              | (go_at_call 20; refine (rs_new _).mono ?_; rintro e wa ⟨g, v9, rfl, hr, hb⟩; have HRS := Aside0.mk hr; have HBN := Aside0.mk hb; clear hr hb)
              | (go_at_call 21; refine (rs_u16 (Aside0.out (by assumption)) (by decide)).mono ?_; rintro e wa ⟨v9, rfl, hr, hk⟩; have HRS := Aside0.mk hr; have HBN := Aside0.mk (HBN.out.trans hk); clear hr hk)
              | (go_at_call 22; refine (rs_put (m := 1000000) (Aside0.out (by assumption)) (Kd.C_below HC9.out (HB1N.out.trans (HBN.out.mono HB1N.out.size))) HLN.out.1 (by decide)).mono ?_; rintro e wa ⟨v9, rfl, hr, hk⟩; rw [HST.out] at hr; have HRS := Aside0.mk hr; have HBN := Aside0.mk (HBN.out.trans hk); clear hr hk)
              | (go_at_call 23; refine (row_bytes _ _ _ _ fx (show RowAt _ _ _ _ fx 0 from HRS.out.row) (by have := HLN.out; omega)).mono ?_; rintro e wa ⟨v9, rfl, ho, hk⟩; obtain ⟨A6, c6, rfl⟩ := own_slice ho; have HO6 := Aside0.mk (own_C ho); have HBN := Aside0.mk (HBN.out.trans (hk.mono HBN.out.size)); clear ho hk)
              | (refine Kd.R_append_rows_step (Kd.int .u8) (w0 := w1) w1.heap.size (by rfl) (.tmp 29) (.tmp 41) 24 5 (.int .u8 0) 1 rfl Try.underlying24 info5 rfl (by decide) (by omega) (.slice A7 Lo.length c7) Lo fx A6 fx.length c6 (fun _ => True) (fun _ => False) rfl rfl (Kd.R_below HRN.out HBN.out) HO6.out.2.1 (fun _ _ h => h) (fun _ h => h.elim) (fun _ _ => trivial) (HB1N.out.trans (HBN.out.mono HB1N.out.size)) (Nat.le_trans HB1N.out.size HBN.out.size) HLM.out ?_; intro vn wz hRn hBn hgn han; have HBXE := Aside0.mk (box_grown (blk_below HBXN.out HBN.out) (Kd.R_below HRN.out HBN.out) hgn); have HRE := Aside0.mk hRn; have HBE := Aside0.mk hBn; clear hRn hBn hgn han)
              | fail)
          all_goals
            go_split_ands
            go_wp2
            go_roundw
            all_goals
              have hxm := HXM.out
              have hwk : wrap64 ((i : Int) + 1) = ((i + 1 : Nat) : Int) := by rw [IntWalk.wrap64_in _ ⟨by omega, by omega⟩]; omega
            case rel => exact ⟨i + 1, (by first | rw [hwk] | go_num), by omega, by rw [HYES.out]; exact HRE.out, HBE.out⟩
            case measure => (try rw [hwk]); simp [intOf]; omega
      · obtain rfl : i = X.length := by omega
        have dd : decide (X.length < X.length) = false := decide_eq_false (by omega)
        have dd2 : decide ((X.length : Int) < (X.length : Int)) = false := decide_eq_false (by omega)
        have HLO := Aside0.mk hLo
        clear hlt hi hLo
        go_wp2_with fail
        go_ret
        show WoPost w (woL b id) _ _
        rw [HE.out, HLO.out]
        exact ⟨_, rfl, own_weaken (Kd.own_of_R HR.out) HB1.out.size, HB1.out.trans (HB.out.mono HB1.out.size)⟩
  · have HRD : Aside0 (Calls Try.prog 16 #[.slice A0 b.length c0] w (RdPost w [] 3)) := ⟨by have := ex_read A0 c0 b w h0 hc hby hl; rwa [hr] at this⟩
    have HE : Aside0 (woL b id = b) := ⟨by unfold woL; rw [hr, if_neg (by decide)]⟩
    clear h0 hc hby hl hr
    go_enter Try.func19, Try.ntmps19
    go_wp2_with (first
      | (go_at_call 16; (with_reducible refine HRD.out.mono ?_); rintro r w1 ⟨v1, rfl, hR, hb⟩; have HB1 := Aside0.mk hb; clear hR hb)
      | (go_at_call 34; (with_reducible refine (clone_any w1 A0 c0 b (Kd.C_below H0.out HB1.out) HNIL.out (by have := HL.out; omega)).mono ?_); rintro e w2 ⟨v2, rfl, ho, hb⟩; have HO := Aside0.mk ho; have HB2 := Aside0.mk (HB1.out.trans (hb.mono HB1.out.size)); clear ho hb))
    go_ret
    show WoPost w (woL b id) _ _
    rw [HE.out]
    exact ⟨_, rfl, own_weaken HO.out HB1.out.size, HB2.out⟩
end Go.Proofs.Ytfnihlndaenkhaa.Fld
