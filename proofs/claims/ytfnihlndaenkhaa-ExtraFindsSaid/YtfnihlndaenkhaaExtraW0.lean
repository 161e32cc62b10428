/- extra.Write, walked. -/
import Derived.Test.YtfnihlndaenkhaaExtraP
import Derived.Deep.RegionHeld3
import Derived.Deep.Slices
namespace Go.Proofs.Ytfnihlndaenkhaa.Fld
open Go.Proofs.Ytfnihlndaenkhaa.EX
open Go.RowKit Go.Proofs.YtfnihlndaenkhaaW.PrintWords Go.Proofs.YtfnihlndaenkhaaW.PrintLast Go.Proofs.YtfnihlndaenkhaaW.PrintMore
set_option linter.unusedVariables false
set_option linter.unusedSimpArgs false
/-- an element's cells, whole -/
theorem fld_at {w : World} {A : Option Addr} {X : List FT} (h : Kd.C k27 w A X.length X) (k : Nat) (hk : k < X.length) :
    ∃ ad A1 c1, A = some ad ∧ (∀ j v, ([.int .i64 X[k].f0, .slice A1 X[k].f1.length c1] : List Value)[j]? = some v → w.cell? ((ad.add (k * 2)).add j) = some v) ∧ X[k].f1.length ≤ c1 ∧ Kd.C (Kd.int .u8) w A1 X[k].f1.length X[k].f1 := by
  obtain ⟨ad, c, e, _, hK, hc⟩ := Kd.C_get h z27 (k : Int) (by omega) (by omega)
  rw [Int.toNat_natCast] at hK hc
  have hx : X.getD k z27 = X[k] := by simp [List.getD, hk]
  rw [hx] at hK
  obtain ⟨A1, c1, rfl, l1, g1⟩ := k27_open hK
  exact ⟨ad, A1, c1, e, fun j v hv => by rw [Go.Deep.add_add]; exact hc j v hv, l1, g1⟩
theorem neRF_types : (64 : Nat) ≠ 27 := by decide
theorem ne8F_types : (5 : Nat) ≠ 27 := by decide
theorem box_kept {w w' : World} {B g bx : Nat} {v v' : Value} {L : List Int} {e : Int} {cs : Array Value} (hb : w.heap[bx]? = some (.cells cs 27 (0, 0))) (hr : RowAt w B g v L e) (hk : RowKept w w' B g v v') : w'.heap[bx]? = some (.cells cs 27 (0, 0)) := by
  refine blk_kept hb hk.kept ?_
  rintro (h | h)
  · exact blk_ne hr.blk hb neRF_types h.symm
  · exact own_ne hr.own hb ne8F_types h.symm
theorem RowAt.below {w w' : World} {base g : Nat} {v : Value} {L : List Int} {e : Int} (h : RowAt w base g v L e) (hb : Below w.heap.size w w') : RowAt w' base g v L e := ⟨blk_below h.blk hb, pw_own_below h.own hb, h.ge⟩
def WPost (w : World) (L : List Int) (e : Int) (r : Ending) (w' : World) : Prop :=
  ∃ v, r = .returned (.tuple #[v, .int .i64 e]) ∧ w'.ownsRow w.heap.size 5 1 v L.length (nums .u8 L) ∧ Below w.heap.size w w'
/-- i fields were put -/
def WrRel (w0 : World) (X : List FT) (B g : Nat) (vi : Value) (wr : World) : Prop :=
  ∃ (i : Nat) (v : Value), vi = .int .i64 i ∧ i ≤ X.length ∧ RS wr v wr B g v (foldF X i) (szF X i) ∧ Below B w0 wr
set_option maxHeartbeats 8000000 in
set_option maxRecDepth 100000 in
theorem ex_write (A0 : Option Addr) (c0 : Nat) (X : List FT) (w : World) (h0 : Kd.C k27 w A0 X.length X) (hs : szF X X.length ≤ 100000000) :
    Calls Try.prog 9 #[.slice A0 X.length c0] w (WPost w (wrL X) (wrE X)) := by
  have HX := Aside0.mk h0
  have HS := Aside0.mk hs
  have HXM : Aside0 (X.length ≤ 9223372036854775807) := ⟨Kd.C_max h0⟩
  clear h0 hs
  go_enter Try.func9, Try.ntmps9
  go_wp2_with (go_at_call 20; refine (rs_new w).mono ?_; rintro e w1 ⟨g, v1, rfl, hr, hb⟩; have HR := Aside0.mk hr; have HB := Aside0.mk hb; clear hr hb)
  go_loopw [11] (fun v11 wr => WrRel w X w.heap.size g v11 wr) (fun v11 _ => X.length - (intOf v11).toNat)
  case atStart => exact ⟨0, v1, rfl, Nat.zero_le _, HR.out, HB.out⟩
  case round =>
    obtain ⟨i, v, rfl, hi, hrs, hbel⟩ := hrel
    have HR := Aside0.mk hrs
    have HB := Aside0.mk hbel
    clear hrs hbel
    by_cases hlt : i < X.length
    · obtain ⟨ad, A1, c1, e1, hcs, hlc, hC1⟩ := fld_at HX.out i hlt
      subst e1
      have d2 : decide (i < X.length) = true := decide_eq_true hlt
      have d3 : decide ((i : Int) < (X.length : Int)) = true := decide_eq_true (by omega)
      have hst := foldF_succ X i hlt
      have hsz := szF_succ X i hlt
      have hb3 : (ad.add (i * 2)).block < w.heap.size := block_lt_of_cell (by have := hcs 0 _ rfl; rwa [Go.Deep.add_add] at this)
      obtain ⟨x0, hx0⟩ : ∃ x0, X[i].f0 = x0 := ⟨_, rfl⟩
      obtain ⟨b, hb⟩ : ∃ b, X[i].f1 = b := ⟨_, rfl⟩
      obtain ⟨n, hn⟩ : ∃ n, szF X i = n := ⟨_, rfl⟩
      obtain ⟨s, hs⟩ : ∃ s, foldF X i = s := ⟨_, rfl⟩
      have hmo := szF_mono X (i + 1) X.length hlt
      have hle := HS.out
      rw [hx0, hb] at hcs
      rw [hb] at hlc hC1 hsz
      rw [hs] at hst HR
      rw [hn] at hsz HR
      have hst2 : stF s X[i] = stPut (st16 (st16 s x0) (b.length : Int)) b := by rw [← hx0, ← hb]; rfl
      rw [hst2] at hst
      have HN : Aside0 (n + 2 + 2 + b.length ≤ 100000000) := ⟨by omega⟩
      have HST := Aside0.mk hst
      have HSZ := Aside0.mk hsz
      have HC := Aside0.mk hC1
      have HLC := Aside0.mk hlc
      have HCS : Aside0 (∀ j v, ([.int .i64 x0, .slice A1 b.length c1] : List Value)[j]? = some v → wr.cell? ((ad.add (i * 2)).add j) = some v) := ⟨fun j v hj => (HB.out.cell (p := (ad.add (i * 2)).add j) (by rw [show ((ad.add (i * 2)).add j).block = (ad.add (i * 2)).block from add_block _ _]; exact hb3)).trans (hcs j v hj)⟩
      clear hx0 hb hn hs hst2 hst hsz hC1 hlc hcs hmo hle
      go_wp2_with ((with_reducible refine gate_dst (N := 14) rfl ?_); refine wpList_load_any rfl 27 (.tmp 13) rfl (ad.add (i * 2)) rfl [.int .i64 x0, .slice A1 b.length c1] _ HCS.out Try.underlying27 rfl (by kernel_rfl) ?_)
      have HBX : Aside0 ((wr.alloc (.cells #[.int .i64 x0, .slice A1 b.length c1] 27)).drew.heap[wr.heap.size]? = some (.cells #[.int .i64 x0, .slice A1 b.length c1] 27 (0, 0))) := ⟨heap_alloc_new wr _⟩
      have hbb : Below wr.heap.size wr (wr.alloc (.cells #[.int .i64 x0, .slice A1 b.length c1] 27)) := below_alloc (Below.refl _ _) _
      have HR := Aside0.mk (RS.start (s := s) (HR.out.row.below hbb).drew HR.out.len)
      have HB := Aside0.mk (below_drew (HB.out.trans (hbb.mono HB.out.size)))
      clear hbb
      go_region_held3 (fun w' => w'.cell? ⟨wr.heap.size, 0, none⟩ = some (.int .i64 x0) ∧ w'.cell? ⟨wr.heap.size, 1, none⟩ = some (.slice A1 b.length c1))
        (first
          | go_keep
          | (go_split_ands
             refine ⟨(blk_cell HBX.out 0).trans rfl, (blk_cell HBX.out 1).trans rfl⟩))
        (first
          | (go_at_call 21; refine (rs_u16 HR.out (by have := HN.out; omega)).mono ?_; rintro e w9 ⟨v9, rfl, hr, hk⟩; have HBX := Aside0.mk (box_kept HBX.out HR.out.row hr.kept); have HR := Aside0.mk (RS.start hr.row hr.len); have HB := Aside0.mk (HB.out.trans hk); clear hr hk)
          | (go_at_call 22; refine (rs_put (m := b.length) HR.out (Kd.C_below HC.out HB.out) (Nat.le_refl _) (by have := HN.out; omega)).mono ?_; rintro e w9 ⟨v9, rfl, hr, hk⟩; have HBX := Aside0.mk (box_kept HBX.out HR.out.row hr.kept); have HR := Aside0.mk (RS.start hr.row hr.len); have HB := Aside0.mk (HB.out.trans hk); clear hr hk))
      all_goals
        go_split_ands
        go_wp2
        go_roundw
        all_goals
          have hxm := HXM.out
          have hwk : wrap64 ((i : Int) + 1) = ((i + 1 : Nat) : Int) := by rw [IntWalk.wrap64_in _ ⟨by omega, by omega⟩]; omega
        case rel =>
          have h9 := HR.out
          exact ⟨i + 1, _, (by first | rw [hwk] | go_num), by omega, by rw [HST.out, HSZ.out]; exact h9, HB.out⟩
        case measure => (try rw [hwk]); simp [intOf]; omega
    · obtain rfl : i = X.length := by omega
      have hfin := fold_two X X.length (Nat.le_refl _)
      have hcl := catF_len X X.length
      have hle := HS.out
      have dd : decide (X.length < X.length) = false := decide_eq_false (by omega)
      have dd2 : decide ((X.length : Int) < (X.length : Int)) = false := decide_eq_false (by omega)
      clear hlt hi
      rcases hfin with ⟨h1, h2⟩ | ⟨h1, h2⟩
      · rw [h2] at HR
        obtain ⟨L, hL⟩ : ∃ L, catF X X.length = L := ⟨_, rfl⟩
        rw [hL] at HR hcl
        have HROW := Aside0.mk HR.out.row
        have HLN : Aside0 (L.length ≤ 1000000000) := ⟨by omega⟩
        by_cases h3 : L.length ≤ 65535
        · have d4 : decide ((L.length : Int) > 65535) = false := decide_eq_false (by omega)
          have d5 : decide ((65535 : Int) < (L.length : Int)) = false := decide_eq_false (by omega)
          have d6 : decide (65535 < L.length) = false := decide_eq_false (by omega)
          have EE : Aside0 (wrL X = L ∧ wrE X = 0) := ⟨by unfold wrL wrE wrOk; rw [h1, hL, decide_eq_true h3]; exact ⟨rfl, rfl⟩⟩
          clear h1 h2 hL hcl hle HR
          go_wp2_with (first
            | (go_at_call 23; refine (row_bytes _ _ _ _ _ HROW.out HLN.out).mono ?_; rintro r w2 ⟨v2, rfl, ho, hb⟩; obtain ⟨A2, c2, rfl⟩ := own_slice ho; have HO := Aside0.mk ho; have HB2 := Aside0.mk (HB.out.trans (hb.mono HB.out.size)); have HSI := Aside0.mk HB.out.size; have HROW := Aside0.mk (HROW.out.below hb); clear ho hb)
            | (go_at_call 24; refine (row_err _ _ _ _ _ _ HROW.out).mono ?_; rintro r w' ⟨rfl, hs_⟩; subst hs_))
          go_ret2
          show WPost w (wrL X) (wrE X) _ _
          rw [EE.out.1, EE.out.2]
          exact ⟨_, rfl, own_weaken HO.out HSI.out, HB2.out⟩
        · have d4 : decide ((L.length : Int) > 65535) = true := decide_eq_true (by omega)
          have d5 : decide ((65535 : Int) < (L.length : Int)) = true := decide_eq_true (by omega)
          have d6 : decide (65535 < L.length) = true := decide_eq_true (by omega)
          have EE : Aside0 (wrL X = [] ∧ wrE X = 18) := ⟨by unfold wrL wrE wrOk; rw [h1, hL, decide_eq_false h3]; exact ⟨rfl, rfl⟩⟩
          clear h1 h2 hL hcl hle HR
          go_wp2_with (first
            | (go_at_call 23; refine (row_bytes _ _ _ _ _ HROW.out HLN.out).mono ?_; rintro r w2 ⟨v2, rfl, ho, hb⟩; obtain ⟨A2, c2, rfl⟩ := own_slice ho; have HO := Aside0.mk ho; have HB2 := Aside0.mk (HB.out.trans (hb.mono HB.out.size)); have HSI := Aside0.mk HB.out.size; have HROW := Aside0.mk (HROW.out.below hb); clear ho hb)
            | (go_at_call 24; refine (row_err _ _ _ _ _ _ HROW.out).mono ?_; rintro r w' ⟨rfl, hs_⟩; subst hs_))
          go_ret2
          show WPost w (wrL X) (wrE X) _ _
          rw [EE.out.1, EE.out.2]
          exact ⟨_, rfl, own_nil _ _ _ _, HB2.out⟩
      · obtain ⟨L, e, hs2⟩ : ∃ L e, foldF X X.length = (L, e) := ⟨_, _, rfl⟩
        rw [hs2] at HR h2
        have HROW := Aside0.mk HR.out.row
        have he : e = 18 := h2
        subst he
        have EE : Aside0 (wrL X = [] ∧ wrE X = 18) := ⟨by unfold wrL wrE wrOk; rw [h1]; exact ⟨rfl, rfl⟩⟩
        clear h1 h2 hs2 hcl hle HR
        go_wp2_with (first
          | (go_at_call 23; refine (row_bytes_bad _ _ _ _ _ _ HROW.out (by decide)).mono ?_; rintro r w2 ⟨v2, rfl, ho, hb⟩; obtain ⟨A2, c2, rfl⟩ := own_slice ho; have HB2 := Aside0.mk (HB.out.trans (hb.mono HB.out.size)); have HROW := Aside0.mk (HROW.out.below hb); clear ho hb)
          | (go_at_call 24; refine (row_err _ _ _ _ _ _ HROW.out).mono ?_; rintro r w' ⟨rfl, hs_⟩; subst hs_))
        go_ret2
        show WPost w (wrL X) (wrE X) _ _
        rw [EE.out.1, EE.out.2]
        exact ⟨_, rfl, own_nil _ _ _ _, HB2.out⟩
end Go.Proofs.Ytfnihlndaenkhaa.Fld
