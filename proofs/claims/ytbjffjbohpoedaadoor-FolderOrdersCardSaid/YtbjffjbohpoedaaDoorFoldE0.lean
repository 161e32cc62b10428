/- folder.compare, Less, lives, walked. -/
import Derived.Test.YtbjffjbohpoedaaDoorFoldD0
namespace Go.Proofs.YtbjffjbohpoedaaDoor.Fd
open Go.Proofs.YtbjffjbohpoedaaDoor.Wd
open Go.RowKit Go.Proofs.YtbjffjbohpoedaaDoorW.PrintWords Go.Proofs.YtbjffjbohpoedaaDoorW.PrintLast Go.Proofs.YtbjffjbohpoedaaDoorW.PrintMore
set_option linter.unusedVariables false
set_option linter.unusedSimpArgs false
theorem bytesOf_run {w : World} {A : Option Addr} {c : Nat} {p : List Int} (h : Kd.C (Kd.int .u8) w A p.length p) : (Extern.Bytes.bytesOf (.slice A p.length c)).run Tryd.prog w = .ok ⟨(Lib.bytesOf p).toArray⟩ w := by
  rcases Nat.eq_zero_or_pos p.length with h0 | h0
  · obtain rfl := List.eq_nil_of_length_eq_zero h0
    cases A <;> rfl
  · obtain ⟨ad, rfl, hc⟩ := (Kd.reads_of_C (d := (0 : Int)) h).2.2 h0
    have hl := Lib.run_loadBytesX (P := Tryd.prog) w p ad .empty (fun j x hj => by
      have hjl : j < p.length := (List.getElem?_eq_some_iff.1 hj).1
      rw [hc j hjl, List.getD_eq_getElem?_getD, hj]; rfl)
    have he : (⟨ByteArray.empty.data ++ (Lib.bytesOf p).toArray⟩ : ByteArray) = ⟨(Lib.bytesOf p).toArray⟩ := by
      apply ByteArray.ext
      show (#[] : Array UInt8) ++ (Lib.bytesOf p).toArray = (Lib.bytesOf p).toArray
      simp
    rw [he] at hl
    exact hl
def cmpZ (p q : List Int) : Int := Lib.compareBytes (Lib.bytesOf p) (Lib.bytesOf q)
set_option maxRecDepth 100000 in
theorem bcompare_any (A1 : Option Addr) (c1 : Nat) (p : List Int) (A2 : Option Addr) (c2 : Nat) (q : List Int) (w : World) (h1 : Kd.C (Kd.int .u8) w A1 p.length p) (h2 : Kd.C (Kd.int .u8) w A2 q.length q) :
    Calls Tryd.prog 57 #[.slice A1 p.length c1, .slice A2 q.length c2] w fun e w' => e = .returned (.int .i64 (cmpZ p q)) ∧ w = w' := by
  have hrun : (Extern.BytealgCompare.compare #[.slice A1 p.length c1, .slice A2 q.length c2]).run Tryd.prog w = .ok (.int .i64 (cmpZ p q)) w := by
    change Sem.run Tryd.prog (do pure (goInt (Extern.BytealgCompare.cmp (← Extern.Bytes.bytesOf (.slice A1 p.length c1)) (← Extern.Bytes.bytesOf (.slice A2 q.length c2))))) w = _
    simp only [Sem.run_bind, bytesOf_run h1, bytesOf_run h2, Result.andThen, Sem.run_pure]
    rw [Lib.cmp_eq]
    rfl
  have HRUN := Aside0.mk hrun
  clear h1 h2 hrun
  generalize cmpZ p q = z at *
  go_enter Tryd.func57, Tryd.ntmps57
  go_wp2
  rw [run_callFunc_extern Tryd.func70 (by kernel_rfl) (by kernel_rfl) (by kernel_rfl) (e := Extern.BytealgCompare.compare) (by kernel_rfl), HRUN.out]
  simp only [Result.andThen]
  rw [Oper.upon_value]
  go_wp2
  go_ret
  exact ⟨rfl, rfl⟩
def cmpP : List (List Int) → List (List Int) → Int
  | x :: xs, y :: ys => if cmpZ (x.map fold1) (y.map fold1) = 0 then cmpP xs ys else cmpZ (x.map fold1) (y.map fold1)
  | _, _ => 0
def compareZ (a b : List Int) : Int :=
  if cmpP (piecesL a) (piecesL b) = 0 then (if (piecesL a).length = (piecesL b).length then cmpZ a b else ((piecesL a).length : Int) - (piecesL b).length) else cmpP (piecesL a) (piecesL b)
theorem cmpP_step (X Y : List (List Int)) (i : Nat) (h1 : i < X.length) (h2 : i < Y.length) : cmpP (X.drop i) (Y.drop i) = if cmpZ (X[i].map fold1) (Y[i].map fold1) = 0 then cmpP (X.drop (i + 1)) (Y.drop (i + 1)) else cmpZ (X[i].map fold1) (Y[i].map fold1) := by
  rw [List.drop_eq_getElem_cons h1, List.drop_eq_getElem_cons h2, cmpP]
theorem cmpP_end (X Y : List (List Int)) (i : Nat) (h : ¬ (i < X.length ∧ i < Y.length)) : cmpP (X.drop i) (Y.drop i) = 0 := by
  by_cases h1 : i < X.length
  · have e : Y.drop i = [] := List.drop_eq_nil_of_le (by omega)
    rw [e]
    cases X.drop i <;> rfl
  · have e : X.drop i = [] := List.drop_eq_nil_of_le (by omega)
    rw [e]; rfl
theorem el_at {w : World} {A : Option Addr} {X : List (List Int)} (h : Kd.C (Kd.slice 5 (Kd.int .u8)) w A X.length X) (i : Nat) (hi : i < X.length) : ∃ ad A0 c0, A = some ad ∧ w.cell? (ad.add i) = some (.slice A0 X[i].length c0) ∧ X[i].length ≤ c0 ∧ Kd.C (Kd.int .u8) w A0 X[i].length X[i] := by
  obtain ⟨ad, A0, c0, e, h1, h2, h3⟩ := FR.at_L1 h (i : Int) (by omega) (by omega)
  have e2 : FR.rd_L1 X (i : Int) = X[i] := by unfold FR.rd_L1; rw [Int.toNat_natCast, List.getD_eq_getElem?_getD, List.getElem?_eq_getElem hi]; rfl
  rw [e2] at h1 h2 h3
  rw [Int.toNat_natCast] at h1
  exact ⟨ad, A0, c0, e, h1, h2, h3⟩
theorem C_own {w : World} {base : Nat} {A : Option Addr} {c : Nat} {L : List Int} (h : w.ownsRow base 5 1 (.slice A L.length c) L.length (nums .u8 L)) : Kd.C (Kd.int .u8) w A L.length L :=
  Kd.C_of_reads (d := (0 : Int)) (h1 := fun _ => rfl) (own_reads' h)
theorem pieces_each (L : List Int) : ∀ p ∈ piecesL L, p.length ≤ L.length := fun p hp => Nat.le_trans (splitL_each (cutEnd L) p hp) (cutEnd_len L)
set_option maxHeartbeats 8000000 in
set_option maxRecDepth 100000 in
theorem compare_any (A : Option Addr) (c : Nat) (a : List Int) (A' : Option Addr) (c' : Nat) (b : List Int) (w : World) (ha : Arg w A c a) (hb : Arg w A' c' b) :
    Calls Tryd.prog 32 #[.slice A a.length c, .slice A' b.length c'] w fun e w' => e = .returned (.int .i64 (compareZ a b)) ∧ Below w.heap.size w w' := by
  have PA := Aside0.mk (fun W (hbl : Below w.heap.size w W) => pieces_any A c a W (ha.below hbl))
  have PB := Aside0.mk (fun W (hbl : Below w.heap.size w W) => pieces_any A' c' b W (hb.below hbl))
  have CE := Aside0.mk (fun W (hbl : Below w.heap.size w W) => bcompare_any A c a A' c' b W (ha.below hbl).C (hb.below hbl).C)
  have RA := Aside0.mk (pieces_rng a ha.rng)
  have RB := Aside0.mk (pieces_rng b hb.rng)
  have LA : Aside0 ((piecesL a).length ≤ 100001 ∧ ∀ p ∈ piecesL a, p.length ≤ 1000000000) := ⟨by have := pieces_len a; have := ha.len; omega, fun p hp => by have := pieces_each a p hp; have := ha.len; omega⟩
  have LB : Aside0 ((piecesL b).length ≤ 100001 ∧ ∀ p ∈ piecesL b, p.length ≤ 1000000000) := ⟨by have := pieces_len b; have := hb.len; omega, fun p hp => by have := pieces_each b p hp; have := hb.len; omega⟩
  obtain ⟨X, hX⟩ : ∃ X, piecesL a = X := ⟨_, rfl⟩
  obtain ⟨Y, hY⟩ : ∃ Y, piecesL b = Y := ⟨_, rfl⟩
  obtain ⟨ce, hce⟩ : ∃ ce, cmpZ a b = ce := ⟨_, rfl⟩
  have EZ : Aside0 (compareZ a b = if cmpP X Y = 0 then (if X.length = Y.length then ce else (X.length : Int) - Y.length) else cmpP X Y) := ⟨by unfold compareZ; rw [hX, hY, hce]⟩
  rw [hX] at PA RA LA
  rw [hY] at PB RB LB
  rw [hce] at CE
  clear hX hY hce ha hb
  generalize compareZ a b = rz at *
  go_enter Tryd.func32, Tryd.ntmps32
  go_wp2_with (first
    | (go_at_call 43; (with_reducible refine (PA.out _ (Below.refl _ _)).mono ?_); rintro e w1 ⟨A1, c1, rfl, hle, hC, hbl⟩; have C1 := Aside0.mk hC; have B1 := Aside0.mk hbl; clear hle hC hbl)
    | (go_at_call 43; (with_reducible refine (PB.out _ B1.out).mono ?_); rintro e w2 ⟨A2, c2, rfl, hle, hC, hbl⟩; have C2 := Aside0.mk hC; have CX := Aside0.mk (Kd.C_below C1.out hbl); have HB := Aside0.mk (below_step B1.out hbl); clear hle hC hbl))
  go_loopw [7] (fun v7 wr => ∃ i : Nat, v7 = .int .i64 i ∧ i ≤ X.length ∧ i ≤ Y.length ∧ cmpP (X.drop i) (Y.drop i) = cmpP X Y ∧ Below w2.heap.size w2 wr) (fun v7 _ => X.length - (intOf v7).toNat)
  case atStart => exact ⟨0, rfl, Nat.zero_le _, Nat.zero_le _, rfl, Below.refl _ _⟩
  case round =>
    rename World => wr
    obtain ⟨i, rfl, hi1, hi2, hcp, hbel⟩ := hrel
    have HBW := Aside0.mk hbel
    have CP := Aside0.mk hcp
    clear hbel hcp
    by_cases hlt : i < X.length ∧ i < Y.length
    · have d1 : decide ((i : Int) < (X.length : Int)) = true := decide_eq_true (by omega)
      have d2 : decide ((i : Int) < (Y.length : Int)) = true := decide_eq_true (by omega)
      have q1 : (i : Int) < (X.length : Int) := by omega
      have q2 : (i : Int) < (Y.length : Int) := by omega
      obtain ⟨ad1, A3, c3, rfl, hx1, hl1, hC1⟩ := el_at (Kd.C_below CX.out HBW.out) i hlt.1
      obtain ⟨ad2, A4, c4, rfl, hx2, hl2, hC2⟩ := el_at (Kd.C_below C2.out HBW.out) i hlt.2
      have hst := cmpP_step X Y i hlt.1 hlt.2
      have FX : Aside0 (∀ W, Below wr.heap.size wr W → Calls Tryd.prog 56 #[.slice A3 X[i].length c3] W (Mine W (X[i].map fold1))) := ⟨fun W hb => foldall_any A3 c3 X[i] W (Kd.C_below hC1 hb) (LA.out.2 _ (List.getElem_mem hlt.1)) (RA.out _ (List.getElem_mem hlt.1))⟩
      have FY : Aside0 (∀ W, Below wr.heap.size wr W → Calls Tryd.prog 56 #[.slice A4 Y[i].length c4] W (Mine W (Y[i].map fold1))) := ⟨fun W hb => foldall_any A4 c4 Y[i] W (Kd.C_below hC2 hb) (LB.out.2 _ (List.getElem_mem hlt.2)) (RB.out _ (List.getElem_mem hlt.2))⟩
      have lt1 : (ad1.add i).block < wr.heap.size := block_lt_of_cell hx1
      have lt2 : (ad2.add i).block < wr.heap.size := block_lt_of_cell hx2
      have HSK : Aside0 (∀ W, Below wr.heap.size wr W → W.cell? (ad1.add i) = some (.slice A3 X[i].length c3) ∧ W.cell? (ad2.add i) = some (.slice A4 Y[i].length c4)) := ⟨fun W hb => ⟨(hb.cell (p := ad1.add i) lt1).trans hx1, (hb.cell (p := ad2.add i) lt2).trans hx2⟩⟩
      have hwk : wrap64 ((i : Int) + 1) = ((i + 1 : Nat) : Int) := w_in _ (by omega) (by have := LA.out.1; omega)
      have LT := Aside0.mk hlt
      have I1 := Aside0.mk hi1
      rw [CP.out] at hst
      have ST := Aside0.mk hst
      clear hst hl1 hl2 hC1 hC2 lt1 lt2
      generalize X[i] = p at *
      generalize Y[i] = q at *
      clear hlt
      obtain ⟨fp, hfp⟩ : ∃ fp, p.map fold1 = fp := ⟨_, rfl⟩
      obtain ⟨fq, hfq⟩ : ∃ fq, q.map fold1 = fq := ⟨_, rfl⟩
      have lfp : fp.length = p.length := by rw [← hfp, List.length_map]
      have lfq : fq.length = q.length := by rw [← hfq, List.length_map]
      rw [hfp] at FX
      rw [hfq] at FY
      rw [hfp, hfq] at ST
      clear hfp hfq lfp lfq
      have HBc : Aside0 (Below wr.heap.size wr wr) := ⟨Below.refl _ _⟩
      go_wp2_with fail
      go_region_held3 (fun w' => w'.cell? (ad1.add i) = some (.slice A3 p.length c3) ∧ w'.cell? (ad2.add i) = some (.slice A4 q.length c4))
        (first
          | go_keep
          | (with_reducible exact HSK.out _ HBc.out)
          | (with_reducible exact HSK.out _ (below_drew HBc.out)))
        (first
          | (go_at_call 56; (with_reducible refine (FX.out _ (by first | exact HBc.out | exact below_drew HBc.out)).mono ?_); rintro e w5 ⟨v5, rfl, ho, hbl⟩; obtain ⟨A5, c5, rfl⟩ := own_slice ho; (try have OY := Aside0.mk (Kd.C_below OY.out hbl)); have OX := Aside0.mk (C_own ho); have HBc : Aside0 (Below wr.heap.size wr w5) := ⟨below_step (by first | exact HBc.out | exact below_drew HBc.out) hbl⟩; clear ho hbl)
          | (go_at_call 56; (with_reducible refine (FY.out _ (by first | exact HBc.out | exact below_drew HBc.out)).mono ?_); rintro e w6 ⟨v6, rfl, ho, hbl⟩; obtain ⟨A6, c6, rfl⟩ := own_slice ho; (try have OX := Aside0.mk (Kd.C_below OX.out hbl)); have OY := Aside0.mk (C_own ho); have HBc : Aside0 (Below wr.heap.size wr w6) := ⟨below_step (by first | exact HBc.out | exact below_drew HBc.out) hbl⟩; clear ho hbl)
          | (go_at_call 57; (with_reducible refine (bcompare_any _ _ fp _ _ fq _ OX.out OY.out).mono ?_); rintro e w7 ⟨rfl, rfl⟩))
      all_goals
        go_split_ands
        by_cases hz : cmpZ fp fq = 0
        · have z1 : (cmpZ fp fq == 0) = true := beq_iff_eq.mpr hz
          have z2 : (cmpZ fp fq != 0) = false := bne_eq_false_iff_eq.mpr hz
          have HZ := Aside0.mk hz
          clear hz
          generalize cmpZ fp fq = cz at *
          go_wp2
          go_roundw
          case rel =>
            refine ⟨i + 1, (by first | rfl | rw [hwk] | go_num), by have := LT.out; omega, by have := LT.out; omega, ?_, below_step HBW.out HBc.out⟩
            rw [ST.out, if_pos HZ.out]
          case measure => have := LT.out; (try rw [hwk]); simp [intOf]; omega
        · have z1 : (cmpZ fp fq == 0) = false := beq_eq_false_iff_ne.mpr hz
          have z2 : (cmpZ fp fq != 0) = true := bne_iff_ne.mpr hz
          have HZ := Aside0.mk hz
          clear hz
          generalize cmpZ fp fq = cz at *
          go_wp2
          go_ret
          refine ⟨?_, HB.out.trans ((below_step HBW.out HBc.out).mono HB.out.size)⟩
          have hst := ST.out
          rw [if_neg HZ.out] at hst
          rw [EZ.out, hst, if_neg HZ.out]
          rfl
    · have hend := cmpP_end X Y i hlt
      rw [CP.out] at hend
      have EZ2 : Aside0 (rz = if X.length = Y.length then ce else (X.length : Int) - Y.length) := ⟨by rw [EZ.out, if_pos hend]⟩
      have CE2 := Aside0.mk (CE.out wr (HB.out.trans (HBW.out.mono HB.out.size)))
      have hla := LA.out.1
      have hlb := LB.out.1
      have hwd : wrap64 ((X.length : Int) - (Y.length : Int)) = (X.length : Int) - (Y.length : Int) := w_in _ (by omega) (by omega)
      have hwd2 : IntKind.i64.wrap ((X.length : Int) - (Y.length : Int)) = (X.length : Int) - (Y.length : Int) := by rw [IntKind.wrap_i64]; omega
      clear hend hla hlb
      have key : ((i < X.length) = False) ∨ ((i < X.length) = True ∧ (i < Y.length) = False) := by
        by_cases h1 : i < X.length
        · exact .inr ⟨eq_true h1, eq_false (fun h2 => hlt ⟨h1, h2⟩)⟩
        · exact .inl (eq_false h1)
      clear hlt
      rcases key with hk | ⟨hk1, hk2⟩
      · have d1 : decide ((i : Int) < (X.length : Int)) = false := decide_eq_false (by have := of_eq_false hk; omega)
        have d1n : decide (i < X.length) = false := decide_eq_false (of_eq_false hk)
        clear hk
        by_cases hxy : X.length = Y.length
        · have e1 : ((X.length : Int) == (Y.length : Int)) = true := beq_iff_eq.mpr (by omega)
          have e2 : ((X.length : Int) != (Y.length : Int)) = false := bne_eq_false_iff_eq.mpr (by omega)
          have e3 : (X.length == Y.length) = true := beq_iff_eq.mpr hxy
          rw [if_pos hxy] at EZ2
          clear hxy
          go_wp2_with (go_at_call 57; (with_reducible refine CE2.out.mono ?_); rintro e w7 ⟨rfl, rfl⟩)
          go_ret
          exact ⟨by rw [EZ2.out]; rfl, HB.out.trans (HBW.out.mono HB.out.size)⟩
        · have e1 : ((X.length : Int) == (Y.length : Int)) = false := beq_eq_false_iff_ne.mpr (by omega)
          have e2 : ((X.length : Int) != (Y.length : Int)) = true := bne_iff_ne.mpr (by omega)
          have e3 : (X.length == Y.length) = false := beq_eq_false_iff_ne.mpr hxy
          rw [if_neg hxy] at EZ2
          clear hxy
          go_wp2_with fail
          go_ret
          exact ⟨by rw [EZ2.out]; first | rfl | rw [hwd]; rfl, HB.out.trans (HBW.out.mono HB.out.size)⟩
      · have d1 : decide ((i : Int) < (X.length : Int)) = true := decide_eq_true (by have := of_eq_true hk1; omega)
        have d2 : decide ((i : Int) < (Y.length : Int)) = false := decide_eq_false (by have := of_eq_false hk2; omega)
        have d1n : decide (i < X.length) = true := decide_eq_true (of_eq_true hk1)
        have d2n : decide (i < Y.length) = false := decide_eq_false (of_eq_false hk2)
        have hxy : ¬ X.length = Y.length := by have := of_eq_true hk1; have := of_eq_false hk2; omega
        clear hk1 hk2
        have e1 : ((X.length : Int) == (Y.length : Int)) = false := beq_eq_false_iff_ne.mpr (by omega)
        have e2 : ((X.length : Int) != (Y.length : Int)) = true := bne_iff_ne.mpr (by omega)
        have e3 : (X.length == Y.length) = false := beq_eq_false_iff_ne.mpr hxy
        rw [if_neg hxy] at EZ2
        clear hxy
        go_wp2_with fail
        go_ret
        exact ⟨by rw [EZ2.out]; first | rfl | rw [hwd]; rfl, HB.out.trans (HBW.out.mono HB.out.size)⟩
def lessB (a b : List Int) : Bool := decide (compareZ a b < 0)
theorem less_any (A : Option Addr) (c : Nat) (a : List Int) (A' : Option Addr) (c' : Nat) (b : List Int) (w : World) (ha : Arg w A c a) (hb : Arg w A' c' b) :
    Calls Tryd.prog 9 #[.slice A a.length c, .slice A' b.length c'] w fun e w' => e = .returned (.bool (lessB a b)) ∧ Below w.heap.size w w' := by
  have CP := Aside0.mk (compare_any A c a A' c' b w ha hb)
  clear ha hb
  unfold lessB
  generalize compareZ a b = z at *
  go_enter Tryd.func9, Tryd.ntmps9
  go_wp2_with (go_at_call 32; (with_reducible refine CP.out.mono ?_); rintro e w2 ⟨rfl, hbl⟩; have B2 := Aside0.mk hbl; clear hbl)
  go_ret
  exact ⟨rfl, B2.out⟩
theorem depth_ab : (partsF [97, 47, 98]).length = 2 ∧ errZ (isB []) = 16 := by decide +kernel
set_option maxHeartbeats 4000000 in
set_option maxRecDepth 100000 in
theorem lives_any (w : World) : Calls Tryd.prog 13 #[] w fun e w' => e = .returned (.bool true) ∧ Below w.heap.size w w' := by
  have kc := fun (w : World) (C : Array Value) (n c : Nat) => Lib.run_convert_bytes_const (P := Tryd.prog) w 22 5 C n c Tryd.underlying22 Tryd.underlying5
  have DA : Aside0 (∀ W : World, Calls Tryd.prog 22 #[.slice (some ⟨W.heap.size, 0, Option.none⟩) 3 3] (W.alloc (.cells ([97, 47, 98].map (Value.int .u8)).toArray 5 (3, 4))) fun e w' => e = .returned (.int .i64 2) ∧ Below W.heap.size W w') := ⟨fun W => by
    have h := depth_any (some ⟨W.heap.size, 0, Option.none⟩) 3 [97, 47, 98] (W.alloc (.cells ([97, 47, 98].map (Value.int .u8)).toArray 5 (3, 4))) ⟨MyWords.C_new .u8 W [97, 47, 98] 5 _ (by decide), by decide, by decide, fun h => (by cases h), by decide, by decide⟩
    rw [depth_ab.1] at h
    exact h.mono fun e w' ⟨h1, h2⟩ => ⟨h1, below_step (below_alloc (Below.refl _ _) _) h2⟩⟩
  have CA : Aside0 (∀ W : World, Calls Tryd.prog 15 #[.slice Option.none 0 0] W fun e w' => e = .returned (.int .i64 16) ∧ Below W.heap.size W w') := ⟨fun W => by
    have h := check_any Option.none 0 [] W (Arg.none W)
    rw [depth_ab.2] at h
    exact h⟩
  go_enter Tryd.func13, Tryd.ntmps13
  go_wp2_with (first
    | (go_at_call 22; refine (DA.out w).mono ?_; rintro e w1 ⟨rfl, hb⟩; have B1 := Aside0.mk hb; clear hb)
    | (go_at_call 15; (with_reducible refine (CA.out _).mono ?_); rintro e w2 ⟨rfl, hb⟩; have B2 := Aside0.mk (below_step B1.out hb); clear hb))
  go_ret
  exact ⟨rfl, B2.out⟩
end Go.Proofs.YtbjffjbohpoedaaDoor.Fd
