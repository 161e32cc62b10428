/- slices.EqualFunc over parts, walked. -/
import Derived.Test.YtegfcemedkajkaaDoorWildParts1
import Derived.Test.YtegfcemedkajkaaDoorWildGlob1
namespace Go.Proofs.YtegfcemedkajkaaDoor.Wd
open Go.RowKit Go.Proofs.YtegfcemedkajkaaDoorW.PrintWords Go.Proofs.YtegfcemedkajkaaDoorW.PrintLast Go.Proofs.YtegfcemedkajkaaDoorW.PrintMore
set_option linter.unusedVariables false
set_option linter.unusedSimpArgs false
def Good (X : List (List Int)) : Prop := X.length < 1000000000 ∧ ∀ p ∈ X, p.length < 1000000 ∧ ∀ x ∈ p, 0 ≤ x ∧ x < 256
theorem splitL_len : ∀ (l p : List Int), p ∈ splitL l → p.length ≤ l.length
  | [], p, h => by simp [splitL] at h; subst h; simp
  | y :: l, p, h => by
    have ih := splitL_len l
    unfold splitL at h
    by_cases e : y = 47
    · rw [if_pos e] at h
      rcases List.mem_cons.1 h with rfl | h
      · simp
      · have := ih p h; simp; omega
    · rw [if_neg e] at h
      cases hs : splitL l with
      | nil => exact absurd hs (splitL_ne l)
      | cons q qs =>
        rw [hs] at h ih
        simp only at h
        rcases List.mem_cons.1 h with rfl | h
        · have := ih q (by simp); simp; omega
        · have := ih p (by simp [h]); simp; omega
theorem cutEnd_sub (F : List Int) : (∀ x ∈ cutEnd F, x ∈ F) ∧ (cutEnd F).length ≤ F.length := by
  unfold cutEnd
  split
  · exact ⟨fun x hx => List.mem_of_mem_take hx, by rw [List.length_take]; omega⟩
  · exact ⟨fun x hx => hx, Nat.le_refl _⟩
theorem good_parts (L : List Int) (hl : L.length < 1000000) (hr : ∀ x ∈ L, 0 ≤ x ∧ x ≤ 255) : Good (partsL L) := by
  obtain ⟨c1, c2⟩ := cutEnd_sub (L.map fold1)
  rw [List.length_map] at c2
  refine ⟨?_, fun p hp => ⟨?_, fun x hx => ?_⟩⟩
  · have := splitL_length (cutEnd (L.map fold1)); unfold partsL; omega
  · have := splitL_len _ p hp; omega
  · exact fold_range L hr x (c1 x (splitL_mem _ p hp x hx))
theorem part_any (A0 : Option Addr) (c0 : Nat) (p : List Int) (A1 : Option Addr) (c1 : Nat) (s : List Int) (w : World) (h0 : Kd.C (Kd.int .u8) w A0 p.length p) (k0 : p.length ≤ c0) (h1 : Kd.C (Kd.int .u8) w A1 s.length s) (k1 : s.length ≤ c1)
    (hp : p.length < 1000000 ∧ ∀ x ∈ p, 0 ≤ x ∧ x < 256) (hs : s.length < 1000000) :
    Calls Tryd.prog 25 #[.slice A0 p.length c0, .slice A1 s.length c1] w fun e w' => e = .returned (.bool (partB p s)) ∧ Below w.heap.size w w' :=
  (WB.wild_part.calls (bound p s) A0 c0 p A1 c1 s (partB p s) w h0 k0 h1 k1 (part_eq p s hp.1 hs hp.2 _ (Nat.le_refl _))).mono fun e w' ⟨he, hd⟩ => ⟨he, Drawn0.below hd⟩
/-- all parts, one by one -/
def eqParts (X Y : List (List Int)) : Bool := decide (X.length = Y.length) && (List.range X.length).all fun j => partB (X.getD j []) (Y.getD j [])
theorem eqParts_false {X Y : List (List Int)} {i : Nat} (hi : i < X.length) (h : partB (X.getD i []) (Y.getD i []) = false) : eqParts X Y = false := by
  unfold eqParts
  rw [Bool.and_eq_false_iff]
  right
  rw [List.all_eq_false]
  exact ⟨i, List.mem_range.2 hi, by rw [h]; decide⟩
theorem eqParts_true {X Y : List (List Int)} (hn : X.length = Y.length) (h : ∀ j, j < X.length → partB (X.getD j []) (Y.getD j []) = true) : eqParts X Y = true := by
  unfold eqParts
  rw [Bool.and_eq_true, List.all_eq_true]
  exact ⟨decide_eq_true hn, fun j hj => h j (List.mem_range.1 hj)⟩
def ERel (w : World) (X Y : List (List Int)) (v : Value) (w' : World) : Prop :=
  ∃ i : Nat, v = .int .i64 (i : Int) ∧ i ≤ X.length ∧ (∀ j, j < i → partB (X.getD j []) (Y.getD j []) = true) ∧ Below w.heap.size w w'
theorem at_getD {X : List (List Int)} {i : Nat} (h : i < X.length) : X[i]? = some (X.getD i []) := by
  rw [List.getD_eq_getElem?_getD, List.getElem?_eq_getElem h]; rfl
theorem mem_getD {X : List (List Int)} {i : Nat} (h : i < X.length) : X.getD i [] ∈ X := by
  rw [List.getD_eq_getElem?_getD, List.getElem?_eq_getElem h]; exact List.getElem_mem h
theorem PartsAt.len {w : World} {v : Value} {X : List (List Int)} (h : PartsAt w v X) : ∃ b, v = .slice (some ⟨b, 0, none⟩) X.length X.length := by
  obtain ⟨b, h, _⟩ := h; exact ⟨b, h⟩
theorem PartsAt.at_ {w : World} {b n m : Nat} {X : List (List Int)} (h : PartsAt w (.slice (some ⟨b, 0, none⟩) n m) X) (j : Nat) (hj : j < X.length) :
    ∃ A c, w.cell? ⟨b, j, none⟩ = some (.slice A (X.getD j []).length c) ∧ (X.getD j []).length ≤ c ∧ Kd.C (Kd.int .u8) w A (X.getD j []).length (X.getD j []) := by
  obtain ⟨b', hv, _, hc⟩ := h
  injection hv with h1 h2 h3
  injection h1 with h1
  injection h1 with h1
  subst h1
  exact hc j _ (at_getD hj)
set_option maxHeartbeats 8000000 in
set_option maxRecDepth 100000 in
theorem equalfunc_any (v1 v2 : Value) (X Y : List (List Int)) (w : World) (h1 : PartsAt w v1 X) (h2 : PartsAt w v2 Y) (gX : Good X) (gY : Good Y) :
    Calls Tryd.prog 26 #[v1, v2, .func (.func 25) #[] #[]] w fun e w' => e = .returned (.bool (eqParts X Y)) ∧ Below w.heap.size w w' := by
  obtain ⟨b1, rfl⟩ := h1.len
  obtain ⟨b2, rfl⟩ := h2.len
  by_cases hn : X.length = Y.length
  · have c1 : (((X.length : Nat) : Int) != ((Y.length : Nat) : Int)) = false := bne_eq_false_iff_eq.mpr (by omega)
    have H1 := Aside0.mk h1
    have H2 := Aside0.mk h2
    have GX := Aside0.mk gX
    have GY := Aside0.mk gY
    have HN := Aside0.mk hn
    clear h1 h2 gX gY hn
    go_enter Tryd.func26, Tryd.ntmps26
    go_wp2
    go_loopw [17] (fun v17 wr => ERel w X Y v17 wr) (fun v17 _ => X.length - (intOf v17).toNat)
    case atStart => exact ⟨0, rfl, by omega, by simp, Below.refl _ _⟩
    case round =>
      obtain ⟨i, rfl, hi0, hall0, hb0⟩ := hrel
      have hi := Aside0.mk hi0
      have HA := Aside0.mk hall0
      have HB := Aside0.mk hb0
      clear hi0 hall0 hb0
      by_cases c : i < X.length
      · have q1 : decide ((i : Int) < (X.length : Int)) = true := decide_eq_true (by omega)
        have q3 : i < Y.length := by have := HN.out; omega
        have q4 : (i : Int) < (Y.length : Int) := by omega
        have q5 : (i : Int) < (X.length : Int) := by omega
        have q2 : decide ((i : Int) < (Y.length : Int)) = true := decide_eq_true (by have := HN.out; omega)
        obtain ⟨A1, k1, e1, l1, C1⟩ := (H1.out.below HB.out).at_ i c
        obtain ⟨A2, k2, e2, l2, C2⟩ := (H2.out.below HB.out).at_ i (by have := HN.out; omega)
        have hp := GX.out.2 _ (mem_getD c)
        have hs := (GY.out.2 _ (mem_getD (show i < Y.length by have := HN.out; omega))).1
        have PA := Aside0.mk (part_any A1 k1 _ A2 k2 _ wr C1 l1 C2 l2 hp hs)
        have wi := wr_inc i (by have := GX.out.1; omega)
        have HI := Aside0.mk c
        clear C1 C2 l1 l2 hp hs c
        generalize hX : X.getD i [] = p at *
        generalize hY : Y.getD i [] = s at *
        have HX := Aside0.mk hX
        have HY := Aside0.mk hY
        clear hX hY
        cases hr : partB p s with
        | false =>
          rw [hr] at PA
          have HR := Aside0.mk hr
          clear hr
          go_wp2_with (go_at_call 25; refine PA.out.mono ?_; rintro e w1 ⟨rfl, hb1⟩; have HB1 := Aside0.mk hb1; clear hb1)
          go_ret
          exact ⟨by rw [eqParts_false HI.out (by rw [HX.out, HY.out]; exact HR.out)]; rfl, below_step HB.out HB1.out⟩
        | true =>
          rw [hr] at PA
          have HR := Aside0.mk hr
          clear hr
          go_wp2_with (go_at_call 25; refine PA.out.mono ?_; rintro e w1 ⟨rfl, hb1⟩; have HB1 := Aside0.mk hb1; clear hb1)
          go_roundw
          case rel =>
            refine ⟨i + 1, by go_num, HI.out, fun j hj => ?_, below_step HB.out HB1.out⟩
            by_cases e : j = i
            · subst e; rw [HX.out, HY.out]; exact HR.out
            · exact HA.out j (by omega)
          case measure => have := HI.out; simp [intOf]; omega
      · have q1 : decide ((i : Int) < (X.length : Int)) = false := decide_eq_false (by omega)
        go_wp2
        go_ret
        exact ⟨by rw [eqParts_true HN.out (fun j hj => HA.out j (by omega))]; rfl, HB.out⟩
  · have c1 : (((X.length : Nat) : Int) != ((Y.length : Nat) : Int)) = true := bne_iff_ne.mpr (by omega)
    have e : eqParts X Y = false := by unfold eqParts; rw [decide_eq_false hn]; rfl
    rw [e]
    clear h1 h2 gX gY hn e
    go_enter Tryd.func26, Tryd.ntmps26
    go_wp2
    go_ret
    exact ⟨rfl, Below.refl _ _⟩
def matchB (l0 l1 : List Int) : Bool := if (partsL l0).length = 1 then partB ((partsL l0).getD 0 []) ((partsL l1).getD ((partsL l1).length - 1) []) else eqParts (partsL l0) (partsL l1)
theorem parts_pos (l : List Int) : ∃ m, (partsL l).length = m + 1 := by
  have := splitL_ne (cutEnd (l.map fold1))
  refine ⟨(partsL l).length - 1, ?_⟩
  have h : 0 < (partsL l).length := List.length_pos_iff.2 this
  omega
theorem PartsAt.len' {w : World} {v : Value} {X : List (List Int)} {n : Nat} (h : PartsAt w v X) (hn : X.length = n) : ∃ b, v = .slice (some ⟨b, 0, none⟩) n n := by
  obtain ⟨b, h⟩ := h.len; exact ⟨b, by rw [h, hn]⟩
theorem part_quiet (A0 : Option Addr) (c0 : Nat) (p : List Int) (A1 : Option Addr) (c1 : Nat) (s : List Int) (w : World) (h0 : Kd.C (Kd.int .u8) w A0 p.length p) (k0 : p.length ≤ c0) (h1 : Kd.C (Kd.int .u8) w A1 s.length s) (k1 : s.length ≤ c1)
    (hp : p.length < 1000000 ∧ ∀ x ∈ p, 0 ≤ x ∧ x < 256) (hs : s.length < 1000000) (n : Nat) :
    Calls Tryd.prog 25 #[.slice A0 p.length c0, .slice A1 s.length c1] (w.drewN n) fun e w' => e = .returned (.bool (partB p s)) ∧ ∃ m, w' = (w.drewN n).drewN m :=
  (WB.wild_part.calls (bound p s) A0 c0 p A1 c1 s (partB p s) (w.drewN n) (Kd.C_drewN h0 n) k0 (Kd.C_drewN h1 n) k1 (part_eq p s hp.1 hs hp.2 _ (Nat.le_refl _))).mono fun e w' ⟨he, hd⟩ => ⟨he, hd.out⟩
set_option maxHeartbeats 8000000 in
set_option maxRecDepth 100000 in
theorem match_one (A0 : Option Addr) (c0 n0 : Nat) (A1 : Option Addr) (c1 n1 m : Nat) (X Y : List (List Int)) (w : World) (hX : X.length = 1) (hY : Y.length = m + 1) (gX : Good X) (gY : Good Y)
    (f0 : ∀ W, Below w.heap.size w W → Calls Tryd.prog 24 #[.slice A0 n0 c0] W (PPost W X)) (f1 : ∀ W, Below w.heap.size w W → Calls Tryd.prog 24 #[.slice A1 n1 c1] W (PPost W Y)) :
    Calls Tryd.prog 10 #[.slice A0 n0 c0, .slice A1 n1 c1] w fun e w' => e = .returned (.bool (partB (X.getD 0 []) (Y.getD m []))) ∧ Below w.heap.size w w' := by
  obtain ⟨t1, t2, t3, t4, t5, t6⟩ := parts_facts m (by have := gY.1; omega)
  have u1 : m < m + 1 := by omega
  have PX := (gX.2 _ (mem_getD (X := X) (i := 0) (by omega)))
  have PY := (gY.2 _ (mem_getD (X := Y) (i := m) (by omega))).1
  have HX := Aside0.mk hX
  have HY := Aside0.mk hY
  have F0 := Aside0.mk f0
  have F1 := Aside0.mk f1
  generalize hp : X.getD 0 [] = p at *
  generalize hs : Y.getD m [] = s at *
  have HP := Aside0.mk hp
  have HS := Aside0.mk hs
  have HPX := Aside0.mk PX
  have HPY := Aside0.mk PY
  clear hX hY gX gY f0 f1 hp hs PX PY
  go_enter Tryd.func10, Tryd.ntmps10
  go_wp2_with (first
    | (go_at_call 24; (with_reducible refine (F0.out _ (Below.refl _ _)).mono ?_); rintro e w1 ⟨v1, rfl, hp1, hb1⟩; obtain ⟨b1, rfl⟩ := hp1.len' HX.out; have B1 := Aside0.mk hb1; have P1 := Aside0.mk hp1; clear hp1 hb1)
    | (go_at_call 24; (with_reducible refine (F1.out _ B1.out).mono ?_); rintro e w2 ⟨v2, rfl, hp2, hb2⟩; obtain ⟨b2, rfl⟩ := hp2.len' HY.out; have B2 := Aside0.mk (below_step B1.out hb2); have hq1 := (P1.out.below hb2).at_ 0 (by rw [HX.out]; omega); have hq2 := hp2.at_ m (by rw [HY.out]; omega); rw [HP.out] at hq1; rw [HS.out] at hq2; obtain ⟨A2, c2, e2, k2, C2⟩ := hq1; obtain ⟨A3, c3, e3, k3, C3⟩ := hq2; have PA := Aside0.mk (part_quiet A2 c2 p A3 c3 s w2 C2 k2 C3 k3 HPX.out HPY.out); clear hp2 hb2 C2 k2 C3 k3))
  go_quiet ((go_at_call 25; exact Calls.quiet_of (PA.out _)))
  go_wp2
  go_ret
  exact ⟨rfl, pw_below_drewN B2.out _⟩
set_option maxHeartbeats 8000000 in
set_option maxRecDepth 100000 in
theorem match_many (A0 : Option Addr) (c0 n0 : Nat) (A1 : Option Addr) (c1 n1 : Nat) (X Y : List (List Int)) (w : World) (hX : X.length ≠ 1) (gX : Good X) (gY : Good Y)
    (f0 : ∀ W, Below w.heap.size w W → Calls Tryd.prog 24 #[.slice A0 n0 c0] W (PPost W X)) (f1 : ∀ W, Below w.heap.size w W → Calls Tryd.prog 24 #[.slice A1 n1 c1] W (PPost W Y)) :
    Calls Tryd.prog 10 #[.slice A0 n0 c0, .slice A1 n1 c1] w fun e w' => e = .returned (.bool (eqParts X Y)) ∧ Below w.heap.size w w' := by
  have q1 : (((X.length : Nat) : Int) == 1) = false := beq_eq_false_iff_ne.mpr (by omega)
  have F0 := Aside0.mk f0
  have F1 := Aside0.mk f1
  have GX := Aside0.mk gX
  have GY := Aside0.mk gY
  clear hX gX gY f0 f1
  go_enter Tryd.func10, Tryd.ntmps10
  go_wp2_with (first
    | (go_at_call 24; (with_reducible refine (F0.out _ (Below.refl _ _)).mono ?_); rintro e w1 ⟨v1, rfl, hp1, hb1⟩; obtain ⟨b1, rfl⟩ := hp1.len; have B1 := Aside0.mk hb1; have P1 := Aside0.mk hp1; clear hp1 hb1)
    | (go_at_call 24; (with_reducible refine (F1.out _ B1.out).mono ?_); rintro e w2 ⟨v2, rfl, hp2, hb2⟩; obtain ⟨b2, rfl⟩ := hp2.len; have B2 := Aside0.mk (below_step B1.out hb2); have P2 := Aside0.mk hp2; have P1' := Aside0.mk (P1.out.below hb2); clear hp2 hb2)
    | (go_at_call 26; (with_reducible refine (equalfunc_any _ _ X Y _ P1'.out P2.out GX.out GY.out).mono ?_); rintro e w3 ⟨rfl, hb3⟩; have B3 := Aside0.mk (below_step B2.out hb3); clear hb3))
  go_ret
  exact ⟨rfl, B3.out⟩
theorem match_any (A0 : Option Addr) (c0 : Nat) (l0 : List Int) (A1 : Option Addr) (c1 : Nat) (l1 : List Int) (w : World) (h0 : Kd.C (Kd.int .u8) w A0 l0.length l0) (h1 : Kd.C (Kd.int .u8) w A1 l1.length l1)
    (n0 : l0.length < 1000000) (n1 : l1.length < 1000000) (r0 : ∀ x ∈ l0, 0 ≤ x ∧ x ≤ 255) (r1 : ∀ x ∈ l1, 0 ≤ x ∧ x ≤ 255) :
    Calls Tryd.prog 10 #[.slice A0 l0.length c0, .slice A1 l1.length c1] w fun e w' => e = .returned (.bool (matchB l0 l1)) ∧ Below w.heap.size w w' := by
  have g0 := good_parts l0 n0 r0
  have g1 := good_parts l1 n1 r1
  have f0 := fun W (hb : Below w.heap.size w W) => parts_any A0 c0 l0 W (Kd.C_below h0 hb) (by omega) r0
  have f1 := fun W (hb : Below w.heap.size w W) => parts_any A1 c1 l1 W (Kd.C_below h1 hb) (by omega) r1
  obtain ⟨m, hm⟩ := parts_pos l1
  unfold matchB
  by_cases c : (partsL l0).length = 1
  · rw [if_pos c, hm, Nat.add_sub_cancel]
    exact match_one A0 c0 _ A1 c1 _ m _ _ w c hm g0 g1 f0 f1
  · rw [if_neg c]
    exact match_many A0 c0 _ A1 c1 _ _ _ w c g0 g1 f0 f1
end Go.Proofs.YtegfcemedkajkaaDoor.Wd
