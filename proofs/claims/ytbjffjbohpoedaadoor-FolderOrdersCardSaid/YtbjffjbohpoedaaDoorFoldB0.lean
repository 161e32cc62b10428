/- folder.Check, walked. -/
import Derived.Test.YtbjffjbohpoedaaDoorFoldA0
namespace Go.Proofs.YtbjffjbohpoedaaDoor.Fd
open Go.Proofs.YtbjffjbohpoedaaDoor.Wd
open Go.RowKit Go.Proofs.YtbjffjbohpoedaaDoorW.PrintWords Go.Proofs.YtbjffjbohpoedaaDoorW.PrintLast Go.Proofs.YtbjffjbohpoedaaDoorW.PrintMore
set_option linter.unusedVariables false
set_option linter.unusedSimpArgs false
/-- a byte that may not be -/
def oddB (x : Int) : Bool := decide (x < 32) || (x == 92) || (x == 58)
theorem strange_eq (x : Int) : FH.folder_strange.f x = some (oddB x) := by
  unfold FH.folder_strange.f oddB
  by_cases h1 : x < 32
  · rw [if_pos h1, decide_eq_true h1]; rfl
  · rw [if_neg h1, decide_eq_false h1, Bool.false_or]
    by_cases h2 : x = 92
    · rw [if_pos h2, beq_iff_eq.mpr h2]; rfl
    · rw [if_neg h2, beq_eq_false_iff_ne.mpr h2, Bool.false_or]
theorem strange_any (x : Int) (w : World) : Calls Tryd.prog 42 #[.int .u8 x] w fun e w' => e = .returned (.bool (oddB x)) ∧ Below w.heap.size w w' :=
  (FH.folder_strange.calls x _ w (strange_eq x)).mono fun e w' ⟨h1, h2⟩ => ⟨h1, Drawn0.below h2⟩
def IXPost (L : List Int) (w : World) (e : Ending) (w' : World) : Prop :=
  ∃ z : Int, e = .returned (.int .i64 z) ∧ Below w.heap.size w w' ∧ decide (z ≥ 0) = L.any oddB
set_option maxHeartbeats 4000000 in
theorem indexf_any (A : Option Addr) (c : Nat) (L : List Int) (w : World) (h : Kd.C (Kd.int .u8) w A L.length L) (hl : L.length ≤ 1000000) :
    Calls Tryd.prog 62 #[.slice A L.length c, .func (.func 42) #[] #[]] w (IXPost L w) := by
  have HC := Aside0.mk h
  have HL := Aside0.mk hl
  have CL := Aside0.mk strange_any
  clear h hl
  go_enter Tryd.func62, Tryd.ntmps62
  go_wp2_with fail
  go_loopw [8] (fun v8 wr => ∃ i : Nat, v8 = .int .i64 i ∧ i ≤ L.length ∧ (∀ j, j < i → oddB (L.getD j 0) = false) ∧ Below w.heap.size w wr) (fun v8 _ => L.length - (intOf v8).toNat)
  case atStart => exact ⟨0, rfl, Nat.zero_le _, fun j hj => by omega, Below.refl _ _⟩
  case round =>
    rename World => wr
    obtain ⟨i, rfl, hi, hnon, hbel⟩ := hrel
    have HB := Aside0.mk hbel
    have HN := Aside0.mk hnon
    clear hbel hnon
    by_cases hlt : i < L.length
    · have d3 : decide ((i : Int) < (L.length : Int)) = true := decide_eq_true (by omega)
      have q3 : (i : Int) < (L.length : Int) := by omega
      obtain ⟨ad, rfl, hcs⟩ := (Kd.reads_of_C (d := (0 : Int)) (Kd.C_below HC.out HB.out)).2.2 (by omega)
      have hcell := hcs i hlt
      obtain ⟨x, hx⟩ : ∃ x : Int, L.getD i 0 = x := ⟨_, rfl⟩
      rw [hx] at hcell
      have HX := Aside0.mk hx
      have CX := Aside0.mk (CL.out x)
      have LT := Aside0.mk hlt
      clear hcs hx
      cases hc : oddB x with
      | true =>
        rw [hc] at CX
        have HCX := Aside0.mk hc
        clear hc
        go_wp2_with (go_at_call 42; (with_reducible refine (CX.out _).mono ?_); rintro e w2 ⟨rfl, hb⟩; have B2 := Aside0.mk (below_step HB.out hb); clear hb)
        go_ret
        refine ⟨_, rfl, B2.out, ?_⟩
        rw [decide_eq_true (by omega)]
        refine (List.any_eq_true.2 ⟨x, ?_, HCX.out⟩).symm
        rw [← HX.out, List.getD_eq_getElem?_getD, List.getElem?_eq_getElem LT.out]
        exact List.getElem_mem LT.out
      | false =>
        rw [hc] at CX
        have HCX := Aside0.mk hc
        have hwk : wrap64 ((i : Int) + 1) = ((i + 1 : Nat) : Int) := by unfold wrap64; have := HL.out; omega
        clear hc
        go_wp2_with (go_at_call 42; (with_reducible refine (CX.out _).mono ?_); rintro e w2 ⟨rfl, hb⟩; have B2 := Aside0.mk (below_step HB.out hb); clear hb)
        go_roundw
        case rel =>
          refine ⟨i + 1, (by first | rfl | rw [hwk] | go_num), by have := LT.out; omega, fun j hj => ?_, B2.out⟩
          by_cases hji : j = i
          · subst hji; rw [HX.out]; exact HCX.out
          · exact HN.out j (by omega)
        case measure => have := LT.out; (try rw [hwk]); simp [intOf]; omega
    · obtain rfl : i = L.length := by omega
      have dd2 : decide ((L.length : Int) < (L.length : Int)) = false := decide_eq_false (by omega)
      clear hlt hi
      go_wp2_with fail
      go_ret
      refine ⟨_, rfl, HB.out, ?_⟩
      rw [show decide ((-1 : Int) ≥ 0) = false from rfl]
      refine (List.any_eq_false.2 fun x hx => ?_).symm
      obtain ⟨j, hj, rfl⟩ := List.mem_iff_getElem.1 hx
      have := HN.out j hj
      rw [List.getD_eq_getElem?_getD, List.getElem?_eq_getElem hj] at this
      rw [show oddB L[j] = false from this]; decide
theorem contains_any (A : Option Addr) (c : Nat) (L : List Int) (w : World) (h : Kd.C (Kd.int .u8) w A L.length L) (hl : L.length ≤ 1000000) :
    Calls Tryd.prog 41 #[.slice A L.length c, .func (.func 42) #[] #[]] w fun e w' => e = .returned (.bool (L.any oddB)) ∧ Below w.heap.size w w' := by
  have HI2 := Aside0.mk (indexf_any A c L w h hl)
  clear h hl
  go_enter Tryd.func41, Tryd.ntmps41
  go_wp2_with (go_at_call 62; (with_reducible refine HI2.out.mono ?_); rintro e w2 ⟨z, rfl, hb, hz⟩; have B2 := Aside0.mk hb; have hz' : decide (0 ≤ z) = L.any oddB := hz; have HZ := Aside0.mk hz; clear hb)
  go_ret
  exact ⟨rfl, B2.out⟩
/-- a piece that may not be -/
def badB (p : List Int) : Bool := decide (p = [] ∨ p = [46] ∨ p = [46, 46])
def isB (L : List Int) : Bool := !L.any oddB && !(piecesL L).any badB
def errZ (b : Bool) : Int := if b then 0 else 16
theorem pieces_rng (L : List Int) (h : ∀ x ∈ L, 0 ≤ x ∧ x ≤ 255) : ∀ p ∈ piecesL L, ∀ x ∈ p, 0 ≤ x ∧ x ≤ 255 := by
  intro p hp x hx
  have h1 := splitL_mem (cutEnd L) p hp x hx
  unfold cutEnd at h1
  split at h1
  · exact h x (List.mem_of_mem_take h1)
  · exact h x h1
theorem pieces_len (L : List Int) : (piecesL L).length ≤ L.length + 1 := by
  have h1 := splitL_length (cutEnd L)
  have h2 := cutEnd_len L
  unfold piecesL
  omega
theorem str_eq (p q : List Int) (hp : ∀ x ∈ p, 0 ≤ x ∧ x ≤ 255) (hq : ∀ x ∈ q, 0 ≤ x ∧ x ≤ 255) : ((strOfNums p).toList == Lib.bytesOf q) = decide (p = q) := by
  rw [Lib.strOfNums_toList]
  by_cases e : p = q
  · subst e; simp
  · rw [decide_eq_false e]
    exact beq_eq_false_iff_ne.2 fun h => e (bytesOf_inj p q (fun x hx => by have := hp x hx; omega) (fun x hx => by have := hq x hx; omega) h)
/-- the three tests of a piece -/
theorem bad_tests (p : List Int) (hp : ∀ x ∈ p, 0 ≤ x ∧ x ≤ 255) : ((strOfNums p).toList == ([] : List UInt8)) = decide (p = []) ∧ ((strOfNums p).toList == ([46] : List UInt8)) = decide (p = [46]) ∧ ((strOfNums p).toList == ([46, 46] : List UInt8)) = decide (p = [46, 46]) :=
  ⟨str_eq p [] hp (by simp), str_eq p [46] hp (by simp), str_eq p [46, 46] hp (by simp)⟩
set_option maxHeartbeats 4000000 in
set_option maxRecDepth 100000 in
theorem check_any (A : Option Addr) (c : Nat) (L : List Int) (w : World) (h : Arg w A c L) :
    Calls Tryd.prog 15 #[.slice A L.length c] w fun e w' => e = .returned (.int .i64 (errZ (isB L))) ∧ Below w.heap.size w w' := by
  have CA := Aside0.mk (contains_any A c L w h.C (by have := h.len; omega))
  have PA := Aside0.mk (fun W (hb : Below w.heap.size w W) => pieces_any A c L W (h.below hb))
  have PR := Aside0.mk (pieces_rng L h.rng)
  have PL : Aside0 ((piecesL L).length ≤ 100001) := ⟨by have := pieces_len L; have := h.len; omega⟩
  clear h
  cases ha : L.any oddB with
  | true =>
    have e : errZ (isB L) = 16 := by unfold isB; rw [ha]; rfl
    rw [ha] at CA
    rw [e]
    clear ha e PR PL PA
    go_enter Tryd.func15, Tryd.ntmps15
    go_wp2_with (go_at_call 41; (with_reducible refine CA.out.mono ?_); rintro e w2 ⟨rfl, hb⟩; have B2 := Aside0.mk hb; clear hb)
    go_ret
    exact ⟨rfl, B2.out⟩
  | false =>
    have HE : Aside0 (isB L = !(piecesL L).any badB) := ⟨by unfold isB; rw [ha]; rfl⟩
    rw [ha] at CA
    clear ha
    obtain ⟨X, hX⟩ : ∃ X, piecesL L = X := ⟨_, rfl⟩
    rw [hX] at PA PR PL HE
    clear hX
    go_enter Tryd.func15, Tryd.ntmps15
    go_wp2_with (first
      | (go_at_call 41; (with_reducible refine CA.out.mono ?_); rintro e w1 ⟨rfl, hb⟩; have B1 := Aside0.mk hb; clear hb)
      | (go_at_call 43; (with_reducible refine (PA.out _ B1.out).mono ?_); rintro e w2 ⟨A2, c2, rfl, hle, hC, hb⟩; have HC := Aside0.mk hC; have HB := Aside0.mk (below_step B1.out hb); clear hle hC hb))
    go_loopw [11] (fun v11 wr => ∃ i : Nat, v11 = .int .i64 i ∧ i ≤ X.length ∧ (∀ j (hj : j < i) (h : j < X.length), badB X[j] = false) ∧ Below w2.heap.size w2 wr) (fun v11 _ => X.length - (intOf v11).toNat)
    case atStart => exact ⟨0, rfl, Nat.zero_le _, fun j hj => by omega, Below.refl _ _⟩
    case round =>
      rename World => wr
      obtain ⟨i, rfl, hi, hnon, hbel⟩ := hrel
      have HBW := Aside0.mk hbel
      have HN := Aside0.mk hnon
      clear hbel hnon
      by_cases hlt : i < X.length
      · have d3 : decide ((i : Int) < (X.length : Int)) = true := decide_eq_true (by omega)
        have q3 : (i : Int) < (X.length : Int) := by omega
        obtain ⟨ad, A3, c3, rfl, hx0, hl0, hC0⟩ := FR.at_L1 (Kd.C_below HC.out HBW.out) (i : Int) (by omega) q3
        obtain ⟨p, hp⟩ : ∃ p, FR.rd_L1 X (i : Int) = p := ⟨_, rfl⟩
        rw [hp] at hx0 hl0 hC0
        rw [Int.toNat_natCast] at hx0
        have hp2 : X[i] = p := by rw [← hp]; unfold FR.rd_L1; rw [Int.toNat_natCast, List.getD_eq_getElem?_getD, List.getElem?_eq_getElem hlt]; rfl
        have hbt := bad_tests p (PR.out p (hp2 ▸ List.getElem_mem hlt))
        obtain ⟨t1, t2, t3⟩ := hbt
        have HP2 := Aside0.mk hp2
        have LT := Aside0.mk hlt
        have hcv := Kd.C_string (P := Tryd.prog) (A := A3) (c := c3) Tryd.underlying22 Tryd.underlying5 Tryd.underlying9 hC0
        have hwk : wrap64 ((i : Int) + 1) = ((i + 1 : Nat) : Int) := by unfold wrap64; have := PL.out; omega
        generalize strOfNums p = s at *
        clear hp hp2 hl0 hC0
        by_cases e1 : p = []
        · rw [decide_eq_true e1] at t1
          have HE1 : Aside0 (isB L = false) := ⟨by rw [HE.out, List.any_eq_true.2 ⟨X[i], List.getElem_mem LT.out, by rw [HP2.out]; unfold badB; exact decide_eq_true (.inl e1)⟩]; rfl⟩
          clear t2 t3 e1
          go_wp2_with fail
          go_ret
          exact ⟨by rw [HE1.out]; rfl, (HB.out).trans (HBW.out.mono HB.out.size)⟩
        · rw [decide_eq_false e1] at t1
          by_cases e2 : p = [46]
          · rw [decide_eq_true e2] at t2
            have HE1 : Aside0 (isB L = false) := ⟨by rw [HE.out, List.any_eq_true.2 ⟨X[i], List.getElem_mem LT.out, by rw [HP2.out]; unfold badB; exact decide_eq_true (.inr (.inl e2))⟩]; rfl⟩
            clear t3 e1 e2
            go_wp2_with fail
            go_ret
            exact ⟨by rw [HE1.out]; rfl, (HB.out).trans (HBW.out.mono HB.out.size)⟩
          · rw [decide_eq_false e2] at t2
            by_cases e3 : p = [46, 46]
            · rw [decide_eq_true e3] at t3
              have HE1 : Aside0 (isB L = false) := ⟨by rw [HE.out, List.any_eq_true.2 ⟨X[i], List.getElem_mem LT.out, by rw [HP2.out]; unfold badB; exact decide_eq_true (.inr (.inr e3))⟩]; rfl⟩
              clear e1 e2 e3
              go_wp2_with fail
              go_ret
              exact ⟨by rw [HE1.out]; rfl, (HB.out).trans (HBW.out.mono HB.out.size)⟩
            · rw [decide_eq_false e3] at t3
              have HNB : Aside0 (badB p = false) := ⟨decide_eq_false (fun h => h.elim e1 (fun h => h.elim e2 e3))⟩
              clear e1 e2 e3
              go_wp2_with fail
              go_roundw
              case rel =>
                refine ⟨i + 1, (by first | rfl | rw [hwk] | go_num), by have := LT.out; omega, fun j hj h => ?_, HBW.out⟩
                by_cases hji : j = i
                · subst hji; rw [HP2.out]; exact HNB.out
                · exact HN.out j (by omega) h
              case measure => have := LT.out; (try rw [hwk]); simp [intOf]; omega
      · obtain rfl : i = X.length := by omega
        have dd2 : decide ((X.length : Int) < (X.length : Int)) = false := decide_eq_false (by omega)
        clear hlt hi
        go_wp2_with fail
        go_ret
        refine ⟨?_, (HB.out).trans (HBW.out.mono HB.out.size)⟩
        rw [HE.out, List.any_eq_false.2 fun x hx => ?_]
        · rfl
        · obtain ⟨j, hj, rfl⟩ := List.mem_iff_getElem.1 hx
          rw [HN.out j hj hj]; decide
end Go.Proofs.YtbjffjbohpoedaaDoor.Fd
