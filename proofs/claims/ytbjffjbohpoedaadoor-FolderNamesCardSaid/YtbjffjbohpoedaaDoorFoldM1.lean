/- package folder but Clean, walked. -/
import Derived.Test.YtbjffjbohpoedaaDoorWildParts0
import Derived.Test.YtbjffjbohpoedaaDoorFHx1
import Derived.Test.YtbjffjbohpoedaaDoorFRx0
import Derived.Great.BuildSlice
import Derived.Lib.Bytes
import Derived.Test.YtbjffjbohpoedaaDoorWApart
import Derived.Lib.SlBytesConst
import Derived.Lib.SlBuf
import Derived.Lib.Join
import Derived.Laws.IdiomCopy
import Derived.Deep.RegionLaw
import Derived.Deep.RegionHeld3
import Derived.Lib.BytesEntry
import Derived.Lib.Bytealg
import Derived.Laws.Externs
namespace Go.Proofs.YtbjffjbohpoedaaDoor.Fd
open Go.Proofs.YtbjffjbohpoedaaDoor.Wd
open Go.RowKit Go.Proofs.YtbjffjbohpoedaaDoorW.PrintWords Go.Proofs.YtbjffjbohpoedaaDoorW.PrintLast Go.Proofs.YtbjffjbohpoedaaDoorW.PrintMore
set_option linter.unusedVariables false
set_option linter.unusedSimpArgs false
/-- ends with a slash -/
def isFB (L : List Int) : Bool := decide (0 < L.length ∧ L.getD (L.length - 1) 0 = 47)
/-- bytes that are only read -/
structure Arg (w : World) (A : Option Addr) (c : Nat) (L : List Int) : Prop where
  C : Kd.C (Kd.int .u8) w A L.length L
  le : L.length ≤ c
  cap : c ≤ 9223372036854775807
  nil : A = none → c = 0
  rng : ∀ x ∈ L, 0 ≤ x ∧ x ≤ 255
  len : L.length ≤ 100000
theorem Arg.below {w w1 : World} {A : Option Addr} {c : Nat} {L : List Int} (h : Arg w A c L) (hb : Below w.heap.size w w1) : Arg w1 A c L := ⟨Kd.C_below h.C hb, h.le, h.cap, h.nil, h.rng, h.len⟩
theorem Arg.take {w : World} {A : Option Addr} {c : Nat} {L : List Int} (h : Arg w A c L) (n : Nat) : Arg w A c (L.take n) :=
  ⟨by
    by_cases e : n ≤ L.length
    · have := Kd.C_take (m := n) h.C (by omega)
      exact this
    · rw [List.take_of_length_le (by omega)]; exact h.C, by rw [List.length_take]; have := h.le; omega, h.cap, h.nil, fun x hx => h.rng x (List.mem_of_mem_take hx), by rw [List.length_take]; have := h.len; omega⟩
theorem w_in (x : Int) (h0 : -9000000000000000000 ≤ x) (h1 : x ≤ 9000000000000000000) : wrap64 x = x := by unfold wrap64; omega
theorem suffix_eq (L : List Int) (hl : L.length ≤ 100000) (hr : ∀ x ∈ L, 0 ≤ x ∧ x ≤ 255) : FH.bytes_HasSuffix.f L [47] = some (isFB L) := by
  unfold FH.bytes_HasSuffix.f isFB
  by_cases h : 0 < L.length
  · obtain ⟨m, hm⟩ : ∃ m, L.length = m + 1 := ⟨L.length - 1, by omega⟩
    have e1 : wrap64 ((L.length : Int) - (([47] : List Int).length : Int)) = (m : Int) := by rw [w_in _ (by simp; omega) (by simp; omega)]; simp; omega
    rw [if_pos (by simp; omega), e1, if_pos (by omega), if_pos (by omega), Int.toNat_natCast]
    have e2 : L.drop m = [L.getD m 0] := by
      rw [List.drop_eq_getElem_cons (by omega), List.drop_eq_nil_of_le (by omega), List.getD_eq_getElem?_getD, List.getElem?_eq_getElem (by omega)]; rfl
    have hmem : L.getD m 0 ∈ L := by rw [List.getD_eq_getElem?_getD, List.getElem?_eq_getElem (by omega)]; exact List.getElem_mem _
    have hb := hr _ hmem
    rw [e2, hm, Nat.add_sub_cancel]
    generalize L.getD m 0 = x at *
    unfold FH.bytes_Equal.f
    rw [Option.bind_some, Lib.strOfNums_toList, Lib.strOfNums_toList]
    congr 1
    by_cases e : x = 47
    · subst e; simp
    · rw [decide_eq_false (fun h => e h.2)]
      refine beq_eq_false_iff_ne.2 fun h2 => e ?_
      have := bytesOf_inj [x] [47] (by simp; omega) (by simp) h2
      simpa using this
  · rw [if_neg (by simp; omega), decide_eq_false (fun h2 => h h2.1)]
def SPost (w : World) (e : Ending) (w' : World) : Prop :=
  ∃ b : Nat, e = .returned (.slice (some ⟨b, 0, none⟩) 1 1) ∧ w'.cell? ⟨b, 0, none⟩ = some (.int .u8 47) ∧ Kd.C (Kd.int .u8) w' (some ⟨b, 0, none⟩) 1 [47] ∧ Below w.heap.size w w'
theorem slash_any (w : World) : Calls Tryd.prog 37 #[] w (SPost w) := by
  have H1 := Aside0.mk (MyWords.C_new .u8 w [47] 5 (0, 0) (by decide))
  have H2 : Aside0 ((w.alloc (.cells ([47].map (Value.int .u8)).toArray 5)).cell? ⟨w.heap.size, 0, none⟩ = some (.int .u8 47)) := ⟨by rw [cell_of_row _ _ 0 _ _ _ (heap_alloc_new w _)]; rfl⟩
  go_enter Tryd.func37, Tryd.ntmps37
  go_wp2_with (refine wpList_buildFlat rfl 22 5 1 _ rfl .u8 [47] Tryd.underlying22 (by kernel_rfl) (by kernel_rfl) (by decide) (by decide) (by decide) (by kernel_rfl) ?_)
  go_ret
  exact ⟨_, rfl, H2.out, H1.out, below_alloc (Below.refl _ _) _⟩
theorem suffix_any (A : Option Addr) (c : Nat) (L : List Int) (b : Addr) (w : World) (h : Arg w A c L) (hs : Kd.C (Kd.int .u8) w (some b) 1 [47]) :
    Calls Tryd.prog 47 #[.slice A L.length c, .slice (some b) 1 1] w fun e w' => e = .returned (.bool (isFB L)) ∧ Below w.heap.size w w' :=
  (FH.bytes_HasSuffix.calls A c L (some b) 1 [47] (isFB L) w h.C h.le hs (by simp) (suffix_eq L h.len h.rng)).mono fun e w' ⟨h1, h2⟩ => ⟨h1, Drawn0.below h2⟩
theorem isFolder_any (A : Option Addr) (c : Nat) (L : List Int) (w : World) (h : Arg w A c L) :
    Calls Tryd.prog 24 #[.slice A L.length c] w fun e w' => e = .returned (.bool (isFB L)) ∧ Below w.heap.size w w' := by
  have SL := Aside0.mk slash_any
  have SX := Aside0.mk (fun b W (hb : Below w.heap.size w W) hs => suffix_any A c L b W (h.below hb) hs)
  clear h
  go_enter Tryd.func24, Tryd.ntmps24
  go_wp2_with (first
    | (go_at_call 37; (with_reducible refine (SL.out _).mono ?_); rintro e w1 ⟨b1, rfl, hc, hC, hb⟩; have HB1 := Aside0.mk hb; have HS1 := Aside0.mk hc; have HC1 := Aside0.mk hC; clear hc hC hb)
    | (go_at_call 47; (with_reducible refine (SX.out _ _ HB1.out HC1.out).mono ?_); rintro e w2 ⟨rfl, hb⟩; have HB := Aside0.mk (below_step HB1.out hb); clear hb))
  go_ret
  exact ⟨rfl, HB.out⟩
theorem slice_last (A : Option Addr) (c m : Nat) (L : List Int) (hF : L.length = m + 1) (hc : m + 1 ≤ c) : ∀ W : World, (Instr.slice 22 (.slice A (m + 1) c) none (some (.int .i64 (m : Int))) none).run Tryd.prog W = .ok (.slice A m c) W := by
  obtain ⟨ys, hy, h1, h2, _⟩ := MyWords.take_letter (P := Tryd.prog) .u8 22 5 .i64 Tryd.underlying22 (by kernel_rfl) A c L (m : Int) (by omega) (by omega) (by omega)
  have e : ys = L.take m := by have h : ys = L.take (m : Int).toNat := hy; rwa [Int.toNat_natCast] at h
  have el : ys.length = m := by rw [e, List.length_take]; omega
  rw [hF, el] at h1
  exact h1
set_option maxHeartbeats 1000000 in
theorem trim_any (A : Option Addr) (c : Nat) (L : List Int) (b : Addr) (w : World) (h : Arg w A c L) (hs : Kd.C (Kd.int .u8) w (some b) 1 [47]) :
    Calls Tryd.prog 63 #[.slice A L.length c, .slice (some b) 1 1] w fun e w' => e = .returned (.slice A (cutEnd L).length c) ∧ Below w.heap.size w w' := by
  have SX := Aside0.mk (suffix_any A c L b w h hs)
  by_cases g : 0 < L.length ∧ L.getD (L.length - 1) 0 = 47
  · have e : isFB L = true := decide_eq_true g
    rw [e] at SX
    obtain ⟨m, hm⟩ : ∃ m, L.length = m + 1 := ⟨L.length - 1, by omega⟩
    have e2 : (cutEnd L).length = m := by unfold cutEnd; rw [if_pos g, List.length_take]; omega
    have hlen := h.len
    have hle := h.le
    have hsl := slice_last A c m L hm (by omega)
    have hsub : IntKind.i64.wrap (((m + 1 : Nat) : Int) - 1) = (m : Int) := by rw [IntKind.wrap_i64]; omega
    have hw64 : wrap64 (m : Int) = (m : Int) := w_in _ (by omega) (by omega)
    rw [e2]
    rw [hm] at SX ⊢
    clear h hs g e e2 hm hlen hle
    go_enter Tryd.func63, Tryd.ntmps63
    go_wp2_with (go_at_call 47; (with_reducible refine SX.out.mono ?_); rintro e w2 ⟨rfl, hb⟩; have HB := Aside0.mk hb; clear hb)
    go_ret
    exact ⟨rfl, HB.out⟩
  · have e : isFB L = false := decide_eq_false g
    rw [e] at SX
    have e2 : cutEnd L = L := if_neg g
    rw [e2]
    clear h hs g e e2
    go_enter Tryd.func63, Tryd.ntmps63
    go_wp2_with (go_at_call 47; (with_reducible refine SX.out.mono ?_); rintro e w2 ⟨rfl, hb⟩; have HB := Aside0.mk hb; clear hb)
    go_ret
    exact ⟨rfl, HB.out⟩
/-- rows that are only read -/
def RowsPost (w : World) (X : List (List Int)) (e : Ending) (w' : World) : Prop :=
  ∃ A c, e = .returned (.slice A X.length c) ∧ X.length ≤ c ∧ Kd.C (Kd.slice 5 (Kd.int .u8)) w' A X.length X ∧ Below w.heap.size w w'
theorem add_zero (g j : Nat) : (⟨g, 0, none⟩ : Addr).add j = ⟨g, j, none⟩ := by simp [Addr.add]; intro h; exact h.symm
theorem parts_C {w : World} {v : Value} {X : List (List Int)} (h : PartsAt w v X) (hx : X.length ≤ 9223372036854775807) : ∃ A, v = .slice A X.length X.length ∧ Kd.C (Kd.slice 5 (Kd.int .u8)) w A X.length X := by
  obtain ⟨b, rfl, hb, hc⟩ := h
  refine ⟨some ⟨b, 0, none⟩, rfl, rfl, hx, fun hn => ⟨_, rfl, fun j xs hj => ?_⟩⟩
  obtain ⟨A, c, h1, h2, h3⟩ := hc j xs hj
  refine ⟨[.slice A xs.length c], rfl, ⟨A, c, rfl, h2, h3⟩, fun i u hu => ?_⟩
  cases i with
  | zero =>
    have : u = .slice A xs.length c := by simpa using hu.symm
    subst this
    show w.cell? ((⟨b, 0, none⟩ : Addr).add (j * 1 + 0)) = _
    rw [Nat.mul_one, Nat.add_zero, add_zero]
    exact h1
  | succ i => simp at hu
def piecesL (L : List Int) : List (List Int) := splitL (cutEnd L)
theorem cutEnd_len (L : List Int) : (cutEnd L).length ≤ L.length := by
  unfold cutEnd; split
  · rw [List.length_take]; omega
  · exact Nat.le_refl _
theorem cutEnd_arg {w : World} {A : Option Addr} {c : Nat} {L : List Int} (h : Arg w A c L) : Arg w A c (cutEnd L) := by
  unfold cutEnd; split
  · exact h.take _
  · exact h
theorem split_any (A : Option Addr) (c : Nat) (F : List Int) (b2 : Nat) (w : World) (h : Arg w A c F) (hsep : w.cell? ⟨b2, 0, none⟩ = some (.int .u8 47)) :
    Calls Tryd.prog 40 #[.slice A F.length c, .slice (some ⟨b2, 0, none⟩) 1 1] w (RowsPost w (splitL F)) := by
  have hl := splitL_length F
  have h5 := h.len
  have key : Calls Tryd.prog 40 #[.slice A F.length c, .slice (some ⟨b2, 0, none⟩) 1 1] w fun e w' => ∃ v, e = .returned v ∧ PartsAt w' v (splitL F) ∧ Below w.heap.size w w' := by
    cases A with
    | some a1 => exact split_some a1 c F b2 w h.C h.le (by omega) h.cap (fun x hx => by have := h.rng x hx; omega) hsep
    | none =>
      have hc := h.nil rfl
      have hle := h.le
      subst hc
      obtain rfl : F = [] := List.eq_nil_of_length_eq_zero (by omega)
      exact split_nil b2 w hsep
  refine key.mono ?_
  rintro e w' ⟨v, rfl, hp, hb⟩
  obtain ⟨A', rfl, hC⟩ := parts_C hp (by omega)
  exact ⟨A', _, rfl, Nat.le_refl _, hC, hb⟩
set_option maxHeartbeats 1000000 in
theorem pieces_any (A : Option Addr) (c : Nat) (L : List Int) (w : World) (h : Arg w A c L) : Calls Tryd.prog 43 #[.slice A L.length c] w (RowsPost w (piecesL L)) := by
  have S1 := Aside0.mk (slash_any w)
  have SL := Aside0.mk slash_any
  have TR := Aside0.mk (fun b W (hb : Below w.heap.size w W) hs => trim_any A c L b W (h.below hb) hs)
  have SP := Aside0.mk (fun b W (hb : Below w.heap.size w W) hs => split_any A c (cutEnd L) b W (cutEnd_arg (h.below hb)) hs)
  unfold piecesL
  generalize hn : (cutEnd L).length = n at *
  clear h
  go_enter Tryd.func43, Tryd.ntmps43
  go_wp2_with (first
    | (go_at_call 37; (with_reducible refine S1.out.mono ?_); rintro e w1 ⟨b1, rfl, hc, hC, hb⟩; have HB1 := Aside0.mk hb; have HC1 := Aside0.mk hC; clear hc hC hb S1)
    | (go_at_call 63; (with_reducible refine (TR.out _ _ HB1.out HC1.out).mono ?_); rintro e w2 ⟨rfl, hb⟩; have HB2 := Aside0.mk (below_step HB1.out hb); clear hb)
    | (go_at_call 37; (with_reducible refine (SL.out _).mono ?_); rintro e w3 ⟨b3, rfl, hc, hC, hb⟩; have HB3 := Aside0.mk (below_step HB2.out hb); have HS3 := Aside0.mk hc; clear hc hC hb)
    | (go_at_call 40; (with_reducible refine (SP.out _ _ HB3.out HS3.out).mono ?_); rintro e w4 ⟨A3, c3, rfl, hle, hC, hb⟩; have HL3 := Aside0.mk hle; have HC3 := Aside0.mk hC; have HB4 := Aside0.mk (below_step HB3.out hb); clear hle hC hb))
  go_ret
  exact ⟨_, _, rfl, HL3.out, HC3.out, HB4.out⟩
end Go.Proofs.YtbjffjbohpoedaaDoor.Fd

namespace Go.Proofs.YtbjffjbohpoedaaDoor.Fd
open Go.Proofs.YtbjffjbohpoedaaDoor.Wd
open Go.RowKit Go.Proofs.YtbjffjbohpoedaaDoorW.PrintWords Go.Proofs.YtbjffjbohpoedaaDoorW.PrintLast Go.Proofs.YtbjffjbohpoedaaDoorW.PrintMore
set_option linter.unusedVariables false
set_option linter.unusedSimpArgs false
/-- a byte that may not be -/
def oddB (x : Int) : Bool := decide (x < 32) || (x == 92) || (x == 58)
theorem strange_eq (x : Int) : FH.folder_strange.f x = some (oddB x) := by
  unfold FH.folder_strange.f oddB
  by_cases h1 : x < 32
  · rw [if_pos h1, decide_eq_true h1]; rfl
  · rw [if_neg h1, decide_eq_false h1, Bool.false_or]
    by_cases h2 : x = 92
    · rw [if_pos h2, beq_iff_eq.mpr h2]; rfl
    · rw [if_neg h2, beq_eq_false_iff_ne.mpr h2, Bool.false_or]
theorem strange_any (x : Int) (w : World) : Calls Tryd.prog 42 #[.int .u8 x] w fun e w' => e = .returned (.bool (oddB x)) ∧ Below w.heap.size w w' :=
  (FH.folder_strange.calls x _ w (strange_eq x)).mono fun e w' ⟨h1, h2⟩ => ⟨h1, Drawn0.below h2⟩
def IXPost (L : List Int) (w : World) (e : Ending) (w' : World) : Prop :=
  ∃ z : Int, e = .returned (.int .i64 z) ∧ Below w.heap.size w w' ∧ decide (z ≥ 0) = L.any oddB
set_option maxHeartbeats 4000000 in
theorem indexf_any (A : Option Addr) (c : Nat) (L : List Int) (w : World) (h : Kd.C (Kd.int .u8) w A L.length L) (hl : L.length ≤ 1000000) :
    Calls Tryd.prog 62 #[.slice A L.length c, .func (.func 42) #[] #[]] w (IXPost L w) := by
  have HC := Aside0.mk h
  have HL := Aside0.mk hl
  have CL := Aside0.mk strange_any
  clear h hl
  go_enter Tryd.func62, Tryd.ntmps62
  go_wp2_with fail
  go_loopw [8] (fun v8 wr => ∃ i : Nat, v8 = .int .i64 i ∧ i ≤ L.length ∧ (∀ j, j < i → oddB (L.getD j 0) = false) ∧ Below w.heap.size w wr) (fun v8 _ => L.length - (intOf v8).toNat)
  case atStart => exact ⟨0, rfl, Nat.zero_le _, fun j hj => by omega, Below.refl _ _⟩
  case round =>
    rename World => wr
    obtain ⟨i, rfl, hi, hnon, hbel⟩ := hrel
    have HB := Aside0.mk hbel
    have HN := Aside0.mk hnon
    clear hbel hnon
    by_cases hlt : i < L.length
    · have d3 : decide ((i : Int) < (L.length : Int)) = true := decide_eq_true (by omega)
      have q3 : (i : Int) < (L.length : Int) := by omega
      obtain ⟨ad, rfl, hcs⟩ := (Kd.reads_of_C (d := (0 : Int)) (Kd.C_below HC.out HB.out)).2.2 (by omega)
      have hcell := hcs i hlt
      obtain ⟨x, hx⟩ : ∃ x : Int, L.getD i 0 = x := ⟨_, rfl⟩
      rw [hx] at hcell
      have HX := Aside0.mk hx
      have CX := Aside0.mk (CL.out x)
      have LT := Aside0.mk hlt
      clear hcs hx
      cases hc : oddB x with
      | true =>
        rw [hc] at CX
        have HCX := Aside0.mk hc
        clear hc
        go_wp2_with (go_at_call 42; (with_reducible refine (CX.out _).mono ?_); rintro e w2 ⟨rfl, hb⟩; have B2 := Aside0.mk (below_step HB.out hb); clear hb)
        go_ret
        refine ⟨_, rfl, B2.out, ?_⟩
        rw [decide_eq_true (by omega)]
        refine (List.any_eq_true.2 ⟨x, ?_, HCX.out⟩).symm
        rw [← HX.out, List.getD_eq_getElem?_getD, List.getElem?_eq_getElem LT.out]
        exact List.getElem_mem LT.out
      | false =>
        rw [hc] at CX
        have HCX := Aside0.mk hc
        have hwk : wrap64 ((i : Int) + 1) = ((i + 1 : Nat) : Int) := by unfold wrap64; have := HL.out; omega
        clear hc
        go_wp2_with (go_at_call 42; (with_reducible refine (CX.out _).mono ?_); rintro e w2 ⟨rfl, hb⟩; have B2 := Aside0.mk (below_step HB.out hb); clear hb)
        go_roundw
        case rel =>
          refine ⟨i + 1, (by first | rfl | rw [hwk] | go_num), by have := LT.out; omega, fun j hj => ?_, B2.out⟩
          by_cases hji : j = i
          · subst hji; rw [HX.out]; exact HCX.out
          · exact HN.out j (by omega)
        case measure => have := LT.out; (try rw [hwk]); simp [intOf]; omega
    · obtain rfl : i = L.length := by omega
      have dd2 : decide ((L.length : Int) < (L.length : Int)) = false := decide_eq_false (by omega)
      clear hlt hi
      go_wp2_with fail
      go_ret
      refine ⟨_, rfl, HB.out, ?_⟩
      rw [show decide ((-1 : Int) ≥ 0) = false from rfl]
      refine (List.any_eq_false.2 fun x hx => ?_).symm
      obtain ⟨j, hj, rfl⟩ := List.mem_iff_getElem.1 hx
      have := HN.out j hj
      rw [List.getD_eq_getElem?_getD, List.getElem?_eq_getElem hj] at this
      rw [show oddB L[j] = false from this]; decide
theorem contains_any (A : Option Addr) (c : Nat) (L : List Int) (w : World) (h : Kd.C (Kd.int .u8) w A L.length L) (hl : L.length ≤ 1000000) :
    Calls Tryd.prog 41 #[.slice A L.length c, .func (.func 42) #[] #[]] w fun e w' => e = .returned (.bool (L.any oddB)) ∧ Below w.heap.size w w' := by
  have HI2 := Aside0.mk (indexf_any A c L w h hl)
  clear h hl
  go_enter Tryd.func41, Tryd.ntmps41
  go_wp2_with (go_at_call 62; (with_reducible refine HI2.out.mono ?_); rintro e w2 ⟨z, rfl, hb, hz⟩; have B2 := Aside0.mk hb; have hz' : decide (0 ≤ z) = L.any oddB := hz; have HZ := Aside0.mk hz; clear hb)
  go_ret
  exact ⟨rfl, B2.out⟩
/-- a piece that may not be -/
def badB (p : List Int) : Bool := decide (p = [] ∨ p = [46] ∨ p = [46, 46])
def isB (L : List Int) : Bool := !L.any oddB && !(piecesL L).any badB
def errZ (b : Bool) : Int := if b then 0 else 16
theorem pieces_rng (L : List Int) (h : ∀ x ∈ L, 0 ≤ x ∧ x ≤ 255) : ∀ p ∈ piecesL L, ∀ x ∈ p, 0 ≤ x ∧ x ≤ 255 := by
  intro p hp x hx
  have h1 := splitL_mem (cutEnd L) p hp x hx
  unfold cutEnd at h1
  split at h1
  · exact h x (List.mem_of_mem_take h1)
  · exact h x h1
theorem pieces_len (L : List Int) : (piecesL L).length ≤ L.length + 1 := by
  have h1 := splitL_length (cutEnd L)
  have h2 := cutEnd_len L
  unfold piecesL
  omega
theorem str_eq (p q : List Int) (hp : ∀ x ∈ p, 0 ≤ x ∧ x ≤ 255) (hq : ∀ x ∈ q, 0 ≤ x ∧ x ≤ 255) : ((strOfNums p).toList == Lib.bytesOf q) = decide (p = q) := by
  rw [Lib.strOfNums_toList]
  by_cases e : p = q
  · subst e; simp
  · rw [decide_eq_false e]
    exact beq_eq_false_iff_ne.2 fun h => e (bytesOf_inj p q (fun x hx => by have := hp x hx; omega) (fun x hx => by have := hq x hx; omega) h)
/-- the three tests of a piece -/
theorem bad_tests (p : List Int) (hp : ∀ x ∈ p, 0 ≤ x ∧ x ≤ 255) : ((strOfNums p).toList == ([] : List UInt8)) = decide (p = []) ∧ ((strOfNums p).toList == ([46] : List UInt8)) = decide (p = [46]) ∧ ((strOfNums p).toList == ([46, 46] : List UInt8)) = decide (p = [46, 46]) :=
  ⟨str_eq p [] hp (by simp), str_eq p [46] hp (by simp), str_eq p [46, 46] hp (by simp)⟩
set_option maxHeartbeats 4000000 in
set_option maxRecDepth 100000 in
theorem check_any (A : Option Addr) (c : Nat) (L : List Int) (w : World) (h : Arg w A c L) :
    Calls Tryd.prog 15 #[.slice A L.length c] w fun e w' => e = .returned (.int .i64 (errZ (isB L))) ∧ Below w.heap.size w w' := by
  have CA := Aside0.mk (contains_any A c L w h.C (by have := h.len; omega))
  have PA := Aside0.mk (fun W (hb : Below w.heap.size w W) => pieces_any A c L W (h.below hb))
  have PR := Aside0.mk (pieces_rng L h.rng)
  have PL : Aside0 ((piecesL L).length ≤ 100001) := ⟨by have := pieces_len L; have := h.len; omega⟩
  clear h
  cases ha : L.any oddB with
  | true =>
    have e : errZ (isB L) = 16 := by unfold isB; rw [ha]; rfl
    rw [ha] at CA
    rw [e]
    clear ha e PR PL PA
    go_enter Tryd.func15, Tryd.ntmps15
    go_wp2_with (go_at_call 41; (with_reducible refine CA.out.mono ?_); rintro e w2 ⟨rfl, hb⟩; have B2 := Aside0.mk hb; clear hb)
    go_ret
    exact ⟨rfl, B2.out⟩
  | false =>
    have HE : Aside0 (isB L = !(piecesL L).any badB) := ⟨by unfold isB; rw [ha]; rfl⟩
    rw [ha] at CA
    clear ha
    obtain ⟨X, hX⟩ : ∃ X, piecesL L = X := ⟨_, rfl⟩
    rw [hX] at PA PR PL HE
    clear hX
    go_enter Tryd.func15, Tryd.ntmps15
    go_wp2_with (first
      | (go_at_call 41; (with_reducible refine CA.out.mono ?_); rintro e w1 ⟨rfl, hb⟩; have B1 := Aside0.mk hb; clear hb)
      | (go_at_call 43; (with_reducible refine (PA.out _ B1.out).mono ?_); rintro e w2 ⟨A2, c2, rfl, hle, hC, hb⟩; have HC := Aside0.mk hC; have HB := Aside0.mk (below_step B1.out hb); clear hle hC hb))
    go_loopw [11] (fun v11 wr => ∃ i : Nat, v11 = .int .i64 i ∧ i ≤ X.length ∧ (∀ j (hj : j < i) (h : j < X.length), badB X[j] = false) ∧ Below w2.heap.size w2 wr) (fun v11 _ => X.length - (intOf v11).toNat)
    case atStart => exact ⟨0, rfl, Nat.zero_le _, fun j hj => by omega, Below.refl _ _⟩
    case round =>
      rename World => wr
      obtain ⟨i, rfl, hi, hnon, hbel⟩ := hrel
      have HBW := Aside0.mk hbel
      have HN := Aside0.mk hnon
      clear hbel hnon
      by_cases hlt : i < X.length
      · have d3 : decide ((i : Int) < (X.length : Int)) = true := decide_eq_true (by omega)
        have q3 : (i : Int) < (X.length : Int) := by omega
        obtain ⟨ad, A3, c3, rfl, hx0, hl0, hC0⟩ := FR.at_L1 (Kd.C_below HC.out HBW.out) (i : Int) (by omega) q3
        obtain ⟨p, hp⟩ : ∃ p, FR.rd_L1 X (i : Int) = p := ⟨_, rfl⟩
        rw [hp] at hx0 hl0 hC0
        rw [Int.toNat_natCast] at hx0
        have hp2 : X[i] = p := by rw [← hp]; unfold FR.rd_L1; rw [Int.toNat_natCast, List.getD_eq_getElem?_getD, List.getElem?_eq_getElem hlt]; rfl
        have hbt := bad_tests p (PR.out p (hp2 ▸ List.getElem_mem hlt))
        obtain ⟨t1, t2, t3⟩ := hbt
        have HP2 := Aside0.mk hp2
        have LT := Aside0.mk hlt
        have hcv := Kd.C_string (P := Tryd.prog) (A := A3) (c := c3) Tryd.underlying22 Tryd.underlying5 Tryd.underlying9 hC0
        have hwk : wrap64 ((i : Int) + 1) = ((i + 1 : Nat) : Int) := by unfold wrap64; have := PL.out; omega
        generalize strOfNums p = s at *
        clear hp hp2 hl0 hC0
        by_cases e1 : p = []
        · rw [decide_eq_true e1] at t1
          have HE1 : Aside0 (isB L = false) := ⟨by rw [HE.out, List.any_eq_true.2 ⟨X[i], List.getElem_mem LT.out, by rw [HP2.out]; unfold badB; exact decide_eq_true (.inl e1)⟩]; rfl⟩
          clear t2 t3 e1
          go_wp2_with fail
          go_ret
          exact ⟨by rw [HE1.out]; rfl, (HB.out).trans (HBW.out.mono HB.out.size)⟩
        · rw [decide_eq_false e1] at t1
          by_cases e2 : p = [46]
          · rw [decide_eq_true e2] at t2
            have HE1 : Aside0 (isB L = false) := ⟨by rw [HE.out, List.any_eq_true.2 ⟨X[i], List.getElem_mem LT.out, by rw [HP2.out]; unfold badB; exact decide_eq_true (.inr (.inl e2))⟩]; rfl⟩
            clear t3 e1 e2
            go_wp2_with fail
            go_ret
            exact ⟨by rw [HE1.out]; rfl, (HB.out).trans (HBW.out.mono HB.out.size)⟩
          · rw [decide_eq_false e2] at t2
            by_cases e3 : p = [46, 46]
            · rw [decide_eq_true e3] at t3
              have HE1 : Aside0 (isB L = false) := ⟨by rw [HE.out, List.any_eq_true.2 ⟨X[i], List.getElem_mem LT.out, by rw [HP2.out]; unfold badB; exact decide_eq_true (.inr (.inr e3))⟩]; rfl⟩
              clear e1 e2 e3
              go_wp2_with fail
              go_ret
              exact ⟨by rw [HE1.out]; rfl, (HB.out).trans (HBW.out.mono HB.out.size)⟩
            · rw [decide_eq_false e3] at t3
              have HNB : Aside0 (badB p = false) := ⟨decide_eq_false (fun h => h.elim e1 (fun h => h.elim e2 e3))⟩
              clear e1 e2 e3
              go_wp2_with fail
              go_roundw
              case rel =>
                refine ⟨i + 1, (by first | rfl | rw [hwk] | go_num), by have := LT.out; omega, fun j hj h => ?_, HBW.out⟩
                by_cases hji : j = i
                · subst hji; rw [HP2.out]; exact HNB.out
                · exact HN.out j (by omega) h
              case measure => have := LT.out; (try rw [hwk]); simp [intOf]; omega
      · obtain rfl : i = X.length := by omega
        have dd2 : decide ((X.length : Int) < (X.length : Int)) = false := decide_eq_false (by omega)
        clear hlt hi
        go_wp2_with fail
        go_ret
        refine ⟨?_, (HB.out).trans (HBW.out.mono HB.out.size)⟩
        rw [HE.out, List.any_eq_false.2 fun x hx => ?_]
        · rfl
        · obtain ⟨j, hj, rfl⟩ := List.mem_iff_getElem.1 hx
          rw [HN.out j hj hj]; decide
end Go.Proofs.YtbjffjbohpoedaaDoor.Fd

namespace Go.Proofs.YtbjffjbohpoedaaDoor.Fd
open Go.Proofs.YtbjffjbohpoedaaDoor.Wd
open Go.RowKit Go.Proofs.YtbjffjbohpoedaaDoorW.PrintWords Go.Proofs.YtbjffjbohpoedaaDoorW.PrintLast Go.Proofs.YtbjffjbohpoedaaDoorW.PrintMore
set_option linter.unusedVariables false
set_option linter.unusedSimpArgs false
theorem infoB : (Tryd.prog.info? 22).map (fun i => (i.zero, i.size, i.bytes)) = some (some (.slice none 0 0), 1, 24) := by kernel_rfl
theorem splitL_each (l : List Int) : ∀ p ∈ splitL l, p.length ≤ l.length := by
  induction l with
  | nil => intro p hp; simp [splitL] at hp; subst hp; exact Nat.le_refl _
  | cons x xs ih =>
    intro p hp
    unfold splitL at hp
    split at hp
    · rcases List.mem_cons.1 hp with rfl | hp
      · simp
      · have := ih p hp; simp; omega
    · split at hp
      · rename_i q qs hs
        rw [hs] at ih
        rcases List.mem_cons.1 hp with rfl | hp
        · have := ih q (by simp); simp; omega
        · have := ih p (by simp [hp]); simp; omega
      · rw [List.mem_singleton.1 hp]; simp
def partsF (L : List Int) : List (List Int) := if isB L = true then piecesL L else []
/-- rows of the call's own -/
def OwnRows (w : World) (X : List (List Int)) (e : Ending) (w' : World) : Prop :=
  ∃ v, e = .returned v ∧ Kd.R (Kd.slice 5 (Kd.int .u8)) 22 w' w.heap.size (fun _ => True) v X ∧ Below w.heap.size w w'
theorem own_M {w' : World} {base : Nat} {v : Value} {p : List Int} (h : w'.ownsRow base 5 1 v p.length (nums .u8 p)) : (Kd.slice 5 (Kd.int .u8)).M w' base (fun k => some k = v.ownBlock) p [v] := by
  refine ⟨v, rfl, fun k hk => hk.symm, nums .u8 p, h, ?_⟩
  have hr : ∀ zs : List Int, Reps (Kd.M (Kd.int .u8) w' base (fun k => some k = v.ownBlock ∧ some k ≠ v.ownBlock)) 1 zs (nums .u8 zs) := by
    intro zs
    induction zs with
    | nil => exact Reps.none _ _
    | cons z zs ih => exact Reps.one (show Kd.M (Kd.int .u8) _ _ _ z [.int .u8 z] from rfl) ih
  exact hr p
theorem fresh_ne {w wr w2 : World} {X : List (List Int)} {A : Option Addr} {c n : Nat} {v : Value} {p : List Int} (h : Kd.R (Kd.slice 5 (Kd.int .u8)) 22 wr w.heap.size (fun _ => True) (.slice A n c) X) (hv : w2.ownsRow wr.heap.size 5 1 v p.length (nums .u8 p)) :
    ∀ k, some k = v.ownBlock → True ∧ some k ≠ (Value.slice A n c).ownBlock := by
  intro k hk
  refine ⟨trivial, fun he => ?_⟩
  obtain ⟨_, inner, ho, _⟩ := h
  have h1 := own_lt ho k he.symm
  have h2 := own_base hv k hk.symm
  omega
set_option maxHeartbeats 8000000 in
set_option maxRecDepth 100000 in
theorem parts_any (A : Option Addr) (c : Nat) (L : List Int) (w : World) (h : Arg w A c L) : Calls Tryd.prog 21 #[.slice A L.length c] w (OwnRows w (partsF L)) := by
  have CH := Aside0.mk (check_any A c L w h)
  have PA := Aside0.mk (fun W (hb : Below w.heap.size w W) => pieces_any A c L W (h.below hb))
  have PL : Aside0 ((piecesL L).length ≤ 100001) := ⟨by have := pieces_len L; have := h.len; omega⟩
  have PQ : Aside0 (∀ p ∈ piecesL L, p.length ≤ 1000000000) := ⟨fun p hp => by
    have := splitL_each (cutEnd L) p hp
    have := cutEnd_len L
    have := h.len
    omega⟩
  clear h
  unfold partsF
  cases hq : isB L with
  | false =>
    rw [hq] at CH
    have e16 : errZ false = 16 := rfl
    rw [e16] at CH
    rw [if_neg (by decide)]
    clear hq e16 PA PL PQ
    go_enter Tryd.func21, Tryd.ntmps21
    go_wp2_with (go_at_call 15; (with_reducible refine CH.out.mono ?_); rintro e w1 ⟨rfl, hb⟩; have B1 := Aside0.mk hb; clear hb)
    go_ret
    exact ⟨_, rfl, Kd.R_nil _ _ _ _ _, B1.out⟩
  | true =>
    rw [hq] at CH
    have e0 : errZ true = 0 := rfl
    rw [e0] at CH
    rw [if_pos rfl]
    obtain ⟨X, hX⟩ : ∃ X, piecesL L = X := ⟨_, rfl⟩
    rw [hX] at PA PL PQ ⊢
    clear hX hq e0
    go_enter Tryd.func21, Tryd.ntmps21
    go_wp2_with (first
      | (go_at_call 15; (with_reducible refine CH.out.mono ?_); rintro e w1 ⟨rfl, hb⟩; have B1 := Aside0.mk hb; clear hb)
      | (go_at_call 43; (with_reducible refine (PA.out _ B1.out).mono ?_); rintro e w2 ⟨A2, c2, rfl, hle, hC, hb⟩; have HC := Aside0.mk hC; have HB := Aside0.mk (below_step B1.out hb); clear hle hC hb))
    go_loopg [3, 12] X.length (fun gk v3 v12 wr => ∃ (i : Nat) (A3 : Option Addr) (c3 : Nat), v3 = .slice A3 (X.take i).length c3 ∧ v12 = .int .i64 (i : Int) ∧ i + gk = X.length ∧ Aside0 (Kd.R (Kd.slice 5 (Kd.int .u8)) 22 wr w2.heap.size (fun _ => True) (.slice A3 (X.take i).length c3) (X.take i)) ∧ Aside0 (Below w2.heap.size w2 wr))
    case atStart => exact ⟨0, none, 0, rfl, rfl, by omega, ⟨Kd.R_nil _ _ _ _ _⟩, ⟨Below.refl _ _⟩⟩
    case round =>
      obtain ⟨i, A3, c3, rfl, rfl, hig, HR, HBW⟩ := hrel
      cases gk with
      | zero =>
        obtain rfl : i = X.length := by omega
        have dd2 : decide ((X.length : Int) < (X.length : Int)) = false := decide_eq_false (by omega)
        rw [List.take_length] at HR ⊢
        go_wp2_with fail
        go_ret
        exact ⟨_, rfl, Kd.R_lower HR.out HB.out.size, HB.out.trans (HBW.out.mono HB.out.size)⟩
      | succ g =>
        have hlt : i < X.length := by omega
        have d3 : decide ((i : Int) < (X.length : Int)) = true := decide_eq_true (by omega)
        have q3 : (i : Int) < (X.length : Int) := by omega
        obtain ⟨ad, A4, c4, rfl, hx0, hl0, hC0⟩ := FR.at_L1 (Kd.C_below HC.out HBW.out) (i : Int) (by omega) q3
        obtain ⟨p, hp⟩ : ∃ p, FR.rd_L1 X (i : Int) = p := ⟨_, rfl⟩
        rw [hp] at hx0 hl0 hC0
        rw [Int.toNat_natCast] at hx0
        have hp2 : X[i] = p := by rw [← hp]; unfold FR.rd_L1; rw [Int.toNat_natCast, List.getD_eq_getElem?_getD, List.getElem?_eq_getElem hlt]; rfl
        have hpl : p.length ≤ 1000000000 := PQ.out p (hp2 ▸ List.getElem_mem hlt)
        have hsnoc : X.take (i + 1) = X.take i ++ [p] := by rw [List.take_add_one, List.getElem?_eq_getElem hlt, hp2]; rfl
        have hlen1 : (X.take i).length = i := by rw [List.length_take]; omega
        have CL := Aside0.mk (clone_mine A4 c4 p wr hC0 hpl)
        have SN := Aside0.mk hsnoc
        have LN := Aside0.mk hlen1
        have IG := Aside0.mk hig
        have hwk : wrap64 ((i : Int) + 1) = ((i + 1 : Nat) : Int) := by unfold wrap64; have := PL.out; omega
        clear hp hp2 hl0 hC0 hpl hsnoc hlen1
        generalize X.take i = Y at *
        go_wp2_with (first
          | (go_at_call 46; (with_reducible refine CL.out.mono ?_); rintro e w5 ⟨v5, rfl, ho5, hb5⟩; obtain ⟨A5, c5, rfl⟩ := own_slice ho5; have O5 := Aside0.mk ho5; have B5 := Aside0.mk hb5; have NE := Aside0.mk (fresh_ne HR.out ho5); have M5 := Aside0.mk ((Kd.slice 5 (Kd.int .u8)).M_lower HBW.out.size (own_M ho5)); clear ho5 hb5)
          | (at_builtin; refine Kd.R_append (Kd.slice 5 (Kd.int .u8)) (w0 := w2) w2.heap.size rfl (.tmp 16) (.tmp 19) 35 22 (.slice none 0 0) 24 rfl Tryd.underlying35 infoB rfl (by decide) (by decide) (.slice A3 Y.length c3) Y p [.slice A5 p.length c5] (fun _ => True) (fun k => some k = (Value.slice A5 p.length c5).ownBlock) rfl rfl M5.out NE.out (fun _ _ => trivial) (Kd.R_below HR.out B5.out) (below_step HBW.out B5.out) (below_size (below_step HBW.out B5.out)) (by have := LN.out; have := PL.out; have := IG.out; omega) ?_; intro v6 w6 hR6 hb6 hg6 _; obtain ⟨A6, c6, rfl⟩ := Kd.R_slice hR6; have R6 := Aside0.mk hR6; have B6 := Aside0.mk hb6; have G6 := Aside0.mk hg6; clear hR6 hb6 hg6))
        go_roundg g
        case measure => omega
        case rel =>
          refine ⟨i + 1, A6, c6, (by rw [SN.out]; first | rfl | (simp; done) | (rw [List.length_append]; rfl)), (by first | rfl | rw [hwk] | go_num), by have := IG.out; omega, ⟨by rw [SN.out]; exact R6.out⟩, B6⟩
theorem depth_any (A : Option Addr) (c : Nat) (L : List Int) (w : World) (h : Arg w A c L) : Calls Tryd.prog 22 #[.slice A L.length c] w fun e w' => e = .returned (.int .i64 ((partsF L).length : Int)) ∧ Below w.heap.size w w' := by
  have PA := Aside0.mk (parts_any A c L w h)
  clear h
  go_enter Tryd.func22, Tryd.ntmps22
  go_wp2_with (go_at_call 21; (with_reducible refine PA.out.mono ?_); rintro e w1 ⟨v, rfl, hR, hb⟩; obtain ⟨A1, c1, rfl⟩ := Kd.R_slice hR; have B1 := Aside0.mk hb; clear hb hR)
  go_ret
  exact ⟨rfl, B1.out⟩
end Go.Proofs.YtbjffjbohpoedaaDoor.Fd

namespace Go.Proofs.YtbjffjbohpoedaaDoor.Fd
open Go.Proofs.YtbjffjbohpoedaaDoor.Wd
open Go.RowKit Go.Proofs.YtbjffjbohpoedaaDoorW.PrintWords Go.Proofs.YtbjffjbohpoedaaDoorW.PrintLast Go.Proofs.YtbjffjbohpoedaaDoorW.PrintMore
set_option linter.unusedVariables false
set_option linter.unusedSimpArgs false
/-- new bytes, with room behind them that nobody holds -/
def Fresh (B : Nat) (w : World) (v : Value) (l : List Int) : Prop :=
  ∃ g cap, v = .slice (some ⟨g, 0, none⟩) l.length cap ∧ B ≤ g ∧ l.length ≤ cap ∧ cap ≤ maxLen ∧ (∀ i, i < l.length → w.cell? ⟨g, i, none⟩ = some (.int .u8 (l.getD i 0))) ∧
    (∀ i, i < cap → ∃ z, w.cell? ⟨g, i, none⟩ = some (.int .u8 z)) ∧ (∀ i, i < cap → w.frozen? ⟨g, i, none⟩ = false)
theorem Fresh.arg {B : Nat} {w : World} {v : Value} {l : List Int} (h : Fresh B w v l) (hr : ∀ x ∈ l, 0 ≤ x ∧ x ≤ 255) (hl : l.length ≤ 100000) : ∃ A c, v = .slice A l.length c ∧ Arg w A c l := by
  obtain ⟨g, cap, rfl, h1, h2, h3, h4, h5, h6⟩ := h
  refine ⟨some ⟨g, 0, none⟩, cap, rfl, Kd.C_of_reads (d := (0 : Int)) (h1 := fun _ => rfl) ⟨rfl, by omega, fun hp => ⟨_, rfl, fun i hi => ?_⟩⟩, h2, by simp [maxLen] at h3; omega, fun h => by (cases h), hr, hl⟩
  rw [add_zero]; exact h4 i hi
theorem Fresh.below {B : Nat} {w w1 : World} {v : Value} {l : List Int} (h : Fresh B w v l) (hb : Below w.heap.size w w1) : Fresh B w1 v l := by
  obtain ⟨g, cap, rfl, h1, h2, h3, h4, h5, h6⟩ := h
  by_cases hc : 0 < cap
  · obtain ⟨z, hz⟩ := h5 0 hc
    have hg : g < w.heap.size := World.block_lt_of_cell? w ⟨g, 0, none⟩ hz
    refine ⟨g, cap, rfl, h1, h2, h3, fun i hi => (hb.cell (p := ⟨g, i, none⟩) hg).trans (h4 i hi), fun i hi => ?_, fun i hi => (hb.frozen (p := ⟨g, i, none⟩) hg).trans (h6 i hi)⟩
    obtain ⟨z, hz⟩ := h5 i hi
    exact ⟨z, (hb.cell (p := ⟨g, i, none⟩) hg).trans hz⟩
  · exact ⟨g, cap, rfl, h1, h2, h3, fun i hi => absurd hi (by omega), fun i hi => absurd hi (by omega), fun i hi => absurd hi (by omega)⟩
theorem infoI : ∃ i, Tryd.prog.info? 5 = some i ∧ i.zero = some (.int .u8 0) ∧ i.size = 1 ∧ i.bytes = 1 := by
  obtain ⟨i, hi, hz⟩ := Option.map_eq_some_iff.1 (show (Tryd.prog.info? 5).map (fun i => (i.zero, i.size, i.bytes)) = some (some (.int .u8 0), 1, 1) by kernel_rfl)
  simp only [Prod.mk.injEq] at hz
  exact ⟨i, hi, hz.1, hz.2.1, hz.2.2⟩
theorem getD_snoc (l : List Int) (x : Int) (i : Nat) (hi : i < (l ++ [x]).length) : (l ++ [x]).getD i 0 = if i < l.length then l.getD i 0 else x := by
  rw [List.length_append, List.length_singleton] at hi
  simp only [List.getD_eq_getElem?_getD]
  by_cases h : i < l.length
  · rw [if_pos h, List.getElem?_append_left h]
  · rw [if_neg h, List.getElem?_append_right (by omega), show i - l.length = 0 by omega]; rfl
theorem append_fresh {B : Nat} {w : World} {v : Value} {l : List Int} (x : Int) (ty : TypeId) (h : Fresh B w v l) (hl : l.length ≤ 1000000) (hB : B ≤ w.heap.size) (a : Addr) (hx : w.cell? a = some (.int .u8 x)) :
    ∃ v2 w2, (Builtin.append_ #[22, 22] ty #[v, .slice (some a) 1 1]).run Tryd.prog w = .ok v2 w2 ∧ Fresh B w2 v2 (l ++ [x]) ∧ Below B w w2 := by
  obtain ⟨i0, hi0, hz0, hs0, hb0⟩ := infoI
  obtain ⟨g, cap, rfl, h1, h2, h3, h4, h5, h6⟩ := h
  have ha0 : a.add 0 = a := by unfold Addr.add; split <;> simp_all
  have hnews : ∀ j u, ([.int .u8 x] : List Value)[j]? = some u → w.cell? (a.add j) = some u := by
    intro j u hj
    cases j with
    | zero => rw [ha0]; simpa using hj ▸ hx
    | succ j => simp at hj
  have hlen : (l ++ [x]).length = l.length + 1 := by rw [List.length_append]; rfl
  by_cases hroom : l.length + 1 ≤ cap
  · have hf := run_firstCells_some (P := Tryd.prog) w i0.size 1 a 1 1 [.int .u8 x] (by rw [hs0]; rfl) hnews
    rw [hs0] at hf
    have hc0 : ∀ j, j < ([.int .u8 x] : List Value).length → (w.cell? ⟨g, l.length + 0 + j, none⟩).isSome = true := by
      intro j hj
      simp at hj
      subst hj
      obtain ⟨z, hz⟩ := h5 l.length (by omega)
      simp [hz]
    have hst := run_storeCells_cells (P := Tryd.prog) g l.length [.int .u8 x] 0 w hc0 (fun j hj => by simp at hj; subst hj; exact h6 _ (by omega)) (by simp [Value.oneCell'])
    rw [Nat.add_zero] at hst
    have hrun : (Builtin.append_ #[22, 22] ty #[.slice (some ⟨g, 0, none⟩) l.length cap, .slice (some a) 1 1]).run Tryd.prog w = .ok (.slice (some ⟨g, 0, none⟩) (l.length + 1) cap) (w.setCells g l.length [.int .u8 x]) := by
      simp [Builtin.append_, run_underlying Tryd.underlying22, sizeOf, typeInfo, hi0, Builtin.lenOf, hroom, hf, hs0, Addr.add_lit, hst]
    refine ⟨_, _, hrun, ⟨g, cap, by rw [hlen], h1, by omega, h3, fun i hi => ?_, fun i hi => ?_, fun i hi => by rw [World.frozen?_setCells]; exact h6 i hi⟩, Lib.below_setCells g h1 _ _ (Below.refl _ _)⟩
    · rw [getD_snoc l x i hi]
      rw [hlen] at hi
      by_cases e : i < l.length
      · rw [if_pos e, World.cell?_setCells_out g _ _ _ _ (fun _ _ => Or.inl e)]; exact h4 i e
      · obtain rfl : i = l.length := by omega
        rw [if_neg e]
        have := World.cell?_setCells_in g [.int .u8 x] l.length w hc0 0 (by simp)
        simpa using this
    · by_cases e : i = l.length
      · subst e
        have := World.cell?_setCells_in g [.int .u8 x] l.length w hc0 0 (by simp)
        exact ⟨x, by simpa using this⟩
      · obtain ⟨z, hz⟩ := h5 i hi
        exact ⟨z, by rw [World.cell?_setCells_out g _ _ _ _ (fun _ _ => by simp; omega)]; exact hz⟩
  · obtain rfl : cap = l.length := by omega
    have holds : ∀ j u, (l.map (Value.int .u8))[j]? = some u → w.cell? ((⟨g, 0, none⟩ : Addr).add j) = some u := by
      intro j u hj
      have hj2 : j < l.length := by have := (List.getElem?_eq_some_iff.1 hj).1; simpa using this
      rw [add_zero, h4 j hj2]
      rw [List.getElem?_map, List.getElem?_eq_getElem hj2] at hj
      rw [List.getD_eq_getElem?_getD, List.getElem?_eq_getElem hj2]
      exact hj
    have hrun := run_append_grow (P := Tryd.prog) w 22 ty 5 i0 (.int .u8 0) Tryd.underlying22 hi0 hz0 ⟨g, 0, none⟩ l.length l.length (l.map (Value.int .u8)) (by rw [hs0]; simp) holds a 1 1 [.int .u8 x] (by rw [hs0]; rfl) hnews (by omega) (by omega) (growslice_fits (by omega) (by rw [hb0]; omega))
    have hge := grownCap_ge w (l.length + 1) l.length 5
    have hle := grownCap_le_maxLen w (l.length + 1) l.length 5 (by simp [maxLen]; omega)
    generalize grownCap w (l.length + 1) l.length 5 = cap2 at *
    have hcs : ∀ j, (((l.map (Value.int .u8)).toArray ++ ([.int .u8 x] : List Value).toArray ++ Builtin.zeroCells (Value.int .u8 0).cells (cap2 - (l.length + 1))) : Array Value)[j]? = if j < l.length then (l.map (Value.int .u8))[j]? else if j = l.length then some (.int .u8 x) else (Builtin.zeroCells (Value.int .u8 0).cells (cap2 - (l.length + 1)))[j - (l.length + 1)]? := by
      intro j
      by_cases e : j < l.length
      · rw [if_pos e]
        simp [Array.getElem?_append, e, show j < l.length + 1 by omega]
      · rw [if_neg e]
        by_cases e2 : j = l.length
        · subst e2; rw [if_pos rfl]; simp [Array.getElem?_append]
        · rw [if_neg e2]
          simp [Array.getElem?_append, e, show ¬ j < l.length + 1 by omega]
    have hzc : ∀ j, j < cap2 - (l.length + 1) → (Builtin.zeroCells (Value.int .u8 0).cells (cap2 - (l.length + 1)))[j]? = some (.int .u8 0) := by
      intro j hj
      have hsz := size_zeroCells (Value.int .u8 0).cells (cap2 - (l.length + 1))
      rw [show (Value.int .u8 0).cells.size = 1 from rfl, Nat.mul_one] at hsz
      rw [Array.getElem?_eq_getElem (by rw [hsz]; exact hj)]
      simp [Builtin.zeroCells, Value.cells, Nat.mod_one]
    refine ⟨_, _, hrun, ⟨w.heap.size, cap2, by rw [hlen], hB, by omega, hle, fun i hi => ?_, fun i hi => ?_, fun i hi => ?_⟩, (below_drew (Below.refl _ _)).alloc hB _⟩
    · rw [cell_of_row _ w.heap.size i _ _ _ (heap_alloc_new w.drew _), hcs, getD_snoc l x i hi]
      rw [hlen] at hi
      by_cases e : i < l.length
      · rw [if_pos e, if_pos e, List.getElem?_map, List.getElem?_eq_getElem e, List.getD_eq_getElem?_getD, List.getElem?_eq_getElem e]; rfl
      · rw [if_neg e, if_neg e, if_pos (by omega)]
    · rw [cell_of_row _ w.heap.size i _ _ _ (heap_alloc_new w.drew _), hcs]
      by_cases e : i < l.length
      · rw [if_pos e, List.getElem?_map, List.getElem?_eq_getElem e]; exact ⟨_, rfl⟩
      · rw [if_neg e]
        by_cases e2 : i = l.length
        · rw [if_pos e2]; exact ⟨_, rfl⟩
        · rw [if_neg e2, hzc _ (by omega)]; exact ⟨_, rfl⟩
    · exact blk_frozen (heap_alloc_new w.drew _) i
/-- by slashes between -/
def joinT : List (List Int) → List Int
  | [] => []
  | p :: r => 47 :: p ++ joinT r
def joinL : List (List Int) → List Int
  | [] => []
  | p :: r => p ++ joinT r
theorem bytesOf_append (a b : List Int) : Lib.bytesOf (a ++ b) = Lib.bytesOf a ++ Lib.bytesOf b := by simp [Lib.bytesOf]
theorem joinT_bytes : ∀ X : List (List Int), Lib.bytesOf (joinT X) = Lib.joinTail [47] (X.map Lib.bytesOf)
  | [] => rfl
  | p :: r => by
    have ih := joinT_bytes r
    rw [show joinT (p :: r) = [47] ++ p ++ joinT r from rfl, bytesOf_append, bytesOf_append, ih]
    simp [Lib.joinTail, Lib.bytesOf]
theorem joinL_bytes (X : List (List Int)) : Lib.bytesOf (joinL X) = Lib.join (X.map Lib.bytesOf) [47] := by
  cases X with
  | nil => rfl
  | cons p r => unfold joinL; rw [bytesOf_append, joinT_bytes, List.map_cons, Lib.join_cons]
theorem joinT_len : ∀ X : List (List Int), (joinT X).length = (X.map List.length).sum + X.length
  | [] => rfl
  | p :: r => by unfold joinT; simp [joinT_len r]; omega
theorem joinT_mem : ∀ (X : List (List Int)) (x : Int), x ∈ joinT X → x = 47 ∨ ∃ p ∈ X, x ∈ p
  | [], x, h => by cases h
  | p :: r, x, h => by
    unfold joinT at h
    rcases List.mem_append.1 h with h | h
    · rcases List.mem_cons.1 h with h | h
      · exact .inl h
      · exact .inr ⟨p, by simp, h⟩
    · rcases joinT_mem r x h with h | ⟨q, hq, h⟩
      · exact .inl h
      · exact .inr ⟨q, by simp [hq], h⟩
theorem joinL_mem (X : List (List Int)) (x : Int) (h : x ∈ joinL X) : x = 47 ∨ ∃ p ∈ X, x ∈ p := by
  cases X with
  | nil => cases h
  | cons p r =>
    unfold joinL at h
    rcases List.mem_append.1 h with h | h
    · exact .inr ⟨p, by simp, h⟩
    · rcases joinT_mem r x h with h | ⟨q, hq, h⟩
      · exact .inl h
      · exact .inr ⟨q, by simp [hq], h⟩
theorem fresh_of {B : Nat} {w : World} {v : Value} {L : List Int} (h : Lib.FreshBytes B w v (Lib.bytesOf L)) (hr : ∀ x ∈ L, 0 ≤ x ∧ x < 256) : Fresh B w v L := by
  obtain ⟨g, cap, zs, rfl, h1, h2, h3, h4, h5, h6, h7, h8⟩ := h
  rw [Lib.bytesOf_length] at h2 h6 ⊢
  have e : zs.take L.length = L := bytesOf_inj _ _ (fun x hx => h5 x (List.mem_of_mem_take hx)) hr h6
  refine ⟨g, cap, rfl, h1, h2, h3, fun i hi => ?_, fun i hi => ⟨_, h7 i hi⟩, h8⟩
  rw [h7 i (by omega)]
  congr 2
  conv => rhs; rw [← e]
  simp only [List.getD_eq_getElem?_getD, List.getElem?_take]
  rw [if_pos hi]
theorem byte_back (x : Int) (h : 0 ≤ x ∧ x ≤ 255) : ((UInt8.ofNat x.toNat).toNat : Int) = x := by
  rw [UInt8.toNat_ofNat']; omega
theorem holds_of {w : World} {A : Option Addr} {c : Nat} {p : List Int} (h : Kd.C (Kd.int .u8) w A p.length p) (hr : ∀ x ∈ p, 0 ≤ x ∧ x ≤ 255) : Lib.HoldsBytes w (.slice A p.length c) (Lib.bytesOf p) := by
  refine ⟨A, c, by rw [Lib.bytesOf_length], fun hn => ?_, fun a ha i x hx => ?_⟩
  · rcases Nat.eq_zero_or_pos p.length with h0 | h0
    · rw [List.eq_nil_of_length_eq_zero h0]; rfl
    · obtain ⟨ad, e, _⟩ := (Kd.reads_of_C (d := (0 : Int)) h).2.2 h0
      rw [hn] at e; cases e
  · have hi : i < p.length := by have := (List.getElem?_eq_some_iff.1 hx).1; rwa [Lib.bytesOf_length] at this
    obtain ⟨ad, e, hc⟩ := (Kd.reads_of_C (d := (0 : Int)) h).2.2 (by omega)
    rw [ha] at e
    obtain rfl := Option.some.inj e
    rw [hc i hi]
    have hm : p[i] ∈ p := List.getElem_mem hi
    simp only [Lib.bytesOf, List.getElem?_map, List.getElem?_eq_getElem hi, Option.map_some, Option.some.injEq] at hx
    rw [List.getD_eq_getElem?_getD, List.getElem?_eq_getElem hi, ← hx]
    show some (Value.int .u8 p[i]) = _
    rw [byte_back _ (hr _ hm)]
end Go.Proofs.YtbjffjbohpoedaaDoor.Fd

namespace Go.Proofs.YtbjffjbohpoedaaDoor.Fd
open Go.Proofs.YtbjffjbohpoedaaDoor.Wd
open Go.RowKit Go.Proofs.YtbjffjbohpoedaaDoorW.PrintWords Go.Proofs.YtbjffjbohpoedaaDoorW.PrintLast Go.Proofs.YtbjffjbohpoedaaDoorW.PrintMore
set_option linter.unusedVariables false
set_option linter.unusedSimpArgs false
def RPost (w : World) (l : List Int) (e : Ending) (w' : World) : Prop := ∃ A c, e = .returned (.slice A l.length c) ∧ Arg w' A c l ∧ Below w.heap.size w w'
theorem Arg.none (w : World) : Arg w none 0 [] := ⟨Kd.C_of_reads (d := (0 : Int)) (h1 := fun _ => rfl) ⟨rfl, by simp, fun h => absurd h (by simp)⟩, Nat.le_refl _, by omega, fun _ => rfl, by simp, by simp⟩
theorem sum_len (N : Nat) : ∀ X : List (List Int), (∀ p ∈ X, p.length ≤ N) → (X.map List.length).sum ≤ N * X.length
  | [], _ => by simp
  | p :: r, h => by
    have h1 := h p (by simp)
    have h2 := sum_len N r (fun q hq => h q (by simp [hq]))
    simp only [List.map_cons, List.sum_cons, List.length_cons, Nat.mul_succ]
    omega
set_option maxHeartbeats 1000000 in
theorem join_any (b c : Nat) (b2 : Nat) (X : List (List Int)) (w : World) (h : Kd.C (Kd.slice 5 (Kd.int .u8)) w (some ⟨b, 0, none⟩) X.length X) (hc : X.length ≤ c) (h0 : 0 < X.length) (hx : X.length ≤ 1000) (hne : ∀ p ∈ X, p ≠ []) (hp : ∀ p ∈ X, p.length ≤ 1000)
    (hr : ∀ p ∈ X, ∀ x ∈ p, 0 ≤ x ∧ x ≤ 255) (hs : Kd.C (Kd.int .u8) w (some ⟨b2, 0, none⟩) 1 [47]) :
    Calls Tryd.prog 36 #[.slice (some ⟨b, 0, none⟩) X.length c, .slice (some ⟨b2, 0, none⟩) 1 1] w fun e w' => ∃ v, e = .returned v ∧ Fresh w.heap.size w' v (joinL X) ∧ Below w.heap.size w w' := by
  have hJ : ∀ x ∈ joinL X, 0 ≤ x ∧ x < 256 := by
    intro x hx
    rcases joinL_mem X x hx with rfl | ⟨p, hp, hx⟩
    · omega
    · have := hr p hp x hx; omega
  have el : ∀ j (hj : j < X.length), ∃ A c, w.cell? ⟨b, j, none⟩ = some (.slice A X[j].length c) ∧ Kd.C (Kd.int .u8) w A X[j].length X[j] := by
    intro j hj
    obtain ⟨ad, A, c, e, h1, h2, h3⟩ := FR.at_L1 h (j : Int) (by omega) (by omega)
    have e2 : FR.rd_L1 X (j : Int) = X[j] := by unfold FR.rd_L1; rw [Int.toNat_natCast, List.getD_eq_getElem?_getD, List.getElem?_eq_getElem hj]; rfl
    obtain rfl := Option.some.inj e
    rw [e2] at h1 h3
    rw [Int.toNat_natCast, add_zero] at h1
    exact ⟨A, c, h1, h3⟩
  by_cases h1 : X.length = 1
  · obtain ⟨p, rfl⟩ : ∃ p, X = [p] := List.length_eq_one_iff.1 h1
    obtain ⟨A, c1, hc1, hC⟩ := el 0 (by simp)
    have hpn := hne p (by simp)
    have hp0 : 0 < p.length := List.length_pos_iff.2 hpn
    have hh := holds_of (c := c1) hC (hr p (by simp))
    obtain ⟨ad, ead, _⟩ := (Kd.reads_of_C (d := (0 : Int)) hC).2.2 hp0
    subst ead
    obtain ⟨pp, cp, e1, e2, e3⟩ := hh
    injection e1 with e4 e5 e6
    subst e4
    have hl : (Lib.bytesOf p).length = p.length := Lib.bytesOf_length p
    refine (Tryd.bytes_Join_one b 0 c ad c1 (Lib.bytesOf p) _ w (by rw [hl]; exact hc1) (e3 ad rfl) (by omega) (by have := hp p (by simp); omega)).mono ?_
    rintro e w' ⟨v, rfl, hf, hb⟩
    refine ⟨v, rfl, fresh_of ?_ hJ, hb⟩
    rw [joinL_bytes]
    show Lib.FreshBytes _ _ _ (Lib.join [Lib.bytesOf p] [47])
    rw [Lib.join_one]
    exact hf
  · have hlens : Lib.lens (X.map Lib.bytesOf) ≤ 1000 * X.length := by
      have := sum_len 1000 X hp
      unfold Lib.lens
      rw [List.map_map, show (List.length ∘ Lib.bytesOf) = List.length from funext fun p => Lib.bytesOf_length p]
      exact this
    have hP : Lib.PartsAt w ⟨b, 0, none⟩ ((List.range X.length).map fun j => (w.cell? ⟨b, j, none⟩).getD .nilIface) (X.map Lib.bytesOf) := by
      refine ⟨by simp, fun i v hv => ?_, fun i v l hv hl => ?_⟩
      · have hi : i < X.length := by have := (List.getElem?_eq_some_iff.1 hv).1; simpa using this
        obtain ⟨A, c, h1, h2⟩ := el i hi
        rw [List.getElem?_map, List.getElem?_range hi, Option.map_some] at hv
        rw [add_zero, ← hv, h1]; rfl
      · have hi : i < X.length := by have := (List.getElem?_eq_some_iff.1 hv).1; simpa using this
        obtain ⟨A, c, h1, h2⟩ := el i hi
        rw [List.getElem?_map, List.getElem?_range hi, Option.map_some, h1] at hv
        rw [List.getElem?_map, List.getElem?_eq_getElem hi, Option.map_some] at hl
        obtain rfl := Option.some.inj hl
        obtain rfl := Option.some.inj hv
        exact holds_of h2 (hr _ (List.getElem_mem hi))
    refine (Tryd.bytes_Join_many b 0 X.length c _ (X.map Lib.bytesOf) (.slice (some ⟨b2, 0, none⟩) 1 1) [47] w (by simp) (by omega) hP hc (holds_of (p := [47]) hs (by simp)) (by omega) (by simp; omega)).mono ?_
    rintro e w' ⟨v, rfl, hf, hb⟩
    exact ⟨v, rfl, fresh_of (by rw [joinL_bytes]; exact hf) hJ, hb⟩
theorem step_append_fresh {ops : Array Oper} {o : Oper} {a : Act} {W : World} {K : Act → World → Prop} {Q : Exit → Act → World → Prop} {E : Prop} (hg : o.guard = Option.none) (s x : Operand)
    (ho : o.op = .call { callee := .builtin .append, args := #[s, x], argTypes := #[22, 22] }) (B : Nat) (v : Value) (l : List Int) (y : Int) (hs : a.eval s = v) (ad : Addr) (hx : a.eval x = .slice (some ad) 1 1)
    (h : Fresh B W v l) (hl : l.length ≤ 1000000) (hB : B ≤ W.heap.size) (hc : W.cell? ad = some (.int .u8 y)) (hK : ∀ v' w', Fresh B w' v' (l ++ [y]) → Below B W w' → K (a.put o.dst v') w') :
    if Region.wanted o (yielded ops a.tmps) = true then Oper.wp Tryd.prog o a W K Q else E := by
  have hw : Region.wanted o (yielded ops a.tmps) = true := by simp [Region.wanted, hg]
  rw [if_pos hw]
  obtain ⟨v2, w2, hrun, h1, h2⟩ := append_fresh y o.type h hl hB ad hc
  unfold Oper.wp
  simp [execOp, ho, resolve, invoke, builtin, hs, hx, hrun, Result.andThen]
  exact hK v2 w2 h1 h2
def parentL (L : List Int) : List Int := if (partsF L).length < 2 then [] else joinL (partsF L).dropLast ++ [47]
theorem rows_take (A : Option Addr) (c n : Nat) (hn : n ≤ c) (hn63 : n ≤ 9223372036854775807) (hc0 : n = 0 ∨ 0 < c) : ∀ (m : Nat) (W : World), m = n + 1 → m ≤ c → (Instr.slice 35 (.slice A m c) Option.none (some (.int .i64 (n : Int))) Option.none).run Tryd.prog W = .ok (.slice A n c) W := by
  intro m W hm hmc
  subst hm
  obtain ⟨i0, hi0, hz0⟩ := Option.map_eq_some_iff.1 infoB
  simp only [Prod.mk.injEq] at hz0
  have hel : Tryd.prog.elem 35 = 22 := by kernel_rfl
  have hu : Tryd.prog.underlying 35 = some (.slice (Tryd.prog.elem 35)) := by rw [hel]; exact Tryd.underlying35
  have hsz : (sizeOf (Tryd.prog.elem 35)).run Tryd.prog W = .ok 1 W := by rw [hel]; simp [sizeOf, typeInfo, hi0, hz0.2.1]
  have h2 := run_slice_h (P := Tryd.prog) (t := 35) (w := W) (a := A) (len := n + 1) (cap := c) hu .i64 (n : Int) (by omega) (by omega)
  rw [h2, hsz]
  simp only [Result.andThen_ok, sliced, Int.toNat_natCast, Nat.mul_one]
  rw [if_neg (by omega)]
  cases A with
  | none => simp
  | some ad =>
    have e : ad.add 0 = ad := by unfold Addr.add; split <;> simp_all
    simp [e]
theorem cell_lit (W : World) (y : Int) : (W.alloc (.cells #[.int .u8 y] 5)).cell? ⟨W.heap.size, 0, Option.none⟩ = some (.int .u8 y) := by
  rw [cell_of_row _ _ 0 _ _ _ (heap_alloc_new W _)]; rfl
theorem parts_facts (L : List Int) (hl : L.length ≤ 900) (hr : ∀ x ∈ L, 0 ≤ x ∧ x ≤ 255) : (partsF L).length ≤ 901 ∧ (∀ p ∈ partsF L, p ≠ []) ∧ (∀ p ∈ partsF L, p.length ≤ 900) ∧ (∀ p ∈ partsF L, ∀ x ∈ p, 0 ≤ x ∧ x ≤ 255) := by
  unfold partsF
  by_cases h : isB L = true
  · rw [if_pos h]
    refine ⟨by have := pieces_len L; omega, fun p hp e => ?_, fun p hp => ?_, pieces_rng L hr⟩
    · unfold isB at h
      rw [Bool.and_eq_true] at h
      have h2 := h.2
      rw [List.any_eq_true.2 ⟨p, hp, decide_eq_true (.inl e)⟩] at h2
      exact absurd h2 (by decide)
    · have := splitL_each (cutEnd L) p hp
      have := cutEnd_len L
      omega
  · rw [if_neg h]; simp
theorem parent_rng (L : List Int) (hl : L.length ≤ 900) (hr : ∀ x ∈ L, 0 ≤ x ∧ x ≤ 255) : ∀ x ∈ parentL L, 0 ≤ x ∧ x ≤ 255 := by
  intro x hx
  unfold parentL at hx
  split at hx
  · cases hx
  · rcases List.mem_append.1 hx with hx | hx
    · rcases joinL_mem _ x hx with rfl | ⟨p, hp, hx⟩
      · omega
      · exact (parts_facts L hl hr).2.2.2 p (List.dropLast_subset _ hp) x hx
    · rw [List.mem_singleton.1 hx]; omega
theorem joinL_len (X : List (List Int)) : (joinL X).length ≤ (X.map List.length).sum + X.length := by
  cases X with
  | nil => simp [joinL]
  | cons p r => unfold joinL; rw [List.length_append, joinT_len]; simp; omega
theorem splitL_sum (l : List Int) : ((splitL l).map List.length).sum ≤ l.length := by
  induction l with
  | nil => simp [splitL]
  | cons x xs ih =>
    unfold splitL
    split
    · simp; omega
    · split
      · rename_i q qs hs; rw [hs] at ih; simp at ih ⊢; omega
      · simp
theorem parent_len (L : List Int) : (parentL L).length ≤ 2 * L.length + 3 := by
  unfold parentL
  split
  · simp
  · have h1 := joinL_len (partsF L).dropLast
    have h2 : ((partsF L).dropLast.map List.length).sum ≤ ((partsF L).map List.length).sum := by
      rw [List.dropLast_eq_take]
      have e := List.take_append_drop ((partsF L).length - 1) (partsF L)
      conv => rhs; rw [← e, List.map_append, List.sum_append]
      omega
    have h3 : ((partsF L).map List.length).sum ≤ L.length := by
      unfold partsF
      split
      · have := splitL_sum (cutEnd L); have := cutEnd_len L; unfold piecesL; omega
      · simp
    have h4 : (partsF L).length ≤ L.length + 1 := by
      unfold partsF
      split
      · exact pieces_len L
      · simp
    have h5 : (partsF L).dropLast.length ≤ (partsF L).length := by rw [List.length_dropLast]; omega
    rw [List.length_append]
    simp
    omega
theorem cell_kept {W W' : World} {k : Nat} {v : Value} (h : W.cell? ⟨k, 0, Option.none⟩ = some v) (hb : Below W.heap.size W W') : W'.cell? ⟨k, 0, Option.none⟩ = some v := (hb.cell (p := ⟨k, 0, Option.none⟩) (World.block_lt_of_cell? W _ h)).trans h
theorem fresh_lower {B B' : Nat} {w : World} {v : Value} {l : List Int} (h : Fresh B w v l) (hb : B' ≤ B) : Fresh B' w v l := by
  obtain ⟨g, cap, e, h1, h2⟩ := h
  exact ⟨g, cap, e, Nat.le_trans hb h1, h2⟩
theorem own_some {w : World} {base n : Nat} {v : Value} {X : List (List Int)} (h : Kd.R (Kd.slice 5 (Kd.int .u8)) 22 w base (fun _ => True) v X) (hn : X.length = n) (h0 : 0 < n) : ∃ g c, v = .slice (some ⟨g, 0, Option.none⟩) n c ∧ n ≤ c ∧ g < w.heap.size ∧ Kd.C (Kd.slice 5 (Kd.int .u8)) w (some ⟨g, 0, Option.none⟩) X.length X := by
  obtain ⟨A, c, rfl, hc, hC⟩ := Kd.R_reads h
  obtain ⟨ad, e, _⟩ := hC.2.2 (by omega)
  subst e
  obtain ⟨g, rfl⟩ := Kd.R_head h
  obtain ⟨_, inner, ho, _⟩ := h
  exact ⟨g, c, by rw [hn], by omega, (own_lt ho g rfl), hC⟩
set_option maxHeartbeats 8000000 in
set_option maxRecDepth 100000 in
theorem parent_any (A : Option Addr) (c : Nat) (L : List Int) (w : World) (h : Arg w A c L) (hl : L.length ≤ 900) : Calls Tryd.prog 12 #[.slice A L.length c] w (RPost w (parentL L)) := by
  have PA := Aside0.mk (parts_any A c L w h)
  have PF := Aside0.mk (parts_facts L hl h.rng)
  have PR := Aside0.mk (parent_rng L hl h.rng)
  have PL := Aside0.mk (parent_len L)
  have HL := Aside0.mk hl
  have SL := Aside0.mk slash_any
  clear h hl
  obtain ⟨X, hX⟩ : ∃ X, partsF L = X := ⟨_, rfl⟩
  have EP : Aside0 (parentL L = if X.length < 2 then [] else joinL X.dropLast ++ [47]) := ⟨by unfold parentL; rw [hX]⟩
  rw [hX] at PA PF
  clear hX
  by_cases h2 : X.length < 2
  · rw [if_pos h2] at EP
    have d1 : decide ((X.length : Int) < 2) = true := decide_eq_true (by omega)
    clear h2 PF
    go_enter Tryd.func12, Tryd.ntmps12
    go_wp2_with (go_at_call 21; (with_reducible refine PA.out.mono ?_); rintro e w1 ⟨v, rfl, hR, hb⟩; obtain ⟨A1, c1, rfl⟩ := Kd.R_slice hR; have B1 := Aside0.mk hb; clear hb hR)
    go_ret
    exact ⟨Option.none, 0, by rw [EP.out]; rfl, by rw [EP.out]; exact Arg.none _, B1.out⟩
  · rw [if_neg h2] at EP
    obtain ⟨n, hn⟩ : ∃ n, X.length = n + 1 := ⟨X.length - 1, by omega⟩
    have d1 : decide ((X.length : Int) < 2) = false := decide_eq_false (by omega)
    have d2 : decide ((n : Int) + 1 < 2) = false := decide_eq_false (by omega)
    have hsub : IntKind.i64.wrap (((n + 1 : Nat) : Int) - 1) = (n : Int) := by rw [IntKind.wrap_i64]; have := PF.out.1; omega
    have hw64 : wrap64 (n : Int) = (n : Int) := w_in _ (by omega) (by have := PF.out.1; omega)
    have hwi : IntKind.i64.wrap (n : Int) = (n : Int) := by rw [IntKind.wrap_i64]; have := PF.out.1; omega
    have hdl : X.dropLast.length = n := by rw [List.length_dropLast]; omega
    have N1 : Aside0 (1 ≤ n) := ⟨by omega⟩
    have HN := Aside0.mk hn
    have HDL := Aside0.mk hdl
    have JA : Aside0 (∀ (b c b2 : Nat) (W : World), Kd.C (Kd.slice 5 (Kd.int .u8)) W (some ⟨b, 0, Option.none⟩) n X.dropLast → n ≤ c → Kd.C (Kd.int .u8) W (some ⟨b2, 0, Option.none⟩) 1 [47] →
        Calls Tryd.prog 36 #[.slice (some ⟨b, 0, Option.none⟩) n c, .slice (some ⟨b2, 0, Option.none⟩) 1 1] W fun e w' => ∃ v, e = .returned v ∧ Fresh W.heap.size w' v (joinL X.dropLast) ∧ Below W.heap.size W w') := ⟨by
      intro b c b2 W h1 h3 h4
      have pf := PF.out
      have := join_any b c b2 X.dropLast W (by rw [hdl]; exact h1) (by omega) (by omega) (by omega) (fun p hp => pf.2.1 p (List.dropLast_subset _ hp)) (fun p hp => by have := pf.2.2.1 p (List.dropLast_subset _ hp); omega) (fun p hp => pf.2.2.2 p (List.dropLast_subset _ hp)) h4
      rwa [hdl] at this⟩
    have XC : Aside0 (∀ (W : World) (A1 : Option Addr), Kd.C (Kd.slice 5 (Kd.int .u8)) W A1 X.length X → Kd.C (Kd.slice 5 (Kd.int .u8)) W A1 n X.dropLast) := ⟨by
      intro W A1 h1
      have := Kd.C_take (m := n) h1 (by omega)
      rw [List.dropLast_eq_take, show X.length - 1 = n by omega]
      have e : (X.take n).length = n := by rw [List.length_take]; omega
      rwa [e] at this⟩
    clear h2 hdl
    have LJ : Aside0 ((joinL X.dropLast).length ≤ 1000000) := ⟨by have := PL.out; rw [EP.out, List.length_append] at this; have := HL.out; omega⟩
    have RT := Aside0.mk (fun g c1 (hc : n + 1 ≤ c1) W => rows_take (some ⟨g, 0, Option.none⟩) c1 n (by omega) (by have := PF.out.1; omega) (.inr (by omega)) (n + 1) W rfl hc)
    clear hn
    go_enter Tryd.func12, Tryd.ntmps12
    go_wp2_with (go_at_call 21; (with_reducible refine PA.out.mono ?_); rintro e w1 ⟨v, rfl, hR, hb⟩; obtain ⟨g, c1, rfl, hc1, hg, hC⟩ := own_some hR HN.out (by omega); have HC := Aside0.mk (XC.out _ _ hC); have HC1 := Aside0.mk hc1; have q1 : (n : Int) ≤ (c1 : Int) := (by omega); have B1 := Aside0.mk hb; clear hb hR hg hC hc1)
    go_region_law (first
      | (go_simp; go_at_call 37; (with_reducible refine (SL.out _).mono ?_); rintro e w2 ⟨b2, rfl, hc, hS, hb⟩; have HS := Aside0.mk hS; have B2 : Aside0 (Below w.heap.size w w2) := ⟨below_step (by repeat (first | exact B1.out | apply below_drew | apply below_alloc)) hb⟩; have HC2 : Aside0 (Kd.C (Kd.slice 5 (Kd.int .u8)) w2 (some ⟨g, 0, Option.none⟩) n X.dropLast) := ⟨Kd.C_below (by repeat (first | exact HC.out | apply Kd.C_alloc | apply Kd.C_drew)) hb⟩; (try have HT := Aside0.mk (cell_kept (cell_lit w1.drew 47) hb)); clear hc hS hb)
      | (go_simp; go_at_call 36; (with_reducible refine (JA.out g c1 b2 _ (by repeat (first | exact HC2.out | apply Kd.C_alloc | apply Kd.C_drew)) (by have := HC1.out; omega) (by repeat (first | exact HS.out | apply Kd.C_alloc | apply Kd.C_drew))).mono ?_); rintro e w3 ⟨v3, rfl, hF, hb⟩; have HF : Aside0 (Fresh w2.heap.size w3 v3 (joinL X.dropLast)) := ⟨fresh_lower hF (by first | exact Nat.le_refl _ | exact (below_alloc (Below.refl _ _) _).size)⟩; have HB3 : Aside0 (w2.heap.size ≤ w3.heap.size) := ⟨Nat.le_trans (by first | exact Nat.le_refl _ | exact (below_alloc (Below.refl _ _) _).size) hb.size⟩; have B3 : Aside0 (Below w.heap.size w w3) := ⟨below_step (by repeat (first | exact B2.out | apply below_drew | apply below_alloc)) hb⟩; (first | (have HT := Aside0.mk (cell_kept HT.out hb)) | (have HT := Aside0.mk (cell_kept (cell_lit w2 47) hb)) | skip); clear hF hb)
      | (refine step_append_fresh rfl (.tmp 15) (.tmp 16) rfl w2.heap.size v3 (joinL X.dropLast) 47 rfl _ rfl (by first | exact HF.out | exact (HF.out.below (below_alloc (Below.refl _ _) _))) LJ.out (by first | exact HB3.out | exact (Nat.le_trans HB3.out (below_alloc (Below.refl _ _) _).size)) (by first | exact cell_lit w3 47 | exact HT.out) ?_; intro v5 w5 hF5 hb5; have HF5 := Aside0.mk hF5; have B5 : Aside0 (Below w.heap.size w w5) := ⟨Below.trans (by repeat (first | exact B3.out | apply below_drew | apply below_alloc)) (hb5.mono B2.out.size)⟩; clear hF5 hb5)
      | fail)
    all_goals
      obtain ⟨A5, c5, rfl, hA5⟩ := HF5.out.arg (by rw [← EP.out]; exact PR.out) (by rw [← EP.out]; have := PL.out; have := HL.out; omega)
      have HA5 := Aside0.mk hA5
      clear hA5
      go_wp2
      go_ret
      exact ⟨A5, c5, by rw [EP.out]; rfl, by rw [EP.out]; exact HA5.out, B5.out⟩
end Go.Proofs.YtbjffjbohpoedaaDoor.Fd

namespace Go.Proofs.YtbjffjbohpoedaaDoor.Fd
open Go.Proofs.YtbjffjbohpoedaaDoor.Wd
open Go.RowKit Go.Proofs.YtbjffjbohpoedaaDoorW.PrintWords Go.Proofs.YtbjffjbohpoedaaDoorW.PrintLast Go.Proofs.YtbjffjbohpoedaaDoorW.PrintMore
set_option linter.unusedVariables false
set_option linter.unusedSimpArgs false
theorem bytesOf_run {w : World} {A : Option Addr} {c : Nat} {p : List Int} (h : Kd.C (Kd.int .u8) w A p.length p) : (Extern.Bytes.bytesOf (.slice A p.length c)).run Tryd.prog w = .ok ⟨(Lib.bytesOf p).toArray⟩ w := by
  rcases Nat.eq_zero_or_pos p.length with h0 | h0
  · obtain rfl := List.eq_nil_of_length_eq_zero h0
    cases A <;> rfl
  · obtain ⟨ad, rfl, hc⟩ := (Kd.reads_of_C (d := (0 : Int)) h).2.2 h0
    have hl := Lib.run_loadBytesX (P := Tryd.prog) w p ad .empty (fun j x hj => by
      have hjl : j < p.length := (List.getElem?_eq_some_iff.1 hj).1
      rw [hc j hjl, List.getD_eq_getElem?_getD, hj]; rfl)
    have he : (⟨ByteArray.empty.data ++ (Lib.bytesOf p).toArray⟩ : ByteArray) = ⟨(Lib.bytesOf p).toArray⟩ := by
      apply ByteArray.ext
      show (#[] : Array UInt8) ++ (Lib.bytesOf p).toArray = (Lib.bytesOf p).toArray
      simp
    rw [he] at hl
    exact hl
def cmpZ (p q : List Int) : Int := Lib.compareBytes (Lib.bytesOf p) (Lib.bytesOf q)
set_option maxRecDepth 100000 in
theorem bcompare_any (A1 : Option Addr) (c1 : Nat) (p : List Int) (A2 : Option Addr) (c2 : Nat) (q : List Int) (w : World) (h1 : Kd.C (Kd.int .u8) w A1 p.length p) (h2 : Kd.C (Kd.int .u8) w A2 q.length q) :
    Calls Tryd.prog 57 #[.slice A1 p.length c1, .slice A2 q.length c2] w fun e w' => e = .returned (.int .i64 (cmpZ p q)) ∧ w = w' := by
  have hrun : (Extern.BytealgCompare.compare #[.slice A1 p.length c1, .slice A2 q.length c2]).run Tryd.prog w = .ok (.int .i64 (cmpZ p q)) w := by
    change Sem.run Tryd.prog (do pure (goInt (Extern.BytealgCompare.cmp (← Extern.Bytes.bytesOf (.slice A1 p.length c1)) (← Extern.Bytes.bytesOf (.slice A2 q.length c2))))) w = _
    simp only [Sem.run_bind, bytesOf_run h1, bytesOf_run h2, Result.andThen, Sem.run_pure]
    rw [Lib.cmp_eq]
    rfl
  have HRUN := Aside0.mk hrun
  clear h1 h2 hrun
  generalize cmpZ p q = z at *
  go_enter Tryd.func57, Tryd.ntmps57
  go_wp2
  rw [run_callFunc_extern Tryd.func70 (by kernel_rfl) (by kernel_rfl) (by kernel_rfl) (e := Extern.BytealgCompare.compare) (by kernel_rfl), HRUN.out]
  simp only [Result.andThen]
  rw [Oper.upon_value]
  go_wp2
  go_ret
  exact ⟨rfl, rfl⟩
def cmpP : List (List Int) → List (List Int) → Int
  | x :: xs, y :: ys => if cmpZ (x.map fold1) (y.map fold1) = 0 then cmpP xs ys else cmpZ (x.map fold1) (y.map fold1)
  | _, _ => 0
def compareZ (a b : List Int) : Int :=
  if cmpP (piecesL a) (piecesL b) = 0 then (if (piecesL a).length = (piecesL b).length then cmpZ a b else ((piecesL a).length : Int) - (piecesL b).length) else cmpP (piecesL a) (piecesL b)
theorem cmpP_step (X Y : List (List Int)) (i : Nat) (h1 : i < X.length) (h2 : i < Y.length) : cmpP (X.drop i) (Y.drop i) = if cmpZ (X[i].map fold1) (Y[i].map fold1) = 0 then cmpP (X.drop (i + 1)) (Y.drop (i + 1)) else cmpZ (X[i].map fold1) (Y[i].map fold1) := by
  rw [List.drop_eq_getElem_cons h1, List.drop_eq_getElem_cons h2, cmpP]
theorem cmpP_end (X Y : List (List Int)) (i : Nat) (h : ¬ (i < X.length ∧ i < Y.length)) : cmpP (X.drop i) (Y.drop i) = 0 := by
  by_cases h1 : i < X.length
  · have e : Y.drop i = [] := List.drop_eq_nil_of_le (by omega)
    rw [e]
    cases X.drop i <;> rfl
  · have e : X.drop i = [] := List.drop_eq_nil_of_le (by omega)
    rw [e]; rfl
theorem el_at {w : World} {A : Option Addr} {X : List (List Int)} (h : Kd.C (Kd.slice 5 (Kd.int .u8)) w A X.length X) (i : Nat) (hi : i < X.length) : ∃ ad A0 c0, A = some ad ∧ w.cell? (ad.add i) = some (.slice A0 X[i].length c0) ∧ X[i].length ≤ c0 ∧ Kd.C (Kd.int .u8) w A0 X[i].length X[i] := by
  obtain ⟨ad, A0, c0, e, h1, h2, h3⟩ := FR.at_L1 h (i : Int) (by omega) (by omega)
  have e2 : FR.rd_L1 X (i : Int) = X[i] := by unfold FR.rd_L1; rw [Int.toNat_natCast, List.getD_eq_getElem?_getD, List.getElem?_eq_getElem hi]; rfl
  rw [e2] at h1 h2 h3
  rw [Int.toNat_natCast] at h1
  exact ⟨ad, A0, c0, e, h1, h2, h3⟩
theorem C_own {w : World} {base : Nat} {A : Option Addr} {c : Nat} {L : List Int} (h : w.ownsRow base 5 1 (.slice A L.length c) L.length (nums .u8 L)) : Kd.C (Kd.int .u8) w A L.length L :=
  Kd.C_of_reads (d := (0 : Int)) (h1 := fun _ => rfl) (own_reads' h)
theorem pieces_each (L : List Int) : ∀ p ∈ piecesL L, p.length ≤ L.length := fun p hp => Nat.le_trans (splitL_each (cutEnd L) p hp) (cutEnd_len L)
set_option maxHeartbeats 8000000 in
set_option maxRecDepth 100000 in
theorem compare_any (A : Option Addr) (c : Nat) (a : List Int) (A' : Option Addr) (c' : Nat) (b : List Int) (w : World) (ha : Arg w A c a) (hb : Arg w A' c' b) :
    Calls Tryd.prog 32 #[.slice A a.length c, .slice A' b.length c'] w fun e w' => e = .returned (.int .i64 (compareZ a b)) ∧ Below w.heap.size w w' := by
  have PA := Aside0.mk (fun W (hbl : Below w.heap.size w W) => pieces_any A c a W (ha.below hbl))
  have PB := Aside0.mk (fun W (hbl : Below w.heap.size w W) => pieces_any A' c' b W (hb.below hbl))
  have CE := Aside0.mk (fun W (hbl : Below w.heap.size w W) => bcompare_any A c a A' c' b W (ha.below hbl).C (hb.below hbl).C)
  have RA := Aside0.mk (pieces_rng a ha.rng)
  have RB := Aside0.mk (pieces_rng b hb.rng)
  have LA : Aside0 ((piecesL a).length ≤ 100001 ∧ ∀ p ∈ piecesL a, p.length ≤ 1000000000) := ⟨by have := pieces_len a; have := ha.len; omega, fun p hp => by have := pieces_each a p hp; have := ha.len; omega⟩
  have LB : Aside0 ((piecesL b).length ≤ 100001 ∧ ∀ p ∈ piecesL b, p.length ≤ 1000000000) := ⟨by have := pieces_len b; have := hb.len; omega, fun p hp => by have := pieces_each b p hp; have := hb.len; omega⟩
  obtain ⟨X, hX⟩ : ∃ X, piecesL a = X := ⟨_, rfl⟩
  obtain ⟨Y, hY⟩ : ∃ Y, piecesL b = Y := ⟨_, rfl⟩
  obtain ⟨ce, hce⟩ : ∃ ce, cmpZ a b = ce := ⟨_, rfl⟩
  have EZ : Aside0 (compareZ a b = if cmpP X Y = 0 then (if X.length = Y.length then ce else (X.length : Int) - Y.length) else cmpP X Y) := ⟨by unfold compareZ; rw [hX, hY, hce]⟩
  rw [hX] at PA RA LA
  rw [hY] at PB RB LB
  rw [hce] at CE
  clear hX hY hce ha hb
  generalize compareZ a b = rz at *
  go_enter Tryd.func32, Tryd.ntmps32
  go_wp2_with (first
    | (go_at_call 43; (with_reducible refine (PA.out _ (Below.refl _ _)).mono ?_); rintro e w1 ⟨A1, c1, rfl, hle, hC, hbl⟩; have C1 := Aside0.mk hC; have B1 := Aside0.mk hbl; clear hle hC hbl)
    | (go_at_call 43; (with_reducible refine (PB.out _ B1.out).mono ?_); rintro e w2 ⟨A2, c2, rfl, hle, hC, hbl⟩; have C2 := Aside0.mk hC; have CX := Aside0.mk (Kd.C_below C1.out hbl); have HB := Aside0.mk (below_step B1.out hbl); clear hle hC hbl))
  go_loopw [7] (fun v7 wr => ∃ i : Nat, v7 = .int .i64 i ∧ i ≤ X.length ∧ i ≤ Y.length ∧ cmpP (X.drop i) (Y.drop i) = cmpP X Y ∧ Below w2.heap.size w2 wr) (fun v7 _ => X.length - (intOf v7).toNat)
  case atStart => exact ⟨0, rfl, Nat.zero_le _, Nat.zero_le _, rfl, Below.refl _ _⟩
  case round =>
    rename World => wr
    obtain ⟨i, rfl, hi1, hi2, hcp, hbel⟩ := hrel
    have HBW := Aside0.mk hbel
    have CP := Aside0.mk hcp
    clear hbel hcp
    by_cases hlt : i < X.length ∧ i < Y.length
    · have d1 : decide ((i : Int) < (X.length : Int)) = true := decide_eq_true (by omega)
      have d2 : decide ((i : Int) < (Y.length : Int)) = true := decide_eq_true (by omega)
      have q1 : (i : Int) < (X.length : Int) := by omega
      have q2 : (i : Int) < (Y.length : Int) := by omega
      obtain ⟨ad1, A3, c3, rfl, hx1, hl1, hC1⟩ := el_at (Kd.C_below CX.out HBW.out) i hlt.1
      obtain ⟨ad2, A4, c4, rfl, hx2, hl2, hC2⟩ := el_at (Kd.C_below C2.out HBW.out) i hlt.2
      have hst := cmpP_step X Y i hlt.1 hlt.2
      have FX : Aside0 (∀ W, Below wr.heap.size wr W → Calls Tryd.prog 56 #[.slice A3 X[i].length c3] W (Mine W (X[i].map fold1))) := ⟨fun W hb => foldall_any A3 c3 X[i] W (Kd.C_below hC1 hb) (LA.out.2 _ (List.getElem_mem hlt.1)) (RA.out _ (List.getElem_mem hlt.1))⟩
      have FY : Aside0 (∀ W, Below wr.heap.size wr W → Calls Tryd.prog 56 #[.slice A4 Y[i].length c4] W (Mine W (Y[i].map fold1))) := ⟨fun W hb => foldall_any A4 c4 Y[i] W (Kd.C_below hC2 hb) (LB.out.2 _ (List.getElem_mem hlt.2)) (RB.out _ (List.getElem_mem hlt.2))⟩
      have lt1 : (ad1.add i).block < wr.heap.size := block_lt_of_cell hx1
      have lt2 : (ad2.add i).block < wr.heap.size := block_lt_of_cell hx2
      have HSK : Aside0 (∀ W, Below wr.heap.size wr W → W.cell? (ad1.add i) = some (.slice A3 X[i].length c3) ∧ W.cell? (ad2.add i) = some (.slice A4 Y[i].length c4)) := ⟨fun W hb => ⟨(hb.cell (p := ad1.add i) lt1).trans hx1, (hb.cell (p := ad2.add i) lt2).trans hx2⟩⟩
      have hwk : wrap64 ((i : Int) + 1) = ((i + 1 : Nat) : Int) := w_in _ (by omega) (by have := LA.out.1; omega)
      have LT := Aside0.mk hlt
      have I1 := Aside0.mk hi1
      rw [CP.out] at hst
      have ST := Aside0.mk hst
      clear hst hl1 hl2 hC1 hC2 lt1 lt2
      generalize X[i] = p at *
      generalize Y[i] = q at *
      clear hlt
      obtain ⟨fp, hfp⟩ : ∃ fp, p.map fold1 = fp := ⟨_, rfl⟩
      obtain ⟨fq, hfq⟩ : ∃ fq, q.map fold1 = fq := ⟨_, rfl⟩
      have lfp : fp.length = p.length := by rw [← hfp, List.length_map]
      have lfq : fq.length = q.length := by rw [← hfq, List.length_map]
      rw [hfp] at FX
      rw [hfq] at FY
      rw [hfp, hfq] at ST
      clear hfp hfq lfp lfq
      have HBc : Aside0 (Below wr.heap.size wr wr) := ⟨Below.refl _ _⟩
      go_wp2_with fail
      go_region_held3 (fun w' => w'.cell? (ad1.add i) = some (.slice A3 p.length c3) ∧ w'.cell? (ad2.add i) = some (.slice A4 q.length c4))
        (first
          | go_keep
          | (with_reducible exact HSK.out _ HBc.out)
          | (with_reducible exact HSK.out _ (below_drew HBc.out)))
        (first
          | (go_at_call 56; (with_reducible refine (FX.out _ (by first | exact HBc.out | exact below_drew HBc.out)).mono ?_); rintro e w5 ⟨v5, rfl, ho, hbl⟩; obtain ⟨A5, c5, rfl⟩ := own_slice ho; (try have OY := Aside0.mk (Kd.C_below OY.out hbl)); have OX := Aside0.mk (C_own ho); have HBc : Aside0 (Below wr.heap.size wr w5) := ⟨below_step (by first | exact HBc.out | exact below_drew HBc.out) hbl⟩; clear ho hbl)
          | (go_at_call 56; (with_reducible refine (FY.out _ (by first | exact HBc.out | exact below_drew HBc.out)).mono ?_); rintro e w6 ⟨v6, rfl, ho, hbl⟩; obtain ⟨A6, c6, rfl⟩ := own_slice ho; (try have OX := Aside0.mk (Kd.C_below OX.out hbl)); have OY := Aside0.mk (C_own ho); have HBc : Aside0 (Below wr.heap.size wr w6) := ⟨below_step (by first | exact HBc.out | exact below_drew HBc.out) hbl⟩; clear ho hbl)
          | (go_at_call 57; (with_reducible refine (bcompare_any _ _ fp _ _ fq _ OX.out OY.out).mono ?_); rintro e w7 ⟨rfl, rfl⟩))
      all_goals
        go_split_ands
        by_cases hz : cmpZ fp fq = 0
        · have z1 : (cmpZ fp fq == 0) = true := beq_iff_eq.mpr hz
          have z2 : (cmpZ fp fq != 0) = false := bne_eq_false_iff_eq.mpr hz
          have HZ := Aside0.mk hz
          clear hz
          generalize cmpZ fp fq = cz at *
          go_wp2
          go_roundw
          case rel =>
            refine ⟨i + 1, (by first | rfl | rw [hwk] | go_num), by have := LT.out; omega, by have := LT.out; omega, ?_, below_step HBW.out HBc.out⟩
            rw [ST.out, if_pos HZ.out]
          case measure => have := LT.out; (try rw [hwk]); simp [intOf]; omega
        · have z1 : (cmpZ fp fq == 0) = false := beq_eq_false_iff_ne.mpr hz
          have z2 : (cmpZ fp fq != 0) = true := bne_iff_ne.mpr hz
          have HZ := Aside0.mk hz
          clear hz
          generalize cmpZ fp fq = cz at *
          go_wp2
          go_ret
          refine ⟨?_, HB.out.trans ((below_step HBW.out HBc.out).mono HB.out.size)⟩
          have hst := ST.out
          rw [if_neg HZ.out] at hst
          rw [EZ.out, hst, if_neg HZ.out]
          rfl
    · have hend := cmpP_end X Y i hlt
      rw [CP.out] at hend
      have EZ2 : Aside0 (rz = if X.length = Y.length then ce else (X.length : Int) - Y.length) := ⟨by rw [EZ.out, if_pos hend]⟩
      have CE2 := Aside0.mk (CE.out wr (HB.out.trans (HBW.out.mono HB.out.size)))
      have hla := LA.out.1
      have hlb := LB.out.1
      have hwd : wrap64 ((X.length : Int) - (Y.length : Int)) = (X.length : Int) - (Y.length : Int) := w_in _ (by omega) (by omega)
      have hwd2 : IntKind.i64.wrap ((X.length : Int) - (Y.length : Int)) = (X.length : Int) - (Y.length : Int) := by rw [IntKind.wrap_i64]; omega
      clear hend hla hlb
      have key : ((i < X.length) = False) ∨ ((i < X.length) = True ∧ (i < Y.length) = False) := by
        by_cases h1 : i < X.length
        · exact .inr ⟨eq_true h1, eq_false (fun h2 => hlt ⟨h1, h2⟩)⟩
        · exact .inl (eq_false h1)
      clear hlt
      rcases key with hk | ⟨hk1, hk2⟩
      · have d1 : decide ((i : Int) < (X.length : Int)) = false := decide_eq_false (by have := of_eq_false hk; omega)
        have d1n : decide (i < X.length) = false := decide_eq_false (of_eq_false hk)
        clear hk
        by_cases hxy : X.length = Y.length
        · have e1 : ((X.length : Int) == (Y.length : Int)) = true := beq_iff_eq.mpr (by omega)
          have e2 : ((X.length : Int) != (Y.length : Int)) = false := bne_eq_false_iff_eq.mpr (by omega)
          have e3 : (X.length == Y.length) = true := beq_iff_eq.mpr hxy
          rw [if_pos hxy] at EZ2
          clear hxy
          go_wp2_with (go_at_call 57; (with_reducible refine CE2.out.mono ?_); rintro e w7 ⟨rfl, rfl⟩)
          go_ret
          exact ⟨by rw [EZ2.out]; rfl, HB.out.trans (HBW.out.mono HB.out.size)⟩
        · have e1 : ((X.length : Int) == (Y.length : Int)) = false := beq_eq_false_iff_ne.mpr (by omega)
          have e2 : ((X.length : Int) != (Y.length : Int)) = true := bne_iff_ne.mpr (by omega)
          have e3 : (X.length == Y.length) = false := beq_eq_false_iff_ne.mpr hxy
          rw [if_neg hxy] at EZ2
          clear hxy
          go_wp2_with fail
          go_ret
          exact ⟨by rw [EZ2.out]; first | rfl | rw [hwd]; rfl, HB.out.trans (HBW.out.mono HB.out.size)⟩
      · have d1 : decide ((i : Int) < (X.length : Int)) = true := decide_eq_true (by have := of_eq_true hk1; omega)
        have d2 : decide ((i : Int) < (Y.length : Int)) = false := decide_eq_false (by have := of_eq_false hk2; omega)
        have d1n : decide (i < X.length) = true := decide_eq_true (of_eq_true hk1)
        have d2n : decide (i < Y.length) = false := decide_eq_false (of_eq_false hk2)
        have hxy : ¬ X.length = Y.length := by have := of_eq_true hk1; have := of_eq_false hk2; omega
        clear hk1 hk2
        have e1 : ((X.length : Int) == (Y.length : Int)) = false := beq_eq_false_iff_ne.mpr (by omega)
        have e2 : ((X.length : Int) != (Y.length : Int)) = true := bne_iff_ne.mpr (by omega)
        have e3 : (X.length == Y.length) = false := beq_eq_false_iff_ne.mpr hxy
        rw [if_neg hxy] at EZ2
        clear hxy
        go_wp2_with fail
        go_ret
        exact ⟨by rw [EZ2.out]; first | rfl | rw [hwd]; rfl, HB.out.trans (HBW.out.mono HB.out.size)⟩
def lessB (a b : List Int) : Bool := decide (compareZ a b < 0)
theorem less_any (A : Option Addr) (c : Nat) (a : List Int) (A' : Option Addr) (c' : Nat) (b : List Int) (w : World) (ha : Arg w A c a) (hb : Arg w A' c' b) :
    Calls Tryd.prog 9 #[.slice A a.length c, .slice A' b.length c'] w fun e w' => e = .returned (.bool (lessB a b)) ∧ Below w.heap.size w w' := by
  have CP := Aside0.mk (compare_any A c a A' c' b w ha hb)
  clear ha hb
  unfold lessB
  generalize compareZ a b = z at *
  go_enter Tryd.func9, Tryd.ntmps9
  go_wp2_with (go_at_call 32; (with_reducible refine CP.out.mono ?_); rintro e w2 ⟨rfl, hbl⟩; have B2 := Aside0.mk hbl; clear hbl)
  go_ret
  exact ⟨rfl, B2.out⟩
theorem depth_ab : (partsF [97, 47, 98]).length = 2 ∧ errZ (isB []) = 16 := by decide +kernel
set_option maxHeartbeats 4000000 in
set_option maxRecDepth 100000 in
theorem lives_any (w : World) : Calls Tryd.prog 13 #[] w fun e w' => e = .returned (.bool true) ∧ Below w.heap.size w w' := by
  have kc := fun (w : World) (C : Array Value) (n c : Nat) => Lib.run_convert_bytes_const (P := Tryd.prog) w 22 5 C n c Tryd.underlying22 Tryd.underlying5
  have DA : Aside0 (∀ W : World, Calls Tryd.prog 22 #[.slice (some ⟨W.heap.size, 0, Option.none⟩) 3 3] (W.alloc (.cells ([97, 47, 98].map (Value.int .u8)).toArray 5 (3, 4))) fun e w' => e = .returned (.int .i64 2) ∧ Below W.heap.size W w') := ⟨fun W => by
    have h := depth_any (some ⟨W.heap.size, 0, Option.none⟩) 3 [97, 47, 98] (W.alloc (.cells ([97, 47, 98].map (Value.int .u8)).toArray 5 (3, 4))) ⟨MyWords.C_new .u8 W [97, 47, 98] 5 _ (by decide), by decide, by decide, fun h => (by cases h), by decide, by decide⟩
    rw [depth_ab.1] at h
    exact h.mono fun e w' ⟨h1, h2⟩ => ⟨h1, below_step (below_alloc (Below.refl _ _) _) h2⟩⟩
  have CA : Aside0 (∀ W : World, Calls Tryd.prog 15 #[.slice Option.none 0 0] W fun e w' => e = .returned (.int .i64 16) ∧ Below W.heap.size W w') := ⟨fun W => by
    have h := check_any Option.none 0 [] W (Arg.none W)
    rw [depth_ab.2] at h
    exact h⟩
  go_enter Tryd.func13, Tryd.ntmps13
  go_wp2_with (first
    | (go_at_call 22; refine (DA.out w).mono ?_; rintro e w1 ⟨rfl, hb⟩; have B1 := Aside0.mk hb; clear hb)
    | (go_at_call 15; (with_reducible refine (CA.out _).mono ?_); rintro e w2 ⟨rfl, hb⟩; have B2 := Aside0.mk (below_step B1.out hb); clear hb))
  go_ret
  exact ⟨rfl, B2.out⟩
end Go.Proofs.YtbjffjbohpoedaaDoor.Fd
