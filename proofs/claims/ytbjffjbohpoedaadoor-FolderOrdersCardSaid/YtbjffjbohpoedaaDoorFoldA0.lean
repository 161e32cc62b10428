/- folder.IsFolder, pieces, Check, walked. -/
import Derived.Test.YtbjffjbohpoedaaDoorWildParts0
import Derived.Test.YtbjffjbohpoedaaDoorFHx1
import Derived.Test.YtbjffjbohpoedaaDoorFRx0
import Derived.Great.BuildSlice
import Derived.Lib.Bytes
namespace Go.Proofs.YtbjffjbohpoedaaDoor.Fd
open Go.Proofs.YtbjffjbohpoedaaDoor.Wd
open Go.RowKit Go.Proofs.YtbjffjbohpoedaaDoorW.PrintWords Go.Proofs.YtbjffjbohpoedaaDoorW.PrintLast Go.Proofs.YtbjffjbohpoedaaDoorW.PrintMore
set_option linter.unusedVariables false
set_option linter.unusedSimpArgs false
/-- ends with a slash -/
def isFB (L : List Int) : Bool := decide (0 < L.length ∧ L.getD (L.length - 1) 0 = 47)
/-- bytes that are only read -/
structure Arg (w : World) (A : Option Addr) (c : Nat) (L : List Int) : Prop where
  C : Kd.C (Kd.int .u8) w A L.length L
  le : L.length ≤ c
  cap : c ≤ 9223372036854775807
  nil : A = none → c = 0
  rng : ∀ x ∈ L, 0 ≤ x ∧ x ≤ 255
  len : L.length ≤ 100000
theorem Arg.below {w w1 : World} {A : Option Addr} {c : Nat} {L : List Int} (h : Arg w A c L) (hb : Below w.heap.size w w1) : Arg w1 A c L := ⟨Kd.C_below h.C hb, h.le, h.cap, h.nil, h.rng, h.len⟩
theorem Arg.take {w : World} {A : Option Addr} {c : Nat} {L : List Int} (h : Arg w A c L) (n : Nat) : Arg w A c (L.take n) :=
  ⟨by
    by_cases e : n ≤ L.length
    · have := Kd.C_take (m := n) h.C (by omega)
      exact this
    · rw [List.take_of_length_le (by omega)]; exact h.C, by rw [List.length_take]; have := h.le; omega, h.cap, h.nil, fun x hx => h.rng x (List.mem_of_mem_take hx), by rw [List.length_take]; have := h.len; omega⟩
theorem w_in (x : Int) (h0 : -9000000000000000000 ≤ x) (h1 : x ≤ 9000000000000000000) : wrap64 x = x := by unfold wrap64; omega
theorem suffix_eq (L : List Int) (hl : L.length ≤ 100000) (hr : ∀ x ∈ L, 0 ≤ x ∧ x ≤ 255) : FH.bytes_HasSuffix.f L [47] = some (isFB L) := by
  unfold FH.bytes_HasSuffix.f isFB
  by_cases h : 0 < L.length
  · obtain ⟨m, hm⟩ : ∃ m, L.length = m + 1 := ⟨L.length - 1, by omega⟩
    have e1 : wrap64 ((L.length : Int) - (([47] : List Int).length : Int)) = (m : Int) := by rw [w_in _ (by simp; omega) (by simp; omega)]; simp; omega
    rw [if_pos (by simp; omega), e1, if_pos (by omega), if_pos (by omega), Int.toNat_natCast]
    have e2 : L.drop m = [L.getD m 0] := by
      rw [List.drop_eq_getElem_cons (by omega), List.drop_eq_nil_of_le (by omega), List.getD_eq_getElem?_getD, List.getElem?_eq_getElem (by omega)]; rfl
    have hmem : L.getD m 0 ∈ L := by rw [List.getD_eq_getElem?_getD, List.getElem?_eq_getElem (by omega)]; exact List.getElem_mem _
    have hb := hr _ hmem
    rw [e2, hm, Nat.add_sub_cancel]
    generalize L.getD m 0 = x at *
    unfold FH.bytes_Equal.f
    rw [Option.bind_some, Lib.strOfNums_toList, Lib.strOfNums_toList]
    congr 1
    by_cases e : x = 47
    · subst e; simp
    · rw [decide_eq_false (fun h => e h.2)]
      refine beq_eq_false_iff_ne.2 fun h2 => e ?_
      have := bytesOf_inj [x] [47] (by simp; omega) (by simp) h2
      simpa using this
  · rw [if_neg (by simp; omega), decide_eq_false (fun h2 => h h2.1)]
def SPost (w : World) (e : Ending) (w' : World) : Prop :=
  ∃ b : Nat, e = .returned (.slice (some ⟨b, 0, none⟩) 1 1) ∧ w'.cell? ⟨b, 0, none⟩ = some (.int .u8 47) ∧ Kd.C (Kd.int .u8) w' (some ⟨b, 0, none⟩) 1 [47] ∧ Below w.heap.size w w'
theorem slash_any (w : World) : Calls Tryd.prog 37 #[] w (SPost w) := by
  have H1 := Aside0.mk (MyWords.C_new .u8 w [47] 5 (0, 0) (by decide))
  have H2 : Aside0 ((w.alloc (.cells ([47].map (Value.int .u8)).toArray 5)).cell? ⟨w.heap.size, 0, none⟩ = some (.int .u8 47)) := ⟨by rw [cell_of_row _ _ 0 _ _ _ (heap_alloc_new w _)]; rfl⟩
  go_enter Tryd.func37, Tryd.ntmps37
  go_wp2_with (refine wpList_buildFlat rfl 22 5 1 _ rfl .u8 [47] Tryd.underlying22 (by kernel_rfl) (by kernel_rfl) (by decide) (by decide) (by decide) (by kernel_rfl) ?_)
  go_ret
  exact ⟨_, rfl, H2.out, H1.out, below_alloc (Below.refl _ _) _⟩
theorem suffix_any (A : Option Addr) (c : Nat) (L : List Int) (b : Addr) (w : World) (h : Arg w A c L) (hs : Kd.C (Kd.int .u8) w (some b) 1 [47]) :
    Calls Tryd.prog 47 #[.slice A L.length c, .slice (some b) 1 1] w fun e w' => e = .returned (.bool (isFB L)) ∧ Below w.heap.size w w' :=
  (FH.bytes_HasSuffix.calls A c L (some b) 1 [47] (isFB L) w h.C h.le hs (by simp) (suffix_eq L h.len h.rng)).mono fun e w' ⟨h1, h2⟩ => ⟨h1, Drawn0.below h2⟩
theorem isFolder_any (A : Option Addr) (c : Nat) (L : List Int) (w : World) (h : Arg w A c L) :
    Calls Tryd.prog 24 #[.slice A L.length c] w fun e w' => e = .returned (.bool (isFB L)) ∧ Below w.heap.size w w' := by
  have SL := Aside0.mk slash_any
  have SX := Aside0.mk (fun b W (hb : Below w.heap.size w W) hs => suffix_any A c L b W (h.below hb) hs)
  clear h
  go_enter Tryd.func24, Tryd.ntmps24
  go_wp2_with (first
    | (go_at_call 37; (with_reducible refine (SL.out _).mono ?_); rintro e w1 ⟨b1, rfl, hc, hC, hb⟩; have HB1 := Aside0.mk hb; have HS1 := Aside0.mk hc; have HC1 := Aside0.mk hC; clear hc hC hb)
    | (go_at_call 47; (with_reducible refine (SX.out _ _ HB1.out HC1.out).mono ?_); rintro e w2 ⟨rfl, hb⟩; have HB := Aside0.mk (below_step HB1.out hb); clear hb))
  go_ret
  exact ⟨rfl, HB.out⟩
theorem slice_last (A : Option Addr) (c m : Nat) (L : List Int) (hF : L.length = m + 1) (hc : m + 1 ≤ c) : ∀ W : World, (Instr.slice 22 (.slice A (m + 1) c) none (some (.int .i64 (m : Int))) none).run Tryd.prog W = .ok (.slice A m c) W := by
  obtain ⟨ys, hy, h1, h2, _⟩ := MyWords.take_letter (P := Tryd.prog) .u8 22 5 .i64 Tryd.underlying22 (by kernel_rfl) A c L (m : Int) (by omega) (by omega) (by omega)
  have e : ys = L.take m := by have h : ys = L.take (m : Int).toNat := hy; rwa [Int.toNat_natCast] at h
  have el : ys.length = m := by rw [e, List.length_take]; omega
  rw [hF, el] at h1
  exact h1
set_option maxHeartbeats 1000000 in
theorem trim_any (A : Option Addr) (c : Nat) (L : List Int) (b : Addr) (w : World) (h : Arg w A c L) (hs : Kd.C (Kd.int .u8) w (some b) 1 [47]) :
    Calls Tryd.prog 63 #[.slice A L.length c, .slice (some b) 1 1] w fun e w' => e = .returned (.slice A (cutEnd L).length c) ∧ Below w.heap.size w w' := by
  have SX := Aside0.mk (suffix_any A c L b w h hs)
  by_cases g : 0 < L.length ∧ L.getD (L.length - 1) 0 = 47
  · have e : isFB L = true := decide_eq_true g
    rw [e] at SX
    obtain ⟨m, hm⟩ : ∃ m, L.length = m + 1 := ⟨L.length - 1, by omega⟩
    have e2 : (cutEnd L).length = m := by unfold cutEnd; rw [if_pos g, List.length_take]; omega
    have hlen := h.len
    have hle := h.le
    have hsl := slice_last A c m L hm (by omega)
    have hsub : IntKind.i64.wrap (((m + 1 : Nat) : Int) - 1) = (m : Int) := by rw [IntKind.wrap_i64]; omega
    have hw64 : wrap64 (m : Int) = (m : Int) := w_in _ (by omega) (by omega)
    rw [e2]
    rw [hm] at SX ⊢
    clear h hs g e e2 hm hlen hle
    go_enter Tryd.func63, Tryd.ntmps63
    go_wp2_with (go_at_call 47; (with_reducible refine SX.out.mono ?_); rintro e w2 ⟨rfl, hb⟩; have HB := Aside0.mk hb; clear hb)
    go_ret
    exact ⟨rfl, HB.out⟩
  · have e : isFB L = false := decide_eq_false g
    rw [e] at SX
    have e2 : cutEnd L = L := if_neg g
    rw [e2]
    clear h hs g e e2
    go_enter Tryd.func63, Tryd.ntmps63
    go_wp2_with (go_at_call 47; (with_reducible refine SX.out.mono ?_); rintro e w2 ⟨rfl, hb⟩; have HB := Aside0.mk hb; clear hb)
    go_ret
    exact ⟨rfl, HB.out⟩
/-- rows that are only read -/
def RowsPost (w : World) (X : List (List Int)) (e : Ending) (w' : World) : Prop :=
  ∃ A c, e = .returned (.slice A X.length c) ∧ X.length ≤ c ∧ Kd.C (Kd.slice 5 (Kd.int .u8)) w' A X.length X ∧ Below w.heap.size w w'
theorem add_zero (g j : Nat) : (⟨g, 0, none⟩ : Addr).add j = ⟨g, j, none⟩ := by simp [Addr.add]; intro h; exact h.symm
theorem parts_C {w : World} {v : Value} {X : List (List Int)} (h : PartsAt w v X) (hx : X.length ≤ 9223372036854775807) : ∃ A, v = .slice A X.length X.length ∧ Kd.C (Kd.slice 5 (Kd.int .u8)) w A X.length X := by
  obtain ⟨b, rfl, hb, hc⟩ := h
  refine ⟨some ⟨b, 0, none⟩, rfl, rfl, hx, fun hn => ⟨_, rfl, fun j xs hj => ?_⟩⟩
  obtain ⟨A, c, h1, h2, h3⟩ := hc j xs hj
  refine ⟨[.slice A xs.length c], rfl, ⟨A, c, rfl, h2, h3⟩, fun i u hu => ?_⟩
  cases i with
  | zero =>
    have : u = .slice A xs.length c := by simpa using hu.symm
    subst this
    show w.cell? ((⟨b, 0, none⟩ : Addr).add (j * 1 + 0)) = _
    rw [Nat.mul_one, Nat.add_zero, add_zero]
    exact h1
  | succ i => simp at hu
def piecesL (L : List Int) : List (List Int) := splitL (cutEnd L)
theorem cutEnd_len (L : List Int) : (cutEnd L).length ≤ L.length := by
  unfold cutEnd; split
  · rw [List.length_take]; omega
  · exact Nat.le_refl _
theorem cutEnd_arg {w : World} {A : Option Addr} {c : Nat} {L : List Int} (h : Arg w A c L) : Arg w A c (cutEnd L) := by
  unfold cutEnd; split
  · exact h.take _
  · exact h
theorem split_any (A : Option Addr) (c : Nat) (F : List Int) (b2 : Nat) (w : World) (h : Arg w A c F) (hsep : w.cell? ⟨b2, 0, none⟩ = some (.int .u8 47)) :
    Calls Tryd.prog 40 #[.slice A F.length c, .slice (some ⟨b2, 0, none⟩) 1 1] w (RowsPost w (splitL F)) := by
  have hl := splitL_length F
  have h5 := h.len
  have key : Calls Tryd.prog 40 #[.slice A F.length c, .slice (some ⟨b2, 0, none⟩) 1 1] w fun e w' => ∃ v, e = .returned v ∧ PartsAt w' v (splitL F) ∧ Below w.heap.size w w' := by
    cases A with
    | some a1 => exact split_some a1 c F b2 w h.C h.le (by omega) h.cap (fun x hx => by have := h.rng x hx; omega) hsep
    | none =>
      have hc := h.nil rfl
      have hle := h.le
      subst hc
      obtain rfl : F = [] := List.eq_nil_of_length_eq_zero (by omega)
      exact split_nil b2 w hsep
  refine key.mono ?_
  rintro e w' ⟨v, rfl, hp, hb⟩
  obtain ⟨A', rfl, hC⟩ := parts_C hp (by omega)
  exact ⟨A', _, rfl, Nat.le_refl _, hC, hb⟩
set_option maxHeartbeats 1000000 in
theorem pieces_any (A : Option Addr) (c : Nat) (L : List Int) (w : World) (h : Arg w A c L) : Calls Tryd.prog 43 #[.slice A L.length c] w (RowsPost w (piecesL L)) := by
  have S1 := Aside0.mk (slash_any w)
  have SL := Aside0.mk slash_any
  have TR := Aside0.mk (fun b W (hb : Below w.heap.size w W) hs => trim_any A c L b W (h.below hb) hs)
  have SP := Aside0.mk (fun b W (hb : Below w.heap.size w W) hs => split_any A c (cutEnd L) b W (cutEnd_arg (h.below hb)) hs)
  unfold piecesL
  generalize hn : (cutEnd L).length = n at *
  clear h
  go_enter Tryd.func43, Tryd.ntmps43
  go_wp2_with (first
    | (go_at_call 37; (with_reducible refine S1.out.mono ?_); rintro e w1 ⟨b1, rfl, hc, hC, hb⟩; have HB1 := Aside0.mk hb; have HC1 := Aside0.mk hC; clear hc hC hb S1)
    | (go_at_call 63; (with_reducible refine (TR.out _ _ HB1.out HC1.out).mono ?_); rintro e w2 ⟨rfl, hb⟩; have HB2 := Aside0.mk (below_step HB1.out hb); clear hb)
    | (go_at_call 37; (with_reducible refine (SL.out _).mono ?_); rintro e w3 ⟨b3, rfl, hc, hC, hb⟩; have HB3 := Aside0.mk (below_step HB2.out hb); have HS3 := Aside0.mk hc; clear hc hC hb)
    | (go_at_call 40; (with_reducible refine (SP.out _ _ HB3.out HS3.out).mono ?_); rintro e w4 ⟨A3, c3, rfl, hle, hC, hb⟩; have HL3 := Aside0.mk hle; have HC3 := Aside0.mk hC; have HB4 := Aside0.mk (below_step HB3.out hb); clear hle hC hb))
  go_ret
  exact ⟨_, _, rfl, HL3.out, HC3.out, HB4.out⟩
end Go.Proofs.YtbjffjbohpoedaaDoor.Fd
