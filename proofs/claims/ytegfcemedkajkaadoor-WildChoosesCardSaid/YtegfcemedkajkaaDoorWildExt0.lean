/- What the hand-made contracts of package wild say, in the printed functions' form. -/
import Derived.Test.YtegfcemedkajkaaDoorWildRef1
import Derived.Test.YtegfcemedkajkaaDoorWildChoose0
import Derived.Test.YtegfcemedkajkaaDoorWildLives0
namespace Go.Proofs.YtegfcemedkajkaaDoor.Wd
open Go.RowKit Go.Proofs.YtegfcemedkajkaaDoorW.PrintWords Go.Proofs.YtegfcemedkajkaaDoorW.PrintLast Go.Proofs.YtegfcemedkajkaaDoorW.PrintMore
set_option linter.unusedVariables false
def fineB (l : List Int) : Bool := decide (l.length < 1000000) && l.all fun x => decide (0 ≤ x ∧ x ≤ 255)
theorem fine_of {l : List Int} (h : fineB l = true) : Fine l := by
  unfold fineB at h
  rw [Bool.and_eq_true, List.all_eq_true] at h
  exact ⟨of_decide_eq_true h.1, fun x hx => of_decide_eq_true (h.2 x hx)⟩
theorem fineB_of {l : List Int} (h : Fine l) : fineB l = true := by
  unfold fineB
  rw [Bool.and_eq_true, List.all_eq_true]
  exact ⟨decide_eq_true h.1, fun x hx => decide_eq_true (h.2 x hx)⟩
def rowsB (X : List (List Int)) : Bool := decide (X.length < 1000000) && X.all fineB
theorem rows_of {X : List (List Int)} (h : rowsB X = true) : X.length < 1000000 ∧ ∀ p ∈ X, Fine p := by
  unfold rowsB at h
  rw [Bool.and_eq_true, List.all_eq_true] at h
  exact ⟨of_decide_eq_true h.1, fun p hp => fine_of (h.2 p hp)⟩
theorem rowsB_of {X : List (List Int)} (h : X.length < 1000000) (h2 : ∀ p ∈ X, Fine p) : rowsB X = true := by
  unfold rowsB
  rw [Bool.and_eq_true, List.all_eq_true]
  exact ⟨decide_eq_true h, fun p hp => fineB_of (h2 p hp)⟩
theorem foldall_R (A : Option Addr) (c : Nat) (L : List Int) (w : World) (hb : Kd.C (Kd.int .u8) w A L.length L) (hf : Fine L) :
    Calls Tryd.prog 20 #[.slice A L.length c] w fun e w' => ∃ v0_ : Value, e = .returned (v0_) ∧ Kd.R (Kd.int .u8) 5 w' w.heap.size (fun _ => True) v0_ (L.map fold1) ∧ Below w.heap.size w w' :=
  (foldall_any A c L w hb (by have := hf.1; omega) hf.2).mono fun e w' ⟨v, h1, h2, h3⟩ => ⟨v, h1, mine_R h2, h3⟩
theorem rfold_calls (a : Int) (w : World) (h0 : 0 ≤ a) (h1 : a ≤ 255) : Calls Tryd.prog 19 #[.int .u8 a] w fun e w' => e = .returned (.int .u8 (fold1 a)) ∧ Below w.heap.size w w' := by
  obtain ⟨K, hK⟩ := (rfold_ev a h0 h1).rounds
  exact WB.duffelref29_Fold.calls K a (fold1 a) w hK
theorem rall_R (A : Option Addr) (c : Nat) (L : List Int) (w : World) (hb : Kd.C (Kd.int .u8) w A L.length L) (hc : L.length ≤ c) (hf : Fine L) :
    Calls Tryd.prog 15 #[.slice A L.length c] w fun e w' => ∃ v0_ : Value, e = .returned (v0_) ∧ Kd.R (Kd.int .u8) 5 w' w.heap.size (fun _ => True) v0_ (L.map fold1) ∧ Below w.heap.size w w' := by
  obtain ⟨K, hK⟩ := (all_ev0 L hf.1 hf.2).rounds
  exact WB.duffelref29_All.calls K A c L _ w hb hc hK
theorem rparts_S (A : Option Addr) (c : Nat) (L : List Int) (w : World) (hb : Kd.C (Kd.int .u8) w A L.length L) (hc : L.length ≤ c) (hf : Fine L) :
    Calls Tryd.prog 13 #[.slice A L.length c] w fun e w' => ∃ v0_ : Value, e = .returned (v0_) ∧ Kd.S (Kd.slice 5 (Kd.int .u8)) 22 w' w.heap.size (fun _ => True) v0_ (partsL L) ∧ Below w.heap.size w w' := by
  obtain ⟨K, hK⟩ := (parts_ev L hf.1 hf.2).rounds
  exact WB.duffelref29_Parts.calls K A c L _ w hb hc hK
theorem rmatch_calls (A0 : Option Addr) (c0 : Nat) (l0 : List Int) (A1 : Option Addr) (c1 : Nat) (l1 : List Int) (w : World) (h0 : Kd.C (Kd.int .u8) w A0 l0.length l0) (k0 : l0.length ≤ c0) (h1 : Kd.C (Kd.int .u8) w A1 l1.length l1) (k1 : l1.length ≤ c1) (f0 : Fine l0) (f1 : Fine l1) :
    Calls Tryd.prog 11 #[.slice A0 l0.length c0, .slice A1 l1.length c1] w fun e w' => e = .returned (.bool (matchB l0 l1)) ∧ Below w.heap.size w w' := by
  obtain ⟨K, hK⟩ := (rmatch_ev l0 l1 f0.1 f1.1 f0.2 f1.2).rounds
  exact WB.duffelref29_Match.calls K A0 c0 l0 A1 c1 l1 _ w h0 k0 h1 k1 hK
theorem match_calls (A0 : Option Addr) (c0 : Nat) (l0 : List Int) (A1 : Option Addr) (c1 : Nat) (l1 : List Int) (w : World) (h0 : Kd.C (Kd.int .u8) w A0 l0.length l0) (h1 : Kd.C (Kd.int .u8) w A1 l1.length l1) (f0 : Fine l0) (f1 : Fine l1) :
    Calls Tryd.prog 10 #[.slice A0 l0.length c0, .slice A1 l1.length c1] w fun e w' => e = .returned (.bool (matchB l0 l1)) ∧ Below w.heap.size w w' :=
  match_any A0 c0 l0 A1 c1 l1 w h0 h1 f0.1 f1.1 f0.2 f1.2
end Go.Proofs.YtegfcemedkajkaaDoor.Wd
