/- record: what its laws share. -/
import Derived.Test.YtpmiofjhgmdghaaRecFew1
import Derived.Test.YtpmiofjhgmdghaaRecP
import Derived.Test.YtpmiofjhgmdghaaRLx1
import Derived.Deep.MidRow
namespace Go.Proofs.Ytpmiofjhgmdghaa.Fld
open Go.RowKit Go.Proofs.YtpmiofjhgmdghaaW.PrintWords Go.Proofs.YtpmiofjhgmdghaaW.PrintLast Go.Proofs.YtpmiofjhgmdghaaW.PrintMore
set_option linter.unusedVariables false
set_option linter.unusedSimpArgs false
theorem wpl_gen {P : Program} {ops : Array Oper} {Q : Exit → Act → World → Prop} {rest : List Oper} {a : Act} {W : World} (F : World → Prop) (hF : F W) (h : ∀ W', F W' → wpList P ops Q rest a W') : wpList P ops Q rest a W := h W hF
theorem blk_putall {W : World} {g t : Nat} {C D : Array Value} (h : W.heap[g]? = some (.cells C t (0, 0))) (hs : D.size = C.size) : (W.setCells g 0 D.toList).heap[g]? = some (.cells D t (0, 0)) := by
  obtain ⟨cur, h1, h2, h3⟩ := setCells_row D.toList 0 W C h (by simp; omega)
  have e : cur = D := by
    apply Array.ext'
    rw [h3, List.take_zero, List.nil_append, List.drop_eq_nil_of_le (by simp; omega), List.append_nil]
  rw [h1, e]
theorem below_setCells {w W : World} {g B : Nat} (h : Below B w W) (hg : B ≤ g) (vs : List Value) : Below B w (W.setCells g 0 vs) := by
  obtain ⟨h1, h2, h3, h4⟩ := setCells_same g vs 0 W
  exact ⟨h1.trans h.os, h2.trans h.tape, h3.trans h.output, by rw [h4]; exact h.size, fun k hk => (setCells_far vs 0 k (by omega)).trans (h.block k hk)⟩
theorem own_setCells {W : World} {base n : Nat} {v : Value} {xs : List Value} {g t : Nat} {cs : Array Value} (h : W.ownsRow base 5 1 v n xs) (hg : W.heap[g]? = some (.cells cs t (0, 0))) (ht : 5 ≠ t) (vs : List Value) : (W.setCells g 0 vs).ownsRow base 5 1 v n xs :=
  own_move h (fun k hk => setCells_far vs 0 k (own_bne h hg ht hk))
/-- three boxes -/
structure K3 (w W : World) (C0 C1 C2 : Array Value) : Prop where
  x0 : W.heap[w.heap.size]? = some (.cells C0 37 (0, 0))
  x1 : W.heap[w.heap.size + 1]? = some (.cells C1 39 (0, 0))
  x2 : W.heap[w.heap.size + 1 + 1]? = some (.cells C2 29 (0, 0))
  b : Below w.heap.size w W
section
variable {w W W' : World} {C0 C1 C2 : Array Value}
theorem K3.bel (h : K3 w W C0 C1 C2) (hb : Below W.heap.size W W') : K3 w W' C0 C1 C2 := ⟨blk_below h.x0 hb, blk_below h.x1 hb, blk_below h.x2 hb, below_step h.b hb⟩
theorem K3.drew (h : K3 w W C0 C1 C2) : K3 w W.drew C0 C1 C2 := ⟨h.x0, h.x1, h.x2, below_drew h.b⟩
theorem K3.put0 (h : K3 w W C0 C1 C2) (D : Array Value) (hs : D.size = C0.size) : K3 w (W.setCells (w.heap.size) 0 D.toList) D C1 C2 := ⟨blk_putall h.x0 hs, (setCells_far _ 0 _ (by omega)).trans h.x1, (setCells_far _ 0 _ (by omega)).trans h.x2, below_setCells h.b (by omega) _⟩
theorem K3.put1 (h : K3 w W C0 C1 C2) (D : Array Value) (hs : D.size = C1.size) : K3 w (W.setCells (w.heap.size + 1) 0 D.toList) C0 D C2 := ⟨(setCells_far _ 0 _ (by omega)).trans h.x0, blk_putall h.x1 hs, (setCells_far _ 0 _ (by omega)).trans h.x2, below_setCells h.b (by omega) _⟩
theorem K3.put2 (h : K3 w W C0 C1 C2) (D : Array Value) (hs : D.size = C2.size) : K3 w (W.setCells (w.heap.size + 1 + 1) 0 D.toList) C0 C1 D := ⟨(setCells_far _ 0 _ (by omega)).trans h.x0, (setCells_far _ 0 _ (by omega)).trans h.x1, blk_putall h.x2 hs, below_setCells h.b (by omega) _⟩
theorem there_of {g t : Nat} {C : Array Value} (h : W.heap[g]? = some (.cells C t (0, 0))) (n : Nat) (hn : n ≤ C.size) : W.there g 0 n := fun j hj => by
  refine ⟨?_, ?_⟩
  · rw [Nat.zero_add, blk_cell h j, Array.getElem?_eq_getElem (by omega)]; rfl
  · rw [Nat.zero_add]; exact blk_frozen h j
end
/-- what is only read, with the blocks it lies in -/
theorem F_of_C {w : World} {A : Option Addr} {n : Nat} {xs : List Int} (h : Kd.C (Kd.int .u8) w A n xs) : Kd.F (Kd.int .u8) w (fun _ => True) A n xs := fun W' hW => by
  have h2 : Kd.C (Kd.int .u8) { W' with os := w.os, tape := w.tape, output := w.output } A n xs := by
    refine Kd.C_below h ⟨rfl, rfl, rfl, ?_, fun k hk => hW k trivial hk⟩
    refine Nat.le_of_not_lt (fun hlt => ?_)
    have h3 := hW W'.heap.size trivial hlt
    rw [Array.getElem?_eq_getElem hlt, Array.getElem?_eq_none (Nat.le_refl _)] at h3
    cases h3
  exact h2
theorem V_of_Rd {w : World} {A : Option Addr} {l : List Int} {c : Nat} (h : Rd w A l c) : Kd.V (Kd.int .u8) 5 w w.heap.size (fun k_ => (fun _ => True) k_) (.slice A l.length c) l := ⟨A, c, rfl, h.2, F_of_C h.1⟩
theorem Mine2.ofR {w w' : World} {r : Ending} {L : List Int} {e : Int} (h : ∃ v0_ : Value, r = .returned (.tuple #[v0_, .int .i64 e]) ∧ Kd.R (Kd.int .u8) 5 w' w.heap.size (fun k_ => (w.heap.size ≤ k_)) v0_ L ∧ Below w.heap.size w w') : Mine2 w L e r w' := by
  obtain ⟨v, h1, h2, h3⟩ := h
  exact ⟨v, h1, Kd.own_of_R h2, h3⟩
theorem lives_now (w : World) : Calls Try.prog 12 #[] w fun e w' => e = .returned (.bool true) ∧ Below w.heap.size w w' :=
  Go.Proofs.Ytpmiofjhgmdghaa.RL.duffellaw24_lives.calls 100 true w (by decide +kernel)
theorem Ow.bel {w0 w w' : World} {A : Option Addr} {l : List Int} {c : Nat} (h : Ow w0 w A l c) (hb : Below w.heap.size w w') : Ow w0 w' A l c := pw_own_below h hb
theorem Ow.rd {w0 w : World} {A : Option Addr} {l : List Int} {c : Nat} (h : Ow w0 w A l c) : Rd w A l c := Rd.own h
end Go.Proofs.Ytpmiofjhgmdghaa.Fld
