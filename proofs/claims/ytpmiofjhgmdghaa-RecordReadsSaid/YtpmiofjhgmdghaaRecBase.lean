/- record: what its readers and laws share. -/
import Derived.Test.YtpmiofjhgmdghaaFieldCur1
import Derived.Test.YtpmiofjhgmdghaaRLx1
import Derived.Deep.MidRow
import Derived.Deep.RegionHeld3
namespace Go.Proofs.Ytpmiofjhgmdghaa.Fld
open Go.RowKit Go.Proofs.YtpmiofjhgmdghaaW.PrintWords Go.Proofs.YtpmiofjhgmdghaaW.PrintLast Go.Proofs.YtpmiofjhgmdghaaW.PrintMore
set_option linter.unusedVariables false
set_option linter.unusedSimpArgs false
theorem own_blkne {W : World} {base n g t : Nat} {v : Value} {xs : List Value} {cs : Array Value} (h : W.ownsRow base 5 1 v n xs) (hg : W.heap[g]? = some (.cells cs t (0, 0))) (ht : 5 ≠ t) {k : Nat} (hk : v.ownBlock = some k) : k ≠ g :=
  fun e => own_ne h hg ht (by rw [← e]; exact hk.symm)
theorem own_bne {W : World} {base n g t : Nat} {v : Value} {xs : List Value} {cs : Array Value} (h : W.ownsRow base 5 1 v n xs) (hg : W.heap[g]? = some (.cells cs t (0, 0))) (ht : 5 ≠ t) {k : Nat} (hk : v.ownBlock = some k) : k ≠ g := own_blkne h hg ht hk
def Rd (w : World) (A : Option Addr) (l : List Int) (c : Nat) : Prop := Kd.C (Kd.int .u8) w A l.length l ∧ l.length ≤ c
theorem Rd.bel {w w' : World} {A : Option Addr} {l : List Int} {c : Nat} (h : Rd w A l c) (hb : Below w.heap.size w w') : Rd w' A l c := ⟨Kd.C_below h.1 hb, h.2⟩
def Ow (w0 w : World) (A : Option Addr) (l : List Int) (c : Nat) : Prop := w.ownsRow w0.heap.size 5 1 (.slice A l.length c) l.length (nums .u8 l)
theorem Rd.own {w : World} {base : Nat} {A : Option Addr} {l : List Int} {c : Nat} (h : w.ownsRow base 5 1 (.slice A l.length c) l.length (nums .u8 l)) : Rd w A l c := ⟨(own_C h).2.1, (own_C h).2.2.1⟩
theorem wpl_gen {P : Program} {ops : Array Oper} {Q : Exit → Act → World → Prop} {rest : List Oper} {a : Act} {W : World} (F : World → Prop) (hF : F W) (h : ∀ W', F W' → wpList P ops Q rest a W') : wpList P ops Q rest a W := h W hF
theorem blk_putall {W : World} {g t : Nat} {C D : Array Value} (h : W.heap[g]? = some (.cells C t (0, 0))) (hs : D.size = C.size) : (W.setCells g 0 D.toList).heap[g]? = some (.cells D t (0, 0)) := by
  obtain ⟨cur, h1, h2, h3⟩ := setCells_row D.toList 0 W C h (by simp; omega)
  have e : cur = D := by
    apply Array.ext'
    rw [h3, List.take_zero, List.nil_append, List.drop_eq_nil_of_le (by simp; omega), List.append_nil]
  rw [h1, e]
theorem below_setCells {w W : World} {g B : Nat} (h : Below B w W) (hg : B ≤ g) (vs : List Value) : Below B w (W.setCells g 0 vs) := by
  obtain ⟨h1, h2, h3, h4⟩ := setCells_same g vs 0 W
  exact ⟨h1.trans h.os, h2.trans h.tape, h3.trans h.output, by rw [h4]; exact h.size, fun k hk => (setCells_far vs 0 k (by omega)).trans (h.block k hk)⟩
theorem own_setCells {W : World} {base n : Nat} {v : Value} {xs : List Value} {g t : Nat} {cs : Array Value} (h : W.ownsRow base 5 1 v n xs) (hg : W.heap[g]? = some (.cells cs t (0, 0))) (ht : 5 ≠ t) (vs : List Value) : (W.setCells g 0 vs).ownsRow base 5 1 v n xs :=
  own_move h (fun k hk => setCells_far vs 0 k (own_bne h hg ht hk))
theorem there_of {W : World} {g t : Nat} {C : Array Value} (h : W.heap[g]? = some (.cells C t (0, 0))) (n : Nat) (hn : n ≤ C.size) : W.there g 0 n := fun j hj => by
  refine ⟨?_, ?_⟩
  · rw [Nat.zero_add, blk_cell h j, Array.getElem?_eq_getElem (by omega)]; rfl
  · rw [Nat.zero_add]; exact blk_frozen h j
theorem lives_now (w : World) : Calls Try.prog 12 #[] w fun e w' => e = .returned (.bool true) ∧ Below w.heap.size w w' :=
  Go.Proofs.Ytpmiofjhgmdghaa.RL.duffellaw24_lives.calls 100 true w (by decide +kernel)
end Go.Proofs.Ytpmiofjhgmdghaa.Fld
