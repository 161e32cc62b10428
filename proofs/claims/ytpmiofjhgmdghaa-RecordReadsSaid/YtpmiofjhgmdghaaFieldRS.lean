/- A row of package field that goes through a function: all that is known of it in one piece. -/
import Derived.Test.YtpmiofjhgmdghaaFieldRow2
namespace Go.Proofs.Ytpmiofjhgmdghaa.Fld
open Go.RowKit Go.Proofs.YtpmiofjhgmdghaaW.PrintWords Go.Proofs.YtpmiofjhgmdghaaW.PrintLast Go.Proofs.YtpmiofjhgmdghaaW.PrintMore
set_option linter.unusedVariables false
set_option linter.unusedSimpArgs false
def st16 (s : List Int × Int) (x : Int) : List Int × Int := (u16L s.1 s.2 x, u16E s.2 x)
def st32 (s : List Int × Int) (x : Int) : List Int × Int := (u32L s.1 s.2 x, s.2)
def stPut (s : List Int × Int) (b : List Int) : List Int × Int := (putL s.1 s.2 b, s.2)
theorem st16_len {s : List Int × Int} {x : Int} {n : Nat} (h : s.1.length ≤ n) : (st16 s x).1.length ≤ n + 2 := by
  show (u16L s.1 s.2 x).length ≤ _
  unfold u16L; split
  · rw [List.length_append, le_length]; omega
  · omega
theorem st32_len {s : List Int × Int} {x : Int} {n : Nat} (h : s.1.length ≤ n) : (st32 s x).1.length ≤ n + 4 := by
  show (u32L s.1 s.2 x).length ≤ _
  unfold u32L; split
  · rw [List.length_append, le_length]; omega
  · omega
theorem stPut_len {s : List Int × Int} {b : List Int} {n m : Nat} (h : s.1.length ≤ n) (hb : b.length ≤ m) : (stPut s b).1.length ≤ n + m := by
  show (putL s.1 s.2 b).length ≤ _
  unfold putL; split
  · rw [List.length_append]; omega
  · omega
/-- The row in block g, state s, at most n bytes; since w0 only the row's blocks and new ones were written (all from B on). -/
structure RS (w0 : World) (v0 : Value) (w : World) (B g : Nat) (v : Value) (s : List Int × Int) (n : Nat) : Prop where
  row : RowAt w B g v s.1 s.2
  len : s.1.length ≤ n
  kept : RowKept w0 w B g v0 v
theorem RS.start {w : World} {B g : Nat} {v : Value} {s : List Int × Int} {n : Nat} (h : RowAt w B g v s.1 s.2) (hn : s.1.length ≤ n) : RS w v w B g v s n := ⟨h, hn, RowKept.refl _ _ _ _⟩
theorem RS.drew {w0 w : World} {v0 v : Value} {B g : Nat} {s : List Int × Int} {n : Nat} (h : RS w0 v0 w B g v s n) : RS w0 v0 w.drew B g v s n := ⟨h.row.drew, h.len, h.kept.drew⟩
def OldCells (w w' : World) (B : Nat) : Prop := ∀ b j u, b < B → w.cell? ⟨b, j, none⟩ = some u → w'.cell? ⟨b, j, none⟩ = some u
theorem below_cells {w w' : World} {B : Nat} (h : Below B w w') : OldCells w w' B := fun b j u hb hc => (h.cell (p := ⟨b, j, none⟩) hb).trans hc
def RSPost (w0 : World) (v0 : Value) (w : World) (B g : Nat) (s : List Int × Int) (n : Nat) (r : Ending) (w' : World) : Prop :=
  ∃ v', r = .returned (.pointer (some ⟨g, 0, none⟩)) ∧ RS w0 v0 w' B g v' s n ∧ Below B w w'
theorem rs_u16 {w0 w : World} {v0 v : Value} {B g : Nat} {s : List Int × Int} {n : Nat} {x : Int} (h : RS w0 v0 w B g v s n) (hn : n ≤ 1000000000) :
    Calls Try.prog 44 #[.pointer (some ⟨g, 0, none⟩), .int .i64 x] w (RSPost w0 v0 w B g (st16 s x) (n + 2)) :=
  (row_u16 w B g v s.1 x s.2 h.row (Nat.le_trans h.len hn)).mono fun r w' ⟨v', hr, hrow, hk⟩ => ⟨v', hr, ⟨hrow, st16_len h.len, h.kept.trans hk⟩, hk.below⟩
theorem rs_u32 {w0 w : World} {v0 v : Value} {B g : Nat} {s : List Int × Int} {n : Nat} {x : Int} (h : RS w0 v0 w B g v s n) (hx : 0 ≤ x) (hn : n ≤ 1000000000) :
    Calls Try.prog 43 #[.pointer (some ⟨g, 0, none⟩), .int .u32 x] w (RSPost w0 v0 w B g (st32 s x) (n + 4)) :=
  (row_u32 w B g v s.1 x s.2 h.row hx (Nat.le_trans h.len hn)).mono fun r w' ⟨v', hr, hrow, hk⟩ => ⟨v', hr, ⟨hrow, st32_len h.len, h.kept.trans hk⟩, hk.below⟩
theorem rs_put {w0 w : World} {v0 v : Value} {B g : Nat} {s : List Int × Int} {n m : Nat} {A : Option Addr} {c : Nat} {b : List Int} (h : RS w0 v0 w B g v s n) (hb : Kd.C (Kd.int .u8) w A b.length b) (hm : b.length ≤ m) (hn : n + m ≤ 1000000000) :
    Calls Try.prog 46 #[.pointer (some ⟨g, 0, none⟩), .slice A b.length c] w (RSPost w0 v0 w B g (stPut s b) (n + m)) :=
  (row_put w B g v s.1 s.2 A c b h.row hb (by have := h.len; omega)).mono fun r w' ⟨v', hr, hrow, hk⟩ => ⟨v', hr, ⟨hrow, stPut_len h.len hm, h.kept.trans hk⟩, hk.below⟩
/-- a row that is made: its blocks are new -/
def RSNew (w : World) (r : Ending) (w' : World) : Prop := ∃ g v, r = .returned (.pointer (some ⟨g, 0, none⟩)) ∧ RS w' v w' w.heap.size g v ([], 0) 0 ∧ Below w.heap.size w w'
theorem rs_new (w : World) : Calls Try.prog 42 #[] w (RSNew w) :=
  (row_new w).mono fun r w' ⟨hr, hrow, hk⟩ => ⟨_, _, hr, RS.start hrow (Nat.le_refl _), hk⟩
end Go.Proofs.Ytpmiofjhgmdghaa.Fld
