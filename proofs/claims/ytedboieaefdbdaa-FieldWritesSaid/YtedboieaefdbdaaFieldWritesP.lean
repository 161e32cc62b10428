/- A row of package field beside a row of bytes that holds what is wanted of it. -/
import Derived.Test.YtedboieaefdbdaaFieldBackP
import Derived.Test.YtedboieaefdbdaaFRPut
import Derived.Test.YtedboieaefdbdaaFRSame
namespace Go.Proofs.Ytedboieaefdbdaa.Fld
open Go.Proofs.Ytedboieaefdbdaa.FR Go.Proofs.Ytedboieaefdbdaa.FRR
open Go.RowKit Go.Proofs.YtedboieaefdbdaaW.PrintWords Go.Proofs.YtedboieaefdbdaaW.PrintLast Go.Proofs.YtedboieaefdbdaaW.PrintMore Go.Proofs.Ytedboieaefdbdaa.MyOpen
set_option linter.unusedVariables false
set_option linter.unusedSimpArgs false
structure WS (w0 w : World) (B g : Nat) (v : Value) (L : List Int) (e : Int) (vw : Value) (W : List Int) (n : Nat) : Prop where
  row : RowAt w B g v L e
  len : L.length ≤ n
  want : w.ownsRow B 5 1 vw W.length (nums .u8 W)
  wlen : W.length ≤ n
  ne : ∀ k, vw.ownBlock = some k → v.ownBlock ≠ some k
  bel : Below B w0 w
theorem RowAt.below {w w' : World} {base g : Nat} {v : Value} {L : List Int} {e : Int} (h : RowAt w base g v L e) (hb : Below w.heap.size w w') : RowAt w' base g v L e := ⟨blk_below h.blk hb, pw_own_below h.own hb, h.ge⟩
section
variable {w0 w w' : World} {B g : Nat} {v : Value} {L : List Int} {e : Int} {vw : Value} {W : List Int} {n : Nat}
theorem WS.base (h : WS w0 w B g v L e vw W n) : B ≤ w.heap.size := Nat.le_of_lt (Nat.lt_of_le_of_lt h.row.ge (blk_lt h.row.blk))
/-- a row of bytes beside what is done with the row -/
theorem own_beside_row {base m : Nat} {vb : Value} {xs : List Value} {v' : Value} (h : w.ownsRow base 5 1 vb m xs) (hr : RowAt w B g v L e) (hk : RowKept w w' B g v v') (hne : ∀ k, vb.ownBlock = some k → v.ownBlock ≠ some k) : w'.ownsRow base 5 1 vb m xs :=
  own_move h (fun k hk2 => hk.kept.2 k (own_lt h k hk2) (by
    rintro (rfl | h3)
    · exact own_ne h hr.blk ne_types hk2.symm
    · exact hne k hk2 h3))
theorem ne_after {base m : Nat} {vb : Value} {xs : List Value} {v' : Value} (h : w.ownsRow base 5 1 vb m xs) (hk : RowKept w w' B g v v') (hne : ∀ k, vb.ownBlock = some k → v.ownBlock ≠ some k) : ∀ k, vb.ownBlock = some k → v'.ownBlock ≠ some k := by
  intro k hk2 h3
  rcases hk.at_ with h1 | ⟨b, h1, h2⟩
  · exact hne k hk2 (h1 ▸ h3)
  · have h4 := own_lt h k hk2
    rw [h1] at h3
    have := Option.some.inj h3
    omega
theorem WS.op (h : WS w0 w B g v L e vw W n) {v' : Value} {L' : List Int} {e' : Int} {n' : Nat} (hr : RowAt w' B g v' L' e') (hk : RowKept w w' B g v v') (hl : L'.length ≤ n') (hn : n ≤ n') : WS w0 w' B g v' L' e' vw W n' :=
  ⟨hr, hl, own_beside_row h.want h.row hk h.ne, Nat.le_trans h.wlen hn, ne_after h.want hk h.ne, h.bel.trans hk.below⟩
theorem WS.new (h : WS w0 w B g v L e vw W n) (hb : Below w.heap.size w w') : WS w0 w' B g v L e vw W n :=
  ⟨h.row.below hb, h.len, pw_own_below h.want hb, h.wlen, h.ne, h.bel.trans (hb.mono h.base)⟩
theorem WS.app (h : WS w0 w B g v L e vw W n) {v2 : Value} {M K : List Int} (hown : w'.ownsRow B 5 1 v2 (W ++ M).length (nums .u8 (W ++ M))) (hbel : Below B w0 w') (hgr : w.grownBy w' vw.ownBlock) (hat : v2.ownBlock = vw.ownBlock ∨ ∃ b, v2.ownBlock = some b ∧ w.heap.size ≤ b)
    (hK : W ++ M = K) (hl : K.length ≤ n) : WS w0 w' B g v L e v2 K n := by
  subst hK
  refine ⟨⟨blk_grown h.row.blk hgr (own_ne h.want h.row.blk ne_types), own_move h.row.own (fun k hk2 => hgr.block k (own_lt h.row.own k hk2) (fun e => h.ne k e.symm hk2)), h.row.ge⟩, h.len, hown, hl, fun k hk2 h3 => ?_, hbel⟩
  rcases hat with h1 | ⟨b, h1, h2⟩
  · exact h.ne k (h1 ▸ hk2) h3
  · have h4 := own_lt h.row.own k h3
    rw [h1] at hk2
    have := Option.some.inj hk2
    omega
theorem WS.nil (h : WS w0 w B g v L e vw W n) : WS w0 w B g v L e (.slice none 0 0) [] n :=
  ⟨h.row, h.len, own_nil _ _ _ _, Nat.zero_le _, fun k hk => (by cases hk), h.bel⟩
theorem WS.store (h : WS w0 w B g v L e vw W n) {g3 : Nat} {cells : Array Value} (hb : w.heap[g3]? = some (.cells cells 5 (0, 0))) (h0 : B ≤ g3) (hv : v.ownBlock ≠ some g3) (hw : vw.ownBlock ≠ some g3) (j : Nat) (u : Value) :
    WS w0 (w.setCell ⟨g3, j, none⟩ u) B g v L e vw W n := by
  have h1 : g ≠ g3 := blk_ne h.row.blk hb ne_types.symm
  exact ⟨⟨blk_far h.row.blk h1 u, own_setCell h.row.own (fun e => hv e.symm) u, h.row.ge⟩, h.len, own_setCell h.want (fun e => hw e.symm) u, h.wlen, h.ne, h.bel.setCell h0 u⟩
end
def outL (L : List Int) (e : Int) : List Int := if e = 0 then L else []
theorem outL_0 (L : List Int) : outL L 0 = L := rfl
theorem outL_bad (L : List Int) {e : Int} (h : e ≠ 0) : outL L e = [] := if_neg h
/-- i writings were put, what is wanted stands beside -/
def WRel (w0 : World) (B g m : Nat) (v4 v5 v6 : Value) (wr : World) : Prop :=
  ∃ (i : Nat) (v : Value) (L : List Int) (e : Int), v6 = .int .i64 i ∧ v5 = .int .i64 e ∧ i ≤ m ∧ WS w0 wr B g v L e v4 (outL L e) (46 * i)
/-- a loop that stores into bytes that were put: k of them were stored -/
def WLoop (w0 : World) (B g : Nat) (v : Value) (L : List Int) (e : Int) (vw : Value) (W : List Int) (n : Nat) (B3 : Nat) (A3 : Option Addr) (n3 c3 B5 : Nat) (A5 : Option Addr) (M : List Int) (c5 : Nat) (vi : Value) (wr : World) : Prop :=
  ∃ (k : Nat) (ys : List Int), vi = .int .i64 k ∧ k ≤ n3 ∧ ys.length = n3 ∧ WS w0 wr B g v L e vw W n ∧ wr.ownsRow B3 5 1 (.slice A3 n3 c3) n3 (nums .u8 ys) ∧ wr.ownsRow B5 5 1 (.slice A5 M.length c5) M.length (nums .u8 M)
theorem own_form' {W : World} {base n c : Nat} {A : Option Addr} {xs : List Value} (h : W.ownsRow base 5 1 (.slice A n c) n xs) (hn : 0 < n) : ∃ g, A = some ⟨g, 0, none⟩ ∧ base ≤ g ∧ g < W.heap.size ∧ ∃ cells, W.heap[g]? = some (.cells cells 5 (0, 0)) := by
  rcases h.2 with ⟨hv, _⟩ | ⟨g, cap, cur, hv, hg, hh, _⟩
  · injection hv with _ h2; omega
  · injection hv with h1
    exact ⟨g, h1, hg, blk_lt hh, _, hh⟩
end Go.Proofs.Ytedboieaefdbdaa.Fld
