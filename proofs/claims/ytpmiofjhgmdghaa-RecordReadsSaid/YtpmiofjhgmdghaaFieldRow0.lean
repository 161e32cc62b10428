/- A row of package field: New, Err, number, walked. -/
import Derived.Test.YtpmiofjhgmdghaaProg
import Derived.Test.YtpmiofjhgmdghaaMyWords
import Derived.Deep.RegionLaw
import Derived.Deep.AppendLies
import Derived.BigRegion
import Derived.Deep.QuietTactic
import Derived.BigQuiet
import Derived.StillTailTactics
namespace Go.Proofs.Ytpmiofjhgmdghaa.Fld
open Go.RowKit Go.Proofs.YtpmiofjhgmdghaaW.PrintWords Go.Proofs.YtpmiofjhgmdghaaW.PrintLast Go.Proofs.YtpmiofjhgmdghaaW.PrintMore
set_option linter.unusedVariables false
set_option linter.unusedSimpArgs false
/-- A row in block g: its bytes L behind the slice v (a row of the call's own, from base on), its error e. -/
structure RowAt (w : World) (base g : Nat) (v : Value) (L : List Int) (e : Int) : Prop where
  blk : w.heap[g]? = some (.cells #[v, .int .i64 e] 107 (0, 0))
  own : w.ownsRow base 5 1 v L.length (nums .u8 L)
  ge : base ≤ g
theorem region_tail {P : Program} {id : Nat} {Q : Exit → Act → World → Prop} {a : Act} {w : World} {l : List Oper} (n : Nat) (hm : P.follows .mixedOrders = true) (hB : Region.lexTailB .any l.toArray n = true)
    (h : ∀ wd, wd = w.drew → wpStill P l.toArray wd (fun a' => wpList P l.toArray Q (l.drop n) a' wd) (l.take n) a) : (Code.region id l.toArray true).wp P Q a w :=
  wp_region_still_tail n hm hB (h _ rfl)
theorem infoE : (Try.prog.info? 5).map (fun i => (i.zero, i.size, i.bytes)) = some (some (.int .u8 0), 1, 1) := by kernel_rfl
set_option maxHeartbeats 1000000 in
theorem row_err (w : World) (base g : Nat) (v : Value) (L : List Int) (e : Int) (h : RowAt w base g v L e) :
    Calls Try.prog 62 #[.pointer (some ⟨g, 0, none⟩)] w fun r w' => r = .returned (.int .i64 e) ∧ w = w' := by
  have c1 : w.cell? ⟨g, 1, none⟩ = some (.int .i64 e) := (blk_cell h.blk 1).trans rfl
  clear h
  go_enter Try.func62, Try.ntmps62
  go_wp2
  go_ret
  exact ⟨rfl, rfl⟩
set_option maxHeartbeats 1000000 in
theorem row_new (w : World) : Calls Try.prog 42 #[] w fun r w' => r = .returned (.pointer (some ⟨w.heap.size, 0, none⟩)) ∧ RowAt w' w.heap.size w.heap.size (.slice none 0 0) [] 0 ∧ Below w.heap.size w w' := by
  go_enter Try.func42, Try.ntmps42
  go_wp2
  go_ret
  exact ⟨rfl, ⟨heap_alloc_new w _, own_nil _ _ _ _, Nat.le_refl _⟩, below_alloc (Below.refl _ _) _⟩
theorem ne_types : 5 ≠ 107 := by decide
theorem RowAt.store {W w1 : World} {base g : Nat} {v v1 : Value} {L L1 : List Int} {e : Int} (h : RowAt W base g v L e) (hown : w1.ownsRow base 5 1 v1 L1.length (nums .u8 L1)) (hg : W.grownBy w1 v.ownBlock) :
    RowAt (w1.setCell ⟨g, 0, none⟩ v1) base g v1 L1 e :=
  have hb := blk_grown h.blk hg (own_ne h.own h.blk ne_types)
  ⟨blk_set hb 0 v1, own_setCell hown (own_ne hown hb ne_types) v1, h.ge⟩
theorem RowAt.drew {w : World} {base g : Nat} {v : Value} {L : List Int} {e : Int} (h : RowAt w base g v L e) : RowAt w.drew base g v L e := ⟨h.blk, h.own, h.ge⟩
/-- What a call on a row keeps: all but the row's two blocks and what is new since; the row's bytes stay where they were or lie in a new block. -/
structure RowKept (w w' : World) (base g : Nat) (v v' : Value) : Prop where
  below : Below base w w'
  kept : Kept w w' (fun k => k = g ∨ v.ownBlock = some k)
  at_ : v'.ownBlock = v.ownBlock ∨ ∃ b, v'.ownBlock = some b ∧ w.heap.size ≤ b
theorem RowKept.refl (w : World) (base g : Nat) (v : Value) : RowKept w w base g v v := ⟨Below.refl _ _, Kept.refl _ _, .inl rfl⟩
theorem RowKept.drew {w w' : World} {base g : Nat} {v v' : Value} (h : RowKept w w' base g v v') : RowKept w w'.drew base g v v' := ⟨below_drew h.below, h.kept, h.at_⟩
theorem RowKept.trans {w w1 w2 : World} {base g : Nat} {v v1 v2 : Value} (h : RowKept w w1 base g v v1) (k : RowKept w1 w2 base g v1 v2) : RowKept w w2 base g v v2 := by
  refine ⟨h.below.trans k.below, h.kept.then_ k.kept ?_, ?_⟩
  · rintro j (rfl | hj)
    · exact .inl (.inl rfl)
    · rcases h.at_ with h1 | ⟨b, h1, h2⟩
      · exact .inl (.inr (h1 ▸ hj))
      · rw [h1] at hj; exact .inr (by have := Option.some.inj hj; omega)
  · rcases k.at_ with k1 | ⟨b, k1, k2⟩
    · rcases h.at_ with h1 | ⟨b, h1, h2⟩
      · exact .inl (k1.trans h1)
      · exact .inr ⟨b, k1.trans h1, h2⟩
    · exact .inr ⟨b, k1, Nat.le_trans h.kept.1 k2⟩
theorem RowKept.store {W w1 : World} {base g : Nat} {v v1 : Value} (hB : Below base W w1) (hg : W.grownBy w1 v.ownBlock) (ha : v1.ownBlock = v.ownBlock ∨ ∃ b, v1.ownBlock = some b ∧ W.heap.size ≤ b) (hb : base ≤ g) (j : Nat) (u : Value) :
    RowKept W (w1.setCell ⟨g, j, none⟩ u) base g v v1 :=
  ⟨hB.setCell hb u, (Kept.of_grown hg (Kept.refl W _) (fun k hk => .inl (.inr hk))).setCell (.inl (.inl rfl)) u, ha⟩
/-- the i-th byte of a number -/
def byteAt (x : Int) (i : Nat) : Int := x / 2 ^ (8 * i) % 256
def le (x : Int) (n : Nat) : List Int := (List.range n).map (byteAt x)
theorem le_succ (x : Int) (n : Nat) : le x (n + 1) = le x n ++ [byteAt x n] := by
  unfold le; rw [List.range_succ, List.map_append]; rfl
theorem le_length (x : Int) (n : Nat) : (le x n).length = n := by simp [le]
theorem byte_eq (x : Int) (s k : Nat) (hs : s = 8 * k) (hk : k < 4) : IntKind.u8.wrap (x / 2 ^ min s 32) = byteAt x k := by
  subst hs
  rw [Nat.min_eq_left (by omega)]
  unfold byteAt
  simp [IntKind.wrap_u8]
theorem own_le_succ {w : World} {base n : Nat} {v : Value} {L : List Int} {x y : Int} {k : Nat} (h : w.ownsRow base 5 1 v n (nums .u8 (L ++ le x k) ++ [.int .u8 y])) (hn : n = (L ++ le x k).length + 1) (hy : y = byteAt x k) :
    w.ownsRow base 5 1 v (L ++ le x (k + 1)).length (nums .u8 (L ++ le x (k + 1))) := by
  subst hn hy
  rw [le_succ, ← List.append_assoc, nums_append, List.length_append (bs := [byteAt x k])]
  exact h
def NRel (w : World) (base g : Nat) (v : Value) (L : List Int) (x : Int) (n : Nat) (v12 : Value) (wr : World) : Prop :=
  ∃ (k : Nat) (v1 : Value), v12 = .int .i64 k ∧ k ≤ n ∧ RowAt wr base g v1 (L ++ le x k) 0 ∧ RowKept w wr base g v v1
def RPost (w : World) (base g : Nat) (v : Value) (L : List Int) (e : Int) (r : Ending) (w' : World) : Prop :=
  ∃ v', r = .returned (.pointer (some ⟨g, 0, none⟩)) ∧ RowAt w' base g v' L e ∧ RowKept w w' base g v v'
set_option maxHeartbeats 4000000 in
theorem row_number (w : World) (base g : Nat) (v : Value) (L : List Int) (x : Int) (n : Nat) (h : RowAt w base g v L 0) (hn : n ≤ 4) (hx : 0 ≤ x) (hL : L.length ≤ 1000000000) :
    Calls Try.prog 61 #[.pointer (some ⟨g, 0, none⟩), .int .u32 x, .int .i64 n] w (RPost w base g v (L ++ le x n) 0) := by
  have h0 := Aside0.mk h
  have HL := Aside0.mk hL
  clear h hL
  go_enter Try.func61, Try.ntmps61
  go_wp2_with (go_at_call 62; refine (row_err _ base g v L 0 h0.out).mono ?_; rintro e w' ⟨rfl, hs⟩; subst hs)
  go_loopw [12] (fun v12 wr => NRel w base g v L x n v12 wr) (fun v12 _ => n - (intOf v12).toNat)
  case atStart => exact ⟨0, v, rfl, Nat.zero_le _, by simpa [le] using h0.out, RowKept.refl _ _ _ _⟩
  case round =>
    obtain ⟨k, v1, rfl, hk, hrow, hkept⟩ := hrel
    have HR := Aside0.mk hrow
    have HK := Aside0.mk hkept
    clear hrow hkept
    by_cases hlt : k < n
    · skip
      go_wp2_with fail
      have cc : wr.cell? ⟨g, 0, none⟩ = some v1 := (blk_cell HR.out.blk 0).trans rfl
      have ff := blk_frozen HR.out.blk 0
      obtain ⟨s, hs⟩ : ∃ s : Nat, s = 8 * k := ⟨_, rfl⟩
      have hw : IntKind.i64.wrap (8 * (k : Int)) = (s : Int) := by rw [i64_w, IntWalk.wrap64_in _ ⟨by omega, by omega⟩]; omega
      have hq : ((0 : Int) ≤ (s : Int)) = True := eq_true (by omega)
      have HS := Aside0.mk hs
      clear hs
      obtain ⟨m, hm⟩ : ∃ m, (L ++ le x k).length = m := ⟨_, rfl⟩
      have HN : Aside0 ((m + 1) * 1 ≤ 140737488355328) := ⟨by rw [← hm, List.length_append, le_length]; have := HL.out; omega⟩
      have HO : Aside0 (wr.drew.ownsRow base 5 1 v1 m (nums .u8 (L ++ le x k))) := ⟨hm ▸ HR.out.drew.own⟩
      have HM := Aside0.mk hm
      clear hm
      have HG : Aside0 (base ≤ wr.drew.heap.size) := ⟨Nat.le_of_lt (Nat.lt_of_le_of_lt HR.out.ge (blk_lt HR.out.blk))⟩
      have ca : ∀ o, (wr.alloc o).cell? ⟨g, 0, none⟩ = some v1 := fun o => (World.cell?_alloc_lt _ _ _ (blk_lt HR.out.blk)).trans cc
      go_region_law (refine step_append_cells (w0 := wr.drew) base rfl (.tmp 19) (.tmp 25) 22 5 (.int .u8 0) 1 1 rfl Try.underlying22 infoE rfl (by decide) (by decide) v1 m (nums .u8 (L ++ le x k)) [.int .u8 _] rfl rfl rfl (by simp [Value.oneCell']) HO.out (Below.refl _ _) HG.out HN.out ?_; intro v2 w1 hown hbel hgr hat; obtain ⟨A2, c2, rfl⟩ := own_slice hown; have cc1 : w1.cell? ⟨g, 0, none⟩ = some v1 := (blk_cell (blk_grown HR.out.drew.blk hgr (own_ne HR.out.own HR.out.blk ne_types)) 0).trans rfl; have ff1 := blk_frozen (blk_grown HR.out.drew.blk hgr (own_ne HR.out.own HR.out.blk ne_types)) 0; have OW := Aside0.mk hown; have BE := Aside0.mk hbel; have GR := Aside0.mk hgr; have AT := Aside0.mk hat; clear hown hbel hgr hat)
      all_goals
        go_wp2
        go_roundw
        case rel =>
          exact ⟨k + 1, _, by go_num, by omega, (HR.out.drew).store (own_le_succ OW.out (by rw [HM.out]) (byte_eq x s k HS.out (by omega))) GR.out, HK.out.drew.trans (RowKept.store BE.out GR.out AT.out HR.out.ge 0 _)⟩
        case measure => simp [intOf]; omega
    · go_wp2
      go_ret
      obtain rfl : k = n := by omega
      exact ⟨v1, rfl, HR.out, HK.out⟩
end Go.Proofs.Ytpmiofjhgmdghaa.Fld
