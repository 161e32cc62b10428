/- The law FieldReads, walked. -/
import Derived.Test.YtedboieaefdbdaaFieldRef0
import Derived.Test.YtedboieaefdbdaaFieldLives
import Derived.Test.YtedboieaefdbdaaFRSame
import Derived.Deep.RegionHeld3
namespace Go.Proofs.Ytedboieaefdbdaa.Fld
open Go.Proofs.Ytedboieaefdbdaa.FR Go.Proofs.Ytedboieaefdbdaa.FRR
open Go.RowKit Go.Proofs.YtedboieaefdbdaaW.PrintWords Go.Proofs.YtedboieaefdbdaaW.PrintLast Go.Proofs.YtedboieaefdbdaaW.PrintMore
set_option linter.unusedVariables false
set_option linter.unusedSimpArgs false
theorem CurAt.drew {w : World} {base g : Nat} {v : Value} {b : List Int} {a : Nat} {e : Int} (h : CurAt w base g v b a e) : CurAt w.drew base g v b a e := ⟨h.blk, h.own, h.ge, h.le, h.len⟩
theorem RAt.drew {w0 w : World} {g : Nat} {A : Option Addr} {c : Nat} {b : List Int} {a : Nat} {e : Int} (h : RAt w0 w g A c b a e) : RAt w0 w.drew g A c b a e := ⟨h.blk, h.ge, h.C, h.cap, h.bel.drew, h.le, h.len⟩
theorem neCR_types : (58 : Nat) ≠ 50 := by decide
theorem ne8R_types : (5 : Nat) ≠ 50 := by decide
/-- the program's cursor beside what the reference's cursor did -/
theorem CurAt.beside {w0 w w' : World} {base g gx : Nat} {v : Value} {b : List Int} {a : Nat} {e : Int} {A : Option Addr} {c : Nat} {b2 : List Int} {a2 : Nat} {e2 : Int} (h : CurAt w base g v b a e) (hx : RAt w0 w gx A c b2 a2 e2) (hk : Kept w w' (fun k => k = gx)) : CurAt w' base g v b a e := by
  have hg : g ≠ gx := blk_ne h.blk hx.blk neCR_types
  have hv := own_ne h.own hx.blk ne8R_types
  refine ⟨blk_kept h.blk hk hg, own_move h.own (fun k hk2 => hk.2 k (own_lt h.own k hk2) (fun e => hv (by rw [hk2, e]))), h.ge, h.le, h.len⟩
theorem RAt.beside {w0 w w' : World} {base g gx : Nat} {v : Value} {b : List Int} {a : Nat} {e : Int} {A : Option Addr} {c : Nat} {b2 : List Int} {a2 : Nat} {e2 : Int} (hx : RAt w0 w gx A c b2 a2 e2) (h : CurAt w base g v b a e) (hB : w0.heap.size ≤ base) (hk : CKept w w' base g) : RAt w0 w' gx A c b2 a2 e2 := by
  have hg : g ≠ gx := blk_ne h.blk hx.blk neCR_types
  exact ⟨blk_kept hx.blk hk.kept (fun e => hg e.symm), hx.ge, hx.C, hx.cap, hx.bel.trans (hk.below.mono hB), hx.le, hx.len⟩
/-- bytes of the call's own beside the two cursors: stores into them -/
structure Both (w0 w : World) (base g gx : Nat) (v : Value) (b : List Int) (A : Option Addr) (c : Nat) (a : Nat) (e : Int) : Prop where
  cur : CurAt w base g v b a e
  ref : RAt w0 w gx A c b a e
theorem own_form {W : World} {base n c : Nat} {A : Option Addr} {xs : List Value} (h : W.ownsRow base 5 1 (.slice A n c) n xs) (hn : 0 < n) : ∃ g, A = some ⟨g, 0, none⟩ ∧ base ≤ g ∧ g < W.heap.size ∧ ∃ cells, W.heap[g]? = some (.cells cells 5 (0, 0)) := by
  rcases h.2 with ⟨hv, _⟩ | ⟨g, cap, cur, hv, hg, hh, _⟩
  · injection hv with _ h2; omega
  · injection hv with h1
    exact ⟨g, h1, hg, blk_lt hh, _, hh⟩
theorem Both.store {w0 w : World} {base g gx : Nat} {v : Value} {b : List Int} {A : Option Addr} {c : Nat} {a : Nat} {e : Int} (h : Both w0 w base g gx v b A c a e) {g3 : Nat} {cells : Array Value} (hb : w.heap[g3]? = some (.cells cells 5 (0, 0))) (h0 : w0.heap.size ≤ g3) (hv : v.ownBlock ≠ some g3) (j : Nat) (u : Value) :
    Both w0 (w.setCell ⟨g3, j, none⟩ u) base g gx v b A c a e := by
  have h1 : g ≠ g3 := blk_ne h.cur.blk hb neC_types.symm
  have h2 : gx ≠ g3 := blk_ne h.ref.blk hb ne8R_types.symm
  exact ⟨⟨blk_far h.cur.blk h1 u, own_setCell h.cur.own (fun e => hv e.symm) u, h.cur.ge, h.cur.le, h.cur.len⟩,
    ⟨blk_far h.ref.blk h2 u, h.ref.ge, h.ref.C, h.ref.cap, h.ref.bel.setCell h0 u, h.ref.le, h.ref.len⟩⟩
/-- a loop that stores into a row of bytes: k of them were stored -/
def SRel (w0 : World) (base g gx : Nat) (v : Value) (b : List Int) (A : Option Addr) (c : Nat) (a : Nat) (e : Int) (B3 : Nat) (A3 : Option Addr) (n c3 : Nat) (vi : Value) (wr : World) : Prop :=
  ∃ (k : Nat) (ys : List Int), vi = .int .i64 k ∧ k ≤ n ∧ ys.length = n ∧ Both w0 wr base g gx v b A c a e ∧ wr.ownsRow B3 5 1 (.slice A3 n c3) n (nums .u8 ys)
def FRel (w0 : World) (base g gx : Nat) (v : Value) (b : List Int) (A : Option Addr) (c : Nat) (n : Nat) (vi : Value) (wr : World) : Prop :=
  ∃ (k : Nat) (a : Nat) (e : Int), vi = .int .i64 k ∧ k ≤ n ∧ Both w0 wr base g gx v b A c a e
theorem pair_at {w : World} {A : Option Addr} {X : List (Int × Int)} (h : Kd.C (Kd.pair (Kd.int .i64) (Kd.int .i64)) w A X.length X) (k : Nat) (hk : k < X.length) :
    ∃ ad, A = some ad ∧ w.cell? (ad.add (k * 2)) = some (.int .i64 X[k].1) ∧ w.cell? ⟨(ad.add (k * 2)).block, (ad.add (k * 2)).off + 1, none⟩ = some (.int .i64 X[k].2) := by
  obtain ⟨ad, c, e, _, hK, hc0⟩ := Kd.C_get h ((0 : Int), (0 : Int)) (k : Int) (by omega) (by omega)
  rw [Int.toNat_natCast] at hK hc0
  have hc : ∀ j u, c[j]? = some u → w.cell? (ad.add (k * 2 + j)) = some u := hc0
  have hx : X.getD k ((0 : Int), (0 : Int)) = X[k] := by simp [List.getD, hk]
  rw [hx] at hK
  obtain ⟨c1, c2, rfl, h1, h2⟩ := hK
  obtain rfl : c1 = [.int .i64 X[k].1] := h1
  obtain rfl : c2 = [.int .i64 X[k].2] := h2
  exact ⟨ad, e, hc 0 _ rfl, by rw [← add_field _ _ 1 (by omega)]; exact hc 1 _ rfl⟩
theorem pair_now {w w' : World} {ad : Addr} {X : List (Int × Int)} {k : Nat} {n : Int} (h : Kd.C (Kd.pair (Kd.int .i64) (Kd.int .i64)) w (some ad) X.length X) (hb : Below w.heap.size w w') (hk : k < X.length) (hn : X[k].2 = n) :
    w'.cell? ⟨(ad.add (k * 2)).block, (ad.add (k * 2)).off + 1, none⟩ = some (.int .i64 n) := by
  obtain ⟨ad', e, _, h2⟩ := pair_at (Kd.C_below h hb) k hk
  injection e with e; subst e
  rw [hn] at h2
  exact h2
theorem own_beside {w0 w w' : World} {gx : Nat} {A : Option Addr} {c : Nat} {b2 : List Int} {a2 : Nat} {e2 : Int} {B n : Nat} {v : Value} {xs : List Value} (h : w.ownsRow B 5 1 v n xs) (hx : RAt w0 w gx A c b2 a2 e2) (hk : Kept w w' (fun k => k = gx)) : w'.ownsRow B 5 1 v n xs :=
  own_move h (fun k hk2 => hk.2 k (own_lt h k hk2) (fun e => own_ne h hx.blk ne8R_types (by rw [hk2, e])))
theorem tkL_le {b : List Int} {a : Nat} {e n : Int} : (tkL b a e n).length ≤ b.length := by
  unfold tkL
  split
  · rw [List.length_take, List.length_drop]; omega
  · exact Nat.zero_le _
theorem own_keep_low {w1 w2 : World} {B : Nat} {base : Nat} {v : Value} {n : Nat} {xs : List Value} (h : w1.ownsRow base 5 1 v n xs) (hb : Below w1.heap.size w1 w2) : w2.ownsRow base 5 1 v n xs := pw_own_below h hb
set_option maxHeartbeats 8000000 in
set_option maxRecDepth 100000 in
theorem reads_any (A0 : Option Addr) (c0 : Nat) (l0 : List Int) (A1 : Option Addr) (c1 : Nat) (X : List (Int × Int)) (w : World) (h0 : Kd.C (Kd.int .u8) w A0 l0.length l0) (hc0 : l0.length ≤ c0) (hby : ∀ x ∈ l0, 0 ≤ x ∧ x ≤ 255) (h1 : Kd.C (Kd.pair (Kd.int .i64) (Kd.int .i64)) w A1 X.length X) :
    Calls Try.prog 5 #[.slice A0 l0.length c0, .slice A1 X.length c1] w fun e w' => e = .returned (.bool true) ∧ Below w.heap.size w w' := by
  obtain ⟨b, hbq⟩ : ∃ b, l0.take 200 = b := ⟨_, rfl⟩
  have HCUT : Aside0 (MyCut.cut_u8.f l0 200 = some b) := ⟨hbq ▸ MyCut.cut_u8.nat l0 200⟩
  have HC0 := Aside0.mk hc0
  have HC : Aside0 (Kd.C (Kd.int .u8) w A0 b.length b) := ⟨MyCut.C_cut_u8 h0 HCUT.out⟩
  have HCC : Aside0 (b.length ≤ c0) := ⟨MyCut.le_cut_u8 hc0 HCUT.out⟩
  have HL : Aside0 (b.length ≤ 200) := ⟨by rw [← hbq, List.length_take]; omega⟩
  have HBY : Aside0 (∀ x ∈ b, 0 ≤ x ∧ x ≤ 255) := ⟨fun x hx => hby x (List.mem_of_mem_take (hbq ▸ hx))⟩
  have HX := Aside0.mk h1
  have HXM : Aside0 (X.length ≤ 9223372036854775807) := ⟨Kd.C_max h1⟩
  have H0 := Aside0.mk h0
  clear h0 hc0 hby h1 hbq
  go_enter Try.func5, Try.ntmps5
  go_wp2_with (first
    | (go_at_call 9; refine (MyCut.cut_u8.calls A0 c0 l0 200 b _ HC0.out HCUT.out).mono ?_; rintro e w' ⟨rfl, hs_⟩; subst hs_)
    | (go_at_call 8; refine (duffelref01_Copy.calls A0 c0 b b _ HC.out HCC.out (copy_ok b (by have := HL.out; omega))).mono ?_; rintro e w1 ⟨v, rfl, hR, hb⟩; obtain ⟨A3, c3, rfl⟩ := own_slice (Kd.own_of_R hR); have HO := Aside0.mk (Kd.own_of_R hR); have HO3 := Aside0.mk (own_C (Kd.own_of_R hR)); have HB := Aside0.mk hb; clear hR hb)
    | (go_at_call 23; refine (cur_open _ A3 c3 b HO3.out.2.1 HO3.out.2.2.2 (by have := HL.out; omega)).mono ?_; rintro e w2 ⟨gc, vc, rfl, hcur, hb⟩; have HCU := Aside0.mk hcur; have HB2 := Aside0.mk hb; clear hcur hb))
  have hA3 : Aside0 (∀ g3, A3 = some ⟨g3, 0, none⟩ → vc.ownBlock ≠ some g3 ∧ w.heap.size ≤ g3) := ⟨fun g3 e => by
    subst e
    have h1 := own_lt HO.out g3 rfl
    have h2 := own_base HO.out g3 rfl
    exact ⟨fun h => by have := own_base HCU.out.own g3 h; omega, h2⟩⟩
  have HS : Aside0 (w.heap.size ≤ w1.heap.size ∧ w1.heap.size ≤ w2.heap.size) := ⟨HB.out.size, HB2.out.size⟩
  have HBO : Aside0 (Both w (w2.alloc (.cells #[.slice A0 b.length c0, .int .i64 0, .int .i64 0] 50)) w1.heap.size gc w2.heap.size vc b A0 c0 0 0) :=
    ⟨HCU.out.below (below_alloc (Below.refl _ _) _), ⟨heap_alloc_new w2 _, by have := HS.out; omega, HC.out, HCC.out, below_alloc (HB.out.trans (HB2.out.mono HS.out.1)) _, Nat.zero_le _, by have := HL.out; omega⟩⟩
  have HM : Aside0 ((w2.alloc (.cells #[.slice A0 b.length c0, .int .i64 0, .int .i64 0] 50)).ownsRow w.heap.size 5 1 (.slice A3 b.length c3) b.length (nums .u8 b)) := ⟨own_alloc (pw_own_below HO.out HB2.out) _⟩
  clear HO HO3 HB HB2
  go_loopw [8] (fun v8 wr => SRel w w1.heap.size gc w2.heap.size vc b A0 c0 0 0 w.heap.size A3 b.length c3 v8 wr) (fun v8 _ => b.length - (intOf v8).toNat)
  case atStart => exact ⟨0, b, rfl, Nat.zero_le _, rfl, HBO.out, HM.out⟩
  case round =>
    obtain ⟨k, ys, rfl, hk, hys, hboth, hown⟩ := hrel
    have H1 := Aside0.mk hys
    have H2 := Aside0.mk hboth
    have H3 := Aside0.mk hown
    clear hys hboth hown
    by_cases hlt : k < b.length
    · obtain ⟨g3, e3, hg3, hg4, cells, hcells⟩ := own_form H3.out (by omega)
      subst e3
      obtain ⟨hc, hf⟩ := own_at H3.out (k : Int) (by omega) (by omega)
      obtain ⟨hst, _⟩ := own_store H3.out (k : Int) (IntKind.u8.wrap (rd ys (k : Int) + 1))
      rw [Int.toNat_natCast] at hc hf hst
      have H4 := Aside0.mk hst
      have H5 := Aside0.mk hcells
      have H6 := Aside0.mk (hA3.out g3 rfl)
      obtain ⟨x, hx⟩ : ∃ x, rd ys (k : Int) = x := ⟨_, rfl⟩
      rw [hx] at hc H4
      clear hst hcells hg3 hg4
      go_wp2
      have hb200 : b.length ≤ 200 := HL.out
      have hwk : wrap64 ((k : Int) + 1) = ((k + 1 : Nat) : Int) := by rw [IntWalk.wrap64_in _ ⟨by omega, by omega⟩]; omega
      refine ⟨⟨k + 1, _, by rw [hwk], by omega, ?_, H2.out.store H5.out H6.out.2 H6.out.1 _ _, H4.out⟩, by rw [hwk]; simp [intOf]; omega⟩
      rw [List.length_set, H1.out]
    · go_wp2
      have HBO2 := Aside0.mk H2.out
      clear H1 H2 H3 HBO hA3 HM
      go_loopw [9] (fun v9 w' => FRel w w1.heap.size gc w2.heap.size vc b A0 c0 X.length v9 w') (fun v9 _ => X.length - (intOf v9).toNat)
      case atStart => exact ⟨0, 0, 0, rfl, Nat.zero_le _, HBO2.out⟩
      case round =>
        rename World => wq
        obtain ⟨i, a, e, rfl, hi, hboth⟩ := hrel
        have H2 := Aside0.mk hboth
        clear hboth HBO2
        by_cases hlt2 : i < X.length ∧ i < 60
        · obtain ⟨hl1, hl2⟩ := hlt2
          obtain ⟨ad, e1, hx1, hx2⟩ := pair_at (Kd.C_below HX.out H2.out.ref.bel) i hl1
          subst e1
          have d1 : decide ((i : Int) < 60) = true := decide_eq_true (by omega)
          have d2 : decide (i < X.length) = true := decide_eq_true hl1
          have d3 : decide ((i : Int) < (X.length : Int)) = true := decide_eq_true (by omega)
          obtain ⟨m, hm⟩ : ∃ m, X[i].1 = m := ⟨_, rfl⟩
          obtain ⟨n, hn⟩ : ∃ n, X[i].2 = n := ⟨_, rfl⟩
          rw [hm] at hx1
          rw [hn] at hx2
          clear hm
          replace hn := Aside0.mk hn
          by_cases m0 : m = 0
          · subst m0
            obtain ⟨R, hR⟩ : ∃ R, tkL b a e 2 = R := ⟨_, rfl⟩
            obtain ⟨a', ha⟩ : ∃ a', tkA b a e 2 = a' := ⟨_, rfl⟩
            obtain ⟨e', he⟩ : ∃ e', tkE b a e 2 = e' := ⟨_, rfl⟩
            obtain ⟨z, hz⟩ : ∃ z, num R = z := ⟨_, rfl⟩
            have HRB : Aside0 ((∀ x ∈ R, 0 ≤ x ∧ x ≤ 255) ∧ R.length ≤ 2) := ⟨hR ▸ ⟨tkL_bytes HBY.out, tkL_length⟩⟩
            have HN : Aside0 (duffelref02_Num.f 10 R = some z) := ⟨hz ▸ num_run R HRB.out.1 (by have := HRB.out.2; omega) 10 (by omega)⟩
            have hw : IntKind.i64.wrap z = z := by
              have h2 := num_bound R HRB.out.1
              have hl := HRB.out.2
              rw [hz] at h2
              rw [i64_w, IntWalk.wrap64_in _ ⟨by omega, ?_⟩]
              have h3 : (256 : Int) ^ R.length ≤ 65536 := by
                rcases (show R.length = 0 ∨ R.length = 1 ∨ R.length = 2 by omega) with h | h | h <;> rw [h] <;> decide
              omega
            have HU : Aside0 (Calls Try.prog 24 #[.pointer (some ⟨gc, 0, none⟩)] wq (IPost wq w1.heap.size gc vc b a' e' (.int .i64 z))) := ⟨by have := cur_u16 wq w1.heap.size gc vc b a e H2.out.cur HBY.out; rwa [hR, ha, he, hz] at this⟩
            have HT : Aside0 (∀ W, RAt w W w2.heap.size A0 c0 b a e → Calls Try.prog 25 #[.pointer (some ⟨w2.heap.size, 0, none⟩), .int .i64 2] W (RTPost w W w2.heap.size A0 c0 b R a' e')) := ⟨fun W h => by have := rtake_any w W w2.heap.size A0 c0 b a e 2 h; rwa [hR, ha, he] at this⟩
            clear hR ha he hz
            go_wp2_with (first
              | (go_at_call 24; refine HU.out.mono ?_; rintro r wa ⟨rfl, hcur, hk⟩; have HA := Aside0.mk hcur; have HAR := Aside0.mk (H2.out.ref.beside H2.out.cur HS.out.1 hk); clear hcur hk)
              | (go_at_call 25; refine (HT.out _ HAR.out).mono ?_; rintro r wb ⟨v5, rfl, ho, hr, hk⟩; obtain ⟨A5, c5, rfl⟩ := own_slice ho; have HO5 := Aside0.mk (own_C ho); have HZ := Aside0.mk (show Both w wb w1.heap.size gc w2.heap.size vc b A0 c0 a' e' from ⟨HA.out.beside HAR.out hk, hr⟩); clear ho hr hk)
              | (go_at_call 13; refine (duffelref02_Num.calls 10 A5 c5 R z _ HO5.out.2.1 HO5.out.2.2.1 HN.out).mono ?_; rintro r wz ⟨rfl, ⟨nd, hnd⟩⟩; have HZ := Aside0.mk (show Both w wz w1.heap.size gc w2.heap.size vc b A0 c0 a' e' from hnd ▸ ⟨HZ.out.cur.drewN nd, HZ.out.ref.drewN nd⟩); clear hnd))
            have hg1 : wz.cell? ⟨w2.heap.size, 1, none⟩ = some (.int .i64 (a' : Int)) := (blk_cell HZ.out.ref.blk 1).trans rfl
            have hg2 : wz.cell? ⟨w2.heap.size, 2, none⟩ = some (.int .i64 e') := (blk_cell HZ.out.ref.blk 2).trans rfl
            go_region_held3 (fun w' => w'.cell? ⟨w2.heap.size, 1, none⟩ = some (.int .i64 (a' : Int)) ∧ w'.cell? ⟨w2.heap.size, 2, none⟩ = some (.int .i64 e'))
              (((try dsimp only); (repeat' apply And.intro); (all_goals (first | exact hg1 | exact hg2 | go_keep | assumption))))
              (first
                | (go_at_call 28; refine (cur_left _ w1.heap.size gc vc b a' e' (by repeat (with_reducible first | exact HZ.out.cur | refine CurAt.drew ?_ | refine CurAt.drewN ?_ _))).mono ?_; rintro r w5 ⟨rfl, nd, rfl⟩)
                | (go_at_call 29; refine (rleft w _ w2.heap.size A0 c0 b a' e' (by repeat (with_reducible first | exact HZ.out.ref | refine RAt.drew ?_ | refine RAt.drewN ?_ _))).mono ?_; rintro r w5 ⟨rfl, nd, rfl⟩)
                | (go_at_call 30; refine (cur_at _ w1.heap.size gc vc b a' e' (by repeat (with_reducible first | exact HZ.out.cur | refine CurAt.drew ?_ | refine CurAt.drewN ?_ _))).mono ?_; rintro r w5 ⟨rfl, hs_⟩; subst hs_)
                | (go_at_call 31; refine (cur_err _ w1.heap.size gc vc b a' e' (by repeat (with_reducible first | exact HZ.out.cur | refine CurAt.drew ?_ | refine CurAt.drewN ?_ _))).mono ?_; rintro r w5 ⟨rfl, hs_⟩; subst hs_)
                | (go_at_call 32; refine (cur_end _ w1.heap.size gc vc b a' e' (by repeat (with_reducible first | exact HZ.out.cur | refine CurAt.drew ?_ | refine CurAt.drewN ?_ _))).mono ?_; rintro r w5 ⟨rfl, nd, rfl⟩)
                | (go_at_call 33; refine (rend w _ w2.heap.size A0 c0 b a' e' (by repeat (with_reducible first | exact HZ.out.ref | refine RAt.drew ?_ | refine RAt.drewN ?_ _))).mono ?_; rintro r w5 ⟨rfl, nd, rfl⟩))
            all_goals
              go_split_ands
              go_wp2
              go_roundw
              case rel => exact ⟨i + 1, a', e', by go_num, by omega, ⟨HZ.out.cur.drewN _, HZ.out.ref.drewN _⟩⟩
              case measure => simp [intOf]; omega
          · by_cases m1 : m = 1
            · subst m1
              obtain ⟨R, hR⟩ : ∃ R, tkL b a e 4 = R := ⟨_, rfl⟩
              obtain ⟨a', ha⟩ : ∃ a', tkA b a e 4 = a' := ⟨_, rfl⟩
              obtain ⟨e', he⟩ : ∃ e', tkE b a e 4 = e' := ⟨_, rfl⟩
              obtain ⟨z, hz⟩ : ∃ z, num R = z := ⟨_, rfl⟩
              have HRB : Aside0 ((∀ x ∈ R, 0 ≤ x ∧ x ≤ 255) ∧ R.length ≤ 4) := ⟨hR ▸ ⟨tkL_bytes HBY.out, tkL_length⟩⟩
              have HN : Aside0 (duffelref02_Num.f 10 R = some z) := ⟨hz ▸ num_run R HRB.out.1 (by have := HRB.out.2; omega) 10 (by omega)⟩
              have HU : Aside0 (Calls Try.prog 26 #[.pointer (some ⟨gc, 0, none⟩)] wq (IPost wq w1.heap.size gc vc b a' e' (.int .u32 z))) := ⟨by have := cur_u32 wq w1.heap.size gc vc b a e H2.out.cur HBY.out; rwa [hR, ha, he, hz] at this⟩
              have HT : Aside0 (∀ W, RAt w W w2.heap.size A0 c0 b a e → Calls Try.prog 25 #[.pointer (some ⟨w2.heap.size, 0, none⟩), .int .i64 4] W (RTPost w W w2.heap.size A0 c0 b R a' e')) := ⟨fun W h => by have := rtake_any w W w2.heap.size A0 c0 b a e 4 h; rwa [hR, ha, he] at this⟩
              clear hR ha he hz
              go_wp2_with (first
                | (go_at_call 26; refine HU.out.mono ?_; rintro r wa ⟨rfl, hcur, hk⟩; have HA := Aside0.mk hcur; have HAR := Aside0.mk (H2.out.ref.beside H2.out.cur HS.out.1 hk); clear hcur hk)
                | (go_at_call 25; refine (HT.out _ HAR.out).mono ?_; rintro r wb ⟨v5, rfl, ho, hr, hk⟩; obtain ⟨A5, c5, rfl⟩ := own_slice ho; have HO5 := Aside0.mk (own_C ho); have HZ := Aside0.mk (show Both w wb w1.heap.size gc w2.heap.size vc b A0 c0 a' e' from ⟨HA.out.beside HAR.out hk, hr⟩); clear ho hr hk)
                | (go_at_call 13; refine (duffelref02_Num.calls 10 A5 c5 R z _ HO5.out.2.1 HO5.out.2.2.1 HN.out).mono ?_; rintro r wz ⟨rfl, ⟨nd, hnd⟩⟩; have HZ := Aside0.mk (show Both w wz w1.heap.size gc w2.heap.size vc b A0 c0 a' e' from hnd ▸ ⟨HZ.out.cur.drewN nd, HZ.out.ref.drewN nd⟩); clear hnd))
              have hg1 : wz.cell? ⟨w2.heap.size, 1, none⟩ = some (.int .i64 (a' : Int)) := (blk_cell HZ.out.ref.blk 1).trans rfl
              have hg2 : wz.cell? ⟨w2.heap.size, 2, none⟩ = some (.int .i64 e') := (blk_cell HZ.out.ref.blk 2).trans rfl
              go_region_held3 (fun w' => w'.cell? ⟨w2.heap.size, 1, none⟩ = some (.int .i64 (a' : Int)) ∧ w'.cell? ⟨w2.heap.size, 2, none⟩ = some (.int .i64 e'))
                (((try dsimp only); (repeat' apply And.intro); (all_goals (first | exact hg1 | exact hg2 | go_keep | assumption))))
                (first
                  | (go_at_call 28; refine (cur_left _ w1.heap.size gc vc b a' e' (by repeat (with_reducible first | exact HZ.out.cur | refine CurAt.drew ?_ | refine CurAt.drewN ?_ _))).mono ?_; rintro r w5 ⟨rfl, nd, rfl⟩)
                  | (go_at_call 29; refine (rleft w _ w2.heap.size A0 c0 b a' e' (by repeat (with_reducible first | exact HZ.out.ref | refine RAt.drew ?_ | refine RAt.drewN ?_ _))).mono ?_; rintro r w5 ⟨rfl, nd, rfl⟩)
                  | (go_at_call 30; refine (cur_at _ w1.heap.size gc vc b a' e' (by repeat (with_reducible first | exact HZ.out.cur | refine CurAt.drew ?_ | refine CurAt.drewN ?_ _))).mono ?_; rintro r w5 ⟨rfl, hs_⟩; subst hs_)
                  | (go_at_call 31; refine (cur_err _ w1.heap.size gc vc b a' e' (by repeat (with_reducible first | exact HZ.out.cur | refine CurAt.drew ?_ | refine CurAt.drewN ?_ _))).mono ?_; rintro r w5 ⟨rfl, hs_⟩; subst hs_)
                  | (go_at_call 32; refine (cur_end _ w1.heap.size gc vc b a' e' (by repeat (with_reducible first | exact HZ.out.cur | refine CurAt.drew ?_ | refine CurAt.drewN ?_ _))).mono ?_; rintro r w5 ⟨rfl, nd, rfl⟩)
                  | (go_at_call 33; refine (rend w _ w2.heap.size A0 c0 b a' e' (by repeat (with_reducible first | exact HZ.out.ref | refine RAt.drew ?_ | refine RAt.drewN ?_ _))).mono ?_; rintro r w5 ⟨rfl, nd, rfl⟩))
              all_goals
                go_split_ands
                go_wp2
                go_roundw
                case rel => exact ⟨i + 1, a', e', by go_num, by omega, ⟨HZ.out.cur.drewN _, HZ.out.ref.drewN _⟩⟩
                case measure => simp [intOf]; omega
            · have m2 : (m == 0) = false := beq_eq_false_iff_ne.mpr m0
              have m3 : (m == 1) = false := beq_eq_false_iff_ne.mpr m1
              obtain ⟨R, hR⟩ : ∃ R, tkL b a e n = R := ⟨_, rfl⟩
              obtain ⟨a', ha⟩ : ∃ a', tkA b a e n = a' := ⟨_, rfl⟩
              obtain ⟨e', he⟩ : ∃ e', tkE b a e n = e' := ⟨_, rfl⟩
              have HRB : Aside0 (R.length ≤ 200) := ⟨hR ▸ Nat.le_trans tkL_le HL.out⟩
              have HN : Aside0 (duffelref01_Same.f 1000 R R = some true) := ⟨same_ok R (by have := HRB.out; omega) 1000 (by have := HRB.out; omega)⟩
              have HU : Aside0 (Calls Try.prog 27 #[.pointer (some ⟨gc, 0, none⟩), .int .i64 n] wq (BPost wq w1.heap.size gc vc b R a' e')) := ⟨by have := cur_bytes wq w1.heap.size gc vc b a e n H2.out.cur; rwa [hR, ha, he] at this⟩
              have HT : Aside0 (∀ W, RAt w W w2.heap.size A0 c0 b a e → Calls Try.prog 25 #[.pointer (some ⟨w2.heap.size, 0, none⟩), .int .i64 n] W (RTPost w W w2.heap.size A0 c0 b R a' e')) := ⟨fun W h => by have := rtake_any w W w2.heap.size A0 c0 b a e n h; rwa [hR, ha, he] at this⟩
              clear hR ha he m0 m1
              go_wp2_with (first
                | (go_at_call 27; refine HU.out.mono ?_; rintro r wa ⟨v6, rfl, ho, hcur, hk⟩; obtain ⟨A6, c6, rfl⟩ := own_slice ho; have HO6 := Aside0.mk ho; have HA := Aside0.mk hcur; have HAR := Aside0.mk (H2.out.ref.beside H2.out.cur HS.out.1 hk); clear ho hcur hk; have hx3 := pair_now HX.out HAR.out.bel hl1 hn.out)
                | (go_at_call 25; refine (HT.out _ HAR.out).mono ?_; rintro r wb ⟨v5, rfl, ho, hr, hk⟩; obtain ⟨A5, c5, rfl⟩ := own_slice ho; have HO5 := Aside0.mk (own_C ho); have HO6 := Aside0.mk (own_beside HO6.out HAR.out hk); have HZ := Aside0.mk (show Both w wb w1.heap.size gc w2.heap.size vc b A0 c0 a' e' from ⟨HA.out.beside HAR.out hk, hr⟩); clear ho hr hk)
                | (go_at_call 20; refine (duffelref01_Same.calls 1000 A6 c6 R A5 c5 R true _ (own_C HO6.out).2.1 (own_C HO6.out).2.2.1 HO5.out.2.1 HO5.out.2.2.1 HN.out).mono ?_; rintro r wz ⟨rfl, ⟨nd, hnd⟩⟩; have HZ := Aside0.mk (show Both w wz w1.heap.size gc w2.heap.size vc b A0 c0 a' e' from hnd ▸ ⟨HZ.out.cur.drewN nd, HZ.out.ref.drewN nd⟩); have HO6 := Aside0.mk (show wz.ownsRow wq.heap.size 5 1 (.slice A6 R.length c6) R.length (nums .u8 R) from hnd ▸ HO6.out); clear hnd))
              go_loopw [11] (fun v11 wr => SRel w w1.heap.size gc w2.heap.size vc b A0 c0 a' e' wq.heap.size A6 R.length c6 v11 wr) (fun v11 _ => R.length - (intOf v11).toNat)
              case atStart => exact ⟨0, R, rfl, Nat.zero_le _, rfl, HZ.out, HO6.out⟩
              case round =>
                rename World => wz
                obtain ⟨q, ys2, rfl, hq, hys2, hboth, hown⟩ := hrel
                have G1 := Aside0.mk hys2
                have HZ := Aside0.mk hboth
                have G3 := Aside0.mk hown
                clear hys2 hboth hown
                by_cases hlt3 : q < R.length
                · obtain ⟨g3, e3, hg3, hg4, cells, hcells⟩ := own_form G3.out (by omega)
                  subst e3
                  obtain ⟨hc, hf⟩ := own_at G3.out (q : Int) (by omega) (by omega)
                  obtain ⟨hst, _⟩ := own_store G3.out (q : Int) 9
                  rw [Int.toNat_natCast] at hc hf hst
                  have H4 := Aside0.mk hst
                  have H5 := Aside0.mk hcells
                  have H6 : Aside0 (w.heap.size ≤ g3 ∧ vc.ownBlock ≠ some g3) := ⟨by have := H2.out.ref.bel.size; omega, fun h => by have := own_lt H2.out.cur.own g3 h; omega⟩
                  clear hst hcells hg3 hg4
                  go_wp2
                  have hb200 : R.length ≤ 200 := HRB.out
                  have hwk : wrap64 ((q : Int) + 1) = ((q + 1 : Nat) : Int) := by rw [IntWalk.wrap64_in _ ⟨by omega, by omega⟩]; omega
                  refine ⟨⟨q + 1, _, by rw [hwk], by omega, ?_, HZ.out.store H5.out H6.out.1 H6.out.2 _ _, H4.out⟩, by rw [hwk]; simp [intOf]; omega⟩
                  rw [List.length_set, G1.out]
                · clear G1 G3
                  go_wp2
                  have hg1 : wz.cell? ⟨w2.heap.size, 1, none⟩ = some (.int .i64 (a' : Int)) := (blk_cell HZ.out.ref.blk 1).trans rfl
                  have hg2 : wz.cell? ⟨w2.heap.size, 2, none⟩ = some (.int .i64 e') := (blk_cell HZ.out.ref.blk 2).trans rfl
                  go_region_held3 (fun w' => w'.cell? ⟨w2.heap.size, 1, none⟩ = some (.int .i64 (a' : Int)) ∧ w'.cell? ⟨w2.heap.size, 2, none⟩ = some (.int .i64 e'))
                    (((try dsimp only); (repeat' apply And.intro); (all_goals (first | exact hg1 | exact hg2 | go_keep | assumption))))
                    (first
                      | (go_at_call 28; refine (cur_left _ w1.heap.size gc vc b a' e' (by repeat (with_reducible first | exact HZ.out.cur | refine CurAt.drew ?_ | refine CurAt.drewN ?_ _))).mono ?_; rintro r w5 ⟨rfl, nd, rfl⟩)
                      | (go_at_call 29; refine (rleft w _ w2.heap.size A0 c0 b a' e' (by repeat (with_reducible first | exact HZ.out.ref | refine RAt.drew ?_ | refine RAt.drewN ?_ _))).mono ?_; rintro r w5 ⟨rfl, nd, rfl⟩)
                      | (go_at_call 30; refine (cur_at _ w1.heap.size gc vc b a' e' (by repeat (with_reducible first | exact HZ.out.cur | refine CurAt.drew ?_ | refine CurAt.drewN ?_ _))).mono ?_; rintro r w5 ⟨rfl, hs_⟩; subst hs_)
                      | (go_at_call 31; refine (cur_err _ w1.heap.size gc vc b a' e' (by repeat (with_reducible first | exact HZ.out.cur | refine CurAt.drew ?_ | refine CurAt.drewN ?_ _))).mono ?_; rintro r w5 ⟨rfl, hs_⟩; subst hs_)
                      | (go_at_call 32; refine (cur_end _ w1.heap.size gc vc b a' e' (by repeat (with_reducible first | exact HZ.out.cur | refine CurAt.drew ?_ | refine CurAt.drewN ?_ _))).mono ?_; rintro r w5 ⟨rfl, nd, rfl⟩)
                      | (go_at_call 33; refine (rend w _ w2.heap.size A0 c0 b a' e' (by repeat (with_reducible first | exact HZ.out.ref | refine RAt.drew ?_ | refine RAt.drewN ?_ _))).mono ?_; rintro r w5 ⟨rfl, nd, rfl⟩))
                  all_goals
                    go_split_ands
                    go_wp2
                    go_roundw
                    case rel => exact ⟨i + 1, a', e', by go_num, by omega, ⟨HZ.out.cur.drewN _, HZ.out.ref.drewN _⟩⟩
                    case measure => simp [intOf]; omega
        · go_wp2_with (go_at_call 14; refine (field_lives _).mono ?_; rintro r wl ⟨rfl, hb⟩; have HB9 := Aside0.mk (H2.out.ref.bel.trans (hb.mono H2.out.ref.bel.size)); clear hb)
          all_goals
            go_ret
            exact ⟨rfl, HB9.out⟩
end Go.Proofs.Ytedboieaefdbdaa.Fld
