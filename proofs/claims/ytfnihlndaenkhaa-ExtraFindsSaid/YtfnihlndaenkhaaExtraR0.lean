/- extra.Read, walked. -/
import Derived.Test.YtfnihlndaenkhaaExtraW0
namespace Go.Proofs.Ytfnihlndaenkhaa.Fld
open Go.Proofs.Ytfnihlndaenkhaa.EX
open Go.RowKit Go.Proofs.YtfnihlndaenkhaaW.PrintWords Go.Proofs.YtfnihlndaenkhaaW.PrintLast Go.Proofs.YtfnihlndaenkhaaW.PrintMore
set_option linter.unusedVariables false
set_option linter.unusedSimpArgs false
/-! what the readings of one field do -/
theorem rdF_nil (k : Nat) (acc : List FT) : rdF (k + 1) [] acc = (acc, 0) := rfl
theorem rdF_short (k : Nat) (r : List Int) (acc : List FT) (h0 : 0 < r.length) (h : r.length < 4) : rdF (k + 1) r acc = ([], 3) := by
  unfold rdF; rw [if_neg (by omega), if_pos h]
theorem rdF_long (k : Nat) (r : List Int) (acc : List FT) (h : 4 ≤ r.length) (h2 : (r.length : Int) - 4 < num ((r.drop 2).take 2)) : rdF (k + 1) r acc = ([], 3) := by
  unfold rdF; rw [if_neg (by omega), if_neg (by omega), if_pos h2]
theorem rdF_step (k : Nat) (r : List Int) (acc : List FT) (h : 4 ≤ r.length) (n : Nat) (hn : num ((r.drop 2).take 2) = (n : Int)) (h2 : n ≤ r.length - 4) :
    rdF (k + 1) r acc = rdF k (r.drop (4 + n)) (acc ++ [⟨num (r.take 2), (r.drop 4).take n⟩]) := by
  have e : rdF (k + 1) r acc = if r.length = 0 then (acc, 0) else if r.length < 4 then ([], 3) else if (r.length : Int) - 4 < num ((r.drop 2).take 2) then ([], 3) else
      rdF k (r.drop (4 + (num ((r.drop 2).take 2)).toNat)) (acc ++ [⟨num (r.take 2), (r.drop 4).take (num ((r.drop 2).take 2)).toNat⟩]) := rfl
  rw [e, if_neg (by omega), if_neg (by omega), hn, if_neg (by omega), Int.toNat_natCast]
theorem tk_some (b : List Int) (a : Nat) (n : Nat) (h : n ≤ b.length - a) : tkL b a 0 n = (b.drop a).take n ∧ tkA b a 0 n = a + n ∧ tkE b a 0 n = 0 := by
  have hc : (0 : Int) = 0 ∧ 0 ≤ (n : Int) ∧ (n : Int) ≤ ((b.length - a : Nat) : Int) := ⟨rfl, by omega, by omega⟩
  refine ⟨?_, ?_, ?_⟩
  · unfold tkL; rw [if_pos hc, Int.toNat_natCast]
  · unfold tkA; rw [if_pos hc, Int.toNat_natCast]
  · unfold tkE; rw [if_neg (by decide), if_neg (by omega), if_neg (by omega)]
theorem tk_none (b : List Int) (a : Nat) (n : Nat) (h : b.length - a < n) : tkL b a 0 n = [] ∧ tkA b a 0 n = a ∧ tkE b a 0 n = 3 := by
  have hc : ¬ ((0 : Int) = 0 ∧ 0 ≤ (n : Int) ∧ (n : Int) ≤ ((b.length - a : Nat) : Int)) := by omega
  refine ⟨?_, ?_, ?_⟩
  · unfold tkL; rw [if_neg hc]
  · unfold tkA; rw [if_neg hc]
  · unfold tkE; rw [if_neg (by decide), if_neg (by omega), if_pos (by omega)]
theorem tk_err (b : List Int) (a : Nat) (n : Int) : tkL b a 3 n = [] ∧ tkA b a 3 n = a ∧ tkE b a 3 n = 3 := by
  refine ⟨if_neg (by omega), if_neg (by omega), if_pos (by decide)⟩
theorem tkL_le' (b : List Int) (a : Nat) (e n : Int) : (tkL b a e n).length ≤ b.length := by
  unfold tkL
  split
  · rw [List.length_take, List.length_drop]; omega
  · exact Nat.zero_le _
/-- how a field is read: id, length, data, place, error -/
theorem read_one (b : List Int) (a : Nat) (hb : ∀ x ∈ b, 0 ≤ x ∧ x ≤ 255) (ha : a < b.length) (k : Nat) (acc : List FT) :
    ∃ (z n : Int) (a1 a2 a3 : Nat) (e1 e2 e3 : Int) (D : List Int),
      (num (tkL b a 0 2) = z ∧ tkA b a 0 2 = a1 ∧ tkE b a 0 2 = e1) ∧ (num (tkL b a1 e1 2) = n ∧ tkA b a1 e1 2 = a2 ∧ tkE b a1 e1 2 = e2) ∧ (tkL b a2 e2 n = D ∧ tkA b a2 e2 n = a3 ∧ tkE b a2 e2 n = e3) ∧
      ((e3 = 3 ∧ rdF (k + 1) (b.drop a) acc = ([], 3)) ∨ (e3 = 0 ∧ a < a3 ∧ a3 ≤ b.length ∧ rdF (k + 1) (b.drop a) acc = rdF k (b.drop a3) (acc ++ [⟨z, D⟩]))) ∧ D.length ≤ b.length := by
  refine ⟨_, _, _, _, _, _, _, _, _, ⟨rfl, rfl, rfl⟩, ⟨rfl, rfl, rfl⟩, ⟨rfl, rfl, rfl⟩, ?_, ?_⟩
  · have hl : (b.drop a).length = b.length - a := List.length_drop
    by_cases h2 : b.length - a < 2
    · obtain ⟨e1, e2, e3⟩ := tk_none b a 2 h2
      rw [show ((2 : Nat) : Int) = 2 from rfl] at e1 e2 e3
      rw [e1, e2, e3]
      obtain ⟨f1, f2, f3⟩ := tk_err b a 2
      rw [f1, f2, f3]
      obtain ⟨g1, g2, g3⟩ := tk_err b a (num [])
      rw [g1, g2, g3]
      exact .inl ⟨rfl, rdF_short k _ acc (by omega) (by omega)⟩
    · obtain ⟨e1, e2, e3⟩ := tk_some b a 2 (by omega)
      rw [show ((2 : Nat) : Int) = 2 from rfl] at e1 e2 e3
      rw [e1, e2, e3]
      by_cases h4 : b.length - a < 4
      · obtain ⟨f1, f2, f3⟩ := tk_none b (a + 2) 2 (by omega)
        rw [show ((2 : Nat) : Int) = 2 from rfl] at f1 f2 f3
        rw [f1, f2, f3]
        obtain ⟨g1, g2, g3⟩ := tk_err b (a + 2) (num [])
        rw [g1, g2, g3]
        exact .inl ⟨rfl, rdF_short k _ acc (by omega) (by omega)⟩
      · obtain ⟨f1, f2, f3⟩ := tk_some b (a + 2) 2 (by omega)
        rw [show ((2 : Nat) : Int) = 2 from rfl] at f1 f2 f3
        rw [f1, f2, f3]
        have ed : b.drop (a + 2) = (b.drop a).drop 2 := by rw [List.drop_drop]
        have hnb := num_bound ((b.drop (a + 2)).take 2) (fun x hx => hb x (List.mem_of_mem_drop (List.mem_of_mem_take hx)))
        obtain ⟨n, hn⟩ : ∃ n : Nat, num ((b.drop (a + 2)).take 2) = (n : Int) := ⟨(num ((b.drop (a + 2)).take 2)).toNat, by omega⟩
        rw [hn]
        have hn' := hn
        rw [ed] at hn'
        by_cases h6 : b.length - (a + 2 + 2) < n
        · obtain ⟨g1, g2, g3⟩ := tk_none b (a + 2 + 2) n h6
          rw [g1, g2, g3]
          exact .inl ⟨rfl, rdF_long k _ acc (by omega) (by rw [hn']; omega)⟩
        · obtain ⟨g1, g2, g3⟩ := tk_some b (a + 2 + 2) n (by omega)
          rw [g1, g2, g3]
          refine .inr ⟨rfl, by omega, by omega, ?_⟩
          rw [rdF_step k (b.drop a) acc (by omega) n hn' (by omega), List.drop_drop, List.drop_drop]
          rw [show a + (4 + n) = a + 2 + 2 + n by omega, show a + 4 = a + 2 + 2 by omega]
  · exact tkL_le' _ _ _ _
theorem neFC_types : (27 : Nat) ≠ 67 := by decide
theorem R_cur {w w' : World} {B B2 gc : Nat} {v vc : Value} {xs : List FT} {b : List Int} {a : Nat} {e : Int} (h : Kd.R k27 27 w B (fun _ => True) v xs) (hc : CurAt w B2 gc vc b a e) (hk : CKept w w' B2 gc) : Kd.R k27 27 w' B (fun _ => True) v xs :=
  Kd.R_mono (Kd.R_step (w1 := w') (Kd.R_types h hc.blk (by decide)) (fun k ho hlt => hk.kept.2 k hlt (fun e => ho.2 e))) (fun _ _ => trivial)
theorem CurAt.grown {w w' : World} {B gc : Nat} {vc : Value} {b : List Int} {a : Nat} {e : Int} (h : CurAt w B gc vc b a e) {row : Option Nat} (hg : w.grownBy w' row) (hne : some gc ≠ row) (hne2 : vc.ownBlock = none ∨ vc.ownBlock ≠ row) : CurAt w' B gc vc b a e :=
  ⟨blk_grown h.blk hg hne, own_other h.own hg hne2, h.ge, h.le, h.len⟩
theorem R_bytes {w : World} {B B2 : Nat} {v : Value} {D : List Int} (h : w.ownsRow B2 5 1 v D.length (nums .u8 D)) (hB : B ≤ B2) : Kd.R (Kd.int .u8) 5 w B (fun k => some k = v.ownBlock) v D :=
  ⟨fun _ hk => hk.symm, nums .u8 D, own_weaken h hB, Kd.reps_scalar D⟩
/-- bytes of a call's own are not the list's block -/
theorem apart_of {w : World} {B B2 : Nat} {v v2 : Value} {D : List Int} {xs : List FT} (h : w.ownsRow B2 5 1 v D.length (nums .u8 D)) (hR : Kd.R k27 27 w B (fun _ => True) v2 xs) (k : Nat) (hk : some k = v.ownBlock) : some k ≠ v2.ownBlock := by
  obtain ⟨_, inner, ho, _⟩ := hR
  rcases own_type_ne h ho ne8F_types with h1 | h1
  · rw [h1] at hk; cases hk
  · rw [hk]; exact h1
theorem R_ne {w : World} {B g : Nat} {v : Value} {xs : List FT} {cs : Array Value} (hR : Kd.R k27 27 w B (fun _ => True) v xs) (hb : w.heap[g]? = some (.cells cs 67 (0, 0))) : some g ≠ v.ownBlock := by
  obtain ⟨_, inner, ho, _⟩ := hR
  exact own_ne ho hb neFC_types
theorem vc_ne {w : World} {B B2 gc : Nat} {v vc : Value} {xs : List FT} {b : List Int} {a : Nat} {e : Int} (hc : CurAt w B2 gc vc b a e) (hR : Kd.R k27 27 w B (fun _ => True) v xs) : vc.ownBlock = none ∨ vc.ownBlock ≠ v.ownBlock := by
  obtain ⟨_, inner, ho, _⟩ := hR
  exact own_type_ne hc.own ho ne8F_types
def sliceLen : Value → Nat | .slice _ n _ => n | _ => 0
def RdPost (w : World) (L : List FT) (e : Int) (r : Ending) (w' : World) : Prop :=
  ∃ v, r = .returned (.tuple #[v, .int .i64 e]) ∧ Kd.R k27 27 w' w.heap.size (fun _ => True) v L ∧ Below w.heap.size w w'
/-- fields were read up to a -/
def RdRel (w0 : World) (b : List Int) (B gc : Nat) (vc : Value) (vo : Value) (wr : World) : Prop :=
  ∃ (k a : Nat) (xs : List FT), CurAt wr B gc vc b a 0 ∧ b.length - a < k ∧ rdF k (b.drop a) xs = rdA b ∧ xs.length ≤ a ∧ Kd.R k27 27 wr B (fun _ => True) vo xs ∧ Below B w0 wr
set_option maxHeartbeats 8000000 in
set_option maxRecDepth 100000 in
theorem ex_read (A0 : Option Addr) (c0 : Nat) (b : List Int) (w : World) (h0 : Kd.C (Kd.int .u8) w A0 b.length b) (hc : A0 = none → c0 = 0) (hby : ∀ x ∈ b, 0 ≤ x ∧ x ≤ 255) (hl : b.length ≤ 1000000) :
    Calls Try.prog 16 #[.slice A0 b.length c0] w (RdPost w (rdA b).1 (rdA b).2) := by
  have H0 := Aside0.mk h0
  have HN := Aside0.mk hc
  have HBY := Aside0.mk hby
  have HL := Aside0.mk hl
  clear h0 hc hby hl
  go_enter Try.func16, Try.ntmps16
  go_wp2_with (go_at_call 26; refine (cur_open _ A0 c0 b H0.out HN.out (by have := HL.out; omega)).mono ?_; rintro e w2 ⟨gc, vc, rfl, hcur, hb⟩; have HCU := Aside0.mk hcur; have HB := Aside0.mk hb; clear hcur hb)
  go_loopw [4] (fun v4 wr => RdRel w b w.heap.size gc vc v4 wr) (fun v4 _ => b.length + 1 - sliceLen v4)
  case atStart => exact ⟨b.length + 1, 0, [], HCU.out, by omega, rfl, Nat.zero_le _, Kd.R_nil _ _ _ _ _, HB.out⟩
  case round =>
    clear HCU HB
    obtain ⟨k, a, xs, hcur, hk, hrd, hxl, hR, hbel⟩ := hrel
    obtain ⟨A4, c4, rfl⟩ := Kd.R_slice hR
    have HCU := Aside0.mk hcur
    have HR := Aside0.mk hR
    have HB := Aside0.mk hbel
    have hale := hcur.le
    clear hcur hR hbel
    obtain ⟨d, hd⟩ : ∃ d, b.length - a = d := ⟨_, rfl⟩
    have hleft : leftN b a 0 = (d : Int) := by unfold leftN; rw [if_pos rfl, hd]
    have HLF : Aside0 (∀ W, CurAt W w.heap.size gc vc b a 0 → Calls Try.prog 27 #[.pointer (some ⟨gc, 0, none⟩)] W fun r w' => r = .returned (.int .i64 (d : Int)) ∧ ∃ n, w' = W.drewN n) := ⟨fun W h => hleft ▸ cur_left W _ _ _ _ _ _ h⟩
    by_cases hlt : a < b.length
    · have d1 : decide ((0 : Int) < (d : Int)) = true := decide_eq_true (by omega)
      have d2 : decide (0 < d) = true := decide_eq_true (by omega)
      obtain ⟨k, rfl⟩ : ∃ k', k = k' + 1 := ⟨k - 1, by omega⟩
      obtain ⟨z, n, a1, a2, a3, e1, e2, e3, D, ⟨r1, r2, r3⟩, ⟨r4, r5, r6⟩, ⟨r7, r8, r9⟩, hways, hDl⟩ := read_one b a HBY.out hlt k xs
      have HU1 : Aside0 (∀ W, CurAt W w.heap.size gc vc b a 0 → Calls Try.prog 28 #[.pointer (some ⟨gc, 0, none⟩)] W (IPost W w.heap.size gc vc b a1 e1 (.int .i64 z))) := ⟨fun W h => by have := cur_u16 W w.heap.size gc vc b a 0 h HBY.out; rwa [r1, r2, r3] at this⟩
      have HU2 : Aside0 (∀ W, CurAt W w.heap.size gc vc b a1 e1 → Calls Try.prog 28 #[.pointer (some ⟨gc, 0, none⟩)] W (IPost W w.heap.size gc vc b a2 e2 (.int .i64 n))) := ⟨fun W h => by have := cur_u16 W w.heap.size gc vc b a1 e1 h HBY.out; rwa [r4, r5, r6] at this⟩
      have HU3 : Aside0 (∀ W, CurAt W w.heap.size gc vc b a2 e2 → Calls Try.prog 29 #[.pointer (some ⟨gc, 0, none⟩), .int .i64 n] W (BPost W w.heap.size gc vc b D a3 e3)) := ⟨fun W h => by have := cur_bytes W w.heap.size gc vc b a2 e2 n h; rwa [r7, r8, r9] at this⟩
      have HDL := Aside0.mk hDl
      have HXL := Aside0.mk hxl
      clear r1 r2 r3 r4 r5 r6 r7 r8 r9 hd hleft hDl
      rcases hways with ⟨he, hr⟩ | ⟨he, ha3, ha3', hr⟩
      · subst he
        have HE : Aside0 ((rdA b).1 = [] ∧ (rdA b).2 = 3) := ⟨by rw [← hrd, hr]; exact ⟨rfl, rfl⟩⟩
        clear hrd hr hlt hale hk hxl
        go_wp2_with (first
          | (go_at_call 27; refine (HLF.out _ HCU.out).mono ?_; rintro r wl ⟨rfl, nd, hnd⟩; have HCU := Aside0.mk (show CurAt wl w.heap.size gc vc b a 0 from hnd ▸ HCU.out.drewN nd); have HB := Aside0.mk (show Below w.heap.size w wl from hnd ▸ pw_below_drewN HB.out nd); clear hnd)
          | (go_at_call 28; refine (HU1.out _ (by exact HCU.out)).mono ?_; rintro r w9 ⟨rfl, hcur, hk⟩; have HCU := Aside0.mk hcur; have HB := Aside0.mk (HB.out.trans hk.below); clear hcur hk)
          | (go_at_call 28; refine (HU2.out _ (by exact HCU.out)).mono ?_; rintro r w9 ⟨rfl, hcur, hk⟩; have HCU := Aside0.mk hcur; have HB := Aside0.mk (HB.out.trans hk.below); clear hcur hk)
          | (go_at_call 29; refine (HU3.out _ HCU.out).mono ?_; rintro r w9 ⟨v9, rfl, ho, hcur, hk⟩; have HCU := Aside0.mk hcur; have HB := Aside0.mk (HB.out.trans hk.below); clear ho hcur hk)
          | (go_at_call 30; refine (cur_err _ _ _ _ _ _ _ HCU.out).mono ?_; rintro r w' ⟨rfl, hs_⟩; subst hs_))
        go_ret2
        show RdPost w (rdA b).1 (rdA b).2 _ _
        rw [HE.out.1, HE.out.2]
        exact ⟨_, rfl, Kd.R_nil _ _ _ _ _, HB.out⟩
      · subst he
        have HR3 := Aside0.mk (hrd.symm.trans hr).symm
        have HA : Aside0 (b.length - a3 < k ∧ a < a3) := ⟨by omega, ha3⟩
        have hxs : xs.length < a3 := by omega
        have HXS : Aside0 (xs.length < a3 ∧ a3 ≤ b.length) := ⟨hxs, ha3'⟩
        have HLM : Aside0 ((xs.length + 1) * 32 ≤ 140737488355328) := ⟨by have := HL.out; omega⟩
        clear hrd hr hlt hale hk hxl ha3 ha3' hxs
        go_wp2_with (first
          | (go_at_call 27; refine (HLF.out _ HCU.out).mono ?_; rintro r wl ⟨rfl, nd, hnd⟩; have HCU := Aside0.mk (show CurAt wl w.heap.size gc vc b a 0 from hnd ▸ HCU.out.drewN nd); have HB := Aside0.mk (show Below w.heap.size w wl from hnd ▸ pw_below_drewN HB.out nd); have HR := Aside0.mk (show Kd.R k27 27 wl w.heap.size (fun _ => True) (.slice A4 xs.length c4) xs from hnd ▸ Kd.R_drewN HR.out nd); clear hnd)
          | (go_at_call 28; refine (HU1.out _ (by exact HCU.out)).mono ?_; rintro r w9 ⟨rfl, hcur, hk⟩; have HR := Aside0.mk (R_cur HR.out HCU.out hk); have HCU := Aside0.mk hcur; have HB := Aside0.mk (HB.out.trans hk.below); clear hcur hk)
          | (go_at_call 28; refine (HU2.out _ (by exact HCU.out)).mono ?_; rintro r w9 ⟨rfl, hcur, hk⟩; have HR := Aside0.mk (R_cur HR.out HCU.out hk); have HCU := Aside0.mk hcur; have HB := Aside0.mk (HB.out.trans hk.below); clear hcur hk)
          | (go_at_call 29; refine (HU3.out _ HCU.out).mono ?_; rintro r w9 ⟨v9, rfl, ho, hcur, hk⟩; obtain ⟨A9, c9, rfl⟩ := own_slice ho; have HR := Aside0.mk (R_cur HR.out HCU.out hk); have HO := Aside0.mk (R_bytes ho HB.out.size); have HOW := Aside0.mk ho; have HCU := Aside0.mk hcur; have HB := Aside0.mk (HB.out.trans hk.below); clear ho hcur hk)
          | (go_at_call 30; refine (cur_err _ _ _ _ _ _ _ HCU.out).mono ?_; rintro r w' ⟨rfl, hs_⟩; subst hs_)
          | (at_builtin; refine Kd.R_append k27 (w0 := w) w.heap.size rfl (.tmp 27) (.tmp 31) 22 27 (.agg #[(.int .i64 0), (.slice none 0 0)]) 32 rfl Try.underlying22 info27 rfl (by decide) (by omega) _ xs (⟨z, D⟩ : S27) [.int .i64 z, .slice A9 D.length c9] (fun _ => True) (fun k => some k = (Value.slice A9 D.length c9).ownBlock) rfl rfl (k27_mkM _ _ _ (⟨z, D⟩ : S27) HO.out) (fun k hk => ⟨trivial, apart_of HOW.out HR.out k hk⟩) (fun _ _ => trivial) HR.out HB.out HB.out.size HLM.out ?_; intro vn w8 hRn hBn hgn han; have HCU := Aside0.mk (HCU.out.grown hgn (R_ne HR.out HCU.out.blk) (vc_ne HCU.out HR.out)); have HR := Aside0.mk hRn; have HB := Aside0.mk hBn; clear hRn hBn hgn han))
        go_roundw
        case rel =>
          exact ⟨k, a3, _, HCU.out, HA.out.1, HR3.out, by rw [List.length_append]; have := HXS.out; simp; omega, HR.out, HB.out⟩
        case measure =>
          obtain ⟨A8, c8, rfl⟩ := Kd.R_slice HR.out
          have h1 := HXS.out
          simp [sliceLen]
          omega
    · have ha : a = b.length := by omega
      subst ha
      have d1 : decide ((0 : Int) < (d : Int)) = false := decide_eq_false (by omega)
      have d2 : decide (0 < d) = false := decide_eq_false (by omega)
      obtain ⟨k, rfl⟩ : ∃ k', k = k' + 1 := ⟨k - 1, by omega⟩
      rw [List.drop_length, rdF_nil] at hrd
      have HE : Aside0 ((rdA b).1 = xs ∧ (rdA b).2 = 0) := ⟨by rw [← hrd]; exact ⟨rfl, rfl⟩⟩
      clear hrd hd hleft hlt hk hxl hale
      go_wp2_with (go_at_call 27; refine (HLF.out _ HCU.out).mono ?_; rintro r wl ⟨rfl, nd, hnd⟩; have HB := Aside0.mk (show Below w.heap.size w wl from hnd ▸ pw_below_drewN HB.out nd); have HR := Aside0.mk (show Kd.R k27 27 wl w.heap.size (fun _ => True) (.slice A4 xs.length c4) xs from hnd ▸ Kd.R_drewN HR.out nd); clear hnd)
      go_ret2
      show RdPost w (rdA b).1 (rdA b).2 _ _
      rw [HE.out.1, HE.out.2]
      exact ⟨_, rfl, HR.out, HB.out⟩
end Go.Proofs.Ytfnihlndaenkhaa.Fld
