/- record: the reference's sign and take, walked. -/
import Derived.Test.YtpmiofjhgmdghaaFieldRef0
import Derived.Test.YtpmiofjhgmdghaaRecBase
import Derived.Test.YtpmiofjhgmdghaaRecRead0
import Derived.Test.YtpmiofjhgmdghaaRQNum
import Derived.Lib.OwnKind
namespace Go.Proofs.Ytpmiofjhgmdghaa.Fld
open Go.RowKit Go.Proofs.YtpmiofjhgmdghaaW.PrintWords Go.Proofs.YtpmiofjhgmdghaaW.PrintLast Go.Proofs.YtpmiofjhgmdghaaW.PrintMore
set_option linter.unusedVariables false
set_option linter.unusedSimpArgs false
abbrev RS0 (w0 w : World) (g : Nat) (A : Option Addr) (c : Nat) (b : List Int) (s : Sta) : Prop := RAt w0 w g A c b s.1 s.2
theorem tkL_bytes0 {b : List Int} {s : Sta} {n : Int} (h : ∀ x ∈ b, 0 ≤ x ∧ x ≤ 255) : ∀ x ∈ rL b s n, 0 ≤ x ∧ x ≤ 255 := by
  intro x hx
  unfold rL tkL at hx
  split at hx
  · exact h x (List.mem_of_mem_drop (List.mem_of_mem_take hx))
  · cases hx
theorem rL_len {b : List Int} {s : Sta} {n : Int} : (rL b s n).length ≤ b.length := by
  unfold rL tkL
  split
  · rw [List.length_take, List.length_drop]; omega
  · simp
theorem rL_full {b : List Int} {s : Sta} {n : Nat} (h : (rA b s n).2 = 0) : (rL b s n).length = n := by
  have h' : tkE b s.1 s.2 (n : Int) = 0 := h
  unfold tkE at h'
  by_cases h1 : s.2 ≠ 0
  · rw [if_pos h1] at h'; exact absurd h' h1
  · rw [if_neg h1, if_neg (by omega)] at h'
    by_cases h2 : ((b.length - s.1 : Nat) : Int) < (n : Int)
    · rw [if_pos h2] at h'; cases h'
    · unfold rL tkL
      rw [if_pos ⟨Classical.not_not.mp h1, by omega, by omega⟩, Int.toNat_natCast, List.length_take, List.length_drop]
      omega
theorem rA_zero {b : List Int} {s : Sta} {n : Int} (h : (rA b s n).2 = 0) : s.2 = 0 := by
  have h' : tkE b s.1 s.2 n = 0 := h
  unfold tkE at h'
  by_cases h1 : s.2 ≠ 0
  · rw [if_pos h1] at h'; exact absurd h' h1
  · exact Classical.not_not.mp h1
/-- where an error stands nothing moves -/
theorem rA_stuck {b : List Int} {s : Sta} {n : Int} (h : s.2 ≠ 0) : rA b s n = s := by
  unfold rA tkA tkE
  rw [if_neg (fun hh => h hh.1), if_pos h]
theorem rL_stuck {b : List Int} {s : Sta} {n : Int} (h : s.2 ≠ 0) : rL b s n = [] := by
  unfold rL tkL
  rw [if_neg (fun hh => h hh.1)]
section
variable {w0 w w' : World} {g : Nat} {A : Option Addr} {c : Nat} {b : List Int} {s : Sta}
theorem rs_take (h : RS0 w0 w g A c b s) (n : Int) : Calls Try.prog 32 #[.pointer (some ⟨g, 0, none⟩), .int .i64 n] w (fun r w' => ∃ A1 c1, r = .returned (.slice A1 (rL b s n).length c1) ∧ w'.ownsRow w.heap.size 5 1 (.slice A1 (rL b s n).length c1) (rL b s n).length (nums .u8 (rL b s n)) ∧ RS0 w0 w' g A c b (rA b s n) ∧ Kept w w' (fun k => k = g)) :=
  (rtake_any w0 w g A c b s.1 s.2 n h).mono fun r w' ⟨v, hr, ho, hc, hk⟩ => by
    obtain ⟨A1, c1, rfl⟩ := own_slice ho
    exact ⟨A1, c1, hr, ho, hc, hk⟩
theorem neRC_types : (5 : Nat) ≠ 67 := by decide
theorem own_rcur {base n t : Nat} {u : Value} {xs : List Value} (h : w.ownsRow base t 1 u n xs) (ht : t ≠ 67) (hc : RS0 w0 w g A c b s) (hk : Kept w w' (fun k => k = g)) : w'.ownsRow base t 1 u n xs := by
  refine own_move h (fun k he => hk.2 k ?_ ?_)
  · obtain ⟨cs, fz, hb⟩ := Go.Lib.ownsRow_kind h k he
    exact (Array.getElem?_eq_some_iff.1 hb).1
  · intro e
    have h1 := own_ne h hc.blk ht
    exact h1 (by rw [he]; exact congrArg some (show g = k from e.symm))
theorem blk_rcur {bx t : Nat} {cs : Array Value} (hb : w.heap[bx]? = some (.cells cs t (0, 0))) (ht : t ≠ 67) (hc : RS0 w0 w g A c b s) (hk : Kept w w' (fun k => k = g)) : w'.heap[bx]? = some (.cells cs t (0, 0)) :=
  (hk.2 bx (blk_lt hb) (blk_ne hb hc.blk ht)).trans hb
end
def SgPost (w0 w : World) (g : Nat) (A : Option Addr) (c : Nat) (b : List Int) (s : Sta) (e : Int) (r : Ending) (w' : World) : Prop :=
  r = .returned (.int .i64 e) ∧ RS0 w0 w' g A c b s ∧ Kept w w' (fun k => k = g)
set_option maxHeartbeats 4000000 in
theorem ref_sign (w0 w : World) (g : Nat) (A : Option Addr) (c : Nat) (b : List Int) (s : Sta) (want : Int) (h : RS0 w0 w g A c b s) (hb : ∀ x ∈ b, 0 ≤ x ∧ x ≤ 255) :
    Calls Try.prog 58 #[.pointer (some ⟨g, 0, none⟩), .int .u32 want] w (SgPost w0 w g A c b (rA b s 4) (sgE b s want)) := by
  unfold sgE
  have HT := Aside0.mk (rs_take h 4)
  have HN : Aside0 ((rL b s 4).length ≤ 4 → Go.Proofs.Ytpmiofjhgmdghaa.RQ.duffelref02_Num.f 10 (rL b s 4) = some (rV b s 4)) := ⟨fun hl => Go.Proofs.Ytpmiofjhgmdghaa.RQR.num_run _ (tkL_bytes0 hb) hl 10 (by decide)⟩
  have HF : Aside0 ((rA b s 4).2 = 0 → (rL b s 4).length = 4) := ⟨fun h => rL_full (n := 4) h⟩
  obtain ⟨s', hs⟩ : ∃ s', rA b s 4 = s' := ⟨_, rfl⟩
  obtain ⟨z, hz⟩ : ∃ z, rV b s 4 = z := ⟨_, rfl⟩
  obtain ⟨L, hL⟩ : ∃ L, rL b s 4 = L := ⟨_, rfl⟩
  rw [hs, hL] at HT HF
  rw [hs, hz]
  rw [hL, hz] at HN
  clear h hb hs hz hL
  obtain ⟨a', e'⟩ := s'
  show Calls Try.prog 58 _ w (SgPost w0 w g A c b (a', e') (if e' ≠ 0 then e' else if z ≠ want then 13 else 0))
  by_cases he : e' = 0
  · subst he
    have HL : Aside0 (L.length = 4) := ⟨HF.out rfl⟩
    have HNN := Aside0.mk (HN.out (by rw [HL.out]; decide))
    clear HN HF
    rw [if_neg (fun h => h rfl)]
    by_cases hw : z = want
    · subst hw
      rw [if_neg (fun h => h rfl)]
      go_enter Try.func58, Try.ntmps58
      go_wp2_with (first
        | (go_at_call 32; (with_reducible refine HT.out.mono ?_); rintro r w9 ⟨A1, c1, rfl, ho, hc, hk⟩; have HO := Aside0.mk (own_C ho); have HC := Aside0.mk hc; have HK := Aside0.mk hk; have ce : w9.cell? ⟨g, 2, none⟩ = some (.int .i64 0) := (blk_cell hc.blk 2).trans rfl; clear ho hc hk)
        | (go_at_call 40; (with_reducible refine (Go.Proofs.Ytpmiofjhgmdghaa.RQ.duffelref02_Num.calls 10 A1 c1 L z _ HO.out.2.1 HO.out.2.2.1 HNN.out).mono ?_); rintro r w8 ⟨rfl, nd, rfl⟩))
      go_ret
      exact ⟨rfl, HC.out.drewN nd, HK.out.drewN nd⟩
    · rw [if_pos hw]
      have c1 : decide (z = want) = false := decide_eq_false hw
      have c2 : (z == want) = false := beq_eq_false_iff_ne.mpr hw
      have c3 : (z != want) = true := by simp [hw]
      clear hw
      go_enter Try.func58, Try.ntmps58
      go_wp2_with (first
        | (go_at_call 32; (with_reducible refine HT.out.mono ?_); rintro r w9 ⟨A1, c1, rfl, ho, hc, hk⟩; have HO := Aside0.mk (own_C ho); have HC := Aside0.mk hc; have HK := Aside0.mk hk; have ce : w9.cell? ⟨g, 2, none⟩ = some (.int .i64 0) := (blk_cell hc.blk 2).trans rfl; clear ho hc hk)
        | (go_at_call 40; (with_reducible refine (Go.Proofs.Ytpmiofjhgmdghaa.RQ.duffelref02_Num.calls 10 A1 c1 L z _ HO.out.2.1 HO.out.2.2.1 HNN.out).mono ?_); rintro r w8 ⟨rfl, nd, rfl⟩))
      go_ret
      exact ⟨rfl, HC.out.drewN nd, HK.out.drewN nd⟩
  · rw [if_pos he]
    have c1 : decide (e' = 0) = false := decide_eq_false he
    have c2 : (e' == 0) = false := beq_eq_false_iff_ne.mpr he
    have c3 : (e' != 0) = true := by simp [he]
    clear he HN HF
    go_enter Try.func58, Try.ntmps58
    go_wp2_with (go_at_call 32; (with_reducible refine HT.out.mono ?_); rintro r w9 ⟨A1, c1, rfl, ho, hc, hk⟩; have HC := Aside0.mk hc; have HK := Aside0.mk hk; have ce : w9.cell? ⟨g, 2, none⟩ = some (.int .i64 e') := (blk_cell hc.blk 2).trans rfl; clear ho hc hk)
    go_ret
    exact ⟨rfl, HC.out, HK.out⟩
/-! take -/
def tkN (b : List Int) (s : Sta) (zs : List Int) : Nat → List Int × Sta
  | 0 => ([], s)
  | i + 1 => ((tkN b s zs i).1 ++ rL b (tkN b s zs i).2 (rd zs (i : Int)), rA b (tkN b s zs i).2 (rd zs (i : Int)))
def TkRel (w0 w : World) (g : Nat) (A : Option Addr) (c : Nat) (b : List Int) (s : Sta) (zs : List Int) (v5 v6 : Value) (wr : World) : Prop :=
  ∃ i : Nat, v6 = .int .i64 i ∧ i ≤ zs.length ∧ wr.ownsRow w.heap.size 5 1 v5 (tkN b s zs i).1.length (nums .u8 (tkN b s zs i).1) ∧ (tkN b s zs i).1.length ≤ 1000000000 * i ∧ RS0 w0 wr g A c b (tkN b s zs i).2 ∧ Kept w wr (fun k => k = g)
theorem kept_below {w w1 w2 : World} {g : Nat} (h : Kept w w1 (fun k => k = g)) (hb : Below w.heap.size w1 w2) : Kept w w2 (fun k => k = g) :=
  ⟨Nat.le_trans h.1 hb.size, fun k hk hn => (hb.block k hk).trans (h.2 k hk hn)⟩
theorem own_Ci {w : World} {base : Nat} {A : Option Addr} {n c : Nat} {L : List Int} (h : w.ownsRow base 3 1 (.slice A n c) L.length (nums .i64 L)) : n = L.length ∧ n ≤ c ∧ Kd.C (Kd.int .i64) w A L.length L :=
  Kd.R_reads' (d := Kd.int .i64) (ok := fun _ => True) (base := base) ⟨fun _ _ => trivial, _, h, Kd.reps_scalar _⟩
set_option maxHeartbeats 4000000 in
theorem ref_take (w0 w : World) (g : Nat) (A : Option Addr) (c : Nat) (b : List Int) (s : Sta) (zs : List Int) (A1 : Option Addr) (c1 base : Nat) (h : RS0 w0 w g A c b s) (hz : w.ownsRow base 3 1 (.slice A1 zs.length c1) zs.length (nums .i64 zs)) (hl : zs.length ≤ 100) :
    Calls Try.prog 59 #[.pointer (some ⟨g, 0, none⟩), .slice A1 zs.length c1] w (fun r w' => ∃ A5 c5, r = .returned (.slice A5 (tkN b s zs zs.length).1.length c5) ∧ w'.ownsRow w.heap.size 5 1 (.slice A5 (tkN b s zs zs.length).1.length c5) (tkN b s zs zs.length).1.length (nums .u8 (tkN b s zs zs.length).1) ∧ RS0 w0 w' g A c b (tkN b s zs zs.length).2 ∧ Kept w w' (fun k => k = g)) := by
  have h0 := Aside0.mk h
  have HZ := Aside0.mk hz
  have HL := Aside0.mk hl
  clear h hz
  go_enter Try.func59, Try.ntmps59
  go_wp2
  go_loopw [5, 6] (fun v5 v6 wr => TkRel w0 w g A c b s zs v5 v6 wr) (fun v5 v6 _ => zs.length - (intOf v6).toNat)
  case atStart => exact ⟨0, rfl, Nat.zero_le _, own_nil _ _ _ _, by simp [tkN], h0.out, Kept.refl _ _⟩
  case round =>
    obtain ⟨i, rfl, hi, ho, hlen, hr, hk⟩ := hrel
    have HO := Aside0.mk ho
    have HR := Aside0.mk hr
    have HK := Aside0.mk hk
    have HLN := Aside0.mk hlen
    clear ho hr hk hlen
    by_cases hlt : i < zs.length
    · obtain ⟨L, hLd⟩ : ∃ L, (tkN b s zs i).1 = L := ⟨_, rfl⟩
      obtain ⟨t, htd⟩ : ∃ t, (tkN b s zs i).2 = t := ⟨_, rfl⟩
      obtain ⟨z, hzd⟩ : ∃ z, rd zs (i : Int) = z := ⟨_, rfl⟩
      have HS : Aside0 (tkN b s zs (i + 1) = (L ++ rL b t z, rA b t z)) := ⟨by rw [tkN, hLd, htd, hzd]⟩
      rw [hLd] at HO HLN
      rw [htd] at HR
      have HZW := Aside0.mk (own_rcur HZ.out (by decide) h0.out HK.out)
      obtain ⟨ad, e, hx⟩ := Kd.at_int (own_Ci HZW.out).2.2 (i : Nat) (by omega) (by omega)
      subst e
      rw [Int.toNat_natCast, hzd] at hx
      clear hLd htd hzd
      go_wp2_with (first
        | (go_at_call 32; (with_reducible refine (rs_take HR.out z).mono ?_); rintro r w9 ⟨A9, c9, rfl, ho9, hr9, hk9⟩; replace HO := Aside0.mk (own_rcur HO.out (by decide) HR.out hk9); replace HK := Aside0.mk (HK.out.then_ hk9 (fun _ hk => .inl hk)); replace HR := Aside0.mk hr9; have HO9 := Aside0.mk ho9; clear ho9 hr9 hk9)
        | (at_builtin; refine print_append_row (w0 := w9) w.heap.size rfl (.tmp 13) (.tmp 19) 22 5 .u8 1 rfl Try.underlying22 infoE (by decide) _ L (rL b t z) A9 (rL b t z).length c9 rfl rfl HO.out (Kd.reads_of_C (own_C HO9.out).2.1) (Below.refl _ _) HK.out.1 (by have h8 := HLN.out; have h9 := HR.out.len; have h7 := rL_len (b := b) (s := t) (n := z); have h6 := HL.out; have h5 : 1000000000 * i ≤ 1000000000 * 100 := Nat.mul_le_mul_left _ (by omega); omega) ?_; intro v2 w1 hown hbel hgr hat; have HO2 := Aside0.mk hown; have HB2 := Aside0.mk hbel; have HG2 := Aside0.mk hgr; clear hown hbel hgr hat))
      refine ⟨⟨i + 1, by go_num, hlt, ?_, ?_, ?_, ?_⟩, by simp [intOf]; omega⟩
      · rw [HS.out]; exact HO2.out
      · rw [HS.out, List.length_append]
        have h8 := HLN.out; have h9 := HR.out.len; have h7 := rL_len (b := b) (s := t) (n := z)
        rw [Nat.mul_succ]; omega
      · rw [HS.out]
        have hw0 : w0.heap.size ≤ w.heap.size := h0.out.bel.size
        exact ⟨blk_grown HR.out.blk HG2.out (own_ne HO.out HR.out.blk (by decide)), HR.out.ge, HR.out.C, HR.out.cap, HR.out.bel.trans (HB2.out.mono hw0), HR.out.le, HR.out.len⟩
      · exact kept_below HK.out HB2.out
    · go_wp2
      go_ret
      obtain rfl : i = zs.length := by omega
      obtain ⟨A5, c5, rfl⟩ := own_slice HO.out
      exact ⟨A5, c5, rfl, HO.out, HR.out, HK.out⟩
end Go.Proofs.Ytpmiofjhgmdghaa.Fld
