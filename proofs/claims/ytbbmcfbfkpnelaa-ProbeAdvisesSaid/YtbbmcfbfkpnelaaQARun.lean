/- probe.Log as printed: what it tells. -/
import Derived.Test.YtbbmcfbfkpnelaaQAx4
import Derived.Test.YtbbmcfbfkpnelaaProbeMath
import Derived.Lib.ItoaNum
namespace Go.Proofs.Ytbbmcfbfkpnelaa.QAR
open Go.RowKit Go.Proofs.Ytbbmcfbfkpnelaa.QA Go.Proofs.YtbbmcfbfkpnelaaW.PrintWords Go.Proofs.YtbbmcfbfkpnelaaW.PrintLast Go.Proofs.YtbbmcfbfkpnelaaW.PrintMore Go.Proofs.Ytbbmcfbfkpnelaa.ProbeMath
theorem w64 (n : Nat) (h : n < 9223372036854775808) : wrap64 (n : Int) = n := IntWalk.wrap64_in _ ⟨by omega, by omega⟩
theorem or_one (k : Nat) (h : k < 1048576) : Go.bits .or .i64 ((2 * k : Nat) : Int) 1 = ((2 * k + 1 : Nat) : Int) := by
  have e := bits_join .i64 62 (by decide) (fun n h0 h1 => by have h2 : n < 4611686018427387904 := h1; rw [IntKind.wrap_i64]; omega) 1 ((2 * k : Nat) : Int) 1 (by omega) (by omega) (by omega) (by omega) (by decide) (by decide)
  rw [e]; omega
theorem bits_len (n : Nat) (h0 : n ≠ 0) (h : n < 18446744073709551616) : Lib.bitLen n = Nat.log2 n + 1 := by
  have b := Lib.bitLenAux_bounds 64 n (by omega) h0
  have e : Lib.bitLen n = Lib.bitLenAux 64 n := rfl
  rw [e]
  generalize Lib.bitLenAux 64 n = c at b ⊢
  have l1 : c - 1 ≤ Nat.log2 n := (Nat.le_log2 h0).mpr b.2.1
  have l2 : Nat.log2 n < c := (Nat.log2_lt h0).mpr b.2.2
  omega
theorem sq_u64 (m : Nat) (h : Rng m) : IntKind.u64.wrap ((m : Int) * m) = ((m * m : Nat) : Int) := by
  have h2 : m * m ≤ 4294967295 * 4294967295 := Nat.mul_le_mul (by have := h.2; omega) (by have := h.2; omega)
  rw [← Int.natCast_mul]
  generalize m * m = q at h2 ⊢
  exact IntWalk.u64_in _ ⟨by omega, by omega⟩
theorem l0_it (r : Nat) : ∀ (K k m i : Nat), i + r = 8 → Rng m → (k + 1) * 2 ^ r ≤ 1048576 →
    probe_Log.l0 (K + r + 1) (k : Int) (m : Int) (i : Int) = some ((it r (k, m)).1 : Int) := by
  induction r with
  | zero =>
    intro K k m i hi hm hk
    simp only [probe_Log.l0]
    refine (if_neg (by omega)).trans rfl
  | succ r ih =>
    intro K k m i hi hm hk
    have hi8 : (i : Int) < 8 := by clear hk hm; omega
    have hk' : (2 * k + 1 + 1) * 2 ^ r ≤ 1048576 := by rw [Nat.pow_succ] at hk; rw [show 2 * k + 1 + 1 = (k + 1) * 2 by omega, Nat.mul_assoc, Nat.mul_comm 2]; exact hk
    have hp : 1 ≤ 2 ^ r := Nat.pow_pos (by decide)
    have hkb : k < 1048576 := by
      have := Nat.le_mul_of_pos_right (2 * k + 1 + 1) hp
      omega
    have hk2 : (2 * k + 1) * 2 ^ r ≤ 1048576 := Nat.le_trans (Nat.mul_le_mul_right _ (by omega)) hk'
    have hs := sq_u64 m hm
    have hq := sq_rng hm
    have hr := step_rng (p := (k, m)) hm
    have e1 : wrap64 ((i : Int) + 1) = ((i + 1 : Nat) : Int) := by rw [← Int.natCast_succ]; exact w64 _ (by omega)
    have e2 : wrap64 ((k : Int) * 2) = ((2 * k : Nat) : Int) := by rw [show (k : Int) * 2 = ((2 * k : Nat) : Int) by omega]; exact w64 _ (by omega)
    have ed : ((m * m : Nat) : Int) / 2147483648 = ((m * m / 2147483648 : Nat) : Int) := rfl
    show probe_Log.l0 (K + r + 1 + 1) _ _ _ = _
    simp only [probe_Log.l0]
    refine (if_pos hi8).trans ?_
    rw [hs, ed, e1, e2]
    show _ = some ((it r (ProbeMath.step (k, m))).1 : Int)
    by_cases hc : 4294967296 ≤ m * m / 2147483648
    · have es : ProbeMath.step (k, m) = (2 * k + 1, m * m / 2147483648 / 2) := if_pos hc
      rw [es] at hr ⊢
      refine (if_pos (show (4294967296 : Int) ≤ ((m * m / 2147483648 : Nat) : Int) from Int.ofNat_le.mpr hc)).trans ?_
      rw [or_one k hkb]
      exact ih K (2 * k + 1) (m * m / 2147483648 / 2) (i + 1) (by omega) hr hk'
    · have es : ProbeMath.step (k, m) = (2 * k, m * m / 2147483648) := if_neg hc
      rw [es] at hr ⊢
      refine (if_neg (show ¬ (4294967296 : Int) ≤ ((m * m / 2147483648 : Nat) : Int) from fun h => hc (Int.ofNat_le.mp h))).trans ?_
      exact ih K (2 * k) (m * m / 2147483648) (i + 1) (by omega) hr hk2
theorem log2_small {n : Nat} (h0 : n ≠ 0) (h : n < 9223372036854775808) : Nat.log2 n < 63 := (Nat.log2_lt h0).mpr h
theorem mant_lt {n : Nat} (h0 : n ≠ 0) : mant n < 4294967296 := (mant_rng h0).2
theorem log_run (K : Nat) (hK : 10 ≤ K) (n : Nat) (h : n < 9223372036854775808) : probe_Log.f K (n : Int) = some (logN n : Int) := by
  obtain ⟨K, rfl⟩ : ∃ j, K = j + 10 := ⟨K - 10, by omega⟩
  unfold probe_Log.f
  by_cases h0 : n = 0
  · subst h0; refine (if_pos (by decide)).trans rfl
  refine (if_neg (by omega)).trans ?_
  have hu : IntKind.u64.wrap (n : Int) = n := IntWalk.u64_in _ ⟨by omega, by omega⟩
  have hl := log2_small h0 h
  rw [hu]
  have hb : bits_Len.f (n : Int) = some ((Nat.log2 n + 1 : Nat) : Int) := by
    unfold bits_Len.f
    rw [if_pos ⟨by omega, by omega⟩, Int.toNat_natCast, bits_len n h0 (by omega)]
  rw [hb]
  simp only [Option.bind_some]
  have e1 : wrap64 (((Nat.log2 n + 1 : Nat) : Int) - 1) = (Nat.log2 n : Nat) := by
    rw [show ((Nat.log2 n + 1 : Nat) : Int) - 1 = (Nat.log2 n : Nat) by omega]; exact w64 _ (by omega)
  rw [e1]
  have hm := mant_rng h0
  have fin : probe_Log.j0 (K + 10) (Nat.log2 n : Nat) (mant n : Nat) = some (logN n : Int) := by
    show probe_Log.l0 (K + 8 + 1) _ _ ((0 : Nat) : Int) = _
    rw [l0_it 8 K (Nat.log2 n) (mant n) 0 rfl hm (by omega)]
    unfold logN; rw [if_neg h0]
  by_cases hk : Nat.log2 n ≤ 31
  · have e2 : wrap64 (31 - ((Nat.log2 n : Nat) : Int)) = ((31 - Nat.log2 n : Nat) : Int) := by
      rw [show 31 - ((Nat.log2 n : Nat) : Int) = ((31 - Nat.log2 n : Nat) : Int) by omega]; exact w64 _ (by omega)
    rw [e2]
    refine (if_pos (by clear e1 e2; omega)).trans ((if_pos (by clear e1 e2; omega)).trans ?_)
    have em : mant n = n * 2 ^ (31 - Nat.log2 n) := if_pos hk
    have es : shl .u64 (n : Int) ((31 - Nat.log2 n : Nat) : Int) = (mant n : Int) := by
      unfold shl
      rw [Int.toNat_natCast, Nat.min_eq_left (show 31 - Nat.log2 n ≤ IntKind.u64.bits by show _ ≤ 64; clear e1 e2; omega)]
      rw [show (n : Int) * 2 ^ (31 - Nat.log2 n) = ((n * 2 ^ (31 - Nat.log2 n) : Nat) : Int) by rw [Int.natCast_mul, Int.natCast_pow]; rfl, ← em]
      exact IntWalk.u64_in _ ⟨by omega, by have := hm.2; omega⟩
    rw [es]; exact fin
  · have e2 : wrap64 (((Nat.log2 n : Nat) : Int) - 31) = ((Nat.log2 n - 31 : Nat) : Int) := by
      rw [show ((Nat.log2 n : Nat) : Int) - 31 = ((Nat.log2 n - 31 : Nat) : Int) by omega]; exact w64 _ (by omega)
    rw [e2]
    refine (if_neg (by clear e1 e2; omega)).trans ((if_pos (by clear e1 e2; omega)).trans ?_)
    have em : mant n = n / 2 ^ (Nat.log2 n - 31) := if_neg hk
    have es : shr .u64 (n : Int) ((Nat.log2 n - 31 : Nat) : Int) = (mant n : Int) := by
      unfold shr
      rw [Int.toNat_natCast, Nat.min_eq_left (show Nat.log2 n - 31 ≤ IntKind.u64.bits by show _ ≤ 64; clear e1 e2; omega)]
      rw [em, Int.natCast_ediv, Int.natCast_pow]; rfl
    rw [es]; exact fin
theorem log_neg (K : Nat) (a : Int) (h : a < 1) : probe_Log.f K a = some 0 := if_pos h
end Go.Proofs.Ytbbmcfbfkpnelaa.QAR
