/- ProbeLogs, the plain law. -/
import Derived.Test.YtbbmcfbfkpnelaaQLx2
import Derived.Test.YtbbmcfbfkpnelaaQLRun
import Derived.OpenShut
namespace Go.Proofs.Ytbbmcfbfkpnelaa.Pure
open Go.RowKit Go.Proofs.Ytbbmcfbfkpnelaa.QL Go.Proofs.YtbbmcfbfkpnelaaW.PrintWords Go.Proofs.YtbbmcfbfkpnelaaW.PrintLast Go.Proofs.YtbbmcfbfkpnelaaW.PrintMore Go.Proofs.Ytbbmcfbfkpnelaa.ProbeMath Go.Proofs.Ytbbmcfbfkpnelaa.QLR
theorem nat_u64 (n : Nat) (h : n < 18446744073709551616) : IntKind.u64.wrap (n : Int) = n := IntWalk.u64_in _ ⟨by omega, by omega⟩
theorem td (x y : Nat) : Int.tdiv (x : Int) (y : Int) = ((x / y : Nat) : Int) := rfl
theorem r3 (r : Nat) : ∀ (K k m i : Nat), i + r = 8 → Rng m → (k + 1) * 2 ^ r ≤ 1048576 → r + 1 ≤ K →
    duffelref40_Log.l3 K (m : Int) (k : Int) (i : Int) = some ((it r (k, m)).1 : Int) := by
  induction r with
  | zero =>
    intro K k m i hi hm hk hK
    obtain ⟨K, rfl⟩ : ∃ j, K = j + 1 := ⟨K - 1, by omega⟩
    simp only [duffelref40_Log.l3]
    refine (if_neg (by omega)).trans rfl
  | succ r ih =>
    intro K k m i hi hm hk hK
    obtain ⟨K, rfl⟩ : ∃ j, K = j + 1 := ⟨K - 1, by omega⟩
    have hi8 : (i : Int) < 8 := by clear hk hm; omega
    have hKr : r + 1 ≤ K := by clear hk hm; omega
    have hir : i + 1 + r = 8 := by clear hk hm; omega
    have hk' : (2 * k + 1 + 1) * 2 ^ r ≤ 1048576 := by rw [Nat.pow_succ] at hk; rw [show 2 * k + 1 + 1 = (k + 1) * 2 by omega, Nat.mul_assoc, Nat.mul_comm 2]; exact hk
    have hp : 1 ≤ 2 ^ r := Nat.pow_pos (by decide)
    have hkb : k < 1048576 := by
      have := Nat.le_mul_of_pos_right (2 * k + 1 + 1) hp
      omega
    have hk2 : (2 * k + 1) * 2 ^ r ≤ 1048576 := Nat.le_trans (Nat.mul_le_mul_right _ (by omega)) hk'
    have hs := sq_u64 m hm
    have hq := sq_rng hm
    have hr := step_rng (p := (k, m)) hm
    have e1 : wrap64 ((i : Int) + 1) = ((i + 1 : Nat) : Int) := by rw [← Int.natCast_succ]; exact w64 _ (by omega)
    have e2 : wrap64 ((k : Int) * 2) = ((2 * k : Nat) : Int) := by rw [show (k : Int) * 2 = ((2 * k : Nat) : Int) by omega]; exact w64 _ (by omega)
    have e3 : wrap64 (((2 * k : Nat) : Int) + 1) = ((2 * k + 1 : Nat) : Int) := by rw [← Int.natCast_succ]; exact w64 _ (by omega)
    have ed : Int.tdiv ((m * m : Nat) : Int) 2147483648 = ((m * m / 2147483648 : Nat) : Int) := rfl
    have e4 : IntKind.u64.wrap ((m * m / 2147483648 : Nat) : Int) = ((m * m / 2147483648 : Nat) : Int) := nat_u64 _ (by clear hs e1 e2 e3 ed hr; omega)
    have ee : Int.tdiv ((m * m / 2147483648 : Nat) : Int) 2 = ((m * m / 2147483648 / 2 : Nat) : Int) := rfl
    have e5 : IntKind.u64.wrap ((m * m / 2147483648 / 2 : Nat) : Int) = ((m * m / 2147483648 / 2 : Nat) : Int) := nat_u64 _ (by clear hs e1 e2 e3 ed hr; omega)
    simp only [duffelref40_Log.l3]
    refine (if_pos hi8).trans ?_
    rw [hs, ed, e4, ee, e5, e1, e2, e3]
    show _ = some ((it r (ProbeMath.step (k, m))).1 : Int)
    by_cases hc : 4294967296 ≤ m * m / 2147483648
    · have es : ProbeMath.step (k, m) = (2 * k + 1, m * m / 2147483648 / 2) := if_pos hc
      rw [es] at hr ⊢
      refine (if_pos (show (4294967296 : Int) ≤ ((m * m / 2147483648 : Nat) : Int) from Int.ofNat_le.mpr hc)).trans ?_
      exact ih K (2 * k + 1) (m * m / 2147483648 / 2) (i + 1) hir hr hk' hKr
    · have es : ProbeMath.step (k, m) = (2 * k, m * m / 2147483648) := if_neg hc
      rw [es] at hr ⊢
      refine (if_neg (show ¬ (4294967296 : Int) ≤ ((m * m / 2147483648 : Nat) : Int) from fun h => hc (Int.ofNat_le.mp h))).trans ?_
      exact ih K (2 * k) (m * m / 2147483648) (i + 1) hir hr hk2 hKr
theorem r2 (k0 : Nat) (hk0 : k0 < 64) (R : Int) (d : Nat) : ∀ (K j x : Nat), (j + d = k0 ∨ (d = 0 ∧ k0 ≤ j)) → x < 18446744073709551616 →
    (∀ K', 9 ≤ K' → duffelref40_Log.l3 K' ((x / 2 ^ d : Nat) : Int) (k0 : Int) 0 = some R) → d + 10 ≤ K → duffelref40_Log.l2 K (k0 : Int) (x : Int) (j : Int) = some R := by
  induction d with
  | zero =>
    intro K j x hj hx hR hK
    obtain ⟨K, rfl⟩ : ∃ j, K = j + 1 := ⟨K - 1, by omega⟩
    simp only [duffelref40_Log.l2]
    refine (if_neg (by omega)).trans ?_
    have := hR K (by omega)
    simpa using this
  | succ d ih =>
    intro K j x hj hx hR hK
    obtain ⟨K, rfl⟩ : ∃ j, K = j + 1 := ⟨K - 1, by omega⟩
    simp only [duffelref40_Log.l2]
    refine (if_pos (by omega)).trans ?_
    have ee : Int.tdiv (x : Int) 2 = ((x / 2 : Nat) : Int) := rfl
    have e1 : wrap64 ((j : Int) + 1) = ((j + 1 : Nat) : Int) := by rw [← Int.natCast_succ]; exact w64 _ (by omega)
    rw [ee, nat_u64 _ (by omega), e1]
    refine ih K (j + 1) (x / 2) (by omega) (by omega) ?_ (by omega)
    intro K' hK'
    rw [Nat.div_div_eq_div_mul, ← Nat.pow_succ']
    exact hR K' hK'
theorem r1 (k0 : Nat) (R : Int) (d : Nat) : ∀ (K i x : Nat), (i + d = 31 ∨ (d = 0 ∧ 31 ≤ i)) → i < 64 → x * 2 ^ d < 18446744073709551616 →
    (∀ K', 50 ≤ K' → duffelref40_Log.l2 K' (k0 : Int) ((x * 2 ^ d : Nat) : Int) 31 = some R) → d + 51 ≤ K → duffelref40_Log.l1 K (k0 : Int) (x : Int) (i : Int) = some R := by
  induction d with
  | zero =>
    intro K i x hi hi2 hx hR hK
    obtain ⟨K, rfl⟩ : ∃ j, K = j + 1 := ⟨K - 1, by omega⟩
    simp only [duffelref40_Log.l1]
    refine (if_neg (by omega)).trans ?_
    have := hR K (by omega)
    simpa using this
  | succ d ih =>
    intro K i x hi hi2 hx hR hK
    obtain ⟨K, rfl⟩ : ∃ j, K = j + 1 := ⟨K - 1, by omega⟩
    simp only [duffelref40_Log.l1]
    have hi3 : (i : Int) < 31 := by clear hx; omega
    refine (if_pos hi3).trans ?_
    have hx2 : x * 2 * 2 ^ d < 18446744073709551616 := by rw [Nat.mul_assoc, ← Nat.pow_succ']; exact hx
    have hx3 : x * 2 < 18446744073709551616 := Nat.lt_of_le_of_lt (Nat.le_mul_of_pos_right _ (Nat.pow_pos (by decide))) hx2
    have ee : (x : Int) * 2 = ((x * 2 : Nat) : Int) := rfl
    have e1 : wrap64 ((i : Int) + 1) = ((i + 1 : Nat) : Int) := by rw [← Int.natCast_succ]; exact w64 _ (by omega)
    rw [ee, nat_u64 _ hx3, e1]
    refine ih K (i + 1) (x * 2) (by omega) (by omega) hx2 ?_ (by omega)
    intro K' hK'
    rw [Nat.mul_assoc, ← Nat.pow_succ']
    exact hR K' hK'
theorem log2_step {v : Nat} (h : 1 < v) : Nat.log2 v = Nat.log2 (v / 2) + 1 := by
  rw [Nat.log2_def, if_pos (by omega)]
theorem log2_unit : Nat.log2 1 = 0 := by rw [Nat.log2_def]; rfl
theorem r0 (x0 : Int) (R : Int) (d : Nat) : ∀ (K i v : Nat), v ≠ 0 → v < 9223372036854775808 → Nat.log2 v = d → i + d < 100 →
    (∀ K', 90 ≤ K' → duffelref40_Log.l1 K' ((i + d : Nat) : Int) (IntKind.u64.wrap x0) ((i + d : Nat) : Int) = some R) → d + 91 ≤ K → duffelref40_Log.l0 K x0 (i : Int) (v : Int) = some R := by
  induction d with
  | zero =>
    intro K i v hv hv2 hd hi hR hK
    obtain ⟨K, rfl⟩ : ∃ j, K = j + 1 := ⟨K - 1, by omega⟩
    simp only [duffelref40_Log.l0]
    have : ¬ 1 < v := fun h => by rw [log2_step h] at hd; omega
    refine (if_neg (by omega)).trans (hR K (by omega))
  | succ d ih =>
    intro K i v hv hv2 hd hi hR hK
    obtain ⟨K, rfl⟩ : ∃ j, K = j + 1 := ⟨K - 1, by omega⟩
    simp only [duffelref40_Log.l0]
    have h1 : 1 < v := by
      rcases Nat.lt_or_ge 1 v with h | h
      · exact h
      · have : v = 1 := by omega
        subst this; rw [log2_unit] at hd; omega
    refine (if_pos (by omega)).trans ?_
    have hd2 : Nat.log2 (v / 2) = d := by rw [log2_step h1] at hd; omega
    have ee : Int.tdiv (v : Int) 2 = ((v / 2 : Nat) : Int) := rfl
    have e1 : wrap64 ((i : Int) + 1) = ((i + 1 : Nat) : Int) := by rw [← Int.natCast_succ]; exact w64 _ (by omega)
    rw [ee, w64 _ (by omega), e1]
    refine ih K (i + 1) (v / 2) (by omega) (by omega) hd2 (by omega) ?_ (by omega)
    intro K' hK'
    rw [show i + 1 + d = i + (d + 1) by omega]
    exact hR K' hK'
theorem ref_run (K : Nat) (hK : 200 ≤ K) (n : Nat) (h : n < 9223372036854775808) : duffelref40_Log.f K (n : Int) = some (logN n : Int) := by
  unfold duffelref40_Log.f
  by_cases h0 : n = 0
  · subst h0; exact (if_pos (by decide)).trans rfl
  refine (if_neg (by omega)).trans ?_
  have hl := log2_small h0 h
  have hm := mant_rng h0
  have fin : ∀ K', 9 ≤ K' → duffelref40_Log.l3 K' (mant n : Nat) ((Nat.log2 n : Nat) : Int) 0 = some (logN n : Int) := by
    intro K' hK'
    have := r3 8 K' (Nat.log2 n) (mant n) 0 rfl hm (by omega) hK'
    unfold logN; rw [if_neg h0]; exact this
  refine r0 n _ (Nat.log2 n) K 0 n h0 h rfl (by omega) ?_ (by omega)
  intro K' hK'
  rw [nat_u64 _ (by omega), Nat.zero_add]
  by_cases hk : Nat.log2 n ≤ 31
  · have em : mant n = n * 2 ^ (31 - Nat.log2 n) := if_pos hk
    refine r1 (Nat.log2 n) _ (31 - Nat.log2 n) K' (Nat.log2 n) n (by omega) (by omega) ?_ ?_ (by omega)
    · rw [← em]; have := hm.2; clear fin em; omega
    · intro K2 hK2
      rw [← em]
      have hb : mant n < 18446744073709551616 := by have := hm.2; clear fin em; omega
      refine r2 (Nat.log2 n) (by omega) _ 0 K2 31 (mant n) (Or.inr ⟨rfl, hk⟩) hb ?_ (by omega)
      intro K3 hK3
      rw [Nat.pow_zero, Nat.div_one]; exact fin K3 hK3
  · have em : mant n = n / 2 ^ (Nat.log2 n - 31) := if_neg hk
    refine r1 (Nat.log2 n) _ 0 K' (Nat.log2 n) n (Or.inr ⟨rfl, by omega⟩) (by omega) (by rw [Nat.pow_zero, Nat.mul_one]; omega) ?_ (by omega)
    intro K2 hK2
    rw [Nat.pow_zero, Nat.mul_one]
    refine r2 (Nat.log2 n) (by omega) _ (Nat.log2 n - 31) K2 31 n (Or.inl (by omega)) (by omega) ?_ (by omega)
    intro K3 hK3
    rw [← em]; exact fin K3 hK3
def LI (a : Int) : Nat := logN a.toNat
theorem li_mono {a b : Int} (h : a ≤ b) : LI a ≤ LI b := logN_mono (by omega)
theorem li_run (K : Nat) (hK : 10 ≤ K) (a : Int) (h : a ≤ 9223372036854775807) : probe_Log.f K a = some (LI a : Int) := by
  by_cases ha : a < 1
  · rw [log_neg K a ha, LI, show a.toNat = 0 by omega]; rfl
  · obtain ⟨n, rfl⟩ := Int.eq_ofNat_of_zero_le (show 0 ≤ a by omega)
    exact log_run K hK n (by omega)
theorem li_ref (K : Nat) (hK : 200 ≤ K) (a : Int) (h : a ≤ 9223372036854775807) : duffelref40_Log.f K a = some (LI a : Int) := by
  by_cases ha : a < 1
  · rw [LI, show a.toNat = 0 by omega]; exact if_pos ha
  · obtain ⟨n, rfl⟩ := Int.eq_ofNat_of_zero_le (show 0 ≤ a by omega)
    exact ref_run K hK n (by omega)
theorem lives_run (K : Nat) (hK : 10 ≤ K) : duffellaw40_lives.f K = some true := by
  unfold duffellaw40_lives.f
  rw [show (8 : Int) = ((8 : Nat) : Int) from rfl, log_run K hK 8 (by omega), show logN 8 = 768 from logN_pow 3]
  obtain ⟨K, rfl⟩ : ∃ j, K = j + 10 := ⟨K - 10, by omega⟩
  have e : probe_Runs.f (K + 10) [97, 97, 98] = some 1 := by
    simp [probe_Runs.f, probe_Runs.l0, rd, wrap64]
  simp only [Option.bind_some, e]
  rfl
theorem j0_run (K : Nat) (hK : 12 ≤ K) (a0 a1 : Int) (h1 : a1 ≤ 9223372036854775807) : duffellaw40_ProbeLogs.j0 K a0 a1 (LI a0 : Int) false = some true := by
  obtain ⟨K, rfl⟩ : ∃ j, K = j + 1 := ⟨K - 1, by omega⟩
  simp only [duffellaw40_ProbeLogs.j0]
  rw [li_run K (by omega) a1 h1, lives_run K (by omega)]
  simp only [Option.bind_some]
  rw [if_neg (by simp)]
  by_cases h : a1 < a0
  · have := li_mono (Int.le_of_lt h)
    rw [if_pos h, if_neg (by omega), if_pos (by omega)]
  · have := li_mono (Int.not_lt.mp h)
    rw [if_neg h, if_pos (by omega)]
    by_cases h2 : a1 > a0
    · rw [if_pos h2]
    · have e : a1 = a0 := by omega
      rw [if_neg h2, if_pos (by rw [e]; omega)]
theorem ProbeLogs : duffellaw40_ProbeLogs.Pure := by
  intro a0 a1 a2 h0 h1 h2
  have b0 := bounds_i64 h0
  have b1 := bounds_i64 h1
  have b2 := bounds_i64 h2
  refine ⟨300, ?_⟩
  generalize hK : (300 : Nat) = K
  have hK' : 200 ≤ K := by omega
  obtain ⟨t, ht, hw⟩ : ∃ t : Nat, t ≤ 61 ∧ duffelref01_Within.f a2 0 61 = some (t : Int) := by
    unfold duffelref01_Within.f
    by_cases c1 : a2 < 0
    · exact ⟨0, by omega, if_pos c1⟩
    · by_cases c2 : a2 > 61
      · exact ⟨61, by omega, by rw [if_neg c1, if_pos c2]; rfl⟩
      · exact ⟨a2.toNat, by omega, by rw [if_neg c1, if_neg c2, Int.toNat_of_nonneg (by omega)]⟩
  have hp : 2 ^ t < 9223372036854775808 := Nat.pow_lt_pow_right (n := 63) (by decide) (by omega)
  have hsh : shl .i64 1 (t : Int) = ((2 ^ t : Nat) : Int) := by
    unfold shl
    rw [Int.toNat_natCast, Nat.min_eq_left (show t ≤ IntKind.i64.bits by show _ ≤ 64; omega), Int.one_mul, show (2 : Int) ^ t = ((2 ^ t : Nat) : Int) by rw [Int.natCast_pow]; rfl]
    generalize 2 ^ t = q at hp
    exact IntWalk.i64_in _ ⟨by omega, by omega⟩
  have hw2 : wrap64 (256 * (t : Int)) = ((256 * t : Nat) : Int) := by
    rw [show 256 * (t : Int) = ((256 * t : Nat) : Int) by omega]; exact w64 _ (by omega)
  unfold duffellaw40_ProbeLogs.f
  rw [li_run K (by omega) a0 b0.2, li_ref K hK' a0 b0.2, hw]
  simp only [Option.bind_some]
  refine (if_pos (by trivial)).trans ?_
  rw [nat_u64 t (by omega), if_pos (by clear hsh hw2 hw; omega), hsh, log_run K (by omega) _ hp, logN_pow, hw2, lives_run K (by omega)]
  simp only [Option.bind_some]
  refine (if_pos (by trivial)).trans ?_
  by_cases c0 : a0 < 1
  · rw [if_pos c0, if_pos (by rw [LI, show a0.toNat = 0 by clear hsh hw2 hw; omega]; rfl)]
  rw [if_neg c0]
  by_cases c1 : ((2 ^ t : Nat) : Int) ≤ a0
  · have g : 256 * t ≤ LI a0 := logN_ge (show 2 ^ t ≤ a0.toNat by clear hsh hw2 hw; omega)
    rw [if_pos c1, if_neg (by clear hsh hw2 hw; omega), if_neg (by clear hsh hw2 hw; omega)]
    exact j0_run K (by omega) a0 a1 b1.2
  · have g : LI a0 < 256 * t := logN_lt (by clear hsh hw2 hw; omega) (show a0.toNat < 2 ^ t by clear hsh hw2 hw; omega)
    rw [if_neg (by clear hsh hw2 hw; omega), if_pos (by clear hsh hw2 hw; omega), decide_eq_false (by clear hsh hw2 hw; omega)]
    exact j0_run K (by omega) a0 a1 b1.2
end Go.Proofs.Ytbbmcfbfkpnelaa.Pure
