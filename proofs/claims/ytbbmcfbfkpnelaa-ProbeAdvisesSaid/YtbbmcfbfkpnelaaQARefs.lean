/- The reference's logarithms, counts and bits, as printed (namespace QA). -/
import Derived.Test.YtbbmcfbfkpnelaaQARun
import Derived.Test.YtbbmcfbfkpnelaaProbeCnt
import Derived.OpenShut
namespace Go.Proofs.Ytbbmcfbfkpnelaa.QAR
open Go.RowKit Go.Proofs.Ytbbmcfbfkpnelaa.QA Go.Proofs.YtbbmcfbfkpnelaaW.PrintWords Go.Proofs.YtbbmcfbfkpnelaaW.PrintLast Go.Proofs.YtbbmcfbfkpnelaaW.PrintMore Go.Proofs.Ytbbmcfbfkpnelaa.ProbeMath
theorem nat_u64 (n : Nat) (h : n < 18446744073709551616) : IntKind.u64.wrap (n : Int) = n := IntWalk.u64_in _ ⟨by omega, by omega⟩
theorem td (x y : Nat) : Int.tdiv (x : Int) (y : Int) = ((x / y : Nat) : Int) := rfl
theorem r3 (r : Nat) : ∀ (K k m i : Nat), i + r = 8 → Rng m → (k + 1) * 2 ^ r ≤ 1048576 → r + 1 ≤ K →
    duffelref40_Log.l3 K (m : Int) (k : Int) (i : Int) = some ((it r (k, m)).1 : Int) := by
  induction r with
  | zero =>
    intro K k m i hi hm hk hK
    obtain ⟨K, rfl⟩ : ∃ j, K = j + 1 := ⟨K - 1, by omega⟩
    simp only [duffelref40_Log.l3]
    refine (if_neg (by omega)).trans rfl
  | succ r ih =>
    intro K k m i hi hm hk hK
    obtain ⟨K, rfl⟩ : ∃ j, K = j + 1 := ⟨K - 1, by omega⟩
    have hi8 : (i : Int) < 8 := by clear hk hm; omega
    have hKr : r + 1 ≤ K := by clear hk hm; omega
    have hir : i + 1 + r = 8 := by clear hk hm; omega
    have hk' : (2 * k + 1 + 1) * 2 ^ r ≤ 1048576 := by rw [Nat.pow_succ] at hk; rw [show 2 * k + 1 + 1 = (k + 1) * 2 by omega, Nat.mul_assoc, Nat.mul_comm 2]; exact hk
    have hp : 1 ≤ 2 ^ r := Nat.pow_pos (by decide)
    have hkb : k < 1048576 := by
      have := Nat.le_mul_of_pos_right (2 * k + 1 + 1) hp
      omega
    have hk2 : (2 * k + 1) * 2 ^ r ≤ 1048576 := Nat.le_trans (Nat.mul_le_mul_right _ (by omega)) hk'
    have hs := sq_u64 m hm
    have hq := sq_rng hm
    have hr := step_rng (p := (k, m)) hm
    have e1 : wrap64 ((i : Int) + 1) = ((i + 1 : Nat) : Int) := by rw [← Int.natCast_succ]; exact w64 _ (by omega)
    have e2 : wrap64 ((k : Int) * 2) = ((2 * k : Nat) : Int) := by rw [show (k : Int) * 2 = ((2 * k : Nat) : Int) by omega]; exact w64 _ (by omega)
    have e3 : wrap64 (((2 * k : Nat) : Int) + 1) = ((2 * k + 1 : Nat) : Int) := by rw [← Int.natCast_succ]; exact w64 _ (by omega)
    have ed : Int.tdiv ((m * m : Nat) : Int) 2147483648 = ((m * m / 2147483648 : Nat) : Int) := rfl
    have e4 : IntKind.u64.wrap ((m * m / 2147483648 : Nat) : Int) = ((m * m / 2147483648 : Nat) : Int) := nat_u64 _ (by clear hs e1 e2 e3 ed hr; omega)
    have ee : Int.tdiv ((m * m / 2147483648 : Nat) : Int) 2 = ((m * m / 2147483648 / 2 : Nat) : Int) := rfl
    have e5 : IntKind.u64.wrap ((m * m / 2147483648 / 2 : Nat) : Int) = ((m * m / 2147483648 / 2 : Nat) : Int) := nat_u64 _ (by clear hs e1 e2 e3 ed hr; omega)
    simp only [duffelref40_Log.l3]
    refine (if_pos hi8).trans ?_
    rw [hs, ed, e4, ee, e5, e1, e2, e3]
    show _ = some ((it r (ProbeMath.step (k, m))).1 : Int)
    by_cases hc : 4294967296 ≤ m * m / 2147483648
    · have es : ProbeMath.step (k, m) = (2 * k + 1, m * m / 2147483648 / 2) := if_pos hc
      rw [es] at hr ⊢
      refine (if_pos (show (4294967296 : Int) ≤ ((m * m / 2147483648 : Nat) : Int) from Int.ofNat_le.mpr hc)).trans ?_
      exact ih K (2 * k + 1) (m * m / 2147483648 / 2) (i + 1) hir hr hk' hKr
    · have es : ProbeMath.step (k, m) = (2 * k, m * m / 2147483648) := if_neg hc
      rw [es] at hr ⊢
      refine (if_neg (show ¬ (4294967296 : Int) ≤ ((m * m / 2147483648 : Nat) : Int) from fun h => hc (Int.ofNat_le.mp h))).trans ?_
      exact ih K (2 * k) (m * m / 2147483648) (i + 1) hir hr hk2 hKr
theorem r2 (k0 : Nat) (hk0 : k0 < 64) (R : Int) (d : Nat) : ∀ (K j x : Nat), (j + d = k0 ∨ (d = 0 ∧ k0 ≤ j)) → x < 18446744073709551616 →
    (∀ K', 9 ≤ K' → duffelref40_Log.l3 K' ((x / 2 ^ d : Nat) : Int) (k0 : Int) 0 = some R) → d + 10 ≤ K → duffelref40_Log.l2 K (k0 : Int) (x : Int) (j : Int) = some R := by
  induction d with
  | zero =>
    intro K j x hj hx hR hK
    obtain ⟨K, rfl⟩ : ∃ j, K = j + 1 := ⟨K - 1, by omega⟩
    simp only [duffelref40_Log.l2]
    refine (if_neg (by omega)).trans ?_
    have := hR K (by omega)
    simpa using this
  | succ d ih =>
    intro K j x hj hx hR hK
    obtain ⟨K, rfl⟩ : ∃ j, K = j + 1 := ⟨K - 1, by omega⟩
    simp only [duffelref40_Log.l2]
    refine (if_pos (by omega)).trans ?_
    have ee : Int.tdiv (x : Int) 2 = ((x / 2 : Nat) : Int) := rfl
    have e1 : wrap64 ((j : Int) + 1) = ((j + 1 : Nat) : Int) := by rw [← Int.natCast_succ]; exact w64 _ (by omega)
    rw [ee, nat_u64 _ (by omega), e1]
    refine ih K (j + 1) (x / 2) (by omega) (by omega) ?_ (by omega)
    intro K' hK'
    rw [Nat.div_div_eq_div_mul, ← Nat.pow_succ']
    exact hR K' hK'
theorem r1 (k0 : Nat) (R : Int) (d : Nat) : ∀ (K i x : Nat), (i + d = 31 ∨ (d = 0 ∧ 31 ≤ i)) → i < 64 → x * 2 ^ d < 18446744073709551616 →
    (∀ K', 50 ≤ K' → duffelref40_Log.l2 K' (k0 : Int) ((x * 2 ^ d : Nat) : Int) 31 = some R) → d + 51 ≤ K → duffelref40_Log.l1 K (k0 : Int) (x : Int) (i : Int) = some R := by
  induction d with
  | zero =>
    intro K i x hi hi2 hx hR hK
    obtain ⟨K, rfl⟩ : ∃ j, K = j + 1 := ⟨K - 1, by omega⟩
    simp only [duffelref40_Log.l1]
    refine (if_neg (by omega)).trans ?_
    have := hR K (by omega)
    simpa using this
  | succ d ih =>
    intro K i x hi hi2 hx hR hK
    obtain ⟨K, rfl⟩ : ∃ j, K = j + 1 := ⟨K - 1, by omega⟩
    simp only [duffelref40_Log.l1]
    have hi3 : (i : Int) < 31 := by clear hx; omega
    refine (if_pos hi3).trans ?_
    have hx2 : x * 2 * 2 ^ d < 18446744073709551616 := by rw [Nat.mul_assoc, ← Nat.pow_succ']; exact hx
    have hx3 : x * 2 < 18446744073709551616 := Nat.lt_of_le_of_lt (Nat.le_mul_of_pos_right _ (Nat.pow_pos (by decide))) hx2
    have ee : (x : Int) * 2 = ((x * 2 : Nat) : Int) := rfl
    have e1 : wrap64 ((i : Int) + 1) = ((i + 1 : Nat) : Int) := by rw [← Int.natCast_succ]; exact w64 _ (by omega)
    rw [ee, nat_u64 _ hx3, e1]
    refine ih K (i + 1) (x * 2) (by omega) (by omega) hx2 ?_ (by omega)
    intro K' hK'
    rw [Nat.mul_assoc, ← Nat.pow_succ']
    exact hR K' hK'
theorem log2_step {v : Nat} (h : 1 < v) : Nat.log2 v = Nat.log2 (v / 2) + 1 := by
  rw [Nat.log2_def, if_pos (by omega)]
theorem log2_unit : Nat.log2 1 = 0 := by rw [Nat.log2_def]; rfl
theorem r0 (x0 : Int) (R : Int) (d : Nat) : ∀ (K i v : Nat), v ≠ 0 → v < 9223372036854775808 → Nat.log2 v = d → i + d < 100 →
    (∀ K', 90 ≤ K' → duffelref40_Log.l1 K' ((i + d : Nat) : Int) (IntKind.u64.wrap x0) ((i + d : Nat) : Int) = some R) → d + 91 ≤ K → duffelref40_Log.l0 K x0 (i : Int) (v : Int) = some R := by
  induction d with
  | zero =>
    intro K i v hv hv2 hd hi hR hK
    obtain ⟨K, rfl⟩ : ∃ j, K = j + 1 := ⟨K - 1, by omega⟩
    simp only [duffelref40_Log.l0]
    have : ¬ 1 < v := fun h => by rw [log2_step h] at hd; omega
    refine (if_neg (by omega)).trans (hR K (by omega))
  | succ d ih =>
    intro K i v hv hv2 hd hi hR hK
    obtain ⟨K, rfl⟩ : ∃ j, K = j + 1 := ⟨K - 1, by omega⟩
    simp only [duffelref40_Log.l0]
    have h1 : 1 < v := by
      rcases Nat.lt_or_ge 1 v with h | h
      · exact h
      · have : v = 1 := by omega
        subst this; rw [log2_unit] at hd; omega
    refine (if_pos (by omega)).trans ?_
    have hd2 : Nat.log2 (v / 2) = d := by rw [log2_step h1] at hd; omega
    have ee : Int.tdiv (v : Int) 2 = ((v / 2 : Nat) : Int) := rfl
    have e1 : wrap64 ((i : Int) + 1) = ((i + 1 : Nat) : Int) := by rw [← Int.natCast_succ]; exact w64 _ (by omega)
    rw [ee, w64 _ (by omega), e1]
    refine ih K (i + 1) (v / 2) (by omega) (by omega) hd2 (by omega) ?_ (by omega)
    intro K' hK'
    rw [show i + 1 + d = i + (d + 1) by omega]
    exact hR K' hK'
theorem ref_run (K : Nat) (hK : 200 ≤ K) (n : Nat) (h : n < 9223372036854775808) : duffelref40_Log.f K (n : Int) = some (logN n : Int) := by
  unfold duffelref40_Log.f
  by_cases h0 : n = 0
  · subst h0; exact (if_pos (by decide)).trans rfl
  refine (if_neg (by omega)).trans ?_
  have hl := log2_small h0 h
  have hm := mant_rng h0
  have fin : ∀ K', 9 ≤ K' → duffelref40_Log.l3 K' (mant n : Nat) ((Nat.log2 n : Nat) : Int) 0 = some (logN n : Int) := by
    intro K' hK'
    have := r3 8 K' (Nat.log2 n) (mant n) 0 rfl hm (by omega) hK'
    unfold logN; rw [if_neg h0]; exact this
  refine r0 n _ (Nat.log2 n) K 0 n h0 h rfl (by omega) ?_ (by omega)
  intro K' hK'
  rw [nat_u64 _ (by omega), Nat.zero_add]
  by_cases hk : Nat.log2 n ≤ 31
  · have em : mant n = n * 2 ^ (31 - Nat.log2 n) := if_pos hk
    refine r1 (Nat.log2 n) _ (31 - Nat.log2 n) K' (Nat.log2 n) n (by omega) (by omega) ?_ ?_ (by omega)
    · rw [← em]; have := hm.2; clear fin em; omega
    · intro K2 hK2
      rw [← em]
      have hb : mant n < 18446744073709551616 := by have := hm.2; clear fin em; omega
      refine r2 (Nat.log2 n) (by omega) _ 0 K2 31 (mant n) (Or.inr ⟨rfl, hk⟩) hb ?_ (by omega)
      intro K3 hK3
      rw [Nat.pow_zero, Nat.div_one]; exact fin K3 hK3
  · have em : mant n = n / 2 ^ (Nat.log2 n - 31) := if_neg hk
    refine r1 (Nat.log2 n) _ 0 K' (Nat.log2 n) n (Or.inr ⟨rfl, by omega⟩) (by omega) (by rw [Nat.pow_zero, Nat.mul_one]; omega) ?_ (by omega)
    intro K2 hK2
    rw [Nat.pow_zero, Nat.mul_one]
    refine r2 (Nat.log2 n) (by omega) _ (Nat.log2 n - 31) K2 31 n (Or.inl (by omega)) (by omega) ?_ (by omega)
    intro K3 hK3
    rw [← em]; exact fin K3 hK3
abbrev Byt (l : List Int) : Prop := ∀ x ∈ l, 0 ≤ x ∧ x ≤ 255
def cnL (l : List Int) : List Int := (List.range 256).map fun v => ((cn l v : Nat) : Int)
theorem cnL_len (l : List Int) : (cnL l).length = 256 := by simp [cnL]
theorem cnL_rd (l : List Int) (v : Nat) (h : v < 256) : rd (cnL l) (v : Int) = ((cn l v : Nat) : Int) := by
  simp [rd, cnL, List.getD, h]
theorem cnL_nil : List.replicate 256 (0 : Int) = cnL [] := by
  apply List.ext_getElem
  · rw [cnL_len, List.length_replicate]
  · intro i h1 h2
    rw [List.getElem_replicate]
    have e : (cnL [])[i] = ((cn [] ((List.range 256)[i]'(by simpa [cnL] using h2)) : Nat) : Int) := List.getElem_map _
    rw [e]; rfl
theorem cnL_snoc (l : List Int) (v : Nat) : (cnL l).set v (((cn l v : Nat) : Int) + 1) = cnL (l ++ [(v : Int)]) := by
  apply List.ext_getElem
  · simp [cnL]
  · intro i h1 h2
    rw [List.getElem_set]
    simp only [cnL, List.getElem_map, List.getElem_range, cn, List.count_append]
    split
    · rename_i e; subst e; simp
    · rename_i e
      rw [show List.count ((i : Nat) : Int) [(v : Int)] = 0 from List.count_eq_zero.mpr (by simp; omega)]
      simp
theorem rd_nat (l : List Int) (i : Nat) (h : i < l.length) : rd l (i : Int) = l[i] := by simp [rd, List.getD, h]
theorem counts_l0 (l : List Int) (hb : Byt l) (hn : l.length ≤ 1000) (d : Nat) : ∀ (K i : Nat), i + d = l.length → d + 1 ≤ K →
    probe_Counts.l0 K (cnL (l.take i)) l (l.length : Int) (i : Int) = some (cnL l) := by
  induction d with
  | zero =>
    intro K i hi hK
    obtain ⟨K, rfl⟩ : ∃ j, K = j + 1 := ⟨K - 1, by omega⟩
    simp only [probe_Counts.l0]
    refine (if_neg (by omega)).trans ?_
    rw [List.take_of_length_le (by omega)]
  | succ d ih =>
    intro K i hi hK
    obtain ⟨K, rfl⟩ : ∃ j, K = j + 1 := ⟨K - 1, by omega⟩
    have hil : i < l.length := by omega
    have hv := hb l[i] (List.getElem_mem hil)
    obtain ⟨v, hve⟩ := Int.eq_ofNat_of_zero_le hv.1
    have hv2 : v < 256 := by omega
    have hr : rd l (i : Int) = (v : Int) := by rw [rd_nat l i hil, hve]
    have hc := cn_le (l.take i) v
    rw [List.length_take] at hc
    have e1 : wrap64 ((i : Int) + 1) = ((i + 1 : Nat) : Int) := by rw [← Int.natCast_succ]; exact w64 _ (by omega)
    have e2 : wrap64 (((cn (l.take i) v : Nat) : Int) + 1) = ((cn (l.take i) v : Nat) : Int) + 1 := by rw [← Int.natCast_succ]; exact w64 _ (by omega)
    simp only [probe_Counts.l0]
    rw [hr, e1, cnL_rd _ v hv2, e2, cnL_len, Int.toNat_natCast, cnL_snoc _ v]
    rw [if_pos (by clear e1 e2; omega), if_pos (by clear e1 e2; omega), if_pos (by clear e1 e2; omega), if_pos (by clear e1 e2; omega), if_pos (by clear e1 e2; omega)]
    rw [← hve, List.take_append_getElem hil]
    exact ih K (i + 1) (by omega) (by omega)
theorem counts_run (l : List Int) (hb : Byt l) (hn : l.length ≤ 1000) (K : Nat) (hK : 1001 ≤ K) : probe_Counts.f K l = some (cnL l) := by
  unfold probe_Counts.f
  rw [if_pos (by decide), cnL_nil]
  exact counts_l0 l hb hn l.length K 0 (by omega) (by omega)
theorem bits_l0 (l : List Int) (hn : l.length ≤ 1000) (d : Nat) : ∀ (K j : Nat), j + d = 256 → d + 20 ≤ K →
    probe_Bits.l0 K ((logN l.length : Nat) : Int) ((S j fun v => term l.length (cn l v) : Nat) : Int) (cnL l) 256 (j : Int) = some ((B l : Nat) : Int) := by
  induction d with
  | zero =>
    intro K j hj hK
    obtain ⟨K, rfl⟩ : ∃ j, K = j + 1 := ⟨K - 1, by omega⟩
    obtain rfl : j = 256 := by omega
    simp only [probe_Bits.l0]
    exact (if_neg (by decide)).trans rfl
  | succ d ih =>
    intro K j hj hK
    obtain ⟨K, rfl⟩ : ∃ j, K = j + 1 := ⟨K - 1, by omega⟩
    have hj2 : j < 256 := by omega
    have hc := cn_le l j
    have ht := term_bound l.length (cn l j) hc hn
    have hS := S_bound l hn j
    have hL := log_le10 (show l.length ≤ 1023 by omega)
    have hm := logN_mono hc
    have e1 : wrap64 ((j : Int) + 1) = ((j + 1 : Nat) : Int) := by rw [← Int.natCast_succ]; exact w64 _ (by omega)
    have hSj : S (j + 1) (fun v => term l.length (cn l v)) = S j (fun v => term l.length (cn l v)) + term l.length (cn l j) := rfl
    have hX := ih K (j + 1) (by omega) (by omega)
    rw [hSj] at hX
    simp only [probe_Bits.l0]
    rw [cnL_rd l j hj2, cnL_len, e1]
    rw [if_pos (by clear e1; omega), if_pos (by clear e1; omega), if_pos (by clear e1; omega)]
    by_cases h0 : 0 < cn l j
    · refine (if_pos (by clear e1; omega)).trans ?_
      rw [log_run K (by omega) (cn l j) (by omega)]
      simp only [Option.bind_some]
      have e2 : wrap64 (((logN l.length : Nat) : Int) - ((logN (cn l j) : Nat) : Int)) = ((logN l.length - logN (cn l j) : Nat) : Int) := by
        rw [← Int.ofNat_sub hm]; exact w64 _ (by omega)
      have e3 : wrap64 (((cn l j : Nat) : Int) * ((logN l.length - logN (cn l j) : Nat) : Int)) = ((term l.length (cn l j) : Nat) : Int) := by
        rw [← Int.natCast_mul]; exact w64 (term l.length (cn l j)) (by omega)
      have hS2 : S j (fun v => term l.length (cn l v)) ≤ 256 * 2559000 := Nat.le_trans hS (Nat.mul_le_mul_right _ (by omega))
      have e4 : wrap64 (((S j fun v => term l.length (cn l v) : Nat) : Int) + ((term l.length (cn l j) : Nat) : Int)) = ((S j (fun v => term l.length (cn l v)) + term l.length (cn l j) : Nat) : Int) := by
        rw [← Int.natCast_add]; exact w64 _ (Nat.lt_of_le_of_lt (Nat.add_le_add hS2 ht) (by decide))
      rw [e2, e3, e4]
      exact hX
    · refine (if_neg (by clear e1; omega)).trans ?_
      have hz : term l.length (cn l j) = 0 := by unfold term; rw [show cn l j = 0 by omega, Nat.zero_mul]
      rw [hz] at hX
      exact hX
theorem bits_run (l : List Int) (hb : Byt l) (hn : l.length ≤ 1000) (K : Nat) (hK : 1001 ≤ K) : probe_Bits.f K l = some ((B l : Nat) : Int) := by
  unfold probe_Bits.f
  rw [log_run K (by omega) l.length (by omega), counts_run l hb hn K hK]
  simp only [Option.bind_some]
  rw [cnL_len]
  exact bits_l0 l hn 256 K 0 rfl (by omega)
theorem lives_run (K : Nat) (hK : 10 ≤ K) : duffellaw40_lives.f K = some true := by
  unfold duffellaw40_lives.f
  rw [show (8 : Int) = ((8 : Nat) : Int) from rfl, log_run K hK 8 (by omega), show logN 8 = 768 from logN_pow 3]
  obtain ⟨K, rfl⟩ : ∃ j, K = j + 10 := ⟨K - 10, by omega⟩
  have e : probe_Runs.f (K + 10) [97, 97, 98] = some 1 := by
    simp [probe_Runs.f, probe_Runs.l0, rd, wrap64]
  simp only [Option.bind_some, e]
  rfl
theorem count_l0 (l : List Int) (hb : Byt l) (hn : l.length ≤ 1000) (c : Nat) (d : Nat) : ∀ (K i : Nat), i + d = l.length → d + 1 ≤ K →
    duffelref40_Count.l0 K l (c : Int) ((cn (l.take i) c : Nat) : Int) (i : Int) = some ((cn l c : Nat) : Int) := by
  induction d with
  | zero =>
    intro K i hi hK
    obtain ⟨K, rfl⟩ : ∃ j, K = j + 1 := ⟨K - 1, by omega⟩
    simp only [duffelref40_Count.l0]
    refine (if_neg (by omega)).trans ?_
    rw [List.take_of_length_le (by omega)]
  | succ d ih =>
    intro K i hi hK
    obtain ⟨K, rfl⟩ : ∃ j, K = j + 1 := ⟨K - 1, by omega⟩
    have hil : i < l.length := by omega
    have hv := hb l[i] (List.getElem_mem hil)
    have hr := rd_nat l i hil
    have hc := cn_le (l.take i) c
    rw [List.length_take] at hc
    have e0 : wrap64 l[i] = l[i] := IntWalk.wrap64_in _ ⟨by omega, by omega⟩
    have e1 : wrap64 ((i : Int) + 1) = ((i + 1 : Nat) : Int) := by rw [← Int.natCast_succ]; exact w64 _ (by omega)
    have e2 : wrap64 (((cn (l.take i) c : Nat) : Int) + 1) = ((cn (l.take i) c + 1 : Nat) : Int) := by rw [← Int.natCast_succ]; exact w64 _ (by omega)
    have hX := ih K (i + 1) (by omega) (by omega)
    have hs : cn (l.take (i + 1)) c = cn (l.take i) c + if l[i] = (c : Int) then 1 else 0 := by
      unfold cn
      rw [← List.take_append_getElem hil, List.count_append, List.count_singleton]
      simp
    rw [hs] at hX
    simp only [duffelref40_Count.l0]
    rw [hr, e0, e1, e2]
    rw [if_pos (by clear e0 e1 e2; omega), if_pos (by clear e0 e1 e2; omega)]
    by_cases h : l[i] = (c : Int)
    · rw [if_pos h] at hX ⊢; exact hX
    · rw [if_neg h] at hX ⊢; exact hX
theorem count_run (l : List Int) (hb : Byt l) (hn : l.length ≤ 1000) (c K : Nat) (hK : 1001 ≤ K) : duffelref40_Count.f K l (c : Int) = some ((cn l c : Nat) : Int) :=
  count_l0 l hb hn c l.length K 0 (by omega) (by omega)
theorem rbits_l0 (l : List Int) (hb : Byt l) (hn : l.length ≤ 1000) (d : Nat) : ∀ (K j : Nat), j + d = 256 → d + 1002 ≤ K →
    duffelref40_Bits.l0 K l ((S j fun v => term l.length (cn l v) : Nat) : Int) (j : Int) = some ((B l : Nat) : Int) := by
  induction d with
  | zero =>
    intro K j hj hK
    obtain ⟨K, rfl⟩ : ∃ j, K = j + 1 := ⟨K - 1, by omega⟩
    obtain rfl : j = 256 := by omega
    simp only [duffelref40_Bits.l0]
    exact (if_neg (by decide)).trans rfl
  | succ d ih =>
    intro K j hj hK
    obtain ⟨K, rfl⟩ : ∃ j, K = j + 1 := ⟨K - 1, by omega⟩
    have hc := cn_le l j
    have ht := term_bound l.length (cn l j) hc hn
    have hS := S_bound l hn j
    have hL := log_le10 (show l.length ≤ 1023 by omega)
    have hm := logN_mono hc
    have e1 : wrap64 ((j : Int) + 1) = ((j + 1 : Nat) : Int) := by rw [← Int.natCast_succ]; exact w64 _ (by omega)
    have hX := ih K (j + 1) (by omega) (by omega)
    rw [show S (j + 1) (fun v => term l.length (cn l v)) = S j (fun v => term l.length (cn l v)) + term l.length (cn l j) from rfl] at hX
    simp only [duffelref40_Bits.l0]
    rw [if_pos (by clear e1; omega), count_run l hb hn j K (by omega), ref_run K (by omega) l.length (by omega)]
    simp only [Option.bind_some]
    rw [ref_run K (by omega) (cn l j) (by omega)]
    simp only [Option.bind_some]
    have e2 : wrap64 (((logN l.length : Nat) : Int) - ((logN (cn l j) : Nat) : Int)) = ((logN l.length - logN (cn l j) : Nat) : Int) := by
      rw [← Int.ofNat_sub hm]; exact w64 _ (by omega)
    have e3 : wrap64 (((cn l j : Nat) : Int) * ((logN l.length - logN (cn l j) : Nat) : Int)) = ((term l.length (cn l j) : Nat) : Int) := by
      rw [← Int.natCast_mul]; exact w64 (term l.length (cn l j)) (by omega)
    have hS2 : S j (fun v => term l.length (cn l v)) ≤ 256 * 2559000 := Nat.le_trans hS (Nat.mul_le_mul_right _ (by omega))
    have e4 : wrap64 (((S j fun v => term l.length (cn l v) : Nat) : Int) + ((term l.length (cn l j) : Nat) : Int)) = ((S j (fun v => term l.length (cn l v)) + term l.length (cn l j) : Nat) : Int) := by
      rw [← Int.natCast_add]; exact w64 _ (Nat.lt_of_le_of_lt (Nat.add_le_add hS2 ht) (by decide))
    rw [e1, e2, e3, e4]
    exact hX
theorem rbits_run (l : List Int) (hb : Byt l) (hn : l.length ≤ 1000) (K : Nat) (hK : 1500 ≤ K) : duffelref40_Bits.f K l = some ((B l : Nat) : Int) :=
  rbits_l0 l hb hn 256 K 0 rfl (by omega)
end Go.Proofs.Ytbbmcfbfkpnelaa.QAR
