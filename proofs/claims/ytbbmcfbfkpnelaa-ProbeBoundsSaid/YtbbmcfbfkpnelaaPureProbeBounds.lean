/- ProbeBounds, the plain law. -/
import Derived.Test.YtbbmcfbfkpnelaaQNx2
import Derived.Test.YtbbmcfbfkpnelaaQNRun
import Derived.Test.YtbbmcfbfkpnelaaProbeCnt
import Derived.OpenShut
namespace Go.Proofs.Ytbbmcfbfkpnelaa.Pure
open Go.RowKit Go.Proofs.Ytbbmcfbfkpnelaa.QN Go.Proofs.YtbbmcfbfkpnelaaW.PrintWords Go.Proofs.YtbbmcfbfkpnelaaW.PrintLast Go.Proofs.YtbbmcfbfkpnelaaW.PrintMore Go.Proofs.Ytbbmcfbfkpnelaa.ProbeMath Go.Proofs.Ytbbmcfbfkpnelaa.QNR Go.Proofs.Ytbbmcfbfkpnelaa.MyCut
abbrev Byt (l : List Int) : Prop := ∀ x ∈ l, 0 ≤ x ∧ x ≤ 255
def cnL (l : List Int) : List Int := (List.range 256).map fun v => ((cn l v : Nat) : Int)
theorem cnL_len (l : List Int) : (cnL l).length = 256 := by simp [cnL]
theorem cnL_rd (l : List Int) (v : Nat) (h : v < 256) : rd (cnL l) (v : Int) = ((cn l v : Nat) : Int) := by
  simp [rd, cnL, List.getD, h]
theorem cnL_nil : List.replicate 256 (0 : Int) = cnL [] := by
  apply List.ext_getElem
  · rw [cnL_len, List.length_replicate]
  · intro i h1 h2
    rw [List.getElem_replicate]
    have e : (cnL [])[i] = ((cn [] ((List.range 256)[i]'(by simpa [cnL] using h2)) : Nat) : Int) := List.getElem_map _
    rw [e]; rfl
theorem cnL_snoc (l : List Int) (v : Nat) : (cnL l).set v (((cn l v : Nat) : Int) + 1) = cnL (l ++ [(v : Int)]) := by
  apply List.ext_getElem
  · simp [cnL]
  · intro i h1 h2
    rw [List.getElem_set]
    simp only [cnL, List.getElem_map, List.getElem_range, cn, List.count_append]
    split
    · rename_i e; subst e; simp
    · rename_i e
      rw [show List.count ((i : Nat) : Int) [(v : Int)] = 0 from List.count_eq_zero.mpr (by simp; omega)]
      simp
theorem rd_nat (l : List Int) (i : Nat) (h : i < l.length) : rd l (i : Int) = l[i] := by simp [rd, List.getD, h]
theorem counts_l0 (l : List Int) (hb : Byt l) (hn : l.length ≤ 1000) (d : Nat) : ∀ (K i : Nat), i + d = l.length → d + 1 ≤ K →
    probe_Counts.l0 K (cnL (l.take i)) l (l.length : Int) (i : Int) = some (cnL l) := by
  induction d with
  | zero =>
    intro K i hi hK
    obtain ⟨K, rfl⟩ : ∃ j, K = j + 1 := ⟨K - 1, by omega⟩
    simp only [probe_Counts.l0]
    refine (if_neg (by omega)).trans ?_
    rw [List.take_of_length_le (by omega)]
  | succ d ih =>
    intro K i hi hK
    obtain ⟨K, rfl⟩ : ∃ j, K = j + 1 := ⟨K - 1, by omega⟩
    have hil : i < l.length := by omega
    have hv := hb l[i] (List.getElem_mem hil)
    obtain ⟨v, hve⟩ := Int.eq_ofNat_of_zero_le hv.1
    have hv2 : v < 256 := by omega
    have hr : rd l (i : Int) = (v : Int) := by rw [rd_nat l i hil, hve]
    have hc := cn_le (l.take i) v
    rw [List.length_take] at hc
    have e1 : wrap64 ((i : Int) + 1) = ((i + 1 : Nat) : Int) := by rw [← Int.natCast_succ]; exact w64 _ (by omega)
    have e2 : wrap64 (((cn (l.take i) v : Nat) : Int) + 1) = ((cn (l.take i) v : Nat) : Int) + 1 := by rw [← Int.natCast_succ]; exact w64 _ (by omega)
    simp only [probe_Counts.l0]
    rw [hr, e1, cnL_rd _ v hv2, e2, cnL_len, Int.toNat_natCast, cnL_snoc _ v]
    rw [if_pos (by clear e1 e2; omega), if_pos (by clear e1 e2; omega), if_pos (by clear e1 e2; omega), if_pos (by clear e1 e2; omega), if_pos (by clear e1 e2; omega)]
    rw [← hve, List.take_append_getElem hil]
    exact ih K (i + 1) (by omega) (by omega)
theorem counts_run (l : List Int) (hb : Byt l) (hn : l.length ≤ 1000) (K : Nat) (hK : 1001 ≤ K) : probe_Counts.f K l = some (cnL l) := by
  unfold probe_Counts.f
  rw [if_pos (by decide), cnL_nil]
  exact counts_l0 l hb hn l.length K 0 (by omega) (by omega)
theorem bits_l0 (l : List Int) (hn : l.length ≤ 1000) (d : Nat) : ∀ (K j : Nat), j + d = 256 → d + 20 ≤ K →
    probe_Bits.l0 K ((logN l.length : Nat) : Int) ((S j fun v => term l.length (cn l v) : Nat) : Int) (cnL l) 256 (j : Int) = some ((B l : Nat) : Int) := by
  induction d with
  | zero =>
    intro K j hj hK
    obtain ⟨K, rfl⟩ : ∃ j, K = j + 1 := ⟨K - 1, by omega⟩
    obtain rfl : j = 256 := by omega
    simp only [probe_Bits.l0]
    exact (if_neg (by decide)).trans rfl
  | succ d ih =>
    intro K j hj hK
    obtain ⟨K, rfl⟩ : ∃ j, K = j + 1 := ⟨K - 1, by omega⟩
    have hj2 : j < 256 := by omega
    have hc := cn_le l j
    have ht := term_bound l.length (cn l j) hc hn
    have hS := S_bound l hn j
    have hL := log_le10 (show l.length ≤ 1023 by omega)
    have hm := logN_mono hc
    have e1 : wrap64 ((j : Int) + 1) = ((j + 1 : Nat) : Int) := by rw [← Int.natCast_succ]; exact w64 _ (by omega)
    have hSj : S (j + 1) (fun v => term l.length (cn l v)) = S j (fun v => term l.length (cn l v)) + term l.length (cn l j) := rfl
    have hX := ih K (j + 1) (by omega) (by omega)
    rw [hSj] at hX
    simp only [probe_Bits.l0]
    rw [cnL_rd l j hj2, cnL_len, e1]
    rw [if_pos (by clear e1; omega), if_pos (by clear e1; omega), if_pos (by clear e1; omega)]
    by_cases h0 : 0 < cn l j
    · refine (if_pos (by clear e1; omega)).trans ?_
      rw [log_run K (by omega) (cn l j) (by omega)]
      simp only [Option.bind_some]
      have e2 : wrap64 (((logN l.length : Nat) : Int) - ((logN (cn l j) : Nat) : Int)) = ((logN l.length - logN (cn l j) : Nat) : Int) := by
        rw [← Int.ofNat_sub hm]; exact w64 _ (by omega)
      have e3 : wrap64 (((cn l j : Nat) : Int) * ((logN l.length - logN (cn l j) : Nat) : Int)) = ((term l.length (cn l j) : Nat) : Int) := by
        rw [← Int.natCast_mul]; exact w64 (term l.length (cn l j)) (by omega)
      have hS2 : S j (fun v => term l.length (cn l v)) ≤ 256 * 2559000 := Nat.le_trans hS (Nat.mul_le_mul_right _ (by omega))
      have e4 : wrap64 (((S j fun v => term l.length (cn l v) : Nat) : Int) + ((term l.length (cn l j) : Nat) : Int)) = ((S j (fun v => term l.length (cn l v)) + term l.length (cn l j) : Nat) : Int) := by
        rw [← Int.natCast_add]; exact w64 _ (Nat.lt_of_le_of_lt (Nat.add_le_add hS2 ht) (by decide))
      rw [e2, e3, e4]
      exact hX
    · refine (if_neg (by clear e1; omega)).trans ?_
      have hz : term l.length (cn l j) = 0 := by unfold term; rw [show cn l j = 0 by omega, Nat.zero_mul]
      rw [hz] at hX
      exact hX
theorem bits_run (l : List Int) (hb : Byt l) (hn : l.length ≤ 1000) (K : Nat) (hK : 1001 ≤ K) : probe_Bits.f K l = some ((B l : Nat) : Int) := by
  unfold probe_Bits.f
  rw [log_run K (by omega) l.length (by omega), counts_run l hb hn K hK]
  simp only [Option.bind_some]
  rw [cnL_len]
  exact bits_l0 l hn 256 K 0 rfl (by omega)
theorem lives_run (K : Nat) (hK : 10 ≤ K) : duffellaw40_lives.f K = some true := by
  unfold duffellaw40_lives.f
  rw [show (8 : Int) = ((8 : Nat) : Int) from rfl, log_run K hK 8 (by omega), show logN 8 = 768 from logN_pow 3]
  obtain ⟨K, rfl⟩ : ∃ j, K = j + 10 := ⟨K - 10, by omega⟩
  have e : probe_Runs.f (K + 10) [97, 97, 98] = some 1 := by
    simp [probe_Runs.f, probe_Runs.l0, rd, wrap64]
  simp only [Option.bind_some, e]
  rfl
theorem within_nat (a : Int) (n : Nat) : ∃ t : Nat, t ≤ n ∧ duffelref01_Within.f a 0 (n : Int) = some (t : Int) := by
  unfold duffelref01_Within.f
  by_cases c1 : a < 0
  · exact ⟨0, by omega, if_pos c1⟩
  · by_cases c2 : a > n
    · exact ⟨n, by omega, by rw [if_neg c1, if_pos c2]⟩
    · exact ⟨a.toNat, by omega, by rw [if_neg c1, if_neg c2, Int.toNat_of_nonneg (by omega)]⟩
theorem l1_run (l : List Int) (hb : Byt l) (hn : l.length ≤ 400) (m : Nat) : ∀ (K i : Nat) (r : List Int), r.Perm l → l.length ≤ i + m → i ≤ l.length + 2 → m + 1100 ≤ K →
    duffellaw40_ProbeBounds.l1 K ((B l : Nat) : Int) r (i : Int) = some true := by
  induction m using Nat.strongRecOn with
  | ind m ih =>
    intro K i r hr hm hi hK
    obtain ⟨K, rfl⟩ : ∃ j, K = j + 1 := ⟨K - 1, by omega⟩
    have hl := hr.length_eq
    have e1 : wrap64 ((i : Int) + 1) = ((i + 1 : Nat) : Int) := by rw [← Int.natCast_succ]; exact w64 _ (by omega)
    have e2 : wrap64 ((i : Int) + 2) = ((i + 2 : Nat) : Int) := by rw [show (i : Int) + 2 = ((i + 2 : Nat) : Int) by omega]; exact w64 _ (by omega)
    simp only [duffellaw40_ProbeBounds.l1]
    rw [e1, e2]
    by_cases c : i + 1 < r.length
    · rw [if_pos (by clear e1 e2; omega), if_pos (by clear e1 e2; omega), if_pos (by clear e1 e2; omega), if_pos (by clear e1 e2; omega)]
      exact ih (m - 2) (by omega) K (i + 2) _ ((swap_perm i r c).trans hr) (by omega) (by omega) (by omega)
    · rw [if_neg (by clear e1 e2; omega)]
      rw [bits_run r (fun x hx => hb x (hr.mem_iff.mp hx)) (by omega) K (by omega), B_perm hr, lives_run K (by omega)]
      simp only [Option.bind_some]
      exact if_pos (by trivial)
theorem j1_run (l : List Int) (hb : Byt l) (hn : l.length ≤ 400) (a3 : Int) (K : Nat) (hK : 2000 ≤ K) :
    duffellaw40_ProbeBounds.j1 K l a3 ((B l : Nat) : Int) false = some true := by
  obtain ⟨K, rfl⟩ : ∃ j, K = j + 1 := ⟨K - 1, by omega⟩
  obtain ⟨t, ht, hw⟩ := within_nat a3 l.length
  simp only [duffellaw40_ProbeBounds.j1]
  rw [if_neg (by decide), hw]
  simp only [Option.bind_some]
  rw [if_pos (by omega), if_pos (by omega), Int.toNat_natCast]
  have hc : duffelref01_Copy.f (l.drop t) = some (l.drop t) := by
    unfold duffelref01_Copy.f
    rw [if_pos (by simp; omega)]; rfl
  rw [hc]
  simp only [Option.bind_some]
  rw [if_pos (by simp; omega)]
  refine l1_run l hb hn l.length K 0 (l.drop t ++ l.take t) ?_ (by omega) (by omega) (by omega)
  exact List.perm_append_comm.trans (by rw [List.take_append_drop])
theorem fill_set (t i : Nat) (a : Int) (h : i < t) : (List.replicate i a ++ List.replicate (t - i) 0).set i a = List.replicate (i + 1) a ++ List.replicate (t - (i + 1)) 0 := by
  obtain ⟨d, rfl⟩ : ∃ d, t = i + d + 1 := ⟨t - i - 1, by omega⟩
  rw [List.set_append_right _ _ (by simp), List.length_replicate, Nat.sub_self, show i + d + 1 - i = d + 1 by omega, show i + d + 1 - (i + 1) = d by omega, List.replicate_succ, List.set_cons_zero, List.replicate_succ', List.append_assoc]
  rfl
theorem l0_run (l : List Int) (hb : Byt l) (hn : l.length ≤ 400) (a1 a3 : Int) (ha : 0 ≤ a1 ∧ a1 ≤ 255) (t : Nat) (ht : t ≤ 1000) (d : Nat) : ∀ (K i : Nat), i + d = t → d + 3000 ≤ K →
    duffellaw40_ProbeBounds.l0 K l a1 (t : Int) a3 (List.replicate i a1 ++ List.replicate (t - i) 0) (i : Int) = some true := by
  induction d with
  | zero =>
    intro K i hi hK
    obtain ⟨K, rfl⟩ : ∃ j, K = j + 1 := ⟨K - 1, by omega⟩
    obtain rfl : i = t := by omega
    have hB := B_le l hb hn
    have e : wrap64 (2049 * (l.length : Int)) = ((2049 * l.length : Nat) : Int) := by
      rw [show 2049 * (l.length : Int) = ((2049 * l.length : Nat) : Int) by omega]; exact w64 _ (by omega)
    simp only [duffellaw40_ProbeBounds.l0]
    rw [if_neg (by omega), Nat.sub_self, List.replicate_zero, List.append_nil]
    rw [bits_run l hb (by omega) K (by omega), bits_run _ (fun x hx => by rw [(List.mem_replicate.mp hx).2]; exact ha) (by simp; omega) K (by omega), B_one]
    simp only [Option.bind_some]
    refine (if_pos (by trivial)).trans ?_
    rw [if_neg (by omega), e, decide_eq_false (by clear e; omega)]
    exact j1_run l hb hn a3 K (by omega)
  | succ d ih =>
    intro K i hi hK
    obtain ⟨K, rfl⟩ : ∃ j, K = j + 1 := ⟨K - 1, by omega⟩
    have e1 : wrap64 ((i : Int) + 1) = ((i + 1 : Nat) : Int) := by rw [← Int.natCast_succ]; exact w64 _ (by omega)
    simp only [duffellaw40_ProbeBounds.l0]
    rw [e1, if_pos (by clear e1; omega), if_pos (by clear e1; omega), if_pos (by clear e1; simp; omega), Int.toNat_natCast, fill_set t i a1 (by omega)]
    exact ih K (i + 1) (by omega) (by omega)
theorem ProbeBounds : duffellaw40_ProbeBounds.Pure := by
  intro l0 a1 a2 a3 hl hcap hwf h1 h2 h3
  have b1 := bounds_u8 h1
  refine ⟨5000, ?_⟩
  generalize hK : (5000 : Nat) = K
  obtain ⟨t, ht, hw⟩ := within_nat a2 1000
  have hb : Byt (l0.take 400) := fun x hx => bounds_u8 (hwf x (List.mem_of_mem_take hx))
  have hn : (l0.take 400).length ≤ 400 := by rw [List.length_take]; omega
  unfold duffellaw40_ProbeBounds.f
  rw [show cut_u8.f l0 400 = some (l0.take 400) from cut_u8.nat l0 400, show duffelref01_Within.f a2 0 1000 = some (t : Int) from hw]
  simp only [Option.bind_some]
  rw [if_pos (by omega), if_pos (by omega), Int.toNat_natCast]
  exact l0_run _ hb hn a1 a3 b1 t ht t K 0 (by omega) (by omega)
end Go.Proofs.Ytbbmcfbfkpnelaa.Pure
