/- Runs and Twins, the program's and the reference's, as printed (namespace QA). -/
import Derived.Test.YtbbmcfbfkpnelaaQARefs
import Derived.Test.YtbbmcfbfkpnelaaProbeTwMath
namespace Go.Proofs.Ytbbmcfbfkpnelaa.QAR
open Go.RowKit Go.Proofs.Ytbbmcfbfkpnelaa.QA Go.Proofs.YtbbmcfbfkpnelaaW.PrintWords Go.Proofs.YtbbmcfbfkpnelaaW.PrintLast Go.Proofs.YtbbmcfbfkpnelaaW.PrintMore Go.Proofs.Ytbbmcfbfkpnelaa.ProbeMath Go.Proofs.Ytbbmcfbfkpnelaa.Twins
theorem pred64 (i : Nat) (h : i < 1000000) : wrap64 (((i + 1 : Nat) : Int) - 1) = (i : Int) := by
  rw [show ((i + 1 : Nat) : Int) - 1 = (i : Int) by omega]; exact w64 _ (by omega)
theorem runs_l0 (l : List Int) (hn : l.length ≤ 1000) (d : Nat) : ∀ (K i : Nat), i + 1 + d = l.length → d + 1 ≤ K →
    probe_Runs.l0 K l (ru l i : Nat) ((i + 1 : Nat) : Int) = some ((ru l (l.length - 1) : Nat) : Int) := by
  induction d with
  | zero =>
    intro K i hi hK
    obtain ⟨K, rfl⟩ : ∃ j, K = j + 1 := ⟨K - 1, by omega⟩
    simp only [probe_Runs.l0]
    refine (if_neg (by omega)).trans ?_
    rw [show l.length - 1 = i by omega]
  | succ d ih =>
    intro K i hi hK
    obtain ⟨K, rfl⟩ : ∃ j, K = j + 1 := ⟨K - 1, by omega⟩
    have hX := ih K (i + 1) (by omega) (by omega)
    have hu := ru_le l i
    have e0 := pred64 i (by omega)
    have e1 : wrap64 (((i + 1 : Nat) : Int) + 1) = ((i + 1 + 1 : Nat) : Int) := by rw [← Int.natCast_succ]; exact w64 _ (by omega)
    have e2 : wrap64 ((ru l i : Nat) + 1) = ((ru l i + 1 : Nat) : Int) := by rw [← Int.natCast_succ]; exact w64 _ (by omega)
    simp only [probe_Runs.l0]
    rw [e0, e1, e2]
    clear e0 e1 e2
    refine (if_pos (by omega)).trans ?_
    refine (if_pos (by omega)).trans ?_
    refine (if_pos (by omega)).trans ?_
    refine (if_pos (by omega)).trans ?_
    by_cases h : rd l ((i + 1 : Nat)) = rd l (i : Nat)
    · refine (if_pos h).trans ?_
      rw [show ru l (i + 1) = ru l i + 1 from if_pos h] at hX; exact hX
    · refine (if_neg h).trans ?_
      rw [show ru l (i + 1) = ru l i from if_neg h] at hX; exact hX
theorem runs_run (l : List Int) (hn : l.length ≤ 1000) (K : Nat) (hK : 1001 ≤ K) : probe_Runs.f K l = some ((ru l (l.length - 1) : Nat) : Int) := by
  unfold probe_Runs.f
  rcases Nat.eq_zero_or_pos l.length with h0 | h0
  · obtain rfl := List.eq_nil_of_length_eq_zero h0
    obtain ⟨K, rfl⟩ : ∃ j, K = j + 1 := ⟨K - 1, by omega⟩
    simp [probe_Runs.l0, ru]
  · exact runs_l0 l hn (l.length - 1) K 0 (by omega) (by omega)
theorem rruns_l0 (l : List Int) (hn : l.length ≤ 1000) (d : Nat) : ∀ (K i : Nat), i + 1 + d = l.length → d + 1 ≤ K →
    duffelref40_Runs.l0 K l (ru l i : Nat) (i : Int) = some ((ru l (l.length - 1) : Nat) : Int) := by
  induction d with
  | zero =>
    intro K i hi hK
    obtain ⟨K, rfl⟩ : ∃ j, K = j + 1 := ⟨K - 1, by omega⟩
    have e1 : wrap64 ((i : Int) + 1) = ((i + 1 : Nat) : Int) := by rw [← Int.natCast_succ]; exact w64 _ (by omega)
    simp only [duffelref40_Runs.l0]
    rw [e1]
    clear e1
    refine (if_neg (by omega)).trans ?_
    rw [show l.length - 1 = i by omega]
  | succ d ih =>
    intro K i hi hK
    obtain ⟨K, rfl⟩ : ∃ j, K = j + 1 := ⟨K - 1, by omega⟩
    have hX := ih K (i + 1) (by omega) (by omega)
    have hu := ru_le l i
    have e1 : wrap64 ((i : Int) + 1) = ((i + 1 : Nat) : Int) := by rw [← Int.natCast_succ]; exact w64 _ (by omega)
    have e2 : wrap64 ((ru l i : Nat) + 1) = ((ru l i + 1 : Nat) : Int) := by rw [← Int.natCast_succ]; exact w64 _ (by omega)
    simp only [duffelref40_Runs.l0]
    rw [e1, e2]
    clear e1 e2
    refine (if_pos (by omega)).trans ?_
    refine (if_pos (by omega)).trans ?_
    refine (if_pos (by omega)).trans ?_
    refine (if_pos (by omega)).trans ?_
    by_cases h : rd l ((i + 1 : Nat)) = rd l (i : Nat)
    · refine (if_pos h).trans ?_
      rw [show ru l (i + 1) = ru l i + 1 from if_pos h] at hX; exact hX
    · refine (if_neg h).trans ?_
      rw [show ru l (i + 1) = ru l i from if_neg h] at hX; exact hX
theorem rruns_run (l : List Int) (hn : l.length ≤ 1000) (K : Nat) (hK : 1001 ≤ K) : duffelref40_Runs.f K l = some ((ru l (l.length - 1) : Nat) : Int) := by
  unfold duffelref40_Runs.f
  rcases Nat.eq_zero_or_pos l.length with h0 | h0
  · obtain rfl := List.eq_nil_of_length_eq_zero h0
    obtain ⟨K, rfl⟩ : ∃ j, K = j + 1 := ⟨K - 1, by omega⟩
    have e : wrap64 (1 : Int) = 1 := w64 1 (by decide)
    simp [duffelref40_Runs.l0, ru, e]
  · exact rruns_l0 l hn (l.length - 1) K 0 (by omega) (by omega)
/-- the inner loop: how it goes on, by what was sawT -/
theorem inner (l : List Int) (n : Int) (k : Nat) (hk : k + 2 < l.length) (hn : l.length ≤ 1000) (R : Int) (d : Nat) : ∀ (m : Nat) (fl : Bool), m + d = k →
    ((fl = true ∨ sawT l k m) → ∃ K, duffelref40_Twins.l0 K l (wrap64 (n + 1)) (wrap64 (((k + 2 : Nat) : Int) + 1)) = some R) →
    (¬ (fl = true ∨ sawT l k m) → ∃ K, duffelref40_Twins.l0 K l n (wrap64 (((k + 2 : Nat) : Int) + 1)) = some R) →
    ∃ K, duffelref40_Twins.l1 K l n ((k + 2 : Nat) : Int) fl ((m + 2 : Nat) : Int) = some R := by
  induction d with
  | zero =>
    intro m fl hm h1 h2
    have hc : ¬ (((m + 2 : Nat) : Int) < ((k + 2 : Nat) : Int)) := by omega
    by_cases hf : fl = true
    · obtain ⟨K, h⟩ := h1 (.inl hf)
      refine ⟨K + 1, ?_⟩
      simp only [duffelref40_Twins.l1]
      exact (if_neg hc).trans ((if_pos hf).trans h)
    · obtain ⟨K, h⟩ := h2 (fun h => h.elim hf (sawT_end l k m (by omega)))
      refine ⟨K + 1, ?_⟩
      simp only [duffelref40_Twins.l1]
      exact (if_neg hc).trans ((if_neg hf).trans h)
  | succ d ih =>
    intro m fl hm h1 h2
    have hc : (((m + 2 : Nat) : Int) < ((k + 2 : Nat) : Int)) := by omega
    by_cases hf : fl = true
    · obtain ⟨K, h⟩ := h1 (.inl hf)
      refine ⟨K + 1, ?_⟩
      simp only [duffelref40_Twins.l1]
      exact (if_pos hc).trans ((if_pos hf).trans h)
    · have hs := sawT_step l k m (by omega)
      rw [tri_eq] at hs
      have e1 : wrap64 (((m + 2 : Nat) : Int) - 1) = ((m + 1 : Nat) : Int) := by rw [show ((m + 2 : Nat) : Int) - 1 = ((m + 1 : Nat) : Int) by omega]; exact w64 _ (by omega)
      have e2 : wrap64 (((m + 2 : Nat) : Int) - 2) = (m : Int) := by rw [show ((m + 2 : Nat) : Int) - 2 = (m : Int) by omega]; exact w64 _ (by omega)
      have e3 : wrap64 (((k + 2 : Nat) : Int) - 1) = ((k + 1 : Nat) : Int) := by rw [show ((k + 2 : Nat) : Int) - 1 = ((k + 1 : Nat) : Int) by omega]; exact w64 _ (by omega)
      have e4 : wrap64 (((k + 2 : Nat) : Int) - 2) = (k : Int) := by rw [show ((k + 2 : Nat) : Int) - 2 = (k : Int) by omega]; exact w64 _ (by omega)
      have e5 : wrap64 (((m + 2 : Nat) : Int) + 1) = ((m + 1 + 2 : Nat) : Int) := by rw [show ((m + 2 : Nat) : Int) + 1 = ((m + 1 + 2 : Nat) : Int) by omega]; exact w64 _ (by omega)
      have go : ∀ fl' : Bool, (fl' = true ↔ (rd l ((m + 2 : Nat)) = rd l ((k + 2 : Nat)) ∧ rd l ((m + 1 : Nat)) = rd l ((k + 1 : Nat)) ∧ rd l (m : Nat) = rd l (k : Nat))) →
          ∃ K, duffelref40_Twins.l1 K l n ((k + 2 : Nat) : Int) fl' ((m + 1 + 2 : Nat) : Int) = some R := by
        intro fl' hfl
        refine ih (m + 1) fl' (by omega) (fun h => h1 (.inr (hs.mpr ?_))) (fun h => h2 (fun h' => h ?_))
        · rcases h with h | h
          · exact .inl (hfl.mp h)
          · exact .inr h
        · rcases h' with h' | h'
          · exact absurd h' hf
          · rcases hs.mp h' with h' | h'
            · exact .inl (hfl.mpr h')
            · exact .inr h'
      by_cases a1 : rd l ((m + 2 : Nat)) = rd l ((k + 2 : Nat))
      · by_cases a2 : rd l ((m + 1 : Nat)) = rd l ((k + 1 : Nat))
        · obtain ⟨K, h⟩ := go (rd l (m : Nat) == rd l (k : Nat)) (by rw [beq_iff_eq]; exact ⟨fun h => ⟨a1, a2, h⟩, fun h => h.2.2⟩)
          refine ⟨K + 1, ?_⟩
          simp only [duffelref40_Twins.l1]
          rw [e1, e2, e3, e4, e5]
          clear e1 e2 e3 e4 e5
          refine (if_pos hc).trans ((if_neg hf).trans ?_)
          refine (if_pos (by omega)).trans ((if_pos (by omega)).trans ((if_pos (by omega)).trans ((if_pos (by omega)).trans ((if_pos a1).trans ?_))))
          refine (if_pos (by omega)).trans ((if_pos (by omega)).trans ((if_pos (by omega)).trans ((if_pos (by omega)).trans ((if_pos a2).trans ?_))))
          exact (if_pos (by omega)).trans ((if_pos (by omega)).trans ((if_pos (by omega)).trans ((if_pos (by omega)).trans h)))
        · obtain ⟨K, h⟩ := go false ⟨fun h => absurd h (by decide), fun h => absurd h.2.1 a2⟩
          refine ⟨K + 1, ?_⟩
          simp only [duffelref40_Twins.l1]
          rw [e1, e2, e3, e4, e5]
          clear e1 e2 e3 e4 e5
          refine (if_pos hc).trans ((if_neg hf).trans ?_)
          refine (if_pos (by omega)).trans ((if_pos (by omega)).trans ((if_pos (by omega)).trans ((if_pos (by omega)).trans ((if_pos a1).trans ?_))))
          exact (if_pos (by omega)).trans ((if_pos (by omega)).trans ((if_pos (by omega)).trans ((if_pos (by omega)).trans ((if_neg a2).trans h))))
      · obtain ⟨K, h⟩ := go false ⟨fun h => absurd h (by decide), fun h => absurd h.1 a1⟩
        refine ⟨K + 1, ?_⟩
        simp only [duffelref40_Twins.l1]
        rw [e1, e2, e3, e4, e5]
        clear e1 e2 e3 e4 e5
        refine (if_pos hc).trans ((if_neg hf).trans ?_)
        exact (if_pos (by omega)).trans ((if_pos (by omega)).trans ((if_pos (by omega)).trans ((if_pos (by omega)).trans ((if_neg a1).trans h))))
theorem outer (l : List Int) (hn : l.length ≤ 1000) (d : Nat) : ∀ k : Nat, k + d = l.length - 2 →
    ∃ K, duffelref40_Twins.l0 K l ((twS l k).2 : Nat) ((k + 2 : Nat) : Int) = some ((twN l : Nat) : Int) := by
  induction d with
  | zero =>
    intro k hk
    refine ⟨1, ?_⟩
    simp only [duffelref40_Twins.l0]
    refine (if_neg (by omega)).trans ?_
    unfold twN
    rw [← hk]; rfl
  | succ d ih =>
    intro k hk
    obtain ⟨K, h⟩ := ih (k + 1) (by omega)
    have hl := twS_le l k
    have e1 : wrap64 (((k + 2 : Nat) : Int) + 1) = ((k + 1 + 2 : Nat) : Int) := by rw [show ((k + 2 : Nat) : Int) + 1 = ((k + 1 + 2 : Nat) : Int) by omega]; exact w64 _ (by omega)
    have e2 : wrap64 (((twS l k).2 : Nat) + 1) = (((twS l k).2 + 1 : Nat) : Int) := by rw [← Int.natCast_succ]; exact w64 _ (by omega)
    obtain ⟨K2, h2⟩ := inner l ((twS l k).2 : Nat) k (by omega) hn (twN l : Nat) k 0 false (by omega)
      (fun hs => ⟨K, by
        rw [e1, e2]
        have hs' : tri l k ∈ (twS l k).1 := (sawT_all l k).mp (hs.resolve_left (by decide))
        rw [show (twS l (k + 1)).2 = (twS l k).2 + 1 from if_pos hs'] at h
        exact h⟩)
      (fun hs => ⟨K, by
        rw [e1]
        have hs' : ¬ tri l k ∈ (twS l k).1 := fun h' => hs (.inr ((sawT_all l k).mpr h'))
        rw [show (twS l (k + 1)).2 = (twS l k).2 from if_neg hs'] at h
        exact h⟩)
    refine ⟨K2 + 1, ?_⟩
    simp only [duffelref40_Twins.l0]
    exact (if_pos (by clear e1 e2; omega)).trans h2
theorem rtwins_ex (l : List Int) (hn : l.length ≤ 1000) : ∃ K, duffelref40_Twins.f K l = some ((twN l : Nat) : Int) := outer l hn (l.length - 2) 0 (by omega)
theorem twins_run (l : List Int) (hn : l.length ≤ 1000) : probe_Twins.f l = some ((twN l : Nat) : Int) := by
  unfold probe_Twins.f
  exact if_pos (by omega)
end Go.Proofs.Ytbbmcfbfkpnelaa.QAR
