/- ProbeCounts, of what the printed functions compute: counts, bits, runs, twins are the reference's. -/
import Derived.Test.YtbbmcfbfkpnelaaQCRefs2
namespace Go.Proofs.Ytbbmcfbfkpnelaa.Pure
open Go.RowKit Go.Proofs.Ytbbmcfbfkpnelaa.QC Go.Proofs.YtbbmcfbfkpnelaaW.PrintWords Go.Proofs.YtbbmcfbfkpnelaaW.PrintLast Go.Proofs.YtbbmcfbfkpnelaaW.PrintMore Go.Proofs.Ytbbmcfbfkpnelaa.ProbeMath Go.Proofs.Ytbbmcfbfkpnelaa.Twins Go.Proofs.Ytbbmcfbfkpnelaa.QCR
theorem same_l0 (l : List Int) (hn : l.length ≤ 1000) (d : Nat) : ∀ (K i : Nat), i + d = l.length → d + 1 ≤ K → duffelref01_Same.l0 K l l (i : Int) = some true := by
  induction d with
  | zero =>
    intro K i hi hK
    obtain ⟨K, rfl⟩ : ∃ j, K = j + 1 := ⟨K - 1, by omega⟩
    simp only [duffelref01_Same.l0]
    exact (if_neg (by omega)).trans rfl
  | succ d ih =>
    intro K i hi hK
    obtain ⟨K, rfl⟩ : ∃ j, K = j + 1 := ⟨K - 1, by omega⟩
    have e1 : wrap64 ((i : Int) + 1) = ((i + 1 : Nat) : Int) := by rw [← Int.natCast_succ]; exact w64 _ (by omega)
    have hX := ih K (i + 1) (by omega) (by omega)
    simp only [duffelref01_Same.l0]
    rw [e1]
    clear e1
    refine (if_pos (by omega)).trans ((if_pos (by omega)).trans ((if_pos (by omega)).trans ?_))
    exact (if_pos (by trivial)).trans hX
theorem same_run (l : List Int) (hn : l.length ≤ 1000) (K : Nat) (hK : 1001 ≤ K) : duffelref01_Same.f K l l = some true := by
  unfold duffelref01_Same.f
  exact (if_pos rfl).trans (same_l0 l hn l.length K 0 (by omega) (by omega))
theorem S_le_all (l : List Int) (h : ∀ x ∈ l, 0 ≤ x ∧ x ≤ 255) (j : Nat) (hj : j ≤ 256) : S j (cn l) ≤ l.length := by
  rw [← S_cn l h]
  have : ∀ d, j + d = 256 → S j (cn l) ≤ S 256 (cn l) := by
    intro d
    induction d generalizing j with
    | zero => intro h; rw [show j = 256 by omega]; exact Nat.le_refl _
    | succ d ih => intro h; exact Nat.le_trans (Nat.le_add_right _ _) (ih (j + 1) (by omega) (by omega))
  exact this (256 - j) (by omega)
theorem sum_l0 (l : List Int) (hb : Byt l) (hn : l.length ≤ 1000) (R : Option Bool) (d : Nat) : ∀ (K j : Nat), j + d = 256 → d + 3000 ≤ K →
    (∀ K', 3000 ≤ K' → K ≤ K' + d → (if ((S 256 (cn l) : Nat) : Int) = (l.length : Int) then ((probe_Bits.f K' l).bind fun t147 => ((duffelref40_Bits.f K' l).bind fun t148 => (if t147 = t148 then ((probe_Runs.f K' l).bind fun t149 => ((duffelref40_Runs.f K' l).bind fun t150 => (if t149 = t150 then ((probe_Twins.f l).bind fun t151 => ((duffelref40_Twins.f K' l).bind fun t152 => (if t151 = t152 then ((duffelref01_Same.f K' l l).bind fun t153 => (if t153 = true then ((duffellaw40_lives.f K').bind fun t154 => (some t154)) else (some false))) else (some false)))) else (some false)))) else (some false)))) else (some false)) = R) →
    duffellaw40_ProbeCounts.l0 (K + 1) l l (cnL l) (S j (cn l) : Nat) (j : Int) = R := by
  induction d with
  | zero =>
    intro K j hj hK hR
    obtain rfl : j = 256 := by omega
    simp only [duffellaw40_ProbeCounts.l0]
    exact (if_neg (by decide)).trans (hR K (by omega) (by omega))
  | succ d ih =>
    intro K j hj hK hR
    obtain ⟨K, rfl⟩ : ∃ i, K = i + 1 := ⟨K - 1, by omega⟩
    have hX := ih K (j + 1) (by omega) (by omega) (fun K' h1 h2 => hR K' h1 (by omega))
    have hs := S_le_all l hb (j + 1) (by omega)
    have hc := cnL_rd l j (by omega)
    have hl := cnL_len l
    have e1 : wrap64 ((j : Int) + 1) = ((j + 1 : Nat) : Int) := by rw [← Int.natCast_succ]; exact w64 _ (by omega)
    have e2 : wrap64 (((S j (cn l) : Nat) : Int) + ((cn l j : Nat) : Int)) = ((S (j + 1) (cn l) : Nat) : Int) := by
      rw [show S (j + 1) (cn l) = S j (cn l) + cn l j from rfl] at hs ⊢
      rw [← Int.natCast_add]; exact w64 _ (by omega)
    rw [duffellaw40_ProbeCounts.l0, hc, e1, e2]
    clear e1 e2 hR
    exact (if_pos (by omega)).trans ((if_pos (by omega)).trans ((if_pos (by rw [hl]; omega)).trans hX))
theorem ProbeCounts : duffellaw40_ProbeCounts.Pure := by
  intro l0 a1 hl hcap hwf h1
  have b1 := bounds_u8 h1
  have hb : Byt (l0.take 250) := fun x hx => bounds_u8 (hwf x (List.mem_of_mem_take hx))
  have hn : (l0.take 250).length ≤ 1000 := by rw [List.length_take]; omega
  obtain ⟨KT, hT⟩ := rtwins_ex (l0.take 250) hn
  refine ⟨(KT + 5000) + 256 + 1 + 1, ?_⟩
  have hTK : ∀ K', KT + 5000 ≤ K' → duffelref40_Twins.f K' (l0.take 250) = some ((twN (l0.take 250) : Nat) : Int) := fun K' hK' => at_rounds (duffelref40_Twins.mono (l0.take 250)) (by omega) hT
  have hS := S_cn (l0.take 250) hb
  have hcl := cnL_len (l0.take 250)
  unfold duffellaw40_ProbeCounts.f
  rw [show MyCut.cut_u8.f l0 250 = some (l0.take 250) from MyCut.cut_u8.nat l0 250]
  simp only [Option.bind_some]
  generalize l0.take 250 = l at hb hn hTK hS hcl hT ⊢
  clear hT
  have hcp : duffelref01_Copy.f l = some l := by
    unfold duffelref01_Copy.f
    exact (if_pos (by simp; omega)).trans (by simp)
  obtain ⟨v, hv⟩ : ∃ v : Nat, a1 = (v : Int) := ⟨a1.toNat, by omega⟩
  subst hv
  have hw : wrap64 (v : Int) = (v : Int) := w64 v (by omega)
  have hr := cnL_rd l v (by omega)
  rw [hcp]
  simp only [Option.bind_some]
  rw [counts_run l hb hn _ (by omega)]
  simp only [Option.bind_some]
  refine (if_pos (by rw [hcl]; rfl)).trans ((if_pos (by omega)).trans ((if_pos (by rw [hcl]; omega)).trans ?_))
  rw [hw, count_run l hb hn v _ (by omega), hr]
  simp only [Option.bind_some]
  rw [show ((((cn l v : Nat) : Int)) != ((cn l v : Nat) : Int)) = false by simp]
  rw [duffellaw40_ProbeCounts.j0]
  refine (if_neg (by decide)).trans ?_
  refine sum_l0 l hb hn (some true) 256 (KT + 5000 + 256) 0 (by omega) (by omega) (fun K' hK1 hK2 => ?_)
  refine (if_pos (by rw [hS])).trans ?_
  rw [bits_run l hb hn K' (by omega), rbits_run l hb hn K' (by omega), runs_run l hn K' (by omega), rruns_run l hn K' (by omega), twins_run l hn, hTK K' (by omega), same_run l hn K' (by omega), lives_run K' (by omega)]
  simp only [Option.bind_some]
  exact (if_pos (by trivial)).trans ((if_pos (by trivial)).trans ((if_pos (by trivial)).trans ((if_pos (by trivial)).trans rfl)))
end Go.Proofs.Ytbbmcfbfkpnelaa.Pure
