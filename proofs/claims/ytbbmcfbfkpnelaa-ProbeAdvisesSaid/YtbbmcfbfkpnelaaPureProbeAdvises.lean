/- ProbeAdvises, of what the printed functions compute: the program's parameters are the reference's. -/
import Derived.Test.YtbbmcfbfkpnelaaQARefs2
namespace Go.Proofs.Ytbbmcfbfkpnelaa.Pure
open Go.RowKit Go.Proofs.Ytbbmcfbfkpnelaa.QA Go.Proofs.YtbbmcfbfkpnelaaW.PrintWords Go.Proofs.YtbbmcfbfkpnelaaW.PrintLast Go.Proofs.YtbbmcfbfkpnelaaW.PrintMore Go.Proofs.Ytbbmcfbfkpnelaa.ProbeMath Go.Proofs.Ytbbmcfbfkpnelaa.Twins Go.Proofs.Ytbbmcfbfkpnelaa.QAR
theorem twN_le (l : List Int) : twN l ≤ l.length := Nat.le_trans (twS_le l _) (Nat.sub_le _ _)
theorem w4 (n : Nat) (h : n ≤ 1000) : wrap64 (4 * (n : Int)) = ((4 * n : Nat) : Int) := by rw [show 4 * (n : Int) = ((4 * n : Nat) : Int) by omega]; exact w64 _ (by omega)
theorem w8 (n : Nat) (h : n ≤ 1000) : wrap64 (8 * (n : Int)) = ((8 * n : Nat) : Int) := by rw [show 8 * (n : Int) = ((8 * n : Nat) : Int) by omega]; exact w64 _ (by omega)
theorem w2000 (n : Nat) (h : n ≤ 1000) : wrap64 (2000 * (n : Int)) = ((2000 * n : Nat) : Int) := by rw [show 2000 * (n : Int) = ((2000 * n : Nat) : Int) by omega]; exact w64 _ (by omega)
def lev (t r n : Nat) : Int := if 4 * t < n then 9 else if n ≤ 4 * r then 1 else 6
theorem j0_true (K : Nat) (l : List Int) (t : Int) : probe_Advise.j0 (K + 1) l t true = some (0, 0, false, false) := by
  rw [probe_Advise.j0]; exact if_pos rfl
theorem lev_eq (t r n : Nat) (X : Option (Int × Int × Bool × Bool)) (hX : X = if ((4 * t : Nat) : Int) < (n : Int) then some (8, 9, false, false) else if ((4 * r : Nat) : Int) ≥ (n : Int) then some (8, 1, false, false) else some (8, 6, false, false)) :
    X = some (8, lev t r n, false, false) := by
  subst hX
  unfold lev
  by_cases h1 : 4 * t < n
  · rw [if_pos (show ((4 * t : Nat) : Int) < (n : Int) by omega), if_pos h1]
  · rw [if_neg (show ¬ ((4 * t : Nat) : Int) < (n : Int) by omega), if_neg h1]
    by_cases h2 : n ≤ 4 * r
    · rw [if_pos (show ((4 * r : Nat) : Int) ≥ (n : Int) by omega), if_pos h2]
    · rw [if_neg (show ¬ ((4 * r : Nat) : Int) ≥ (n : Int) by omega), if_neg h2]
theorem j0_false (K : Nat) (hK : 1001 ≤ K) (l : List Int) (hn : l.length ≤ 250) : probe_Advise.j0 (K + 1) l (twN l : Nat) false = some (8, lev (twN l) (ru l (l.length - 1)) l.length, false, false) := by
  have ht : twN l ≤ 1000 := Nat.le_trans (twN_le l) (by omega)
  have hr : ru l (l.length - 1) ≤ 1000 := Nat.le_trans (ru_le l (l.length - 1)) (by omega)
  have hrun := runs_run l (by omega) K hK
  have h4 := w4 (twN l) ht
  have h4r := w4 (ru l (l.length - 1)) hr
  refine lev_eq _ _ _ _ ?_
  generalize twN l = t at *
  generalize ru l (l.length - 1) = r at *
  rw [probe_Advise.j0, if_neg (by decide), h4, hrun]
  rw [Option.bind_some]
  rw [h4r]
theorem rest_run (K : Nat) (hK : 1001 ≤ K) (l : List Int) (hn : l.length ≤ 250) (hT : duffelref40_Twins.f K l = some ((twN l : Nat) : Int)) : duffelref40_Advise.rest K l = some (8, lev (twN l) (ru l (l.length - 1)) l.length, false, false) := by
  have ht := twN_le l
  have hr := ru_le l (l.length - 1)
  unfold duffelref40_Advise.rest
  rw [rruns_run l (by omega) K hK]
  rw [Option.bind_some]
  rw [hT]
  rw [Option.bind_some]
  rw [w4 _ (by omega), w4 _ (by omega)]
  unfold lev
  congr 3
  by_cases h1 : 4 * twN l < l.length
  · rw [if_pos h1, if_pos (by omega)]
  · rw [if_neg h1, if_neg (by omega)]
    by_cases h2 : l.length ≤ 4 * ru l (l.length - 1)
    · rw [if_pos h2, if_pos (by omega)]
    · rw [if_neg h2, if_neg (by omega)]
theorem advise_eq (K : Nat) (hK : 5000 ≤ K) (l : List Int) (hb : Byt l) (hn : l.length ≤ 250) (hT : duffelref40_Twins.f K l = some ((twN l : Nat) : Int)) : ∃ V, probe_Advise.f K l = some V ∧ duffelref40_Advise.f K l = some V := by
  have ht := twN_le l
  obtain ⟨K, rfl⟩ : ∃ i, K = i + 1 := ⟨K - 1, by omega⟩
  unfold probe_Advise.f duffelref40_Advise.f
  rw [twins_run l (by omega)]
  rw [Option.bind_some]
  by_cases h1 : (l.length : Int) < 16
  · exact ⟨_, (if_pos h1).trans (j0_true K l _), if_pos h1⟩
  rw [bits_run l hb (by omega) _ (by omega), rbits_run l hb (by omega) _ (by omega)]
  rw [Option.bind_some, Option.bind_some]
  rw [w2000 _ (by omega), w8 _ (by omega), hT]
  rw [Option.bind_some]
  rw [w8 _ (by omega)]
  by_cases h2 : ((B l : Nat) : Int) > ((2000 * l.length : Nat) : Int)
  · by_cases h3 : ((8 * twN l : Nat) : Int) < (l.length : Int)
    · refine ⟨(0, 0, false, false), (if_neg h1).trans ((if_pos h2).trans ?_), (if_neg h1).trans ((if_pos h2).trans (if_pos h3))⟩
      rw [decide_eq_true h3]; exact j0_true K l _
    · refine ⟨_, (if_neg h1).trans ((if_pos h2).trans ?_), (if_neg h1).trans ((if_pos h2).trans ((if_neg h3).trans (rest_run _ (by omega) l hn hT)))⟩
      rw [decide_eq_false h3]; exact j0_false K (by omega) l hn
  · exact ⟨_, (if_neg h1).trans ((if_neg h2).trans (j0_false K (by omega) l hn)), (if_neg h1).trans ((if_neg h2).trans (rest_run _ (by omega) l hn hT))⟩
theorem ProbeAdvises : duffellaw40_ProbeAdvises.Pure := by
  intro l0 hl hcap hwf
  have hb : Byt (l0.take 250) := fun x hx => bounds_u8 (hwf x (List.mem_of_mem_take hx))
  have hn : (l0.take 250).length ≤ 250 := by rw [List.length_take]; omega
  obtain ⟨KT, hT⟩ := rtwins_ex (l0.take 250) (by omega)
  obtain ⟨K, hK, hK2⟩ : ∃ K, 5000 ≤ K ∧ KT ≤ K := ⟨KT + 5000, Nat.le_add_left _ _, Nat.le_add_right _ _⟩
  refine ⟨K, ?_⟩
  have hTK : duffelref40_Twins.f K (l0.take 250) = some ((twN (l0.take 250) : Nat) : Int) := at_rounds (duffelref40_Twins.mono (l0.take 250)) hK2 hT
  obtain ⟨V, h1, h2⟩ := advise_eq K hK (l0.take 250) hb hn hTK
  have hlv := lives_run K (Nat.le_trans (by decide) hK)
  clear hTK hT hwf hcap hl
  unfold duffellaw40_ProbeAdvises.f
  rw [show MyCut.cut_u8.f l0 250 = some (l0.take 250) from MyCut.cut_u8.nat l0 250]
  rw [Option.bind_some]
  rw [h1, h2]
  rw [Option.bind_some, Option.bind_some]
  rw [hlv]
  simp only [Option.bind_some, beq_self_eq_true, Bool.and_self, if_true]
end Go.Proofs.Ytbbmcfbfkpnelaa.Pure
