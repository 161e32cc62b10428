/- RecordFinds, of what the printed functions compute: the program's place of the end is the reference's. -/
import Derived.Test.YtpmiofjhgmdghaaRFEnd
import Derived.OpenShut
namespace Go.Proofs.Ytpmiofjhgmdghaa.Pure
open Go.RowKit Go.Proofs.Ytpmiofjhgmdghaa.RF Go.Proofs.YtpmiofjhgmdghaaW.PrintWords Go.Proofs.YtpmiofjhgmdghaaW.PrintLast Go.Proofs.YtpmiofjhgmdghaaW.PrintMore Go.Proofs.Ytpmiofjhgmdghaa.Fld Go.Proofs.Ytpmiofjhgmdghaa.RFR
theorem at_run (l : List Int) (hb : Byt8 l) (i : Nat) (hi : i + 2 ≤ l.length) (hl : l.length ≤ 1000) (K : Nat) (hK : 5 ≤ K) : duffelref24_at.f K l (i : Int) = some (num ((l.drop i).take 2)) := by
  have e : wrap64 ((i : Int) + 2) = ((i + 2 : Nat) : Int) := w64i _ (by omega) (by omega)
  have hn := num_bound ((l.drop i).take 2) ((hb.drop i).take 2)
  have hl2 : ((l.drop i).take 2).length = 2 := by rw [List.length_take, List.length_drop]; omega
  rw [hl2] at hn
  have hw : wrap64 (num ((l.drop i).take 2)) = num ((l.drop i).take 2) := by
    have h2 : num ((l.drop i).take 2) < 65536 := hn.2
    exact w64i _ (by clear e; omega) (by clear e; omega)
  unfold duffelref24_at.f
  rw [e, Int.toNat_natCast, Int.toNat_natCast, take_drop, num_run _ ((hb.drop i).take 2) (by rw [hl2]; decide) K hK]
  simp only [Option.bind_some]
  rw [hw]
  clear e hw hn hl2
  exact (if_pos (by omega)).trans ((if_pos (by omega)).trans (if_pos (by omega)))
theorem wr_i (t : Nat) (h : t ≤ 100000) : wrap64 ((t : Int) + 22) = ((t + 22 : Nat) : Int) := w64i _ (by omega) (by omega)
theorem wr_j (t : Nat) (h : t ≤ 100000) : wrap64 ((t : Int) + 20) = ((t + 20 : Nat) : Int) := w64i _ (by omega) (by omega)
theorem wr_k (t : Nat) (h : t ≤ 100000) : wrap64 ((t : Int) + 1) = ((t + 1 : Nat) : Int) := w64i _ (by omega) (by omega)
theorem wr_l (t : Nat) (z : Int) (h : t ≤ 100000) (h0 : 0 ≤ z) (h1 : z < 65536) : wrap64 (((t + 22 : Nat) : Int) + z) = (t : Int) + 22 + z := by rw [w64i _ (by omega) (by omega)]; omega
theorem rfind_l0 (l : List Int) (hb : Byt8 l) (hl : l.length ≤ 1000) (d : Nat) : ∀ (i K : Nat), (i + d = l.length - 21 ∨ (d = 0 ∧ l.length < 22 ∧ i = 0)) → d + 10 ≤ K →
    duffelref24_FindEnd.l0 K l (lastB (GoodB l) i) (i : Int) = some (lastB (GoodB l) (l.length - 21)) := by
  induction d with
  | zero =>
    intro i K hi hK
    obtain ⟨K, rfl⟩ : ∃ j, K = j + 1 := ⟨K - 1, by omega⟩
    rw [duffelref24_FindEnd.l0, wr_i i (by omega)]
    refine (if_neg (by omega)).trans ?_
    rw [show l.length - 21 = i by omega]
  | succ d ih =>
    intro i K hi hK
    obtain ⟨K, rfl⟩ : ∃ j, K = j + 1 := ⟨K - 1, by omega⟩
    have hX := ih (i + 1) K (by omega) (by omega)
    have hn := num_bound ((l.drop (i + 20)).take 2) ((hb.drop (i + 20)).take 2)
    have hl2 : ((l.drop (i + 20)).take 2).length = 2 := by rw [List.length_take, List.length_drop]; omega
    rw [hl2] at hn
    rw [duffelref24_FindEnd.l0, wr_i i (by omega), wr_e i (by omega), wr_j i (by omega), wr_k i (by omega), Int.toNat_natCast, Int.toNat_natCast, take_drop,
      num_run _ ((hb.drop i).take 4) (by rw [List.length_take]; omega) K (by omega), at_run l hb (i + 20) (by omega) hl K (by omega)]
    refine (if_pos (by omega)).trans ((if_pos (by omega)).trans ((if_pos (by omega)).trans ((if_pos (by omega)).trans ?_)))
    simp only [Option.bind_some]
    rw [wr_l i _ (by omega) hn.1 hn.2]
    rw [show lastB (GoodB l) (i + 1) = if GoodB l i = true then (i : Int) else lastB (GoodB l) i from rfl] at hX
    by_cases h4 : num ((l.drop i).take 4) = 101010256
    · refine (if_pos h4).trans ?_
      by_cases h2 : (i : Int) + 22 + num ((l.drop (i + 20)).take 2) = (l.length : Int)
      · refine (if_pos h2).trans ?_
        rw [if_pos (by unfold GoodB; exact decide_eq_true ⟨by omega, h4, h2⟩)] at hX
        exact hX
      · refine (if_neg h2).trans ?_
        rw [if_neg (by unfold GoodB; rw [decide_eq_true_eq]; exact fun h => h2 h.2.2)] at hX
        exact hX
    · refine (if_neg h4).trans ?_
      rw [if_neg (by unfold GoodB; rw [decide_eq_true_eq]; exact fun h => h4 h.2.1)] at hX
      exact hX
theorem rfindEnd_run (l : List Int) (hb : Byt8 l) (hl : l.length ≤ 1000) (K : Nat) (hK : l.length + 10 ≤ K) : duffelref24_FindEnd.f K l = some (lastB (GoodB l) (l.length - 21)) := by
  unfold duffelref24_FindEnd.f
  exact rfind_l0 l hb hl (l.length - 21) 0 K (by omega) (by omega)
theorem lives_run (K : Nat) (hK : 100 ≤ K) : duffellaw24_lives.f K = some true := by
  unfold duffellaw24_lives.f
  rw [findEnd_run end0 (by unfold Byt8; decide) (by decide) K (by simp [end0]; omega)]
  simp only [Option.bind_some]
  rw [show lastB (GoodB end0) (end0.length - 21) = 0 by decide +kernel]
  exact if_pos rfl
theorem RecordFinds : duffellaw24_RecordFinds.Pure := by
  intro l0 hl hcap hwf
  have hb : Byt8 (l0.take 400) := fun x hx => bounds_u8 (hwf x (List.mem_of_mem_take hx))
  have hn : (l0.take 400).length ≤ 400 := by rw [List.length_take]; omega
  refine ⟨2000, ?_⟩
  generalize hK : (2000 : Nat) = K
  unfold duffellaw24_RecordFinds.f
  rw [show MyCut.cut_u8.f l0 400 = some (l0.take 400) from MyCut.cut_u8.nat l0 400]
  simp only [Option.bind_some]
  rw [findEnd_run _ hb (by omega) K (by omega), rfindEnd_run _ hb (by omega) K (by omega), lives_run K (by omega)]
  simp only [Option.bind_some]
  exact if_pos (by trivial)
end Go.Proofs.Ytpmiofjhgmdghaa.Pure
