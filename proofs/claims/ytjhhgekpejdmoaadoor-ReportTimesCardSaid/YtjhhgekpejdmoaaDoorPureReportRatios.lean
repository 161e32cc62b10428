/- ReportRatios: the plain law. -/
import Derived.Test.YtjhhgekpejdmoaaDoorRBx1
import Derived.Test.YtjhhgekpejdmoaaDoorRepPlain
namespace Go.Proofs.YtjhhgekpejdmoaaDoor.Pure
open Go RB Go.RowKit
open Go.Proofs.YtjhhgekpejdmoaaDoor.Rp
theorem lives_ok : ∃ k, duffellaw34_lives.f k = some true := by
  refine ⟨4, ?_⟩
  have hd : Lib.itoa 1234567 = [49, 50, 51, 52, 53, 54, 55] := by
    simp [Lib.itoa, dec_more, dec_one]
  unfold duffellaw34_lives.f report_Group.f strconv_Itoa.f
  rw [if_pos (by decide), hd]
  decide +kernel
theorem within_ok (x lo hi : Int) (h : lo ≤ hi) : ∃ v, duffelref01_Within.f x lo hi = some v ∧ lo ≤ v ∧ v ≤ hi := by
  unfold duffelref01_Within.f
  by_cases c : x < lo
  · exact ⟨lo, if_pos c, by omega, h⟩
  · rw [if_neg c]
    by_cases c2 : x > hi
    · exact ⟨hi, if_pos c2, h, by omega⟩
    · exact ⟨x, if_neg c2, by omega, by omega⟩
theorem ws (x : Int) (h : -9223372036854775808 ≤ x) (h2 : x ≤ 9223372036854775807) : wrap64 x = x := by
  unfold wrap64; first | omega | (simp only []; omega)
theorem ratio_ok (s p : Int) (h1 : 1 ≤ s) (h2 : s ≤ 1099511627776) (h3 : 0 ≤ p) (h4 : p < s) : report_Ratio.f s p = some ((100 * (s - p) + s / 2) / s) := by
  unfold report_Ratio.f
  rw [if_neg (by omega), if_neg (by omega), if_neg (by omega), if_neg (by omega), if_neg (by omega)]
  have e1 : Int.tdiv s 2 = s / 2 := Int.tdiv_eq_ediv_of_nonneg (by omega)
  have b1 : 0 ≤ 100 * (s - p) + s / 2 := by omega
  have b2 : (100 * (s - p) + s / 2) / s ≤ 100 * (s - p) + s / 2 := Int.ediv_le_self _ b1
  have b3 : 0 ≤ (100 * (s - p) + s / 2) / s := Int.ediv_nonneg b1 (by omega)
  have e2 : Int.tdiv (100 * (s - p) + s / 2) s = (100 * (s - p) + s / 2) / s := Int.tdiv_eq_ediv_of_nonneg b1
  rw [ws (s - p) (by omega) (by omega), ws (100 * (s - p)) (by omega) (by omega), e1, ws (s / 2) (by omega) (by omega), ws (100 * (s - p) + s / 2) (by omega) (by omega), e2, ws _ (by omega) (by omega)]
theorem ratio_all (s : Int) (h1 : 1 ≤ s) (h2 : s ≤ 1099511627776) : report_Ratio.f s s = some 0 := by
  unfold report_Ratio.f
  rw [if_neg (by omega), if_neg (by omega), if_neg (by omega), if_pos (by omega)]
theorem ratio_any (s p : Int) (h1 : 1 ≤ s) (h2 : s ≤ 1099511627776) (h3 : 0 ≤ p) (h4 : p ≤ s) : report_Ratio.f s p = some ((100 * (s - p) + s / 2) / s) := by
  rcases Int.lt_or_eq_of_le h4 with h | h
  · exact ratio_ok s p h1 h2 h3 h
  · subst h
    rw [ratio_all p h1 h2]
    congr 1
    rw [show 100 * (p - p) + p / 2 = p / 2 from by omega]
    exact (Int.ediv_eq_zero_of_lt (by omega) (by omega)).symm
theorem ratio_nil (s : Int) (h1 : 1 ≤ s) : (100 * (s - 0) + s / 2) / s = 100 := by
  rw [show 100 * (s - 0) + s / 2 = s / 2 + s * 100 from by omega, Int.add_mul_ediv_left _ _ (by omega), Int.ediv_eq_zero_of_lt (by omega) (by omega)]
  rfl
theorem ReportRatios : duffellaw34_ReportRatios.Pure := by
  intro a0 a1 a2 _ _ _
  obtain ⟨k, hk⟩ := lives_ok
  refine ⟨k, ?_⟩
  obtain ⟨s, e1, s1, s2⟩ := within_ok a0 1 1099511627776 (by omega)
  obtain ⟨a, e2, a1', a2'⟩ := within_ok a1 0 s (by omega)
  obtain ⟨b, e3, b1', b2'⟩ := within_ok a2 0 a (by omega)
  have m1 : 0 ≤ (100 * (s - a) + s / 2) / s := Int.ediv_nonneg (by omega) (by omega)
  have m2 : (100 * (s - a) + s / 2) / s ≤ (100 * (s - b) + s / 2) / s := Int.ediv_le_ediv (by omega) (by omega)
  have m3 : (100 * (s - b) + s / 2) / s ≤ (100 * (s - 0) + s / 2) / s := Int.ediv_le_ediv (by omega) (by omega)
  rw [ratio_nil s s1] at m3
  unfold duffellaw34_ReportRatios.f
  rw [e1, Option.bind_some, e2, Option.bind_some, e3, Option.bind_some, ratio_any s a s1 s2 a1' (by omega), Option.bind_some, ratio_any s b s1 s2 b1' (by omega), Option.bind_some, ratio_any s 0 s1 s2 (by omega) (by omega), ratio_all s s1 s2, ratio_nil s s1]
  rw [if_pos (by omega), if_pos (by omega), if_pos (by omega), Option.bind_some, if_pos rfl, Option.bind_some, if_pos rfl, hk]
  rfl
end Go.Proofs.YtjhhgekpejdmoaaDoor.Pure
