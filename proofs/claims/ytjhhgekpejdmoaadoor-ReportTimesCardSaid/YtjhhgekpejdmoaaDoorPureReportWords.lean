/- ReportWords: the plain law. -/
import Derived.Test.YtjhhgekpejdmoaaDoorRBx3
import Derived.Test.YtjhhgekpejdmoaaDoorRepWords0
import Derived.Test.YtjhhgekpejdmoaaDoorPureReportRatios
namespace Go.Proofs.YtjhhgekpejdmoaaDoor.Pure
open Go RB Go.RowKit
open Go.Proofs.YtjhhgekpejdmoaaDoor.Rp
theorem lives_300 : duffellaw34_lives.f 300 = some true := by
  have hd : Lib.itoa 1234567 = [49, 50, 51, 52, 53, 54, 55] := by
    simp [Lib.itoa, dec_more, dec_one]
  unfold duffellaw34_lives.f report_Group.f strconv_Itoa.f
  rw [if_pos (by decide), hd]
  decide +kernel
theorem short_ok (s : ByteArray) : ∃ t, duffelref01_Short.f s 60 = some t ∧ t.size ≤ 60 := by
  unfold duffelref01_Short.f
  by_cases c : (s.size : Int) > 60
  · rw [if_pos c, if_pos (by omega), if_pos (by omega)]
    exact ⟨_, rfl, by rw [ByteArray.size_extract]; omega⟩
  · rw [if_neg c]
    exact ⟨s, rfl, by omega⟩
theorem ratio_both (a b : Int) : ∃ v, report_Ratio.f a b = some v ∧ duffelref34_Ratio.f a b = some v := by
  unfold report_Ratio.f duffelref34_Ratio.f
  by_cases c1 : a < 1
  · exact ⟨0, by rw [if_pos c1], by rw [if_pos c1]⟩
  rw [if_neg c1, if_neg c1]
  by_cases c2 : a > 1099511627776
  · exact ⟨0, by rw [if_pos c2], by rw [if_pos c2]⟩
  rw [if_neg c2, if_neg c2]
  by_cases c3 : b < 0
  · exact ⟨0, by rw [if_pos c3], by rw [if_pos c3]⟩
  rw [if_neg c3, if_neg c3]
  by_cases c4 : b ≥ a
  · exact ⟨0, by rw [if_pos c4], by rw [if_pos c4]⟩
  rw [if_neg c4, if_neg c4, if_neg (by omega), if_neg (by omega), Int.mul_comm 100]
  exact ⟨_, rfl, rfl⟩
theorem method_both (k : Nat) (m : Int) : ∃ v, report_MethodName.f (k + 1) m = some v ∧ duffelref34_Name.f m = some v := by
  by_cases h0 : m < 0
  · refine ⟨(⟨#[85, 110, 107, 110, 111, 119, 110]⟩ : ByteArray), ?_, ?_⟩
    · unfold report_MethodName.f
      rw [if_neg (by omega), if_neg (by omega), if_neg (by omega), report_MethodName.j0, if_neg (by simp), if_neg (by omega), if_neg (by omega), if_neg (by omega)]
    · unfold duffelref34_Name.f
      rw [Option.bind_some, if_pos h0]
  by_cases h9 : m > 9
  · refine ⟨(⟨#[85, 110, 107, 110, 111, 119, 110]⟩ : ByteArray), ?_, ?_⟩
    · unfold report_MethodName.f
      rw [if_neg (by omega), if_neg (by omega), if_pos (by omega), report_MethodName.j0, if_neg (by simp; omega), if_neg (by omega), if_neg (by omega), if_neg (by omega)]
    · unfold duffelref34_Name.f
      rw [Option.bind_some, if_neg h0, if_pos h9]
  obtain ⟨n, rfl⟩ := Int.eq_ofNat_of_zero_le (show 0 ≤ m by omega)
  have hn : n < 10 := by omega
  clear h0 h9
  have hi : ∀ j : Nat, 1 ≤ j → j ≤ 4 → Lib.itoa (j : Int) = [UInt8.ofNat (48 + j)] := by
    intro j h1 h2
    unfold Lib.itoa
    rw [if_neg (by omega), Int.toNat_natCast, dec_one j (by omega)]
  have hred : ∀ j : Nat, 2 ≤ j → j ≤ 5 → report_MethodName.f (k + 1) (j : Int) = some (bx ([82, 101, 100, 117, 99, 101, 100, 45] ++ [UInt8.ofNat (48 + (j - 1))])) := by
    intro j h1 h2
    unfold report_MethodName.f
    have e : wrap64 ((j : Int) - 1) = ((j - 1 : Nat) : Int) := by rw [wsi _ (by omega) (by omega)]; omega
    rw [if_neg (by omega), if_neg (by omega), if_pos (by omega), report_MethodName.j0, if_pos (by simp; omega), e, itoa_ok _ (by omega) (by omega), hi _ (by omega) (by omega), Option.bind_some, if_pos (by rw [bx_size]; simp), show (⟨#[82, 101, 100, 117, 99, 101, 100, 45]⟩ : ByteArray) = bx [82, 101, 100, 117, 99, 101, 100, 45] from rfl, bx_app]
  have hs : ∀ j : Nat, 6 ≤ j → report_MethodName.f (k + 1) (j : Int) = (if (j : Int) = 6 then (some (⟨#[73, 109, 112, 108, 111, 100, 101, 100]⟩ : ByteArray)) else (if (j : Int) = 8 then (some (⟨#[68, 101, 102, 108, 97, 116, 101, 100]⟩ : ByteArray)) else (if (j : Int) = 9 then (some (⟨#[68, 101, 102, 108, 97, 116, 101, 54, 52]⟩ : ByteArray)) else (some (⟨#[85, 110, 107, 110, 111, 119, 110]⟩ : ByteArray))))) := by
    intro j h1
    unfold report_MethodName.f
    rw [if_neg (by omega), if_neg (by omega), if_pos (by omega), report_MethodName.j0, if_neg (by simp; omega)]
  match n, hn with
  | 0, _ => exact ⟨_, rfl, rfl⟩
  | 1, _ => exact ⟨_, rfl, rfl⟩
  | 2, _ => exact ⟨_, hred 2 (by omega) (by omega), rfl⟩
  | 3, _ => exact ⟨_, hred 3 (by omega) (by omega), rfl⟩
  | 4, _ => exact ⟨_, hred 4 (by omega) (by omega), rfl⟩
  | 5, _ => exact ⟨_, hred 5 (by omega) (by omega), rfl⟩
  | 6, _ => exact ⟨_, hs 6 (by omega), rfl⟩
  | 7, _ => exact ⟨_, hs 7 (by omega), rfl⟩
  | 8, _ => exact ⟨_, hs 8 (by omega), rfl⟩
  | 9, _ => exact ⟨_, hs 9 (by omega), rfl⟩
  | n + 10, h => omega
theorem ReportWords : duffellaw34_ReportWords.Pure := by
  intro a0 a1 a2 a3 a4 _ _ _ h3 _
  have b3 : -9223372036854775808 ≤ a3 ∧ a3 ≤ 9223372036854775807 := by simpa [Lit.wf, IntKind.min, IntKind.max, IntKind.signed, IntKind.bits] using h3
  refine ⟨300, ?_⟩
  obtain ⟨s, e1, s1⟩ := short_ok a4
  obtain ⟨n, e2, n1, n2⟩ := within_ok a3 (-5) 200 (by omega)
  obtain ⟨m, e3, e4⟩ := method_both 299 a0
  obtain ⟨v, e5, e6⟩ := ratio_both a1 a2
  have e7 := group_ok 298 a3 (by omega) b3.1 b3.2
  have e8 := rgroup_ok 297 a3 (by omega) (by omega) b3.1 b3.2
  have e9 := left_ok s n s1 n1 n2
  have e10 : duffelref34_Left.f 300 s n = _ := rleft_loop _ 300 s n (by omega) n2 rfl (by omega)
  have e11 := right_ok s n s1 n1 n2
  have e12 : duffelref34_Right.f 300 s n = _ := rright_loop _ 300 s n (by omega) n2 rfl (by omega)
  unfold duffellaw34_ReportWords.f
  rw [e1, Option.bind_some, e2, Option.bind_some, e3, Option.bind_some, e4, Option.bind_some, if_pos rfl, e5, Option.bind_some, e6, Option.bind_some, if_pos rfl, e7, Option.bind_some, e8, Option.bind_some, if_pos rfl, e9, Option.bind_some, e10, Option.bind_some, if_pos rfl, e11, Option.bind_some, e12, Option.bind_some, if_pos rfl, lives_300]
  rfl
end Go.Proofs.YtjhhgekpejdmoaaDoor.Pure
