/- ReportTimes: the plain law. -/
import Derived.Test.YtjhhgekpejdmoaaDoorRBx9
import Derived.Test.YtjhhgekpejdmoaaDoorRepWords0
import Derived.Test.YtjhhgekpejdmoaaDoorPureReportWords
import Derived.Lib.EndianBits
namespace Go.Proofs.YtjhhgekpejdmoaaDoor.Pure
open Go RB Go.RowKit
open Go.Proofs.YtjhhgekpejdmoaaDoorW.PrintWords Go.Proofs.YtjhhgekpejdmoaaDoorW.PrintLast
open Go.Proofs.YtjhhgekpejdmoaaDoor.Rp
def mdays (y m : Int) : Int := if m = 2 then (if y % 4 = 0 ∧ y ≠ 2100 then 29 else 28) else if m = 4 ∨ m = 6 ∨ m = 9 ∨ m = 11 then 30 else 31
def okStamp (y m d h mi s : Int) : Prop := 1980 ≤ y ∧ y ≤ 2107 ∧ 1 ≤ m ∧ m ≤ 12 ∧ 1 ≤ d ∧ d ≤ mdays y m ∧ 0 ≤ h ∧ h ≤ 23 ∧ 0 ≤ mi ∧ mi ≤ 59 ∧ 0 ≤ s ∧ s ≤ 58 ∧ s % 2 = 0
instance (y m d h mi s : Int) : Decidable (okStamp y m d h mi s) := by unfold okStamp; infer_instance
theorem wraps_i64 (j : Nat) (hj : j ≤ 62) (n : Int) (h0 : 0 ≤ n) (h1 : n < 2 ^ j) : IntKind.i64.wrap n = n := by
  have hp : (2 : Int) ^ j ≤ 2 ^ 62 := by
    have := Nat.pow_le_pow_right (show 0 < 2 by decide) hj
    exact_mod_cast this
  rw [IntKind.wrap_i64]; omega

theorem mask (i j : Nat) (hi : i ≤ j) (hj : j ≤ 62) (x : Int) (h0 : 0 ≤ x) (h1 : x < 2 ^ j) : Go.bits .and .i64 x (2 ^ i - 1) = x % 2 ^ i :=
  bits_mask .i64 j (by show j ≤ 64; omega) (fun n => wraps_i64 j hj n) i hi x h0 h1

theorem days_eq (y m : Int) (hy : 0 ≤ y) : dos_days.f y m = some (mdays y m) := by
  unfold dos_days.f dos_leap.f mdays
  rw [Int.tmod_eq_emod_of_nonneg hy]
  by_cases h2 : m = 2
  · rw [if_pos h2, if_pos h2]
    by_cases h4 : y % 4 = 0
    · by_cases h5 : y = 2100
      · simp [h5]
      · simp [h4, h5]
    · simp [h4]
  · rw [if_neg h2, if_neg h2]
    by_cases a : m = 4
    · simp [a]
    by_cases b : m = 6
    · simp [b]
    by_cases c : m = 9
    · simp [c]
    by_cases d : m = 11
    · simp [d]
    simp [a, b, c, d]

theorem check_eq (k : Nat) (y m d h mi s : Int) : dos_Check.f (k + 2) y m d h mi s = some (if okStamp y m d h mi s then 0 else 17) := by
  have no : ∀ {p : Prop} [Decidable p], ¬ p → some (17 : Int) = some (if p then 0 else 17) := fun h => by rw [if_neg h]
  unfold dos_Check.f
  by_cases c1 : y < 1980
  · rw [if_pos c1]; simp only [dos_Check.j0, if_true]; exact no (by unfold okStamp; omega)
  rw [if_neg c1]
  by_cases c2 : y > 2107
  · rw [if_pos c2]; simp only [dos_Check.j0, if_true]; exact no (by unfold okStamp; omega)
  rw [if_neg c2]
  by_cases c3 : m < 1
  · rw [if_pos c3]; simp only [dos_Check.j0, if_true]; exact no (by unfold okStamp; omega)
  rw [if_neg c3]
  simp only [dos_Check.j0]
  by_cases c4 : m > 12
  · rw [if_pos (by simpa using c4)]; exact no (by unfold okStamp; omega)
  rw [if_neg (by simpa using c4)]
  by_cases c5 : d < 1
  · rw [if_pos c5]; simp only [dos_Check.j1, if_true]; exact no (by unfold okStamp; omega)
  rw [if_neg c5, days_eq y m (by omega)]
  simp only [Option.bind_some, dos_Check.j1]
  by_cases c6 : d > mdays y m
  · rw [if_pos (by simpa using c6)]; exact no (by unfold okStamp; omega)
  rw [if_neg (by simpa using c6)]
  by_cases c7 : h < 0
  · rw [if_pos c7]; exact no (by unfold okStamp; omega)
  rw [if_neg c7]
  by_cases c8 : h > 23
  · rw [if_pos c8]; exact no (by unfold okStamp; omega)
  rw [if_neg c8]
  by_cases c9 : mi < 0
  · rw [if_pos c9]; exact no (by unfold okStamp; omega)
  rw [if_neg c9]
  by_cases c10 : mi > 59
  · rw [if_pos c10]; exact no (by unfold okStamp; omega)
  rw [if_neg c10]
  by_cases c11 : s < 0
  · rw [if_pos c11]; exact no (by unfold okStamp; omega)
  rw [if_neg c11]
  by_cases c12 : s > 58
  · rw [if_pos c12]; exact no (by unfold okStamp; omega)
  rw [if_neg c12]
  have hm : Go.bits .and .i64 s 1 = s % 2 := mask 1 16 (by decide) (by decide) s (by omega) (by omega)
  rw [hm]
  by_cases c13 : s % 2 = 1
  · rw [if_pos c13]; exact no (by unfold okStamp; omega)
  rw [if_neg c13, if_pos (by unfold okStamp; omega)]

theorem mdays_le (y m : Int) : 28 ≤ mdays y m ∧ mdays y m ≤ 31 := by
  unfold mdays; split
  · split <;> omega
  · split <;> omega
def upto (y : Int) : Int := 365 * (y - 1980) + (y - 1980 + 3) / 4 - (if y > 2100 then 1 else 0)
theorem month_eq (y m : Int) (hy : 0 ≤ y) (h1 : 1 ≤ m) (h2 : m ≤ 12) : duffelref22_Month.f y m = some (mdays y m) := by
  unfold duffelref22_Month.f mdays
  have ew : wrap64 (m - 1) = m - 1 := wsi _ (by omega) (by omega)
  rw [Option.bind_some, Int.tmod_eq_emod_of_nonneg hy, ew]
  obtain rfl | rfl | rfl | rfl | rfl | rfl | rfl | rfl | rfl | rfl | rfl | rfl : m = 1 ∨ m = 2 ∨ m = 3 ∨ m = 4 ∨ m = 5 ∨ m = 6 ∨ m = 7 ∨ m = 8 ∨ m = 9 ∨ m = 10 ∨ m = 11 ∨ m = 12 := by omega
  all_goals first
    | rfl
    | (rw [if_pos rfl, if_pos rfl]
       by_cases h4 : y % 4 = 0
       · rw [if_pos h4]
         by_cases h5 : y = 2100
         · rw [if_pos h5, if_pos (by omega), if_pos (by simp), show (if y % 4 = 0 ∧ y ≠ 2100 then (29 : Int) else 28) = 28 from if_neg (by omega)]; rfl
         · rw [if_neg h5, show (if y % 4 = 0 ∧ y ≠ 2100 then (29 : Int) else 28) = 29 from if_pos (by omega)]
       · rw [if_neg h4, if_pos (by omega), if_pos (by simp), show (if y % 4 = 0 ∧ y ≠ 2100 then (29 : Int) else 28) = 28 from if_neg (by omega)]; rfl)
theorem is_eq (k : Nat) (y m d h mi s : Int) : duffelref22_Is.f (k + 1) y m d h mi s = some (decide (okStamp y m d h mi s)) := by
  have no : ∀ {p : Prop} [Decidable p], ¬ p → some false = some (decide p) := fun h => by rw [decide_eq_false h]
  unfold duffelref22_Is.f
  by_cases c1 : y < 1980
  · rw [if_pos c1]; simp only [duffelref22_Is.j0, if_true]; exact no (by unfold okStamp; omega)
  rw [if_neg c1]
  by_cases c2 : y > 2107
  · rw [if_pos c2]; simp only [duffelref22_Is.j0, if_true]; exact no (by unfold okStamp; omega)
  rw [if_neg c2]
  by_cases c3 : m < 1
  · rw [if_pos c3]; simp only [duffelref22_Is.j0, if_true]; exact no (by unfold okStamp; omega)
  rw [if_neg c3]
  simp only [duffelref22_Is.j0]
  by_cases c4 : m > 12
  · rw [if_pos (by simpa using c4)]; exact no (by unfold okStamp; omega)
  rw [if_neg (by simpa using c4)]
  by_cases c5 : d < 1
  · rw [if_pos c5]; exact no (by unfold okStamp; omega)
  rw [if_neg c5, month_eq y m (by omega) (by omega) (by omega), Option.bind_some]
  by_cases c6 : d > mdays y m
  · rw [if_pos c6]; exact no (by unfold okStamp; omega)
  rw [if_neg c6]
  by_cases c7 : h < 0
  · rw [if_neg (by omega)]; exact no (by unfold okStamp; omega)
  rw [if_pos (by omega)]
  by_cases c8 : h > 23
  · rw [if_neg (by omega)]; exact no (by unfold okStamp; omega)
  rw [if_pos (by omega)]
  by_cases c9 : mi < 0
  · rw [if_neg (by omega)]; exact no (by unfold okStamp; omega)
  rw [if_pos (by omega)]
  by_cases c10 : mi > 59
  · rw [if_neg (by omega)]; exact no (by unfold okStamp; omega)
  rw [if_pos (by omega)]
  by_cases c11 : s < 0
  · rw [if_neg (by omega)]; exact no (by unfold okStamp; omega)
  rw [if_pos (by omega)]
  by_cases c12 : s > 58
  · rw [if_neg (by omega)]; exact no (by unfold okStamp; omega)
  rw [if_pos (by omega), Int.tmod_eq_emod_of_nonneg (by omega)]
  by_cases c13 : s % 2 = 0
  · rw [decide_eq_true (by unfold okStamp; omega), c13]; rfl
  · have e : (s % 2 == 0) = false := beq_eq_false_iff_ne.mpr c13
    rw [e]; exact no (by unfold okStamp; omega)
def twoL (n : Nat) : List UInt8 := [dg (n / 10 % 10), dg (n % 10)]
theorem two_ok (n : Int) (h0 : 0 ≤ n) (h1 : n ≤ 100000) : report_two.f n = some (bx (twoL n.toNat)) := by
  unfold report_two.f
  have e : Int.tmod n 100 = ((n.toNat % 100 : Nat) : Int) := by rw [Int.tmod_eq_emod_of_nonneg h0]; omega
  rw [e, itoa_ok _ (by omega) (by omega), Option.bind_some]
  have ei : Lib.itoa ((n.toNat % 100 : Nat) : Int) = Lib.decDigits (n.toNat % 100) := by
    unfold Lib.itoa
    rw [if_neg (by omega), Int.toNat_natCast]
  rw [ei]
  by_cases c : n.toNat % 100 < 10
  · rw [dec_one _ c, bx_size, if_pos (by simp), if_pos (by simp), show (⟨#[48]⟩ : ByteArray) = bx [48] from rfl, bx_app]
    unfold twoL
    rw [show n.toNat / 10 % 10 = 0 from by omega, show n.toNat % 100 = n.toNat % 10 from by omega]
    rfl
  · rw [dec_two _ (by omega) (by omega), bx_size, if_neg (by simp)]
    unfold twoL dg
    rw [show n.toNat % 100 / 10 = n.toNat / 10 % 10 from by omega, show n.toNat % 100 % 10 = n.toNat % 10 from by omega]
theorem rtwo_ok (n : Int) (h0 : 0 ≤ n) (h1 : n ≤ 100000) : duffelref34_two.f n = some (bx (twoL n.toNat)) := by
  unfold duffelref34_two.f
  have e1 : Int.tmod (wrap64 (Int.tdiv n 10)) 10 = ((n.toNat / 10 % 10 : Nat) : Int) := by
    rw [Int.tdiv_eq_ediv_of_nonneg h0, wsi _ (by omega) (by omega), Int.tmod_eq_emod_of_nonneg (by omega)]; omega
  have e2 : Int.tmod n 10 = ((n.toNat % 10 : Nat) : Int) := by rw [Int.tmod_eq_emod_of_nonneg h0]; omega
  have w1 : wrap64 (((n.toNat / 10 % 10 : Nat) : Int) + 1) = ((n.toNat / 10 % 10 + 1 : Nat) : Int) := by rw [wsi _ (by omega) (by omega)]; omega
  have w2 : wrap64 (((n.toNat % 10 : Nat) : Int) + 1) = ((n.toNat % 10 + 1 : Nat) : Int) := by rw [wsi _ (by omega) (by omega)]; omega
  rw [e1, e2, w1, w2, if_pos (by omega), if_pos (by omega), if_pos (by omega), if_pos (by omega), if_pos (by omega), if_pos (by omega), Int.toNat_natCast, Int.toNat_natCast, Int.toNat_natCast, Int.toNat_natCast, dig_ext _ (by omega), dig_ext _ (by omega), bx_app, bx_size, bx_size, if_pos (by simp)]
  rfl
theorem date_both (k : Nat) (y m d h mi s : Int) : ∃ v, report_Date.f (k + 2) y m d h mi s = some v ∧ duffelref34_Date.f (k + 2) y m d h mi s = some v := by
  unfold report_Date.f duffelref34_Date.f
  rw [check_eq k, is_eq (k + 1), Option.bind_some, Option.bind_some]
  by_cases ok : okStamp y m d h mi s
  · have hm := mdays_le y m
    have o := ok
    unfold okStamp at o
    rw [if_pos ok, if_pos rfl, decide_eq_true ok, if_pos rfl]
    rw [two_ok m (by omega) (by omega), rtwo_ok m (by omega) (by omega), two_ok d (by omega) (by omega), rtwo_ok d (by omega) (by omega), two_ok y (by omega) (by omega), rtwo_ok y (by omega) (by omega)]
    simp only [Option.bind_some, show (⟨#[45]⟩ : ByteArray) = bx [45] from rfl, bx_app, bx_size, List.length_append]
    simp only [twoL, List.length_cons, List.length_nil, Nat.reduceAdd, Nat.reduceLeDiff, ↓reduceIte]
    exact ⟨_, rfl, rfl⟩
  · rw [if_neg ok, if_neg (by omega), decide_eq_false ok, if_neg (by simp)]
    exact ⟨_, rfl, rfl⟩
theorem time_both (k : Nat) (y m d h mi s : Int) : ∃ v, report_Time.f (k + 2) y m d h mi s = some v ∧ duffelref34_Time.f (k + 2) y m d h mi s = some v := by
  unfold report_Time.f duffelref34_Time.f
  rw [check_eq k, is_eq (k + 1), Option.bind_some, Option.bind_some]
  by_cases ok : okStamp y m d h mi s
  · have o := ok
    unfold okStamp at o
    rw [if_pos ok, if_pos rfl, decide_eq_true ok, if_pos rfl, Option.bind_some]
    have e : Int.tmod h 12 = h % 12 := Int.tmod_eq_emod_of_nonneg (by omega)
    have hrd : ∀ j : Int, 0 ≤ j → j < 12 → rd [12, 1, 2, 3, 4, 5, 6, 7, 8, 9, 10, 11] j = if j = 0 then 12 else j := by
      intro j j0 j1
      obtain rfl | rfl | rfl | rfl | rfl | rfl | rfl | rfl | rfl | rfl | rfl | rfl : j = 0 ∨ j = 1 ∨ j = 2 ∨ j = 3 ∨ j = 4 ∨ j = 5 ∨ j = 6 ∨ j = 7 ∨ j = 8 ∨ j = 9 ∨ j = 10 ∨ j = 11 := by omega
      all_goals rfl
    have key : ∀ (x : Int) (c : UInt8), x = (if h % 12 = 0 then 12 else h % 12) → report_Time.j0 (k + 2) (bx [c]) y m d h mi s = ((report_two.f x).bind fun t160 => (if t160.size + 1 ≤ 9223372036854775807 then ((report_two.f mi).bind fun t161 => (if (t160 ++ (⟨#[58]⟩ : ByteArray)).size + t161.size ≤ 9223372036854775807 then (if ((t160 ++ (⟨#[58]⟩ : ByteArray)) ++ t161).size + 1 ≤ 9223372036854775807 then (some (((t160 ++ (⟨#[58]⟩ : ByteArray)) ++ t161) ++ (bx [c]))) else (none)) else (none))) else (none))) := by
      intro x c hx
      rw [report_Time.j0, e, hx]
      by_cases c0 : h % 12 = 0
      · rw [if_pos c0, if_pos c0]; rfl
      · rw [if_neg c0, if_neg c0]; rfl
    have fin : ∀ (x : Int) (c : UInt8), 0 ≤ x → x ≤ 12 → ∃ v, ((report_two.f x).bind fun t160 => (if t160.size + 1 ≤ 9223372036854775807 then ((report_two.f mi).bind fun t161 => (if (t160 ++ (⟨#[58]⟩ : ByteArray)).size + t161.size ≤ 9223372036854775807 then (if ((t160 ++ (⟨#[58]⟩ : ByteArray)) ++ t161).size + 1 ≤ 9223372036854775807 then (some (((t160 ++ (⟨#[58]⟩ : ByteArray)) ++ t161) ++ (bx [c]))) else (none)) else (none))) else (none))) = some v ∧
        ((duffelref34_two.f x).bind fun t160 => (if t160.size + 1 ≤ 9223372036854775807 then ((duffelref34_two.f mi).bind fun t161 => (if (t160 ++ (⟨#[58]⟩ : ByteArray)).size + t161.size ≤ 9223372036854775807 then (if ((t160 ++ (⟨#[58]⟩ : ByteArray)) ++ t161).size + 1 ≤ 9223372036854775807 then (some (((t160 ++ (⟨#[58]⟩ : ByteArray)) ++ t161) ++ (bx [c]))) else (none)) else (none))) else (none))) = some v := by
      intro x c x0 x1
      rw [two_ok x (by omega) (by omega), rtwo_ok x (by omega) (by omega), two_ok mi (by omega) (by omega), rtwo_ok mi (by omega) (by omega)]
      simp only [Option.bind_some, show (⟨#[58]⟩ : ByteArray) = bx [58] from rfl, bx_app, bx_size, List.length_append]
      simp only [twoL, List.length_cons, List.length_nil, Nat.reduceAdd, Nat.reduceLeDiff, ↓reduceIte]
      exact ⟨_, rfl, rfl⟩
    by_cases c12 : h ≥ 12
    · have ew : wrap64 (h - 12) = h - 12 := wsi _ (by omega) (by omega)
      obtain ⟨v, v1, v2⟩ := fin (if h - 12 = 0 then 12 else h - 12) 112 (by split <;> omega) (by split <;> omega)
      refine ⟨v, ?_, ?_⟩
      · rw [if_pos c12, show (⟨#[112]⟩ : ByteArray) = bx [112] from rfl, key (if h - 12 = 0 then 12 else h - 12) 112 (by rw [show h % 12 = h - 12 from by omega])]
        exact v1
      · rw [if_neg (by omega), ew, if_pos (by omega), if_pos (by simp; omega), hrd _ (by omega) (by omega)]
        exact v2
    · obtain ⟨v, v1, v2⟩ := fin (if h = 0 then 12 else h) 97 (by split <;> omega) (by split <;> omega)
      refine ⟨v, ?_, ?_⟩
      · rw [if_neg c12, show (⟨#[97]⟩ : ByteArray) = bx [97] from rfl, key (if h = 0 then 12 else h) 97 (by rw [show h % 12 = h from by omega])]
        exact v1
      · rw [if_pos (by omega), if_pos (by omega), if_pos (by simp; omega), hrd _ (by omega) (by omega)]
        exact v2
  · rw [if_neg ok, if_neg (by omega), decide_eq_false ok, if_neg (by simp)]
    exact ⟨_, rfl, rfl⟩
theorem flags_all : ∀ a b c d e f : Bool, (report_Flags.f 300 a b c d e f).isSome = true ∧ (report_Flags.f 300 a b c d e f).map (·.data.toList) = (duffelref34_Flags.f 300 a b c d e f).map (·.data.toList) := by decide +kernel
theorem flags_both (a b c d e f : Bool) : ∃ v, report_Flags.f 300 a b c d e f = some v ∧ duffelref34_Flags.f 300 a b c d e f = some v := by
  obtain ⟨h1, h2⟩ := flags_all a b c d e f
  obtain ⟨v, hv⟩ := Option.isSome_iff_exists.1 h1
  refine ⟨v, hv, ?_⟩
  rw [hv] at h2
  cases hu : duffelref34_Flags.f 300 a b c d e f with
  | none => rw [hu] at h2; cases h2
  | some u =>
    rw [hu] at h2
    have := Option.some.inj h2
    have e : v = u := ByteArray.ext (Array.ext' this)
    rw [e]
theorem ReportTimes (a0 a1 a2 a3 a4 a5 : Int) (b0 b1 b2 b3 b4 b5 : Bool) : ∃ k, duffellaw34_ReportTimes.f k a0 a1 a2 a3 a4 a5 b0 b1 b2 b3 b4 b5 = some true := by
  refine ⟨300, ?_⟩
  obtain ⟨u, e1, e2⟩ := date_both 298 a0 a1 a2 a3 a4 a5
  obtain ⟨v, e3, e4⟩ := time_both 298 a0 a1 a2 a3 a4 a5
  obtain ⟨x, e5, e6⟩ := flags_both b0 b1 b2 b3 b4 b5
  unfold duffellaw34_ReportTimes.f
  rw [e1, Option.bind_some, e2, Option.bind_some, if_pos rfl, e3, Option.bind_some, e4, Option.bind_some, if_pos rfl, e5, Option.bind_some, e6, Option.bind_some, if_pos rfl, lives_300]
  rfl
end Go.Proofs.YtjhhgekpejdmoaaDoor.Pure
