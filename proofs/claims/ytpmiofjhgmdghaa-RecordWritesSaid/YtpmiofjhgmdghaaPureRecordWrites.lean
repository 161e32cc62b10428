/- record: what the references write is what the program writes (plain). -/
import Derived.Test.YtpmiofjhgmdghaaRecP
import Derived.Test.YtpmiofjhgmdghaaFieldCur1
import Derived.Test.YtpmiofjhgmdghaaRWx2
import Derived.Test.YtpmiofjhgmdghaaRWx3
import Derived.Test.YtpmiofjhgmdghaaRWx4
import Derived.Test.YtpmiofjhgmdghaaRWx5
namespace Go.Proofs.Ytpmiofjhgmdghaa.RWR
open Go.Proofs.Ytpmiofjhgmdghaa.RecP Go.RowKit Go.Proofs.Ytpmiofjhgmdghaa.RW Go.Proofs.YtpmiofjhgmdghaaW.PrintWords Go.Proofs.YtpmiofjhgmdghaaW.PrintLast Go.Proofs.YtpmiofjhgmdghaaW.PrintMore Go.Proofs.Ytpmiofjhgmdghaa.Fld
set_option linter.unusedVariables false
set_option linter.unusedSimpArgs false
theorem w64 (n : Nat) (h : n < 9223372036854775808) : wrap64 (n : Int) = n := IntWalk.wrap64_in _ ⟨by omega, by omega⟩
theorem w64i (x : Int) (h0 : -9223372036854775808 ≤ x) (h1 : x < 9223372036854775808) : wrap64 x = x := IntWalk.wrap64_in _ ⟨h0, by omega⟩
theorem wr_p (t : Nat) (h : t ≤ 100000) : wrap64 ((t : Int) + 1) = ((t + 1 : Nat) : Int) := w64i _ (by omega) (by omega)
theorem put_step (s : Int) (hs : 0 ≤ s ∧ s < 4294967296) (i : Nat) : 0 ≤ s / 2 ^ (8 * i) ∧ s / 2 ^ (8 * i) < 4294967296 := by
  refine ⟨Int.ediv_nonneg hs.1 (Int.le_of_lt (Int.pow_pos (by decide))), Int.lt_of_le_of_lt (Int.ediv_le_self _ hs.1) hs.2⟩
theorem put_l0 (s : Int) (hs : 0 ≤ s ∧ s < 4294967296) (n : Nat) (hn : n ≤ 4) (d : Nat) : ∀ (i K : Nat), i + d = n → d + 1 ≤ K →
    duffelref02_Put.l0 K (s / 2 ^ (8 * i)) (n : Int) (le s i) (i : Int) = some (le s n) := by
  induction d with
  | zero =>
    intro i K hi hK
    obtain ⟨K, rfl⟩ : ∃ j, K = j + 1 := ⟨K - 1, by omega⟩
    obtain rfl : i = n := by omega
    rw [duffelref02_Put.l0]
    exact if_neg (by omega)
  | succ d ih =>
    intro i K hi hK
    obtain ⟨K, rfl⟩ : ∃ j, K = j + 1 := ⟨K - 1, by omega⟩
    have hX := ih (i + 1) K (by omega) (by omega)
    obtain ⟨h0, h1⟩ := put_step s hs i
    have e1 : (Int.tdiv (s / 2 ^ (8 * i)) 256) % 4294967296 = s / 2 ^ (8 * (i + 1)) := by
      rw [Int.tdiv_eq_ediv_of_nonneg h0, show 8 * (i + 1) = 8 * i + 8 by omega, Int.pow_add, ← Int.ediv_ediv_of_nonneg (Int.le_of_lt (Int.pow_pos (by decide)))]
      show _ = s / 2 ^ (8 * i) / 256
      generalize s / 2 ^ (8 * i) = x at *
      omega
    have e2 : (Int.tmod (s / 2 ^ (8 * i)) 256) % 256 = byteAt s i := by
      rw [Int.tmod_eq_emod_of_nonneg h0]
      unfold byteAt
      omega
    rw [duffelref02_Put.l0, e1, e2, ← le_succ, wr_p i (by omega)]
    clear e1 e2
    exact (if_pos (by omega)).trans ((if_pos (by rw [le_length]; omega)).trans hX)
theorem put_run (s : Int) (hs : 0 ≤ s ∧ s < 4294967296) (n : Nat) (hn : n ≤ 4) (K : Nat) (hK : 5 ≤ K) : duffelref02_Put.f K s (n : Int) = some (le s n) := by
  have h := put_l0 s hs n hn n 0 K (by omega) (by omega)
  rw [show s / 2 ^ (8 * 0) = s by simp] at h
  exact h
theorem same_loop (L : List Int) (hl : L.length ≤ 1000000000) : ∀ (K i : Nat), i ≤ L.length → L.length - i + 1 ≤ K → duffelref01_Same.l0 K L L (i : Int) = some true
  | 0, i, h, hK => by omega
  | K + 1, i, h, hK => by
    rw [duffelref01_Same.l0]
    by_cases c : i < L.length
    · have e2 : wrap64 ((i : Int) + 1) = ((i + 1 : Nat) : Int) := by rw [w64i _ (by omega) (by omega)]; omega
      rw [if_pos (by omega), if_pos (by omega), if_pos (by omega), if_pos rfl, e2]
      exact same_loop L hl K (i + 1) (by omega) (by omega)
    · rw [if_neg (by omega)]
theorem same_ok (L : List Int) (hl : L.length ≤ 1000000000) (K : Nat) (hK : L.length + 1 ≤ K) : duffelref01_Same.f K L L = some true := by
  unfold duffelref01_Same.f
  rw [if_pos rfl]
  exact same_loop L hl K 0 (by omega) (by omega)
def in16 (x : Int) : Bool := decide (0 ≤ x ∧ x ≤ 65535)
def hB (l : List Int) : Bool := l.all in16
def hF (l : List Int) : List Int := l.flatMap (fun x => le x 2)
def hL (l : List Int) : List Int := if hB l = true then hF l else []
def wF (l : List Int) : List Int := l.flatMap (fun x => le x 4)
theorem rd_at (l : List Int) (i : Nat) (h : i < l.length) : rd l (i : Int) = l[i] := by
  show l.getD (i : Int).toNat 0 = l[i]
  rw [Int.toNat_natCast, List.getD_eq_getElem?_getD, List.getElem?_eq_getElem h]; rfl
theorem rdL_at (l : List (List Int)) (i : Nat) (h : i < l.length) : rd_L2 l (i : Int) = l[i] := by
  show l.getD (i : Int).toNat [] = l[i]
  rw [Int.toNat_natCast, List.getD_eq_getElem?_getD, List.getElem?_eq_getElem h]; rfl
theorem halves_l0 (l : List Int) (hl : l.length ≤ 1000) : ∀ (d i K : Nat) (acc : List Int), i + d = l.length → d + 6 ≤ K → acc.length ≤ 2 * i →
    duffelref24_halves.l0 K l acc (i : Int) = some (if hB (l.drop i) = true then acc ++ hF (l.drop i) else [], hB (l.drop i))
  | 0, i, K, acc, hi, hK, ha => by
    obtain ⟨K, rfl⟩ : ∃ j, K = j + 1 := ⟨K - 1, by omega⟩
    rw [duffelref24_halves.l0, if_neg (by omega), List.drop_eq_nil_of_le (by omega)]
    simp [hB, hF]
  | d + 1, i, K, acc, hi, hK, ha => by
    obtain ⟨K, rfl⟩ : ∃ j, K = j + 1 := ⟨K - 1, by omega⟩
    have hlt : i < l.length := by omega
    have e0 : l.drop i = l[i] :: l.drop (i + 1) := List.drop_eq_getElem_cons hlt
    have e2 : wrap64 ((i : Int) + 1) = ((i + 1 : Nat) : Int) := by rw [w64i _ (by omega) (by omega)]; omega
    rw [duffelref24_halves.l0, rd_at l i hlt, e0]
    generalize l[i] = x
    refine (if_pos (by omega)).trans ((if_pos (by omega)).trans ?_)
    by_cases h0 : x < 0
    · have hb : hB (x :: l.drop (i + 1)) = false := by simp [hB, in16]; intro h; omega
      rw [if_pos h0, hb]; simp
    · rw [if_neg h0]
      by_cases h1 : x > 65535
      · have hb : hB (x :: l.drop (i + 1)) = false := by simp [hB, in16]; intro h; omega
        rw [if_pos h1, hb]; simp
      · have e3 : x % 4294967296 = x := Int.emod_eq_of_lt (by omega) (by omega)
        have hx : in16 x = true := decide_eq_true (by omega)
        have hb : hB (x :: l.drop (i + 1)) = hB (l.drop (i + 1)) := by simp [hB, hx]
        have hf : hF (x :: l.drop (i + 1)) = le x 2 ++ hF (l.drop (i + 1)) := by simp [hF]
        have hp := put_run x (by omega) 2 (by decide) K (by omega)
        rw [if_neg h1, e3]
        show (duffelref02_Put.f K x ((2 : Nat) : Int)).bind _ = _
        rw [hp, Option.bind_some, if_pos (by rw [le_length]; omega), e2, halves_l0 l hl d (i + 1) K (acc ++ le x 2) (by omega) (by omega) (by rw [List.length_append, le_length]; omega), hb, hf]
        rw [List.append_assoc]
theorem halves_run (l : List Int) (hl : l.length ≤ 1000) (K : Nat) (hK : l.length + 6 ≤ K) : duffelref24_halves.f K l = some (hL l, hB l) := by
  have h := halves_l0 l hl l.length 0 K [] (by omega) hK (by simp)
  rw [List.drop_zero] at h
  unfold duffelref24_halves.f
  refine Eq.trans h ?_
  simp [hL]
theorem words_l0 (l : List Int) (hl : l.length ≤ 1000) (hr : ∀ x ∈ l, 0 ≤ x ∧ x < 4294967296) : ∀ (d i K : Nat) (acc : List Int), i + d = l.length → d + 6 ≤ K → acc.length ≤ 4 * i →
    duffelref24_words.l0 K l acc (i : Int) = some (acc ++ wF (l.drop i))
  | 0, i, K, acc, hi, hK, ha => by
    obtain ⟨K, rfl⟩ : ∃ j, K = j + 1 := ⟨K - 1, by omega⟩
    rw [duffelref24_words.l0, if_neg (by omega), List.drop_eq_nil_of_le (by omega)]
    simp [wF]
  | d + 1, i, K, acc, hi, hK, ha => by
    obtain ⟨K, rfl⟩ : ∃ j, K = j + 1 := ⟨K - 1, by omega⟩
    have hlt : i < l.length := by omega
    have e0 : l.drop i = l[i] :: l.drop (i + 1) := List.drop_eq_getElem_cons hlt
    have e2 : wrap64 ((i : Int) + 1) = ((i + 1 : Nat) : Int) := by rw [w64i _ (by omega) (by omega)]; omega
    have hx := hr l[i] (List.getElem_mem hlt)
    rw [duffelref24_words.l0, rd_at l i hlt, e0]
    generalize l[i] = x at *
    have hf : wF (x :: l.drop (i + 1)) = le x 4 ++ wF (l.drop (i + 1)) := by simp [wF]
    have hp := put_run x hx 4 (by decide) K (by omega)
    refine (if_pos (by omega)).trans ((if_pos (by omega)).trans ?_)
    show (duffelref02_Put.f K x ((4 : Nat) : Int)).bind _ = _
    rw [hp, Option.bind_some, if_pos (by rw [le_length]; omega), e2, words_l0 l hl hr d (i + 1) K (acc ++ le x 4) (by omega) (by omega) (by rw [List.length_append, le_length]; omega), hf, List.append_assoc]
theorem words_run (l : List Int) (hl : l.length ≤ 1000) (hr : ∀ x ∈ l, 0 ≤ x ∧ x < 4294967296) (K : Nat) (hK : l.length + 6 ≤ K) : duffelref24_words.f K l = some (wF l) := by
  have h := words_l0 l hl hr l.length 0 K [] (by omega) hK (by simp)
  rw [List.drop_zero] at h
  unfold duffelref24_words.f
  exact h
theorem join_l0 (l : List (List Int)) (hl : l.length ≤ 1000) (hr : ∀ x ∈ l, x.length ≤ 1000000) : ∀ (d i K : Nat) (acc : List Int), i + d = l.length → d + 1 ≤ K → acc.length ≤ 1000000 * i →
    duffelref24_join.l0 K l acc (i : Int) = some (acc ++ (l.drop i).flatten)
  | 0, i, K, acc, hi, hK, ha => by
    obtain ⟨K, rfl⟩ : ∃ j, K = j + 1 := ⟨K - 1, by omega⟩
    rw [duffelref24_join.l0, if_neg (by omega), List.drop_eq_nil_of_le (by omega)]
    simp
  | d + 1, i, K, acc, hi, hK, ha => by
    obtain ⟨K, rfl⟩ : ∃ j, K = j + 1 := ⟨K - 1, by omega⟩
    have hlt : i < l.length := by omega
    have e0 : l.drop i = l[i] :: l.drop (i + 1) := List.drop_eq_getElem_cons hlt
    have e2 : wrap64 ((i : Int) + 1) = ((i + 1 : Nat) : Int) := by rw [w64i _ (by omega) (by omega)]; omega
    have hx := hr l[i] (List.getElem_mem hlt)
    rw [duffelref24_join.l0, rdL_at l i hlt, e0]
    generalize l[i] = x at *
    refine (if_pos (by omega)).trans ((if_pos (by omega)).trans ?_)
    rw [if_pos (by omega), e2, join_l0 l hl hr d (i + 1) K (acc ++ x) (by omega) (by omega) (by rw [List.length_append]; omega), List.flatten_cons, List.append_assoc]
theorem join_run (l : List (List Int)) (hl : l.length ≤ 1000) (hr : ∀ x ∈ l, x.length ≤ 1000000) (K : Nat) (hK : l.length + 1 ≤ K) : duffelref24_join.f K l = some l.flatten := by
  have h := join_l0 l hl hr l.length 0 K [] (by omega) hK (by simp)
  rw [List.drop_zero] at h
  unfold duffelref24_join.f
  exact h
theorem in16_iff {x : Int} : in16 x = true ↔ In16 x := by unfold in16 In16; exact decide_eq_true_iff
theorem hF_le (l : List Int) (h : l.length ≤ 100) : (hF l).length ≤ 1000000 := by
  have : (hF l).length = 2 * l.length := by
    clear h
    induction l with
    | nil => rfl
    | cons x l ih => simp only [hF, List.flatMap_cons, List.length_append, le_length, List.length_cons] at *; omega
  omega
theorem hL_le (l : List Int) (h : l.length ≤ 100) : (hL l).length ≤ 1000000 := by
  unfold hL; split
  · exact hF_le l h
  · simp
theorem wF_le (l : List Int) (h : l.length ≤ 100) : (wF l).length ≤ 1000000 := by
  have : (wF l).length = 4 * l.length := by
    clear h
    induction l with
    | nil => rfl
    | cons x l ih => simp only [wF, List.flatMap_cons, List.length_append, le_length, List.length_cons] at *; omega
  omega
theorem hB_eq (l : List Int) : hB l = l.all in16 := rfl
theorem loc_ref (a0 a1 a2 a3 a4 a5 a6 a7 : Int) (b8 b9 : List Int) (lb8 : b8.length ≤ 100000) (lb9 : b9.length ≤ 100000) (hw1 : 0 ≤ a5 ∧ a5 < 4294967296) (hw2 : 0 ≤ a6 ∧ a6 < 4294967296) (hw3 : 0 ≤ a7 ∧ a7 < 4294967296) (K : Nat) (hK : 20 ≤ K) : duffelref24_Local.f K a0 a1 a2 a3 a4 a5 a6 a7 b8 b9 = some (outOf (locS a0 a1 a2 a3 a4 a5 a6 a7 b8 b9), (locS a0 a1 a2 a3 a4 a5 a6 a7 b8 b9).2) := by
  obtain ⟨K, rfl⟩ : ∃ j, K = j + 1 := ⟨K - 1, by omega⟩
  unfold duffelref24_Local.f
  rw [halves_run [a0, a1, a2, a3, a4] (by simp) (K + 1) (by simp; omega), Option.bind_some, halves_run [(b8.length : Int), (b9.length : Int)] (by simp) (K + 1) (by simp; omega), Option.bind_some]
  have two := loc_two a0 a1 a2 a3 a4 a5 a6 a7 b8 b9
  by_cases c : In16 a0 ∧ In16 a1 ∧ In16 a2 ∧ In16 a3 ∧ In16 a4 ∧ In16 (b8.length : Int) ∧ In16 (b9.length : Int)
  · have z : (locS a0 a1 a2 a3 a4 a5 a6 a7 b8 b9).2 = 0 := loc_all c
    have q := (RecP.loc_zero z).2
    have ho : outOf (locS a0 a1 a2 a3 a4 a5 a6 a7 b8 b9) = (locS a0 a1 a2 a3 a4 a5 a6 a7 b8 b9).1 := if_pos z
    rw [ho, z, q]
    obtain ⟨r0, r1, r2, r3, r4, r5, r6⟩ := c
    have hA : hB [a0, a1, a2, a3, a4] = true := by
      show ([a0, a1, a2, a3, a4].all in16) = true
      simp only [List.all_cons, List.all_nil, Bool.and_true, in16_iff.mpr r0, in16_iff.mpr r1, in16_iff.mpr r2, in16_iff.mpr r3, in16_iff.mpr r4, Bool.and_self]
    have hB : hB [(b8.length : Int), (b9.length : Int)] = true := by
      show ([(b8.length : Int), (b9.length : Int)].all in16) = true
      simp only [List.all_cons, List.all_nil, Bool.and_true, in16_iff.mpr r5, in16_iff.mpr r6, Bool.and_self]
    rw [if_pos hA]
    rw [hB]
    rw [duffelref24_Local.j0]
    refine (if_neg (by simp)).trans ?_
    rw [words_run [67324752] (by simp) (by intro x hx; simp only [List.mem_cons, List.not_mem_nil, or_false] at hx; rcases hx with rfl <;> first | assumption | decide) K (by simp; omega), Option.bind_some]
    rw [words_run [a5, a6, a7] (by simp) (by intro x hx; simp only [List.mem_cons, List.not_mem_nil, or_false] at hx; rcases hx with rfl | rfl | rfl <;> first | assumption | decide) K (by simp; omega), Option.bind_some]
    rw [join_run [wF [67324752], hL [a0, a1, a2, a3, a4], wF [a5, a6, a7], hL [(b8.length : Int), (b9.length : Int)], b8, b9] (by simp) (by intro x hx; simp only [List.mem_cons, List.not_mem_nil, or_false] at hx; rcases hx with rfl | rfl | rfl | rfl | rfl | rfl <;> first | exact hL_le _ (by simp) | exact wF_le _ (by simp) | omega) K (by simp; omega), Option.bind_some]
    simp only [hL, hA, hB, if_true, hF, wF, List.flatMap_cons, List.flatMap_nil, List.flatten_cons, List.flatten_nil, List.append_nil, List.nil_append, List.append_assoc]
  · have z : (locS a0 a1 a2 a3 a4 a5 a6 a7 b8 b9).2 ≠ 0 := fun z => c (RecP.loc_zero z).1
    have z2 := two.resolve_left z
    have ho : outOf (locS a0 a1 a2 a3 a4 a5 a6 a7 b8 b9) = [] := if_neg z
    rw [ho, z2]
    by_cases hA : hB [a0, a1, a2, a3, a4] = true
    · have hB : hB [(b8.length : Int), (b9.length : Int)] = false := by
        refine Bool.eq_false_iff.mpr (fun hB => c ?_)
        have qa := List.all_eq_true.mp (show ([a0, a1, a2, a3, a4].all in16) = true from hA)
        have qb := List.all_eq_true.mp (show ([(b8.length : Int), (b9.length : Int)].all in16) = true from hB)
        exact ⟨in16_iff.mp (qa _ (by simp)), in16_iff.mp (qa _ (by simp)), in16_iff.mp (qa _ (by simp)), in16_iff.mp (qa _ (by simp)), in16_iff.mp (qa _ (by simp)), in16_iff.mp (qb _ (by simp)), in16_iff.mp (qb _ (by simp))⟩
      rw [if_pos hA, hB, duffelref24_Local.j0]
      exact if_pos rfl
    · rw [if_neg hA, duffelref24_Local.j0]
      exact if_pos rfl
theorem cen_ref (a0 a1 a2 a3 a4 a5 a6 a7 a10 a11 a12 a13 a14 : Int) (b8 b9 b15 : List Int) (lb8 : b8.length ≤ 100000) (lb9 : b9.length ≤ 100000) (lb15 : b15.length ≤ 100000) (hw1 : 0 ≤ a5 ∧ a5 < 4294967296) (hw2 : 0 ≤ a6 ∧ a6 < 4294967296) (hw3 : 0 ≤ a7 ∧ a7 < 4294967296) (hw4 : 0 ≤ a13 ∧ a13 < 4294967296) (hw5 : 0 ≤ a14 ∧ a14 < 4294967296) (K : Nat) (hK : 20 ≤ K) : duffelref24_Central.f K a0 a1 a2 a3 a4 a5 a6 a7 b8 b9 a10 a11 a12 a13 a14 b15 = some (outOf (cenS a0 a1 a2 a3 a4 a5 a6 a7 b8 b9 a10 a11 a12 a13 a14 b15), (cenS a0 a1 a2 a3 a4 a5 a6 a7 b8 b9 a10 a11 a12 a13 a14 b15).2) := by
  obtain ⟨K, rfl⟩ : ∃ j, K = j + 1 := ⟨K - 1, by omega⟩
  unfold duffelref24_Central.f
  rw [halves_run [a10, a0, a1, a2, a3, a4] (by simp) (K + 1) (by simp; omega), Option.bind_some, halves_run [(b8.length : Int), (b9.length : Int), (b15.length : Int), a11, a12] (by simp) (K + 1) (by simp; omega), Option.bind_some]
  have two := cen_two a0 a1 a2 a3 a4 a5 a6 a7 a10 a11 a12 a13 a14 b8 b9 b15
  by_cases c : In16 a10 ∧ In16 a0 ∧ In16 a1 ∧ In16 a2 ∧ In16 a3 ∧ In16 a4 ∧ In16 (b8.length : Int) ∧ In16 (b9.length : Int) ∧ In16 (b15.length : Int) ∧ In16 a11 ∧ In16 a12
  · have z : (cenS a0 a1 a2 a3 a4 a5 a6 a7 b8 b9 a10 a11 a12 a13 a14 b15).2 = 0 := cen_all c
    have q := (RecP.cen_zero z).2
    have ho : outOf (cenS a0 a1 a2 a3 a4 a5 a6 a7 b8 b9 a10 a11 a12 a13 a14 b15) = (cenS a0 a1 a2 a3 a4 a5 a6 a7 b8 b9 a10 a11 a12 a13 a14 b15).1 := if_pos z
    rw [ho, z, q]
    obtain ⟨r0, r1, r2, r3, r4, r5, r6, r7, r8, r9, r10⟩ := c
    have hA : hB [a10, a0, a1, a2, a3, a4] = true := by
      show ([a10, a0, a1, a2, a3, a4].all in16) = true
      simp only [List.all_cons, List.all_nil, Bool.and_true, in16_iff.mpr r0, in16_iff.mpr r1, in16_iff.mpr r2, in16_iff.mpr r3, in16_iff.mpr r4, in16_iff.mpr r5, Bool.and_self]
    have hB : hB [(b8.length : Int), (b9.length : Int), (b15.length : Int), a11, a12] = true := by
      show ([(b8.length : Int), (b9.length : Int), (b15.length : Int), a11, a12].all in16) = true
      simp only [List.all_cons, List.all_nil, Bool.and_true, in16_iff.mpr r6, in16_iff.mpr r7, in16_iff.mpr r8, in16_iff.mpr r9, in16_iff.mpr r10, Bool.and_self]
    rw [if_pos hA]
    rw [hB]
    rw [duffelref24_Central.j0]
    refine (if_neg (by simp)).trans ?_
    rw [words_run [33639248] (by simp) (by intro x hx; simp only [List.mem_cons, List.not_mem_nil, or_false] at hx; rcases hx with rfl <;> first | assumption | decide) K (by simp; omega), Option.bind_some]
    rw [words_run [a5, a6, a7] (by simp) (by intro x hx; simp only [List.mem_cons, List.not_mem_nil, or_false] at hx; rcases hx with rfl | rfl | rfl <;> first | assumption | decide) K (by simp; omega), Option.bind_some]
    rw [words_run [a13, a14] (by simp) (by intro x hx; simp only [List.mem_cons, List.not_mem_nil, or_false] at hx; rcases hx with rfl | rfl <;> first | assumption | decide) K (by simp; omega), Option.bind_some]
    rw [join_run [wF [33639248], hL [a10, a0, a1, a2, a3, a4], wF [a5, a6, a7], hL [(b8.length : Int), (b9.length : Int), (b15.length : Int), a11, a12], wF [a13, a14], b8, b9, b15] (by simp) (by intro x hx; simp only [List.mem_cons, List.not_mem_nil, or_false] at hx; rcases hx with rfl | rfl | rfl | rfl | rfl | rfl | rfl | rfl <;> first | exact hL_le _ (by simp) | exact wF_le _ (by simp) | omega) K (by simp; omega), Option.bind_some]
    simp only [hL, hA, hB, if_true, hF, wF, List.flatMap_cons, List.flatMap_nil, List.flatten_cons, List.flatten_nil, List.append_nil, List.nil_append, List.append_assoc]
  · have z : (cenS a0 a1 a2 a3 a4 a5 a6 a7 b8 b9 a10 a11 a12 a13 a14 b15).2 ≠ 0 := fun z => c (RecP.cen_zero z).1
    have z2 := two.resolve_left z
    have ho : outOf (cenS a0 a1 a2 a3 a4 a5 a6 a7 b8 b9 a10 a11 a12 a13 a14 b15) = [] := if_neg z
    rw [ho, z2]
    by_cases hA : hB [a10, a0, a1, a2, a3, a4] = true
    · have hB : hB [(b8.length : Int), (b9.length : Int), (b15.length : Int), a11, a12] = false := by
        refine Bool.eq_false_iff.mpr (fun hB => c ?_)
        have qa := List.all_eq_true.mp (show ([a10, a0, a1, a2, a3, a4].all in16) = true from hA)
        have qb := List.all_eq_true.mp (show ([(b8.length : Int), (b9.length : Int), (b15.length : Int), a11, a12].all in16) = true from hB)
        exact ⟨in16_iff.mp (qa _ (by simp)), in16_iff.mp (qa _ (by simp)), in16_iff.mp (qa _ (by simp)), in16_iff.mp (qa _ (by simp)), in16_iff.mp (qa _ (by simp)), in16_iff.mp (qa _ (by simp)), in16_iff.mp (qb _ (by simp)), in16_iff.mp (qb _ (by simp)), in16_iff.mp (qb _ (by simp)), in16_iff.mp (qb _ (by simp)), in16_iff.mp (qb _ (by simp))⟩
      rw [if_pos hA, hB, duffelref24_Central.j0]
      exact if_pos rfl
    · rw [if_neg hA, duffelref24_Central.j0]
      exact if_pos rfl
theorem end_ref (a0 a1 a2 a3 a4 a5 : Int) (b : List Int) (lb : b.length ≤ 100000) (hw1 : 0 ≤ a4 ∧ a4 < 4294967296) (hw2 : 0 ≤ a5 ∧ a5 < 4294967296) (K : Nat) (hK : 20 ≤ K) : duffelref24_End.f K a0 a1 a2 a3 a4 a5 b = some (outOf (endS a0 a1 a2 a3 a4 a5 b), (endS a0 a1 a2 a3 a4 a5 b).2) := by
  obtain ⟨K, rfl⟩ : ∃ j, K = j + 1 := ⟨K - 1, by omega⟩
  unfold duffelref24_End.f
  rw [halves_run [a0, a1, a2, a3] (by simp) (K + 1) (by simp; omega), Option.bind_some, halves_run [(b.length : Int)] (by simp) (K + 1) (by simp; omega), Option.bind_some]
  have two := end_two a0 a1 a2 a3 a4 a5 b
  by_cases c : In16 a0 ∧ In16 a1 ∧ In16 a2 ∧ In16 a3 ∧ In16 (b.length : Int)
  · have z : (endS a0 a1 a2 a3 a4 a5 b).2 = 0 := end_all c
    have q := (RecP.end_zero z).2
    have ho : outOf (endS a0 a1 a2 a3 a4 a5 b) = (endS a0 a1 a2 a3 a4 a5 b).1 := if_pos z
    rw [ho, z, q]
    obtain ⟨r0, r1, r2, r3, r4⟩ := c
    have hA : hB [a0, a1, a2, a3] = true := by
      show ([a0, a1, a2, a3].all in16) = true
      simp only [List.all_cons, List.all_nil, Bool.and_true, in16_iff.mpr r0, in16_iff.mpr r1, in16_iff.mpr r2, in16_iff.mpr r3, Bool.and_self]
    have hB : hB [(b.length : Int)] = true := by
      show ([(b.length : Int)].all in16) = true
      simp only [List.all_cons, List.all_nil, Bool.and_true, in16_iff.mpr r4, Bool.and_self]
    rw [if_pos hA]
    rw [hB]
    rw [duffelref24_End.j0]
    refine (if_neg (by simp)).trans ?_
    rw [words_run [101010256] (by simp) (by intro x hx; simp only [List.mem_cons, List.not_mem_nil, or_false] at hx; rcases hx with rfl <;> first | assumption | decide) K (by simp; omega), Option.bind_some]
    rw [words_run [a4, a5] (by simp) (by intro x hx; simp only [List.mem_cons, List.not_mem_nil, or_false] at hx; rcases hx with rfl | rfl <;> first | assumption | decide) K (by simp; omega), Option.bind_some]
    rw [join_run [wF [101010256], hL [a0, a1, a2, a3], wF [a4, a5], hL [(b.length : Int)], b] (by simp) (by intro x hx; simp only [List.mem_cons, List.not_mem_nil, or_false] at hx; rcases hx with rfl | rfl | rfl | rfl | rfl <;> first | exact hL_le _ (by simp) | exact wF_le _ (by simp) | omega) K (by simp; omega), Option.bind_some]
    simp only [hL, hA, hB, if_true, hF, wF, List.flatMap_cons, List.flatMap_nil, List.flatten_cons, List.flatten_nil, List.append_nil, List.nil_append, List.append_assoc]
  · have z : (endS a0 a1 a2 a3 a4 a5 b).2 ≠ 0 := fun z => c (RecP.end_zero z).1
    have z2 := two.resolve_left z
    have ho : outOf (endS a0 a1 a2 a3 a4 a5 b) = [] := if_neg z
    rw [ho, z2]
    by_cases hA : hB [a0, a1, a2, a3] = true
    · have hB : hB [(b.length : Int)] = false := by
        refine Bool.eq_false_iff.mpr (fun hB => c ?_)
        have qa := List.all_eq_true.mp (show ([a0, a1, a2, a3].all in16) = true from hA)
        have qb := List.all_eq_true.mp (show ([(b.length : Int)].all in16) = true from hB)
        exact ⟨in16_iff.mp (qa _ (by simp)), in16_iff.mp (qa _ (by simp)), in16_iff.mp (qa _ (by simp)), in16_iff.mp (qa _ (by simp)), in16_iff.mp (qb _ (by simp))⟩
      rw [if_pos hA, hB, duffelref24_End.j0]
      exact if_pos rfl
    · rw [if_neg hA, duffelref24_End.j0]
      exact if_pos rfl
end Go.Proofs.Ytpmiofjhgmdghaa.RWR
