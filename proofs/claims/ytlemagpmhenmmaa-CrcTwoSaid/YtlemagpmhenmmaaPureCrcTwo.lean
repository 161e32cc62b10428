/- CrcTwo, the plain law: two texts of one length differ in their sums as their difference does from noughts. No conditions. -/
import Derived.Test.YtlemagpmhenmmaaQTx1
import Derived.Test.YtlemagpmhenmmaaCrcPure
namespace Go.Proofs.Ytlemagpmhenmmaa.Pure
open Go.RowKit Go.Proofs.Ytlemagpmhenmmaa.QT Go.Proofs.YtlemagpmhenmmaaW.PrintWords Go.Proofs.YtlemagpmhenmmaaW.PrintLast Go.Proofs.YtlemagpmhenmmaaW.PrintMore Go.Proofs.Ytlemagpmhenmmaa.CrcPure Go.Proofs.Ytlemagpmhenmmaa.CrcWalk
def bothL (a b : List Int) (i : Nat) : List Int := (List.range i).map fun j => Go.bits .xor .u8 (rd a (j : Nat)) (rd b (j : Nat))
theorem bothL_succ (a b : List Int) (i : Nat) : bothL a b (i + 1) = bothL a b i ++ [Go.bits .xor .u8 (rd a i) (rd b i)] := by
  simp [bothL, List.range_succ]
theorem rdN (l : List Int) (h : Bytes l) (j : Nat) (hj : j < l.length) : ∃ c : Nat, c < 256 ∧ rd l j = (c : Int) ∧ (toN l)[j]? = some c := by
  have hb := h l[j] (List.getElem_mem hj)
  refine ⟨l[j].toNat, by omega, ?_, ?_⟩
  · simp [rd, List.getD, hj]; omega
  · simp [toN, hj]
theorem bothL_bytes (a b : List Int) (i : Nat) : Bytes (bothL a b i) := by
  intro x hx
  simp only [bothL, List.mem_map] at hx
  obtain ⟨j, _, rfl⟩ := hx
  have := bounds_u8 (wf_bits .xor .u8 (rd a (j : Nat)) (rd b (j : Nat)))
  omega
theorem bothL_zip (a b : List Int) (ha : Bytes a) (hb : Bytes b) (n : Nat) (h1 : a.length = n) (h2 : b.length = n) : toN (bothL a b n) = List.zipWith (· ^^^ ·) (toN a) (toN b) := by
  apply List.ext_getElem?
  intro j
  by_cases hj : j < n
  · obtain ⟨c, hc, e1, e2⟩ := rdN a ha j (by omega)
    obtain ⟨d, hd, f1, f2⟩ := rdN b hb j (by omega)
    rw [List.getElem?_zipWith, e2, f2]
    simp [toN, bothL, hj, e1, f1, CrcPure.u8_xor c d hc hd]
  · rw [List.getElem?_eq_none (by simp [toN, bothL]; omega), List.getElem?_eq_none (by simp [toN]; omega)]
theorem zip_zeros (l : List Nat) : List.zipWith (· ^^^ ·) l (List.replicate l.length 0) = l := by
  induction l with
  | nil => rfl
  | cons c l ih => simp only [List.length_cons, List.replicate_succ, List.zipWith_cons_cons, Nat.xor_zero]; rw [ih]
theorem two_full (a b : Nat) : (full ^^^ a) ^^^ (full ^^^ b) = a ^^^ b := by
  rw [Crc.xor_four, Nat.xor_self, Nat.zero_xor]
theorem diff (a b : List Int) (ha : Bytes a) (hb : Bytes b) (n : Nat) (h1 : a.length = n) (h2 : b.length = n) :
    Go.bits .xor .u32 (addF tabL 0 a) (addF tabL 0 b) = Go.bits .xor .u32 (addF tabL 0 (bothL a b n)) (addF tabL 0 (List.replicate n (0 : Int))) := by
  have hz : Bytes (List.replicate n (0 : Int)) := fun x hx => by rw [List.mem_replicate] at hx; omega
  have hF : full < 4294967296 := by decide
  have rl : ∀ l : List Int, Bytes l → full ^^^ Crc.run full (toN l) < 4294967296 := fun l hl => Nat.xor_lt_two_pow (n := 32) hF (Crc.run_lt _ hF (toN_lt hl))
  rw [sum_eq a ha, sum_eq b hb, sum_eq _ (bothL_bytes a b n), sum_eq _ hz, CrcWalk.u32_xor _ _ (rl a ha) (rl b hb), CrcWalk.u32_xor _ _ (rl _ (bothL_bytes a b n)) (rl _ hz), two_full, two_full]
  rw [← Crc.run_xor (toN a) (toN b) full full (by simp [toN, h1, h2]), ← Crc.run_xor (toN (bothL a b n)) (toN (List.replicate n (0 : Int))) full full (by simp [toN, bothL]), bothL_zip a b ha hb n h1 h2]
  have e : toN (List.replicate n (0 : Int)) = List.replicate (List.zipWith (· ^^^ ·) (toN a) (toN b)).length 0 := by simp [toN, h1, h2]
  rw [e, zip_zeros]
theorem csum (l : List Int) (h : l.length ≤ 1000) : crc_Sum.f l = some (addF tabL 0 l) := by
  unfold crc_Sum.f; rw [if_pos (by omega)]
theorem two_loop (a b : List Int) (ha : Bytes a) (hb : Bytes b) (n : Nat) (h1 : a.length = n) (h2 : b.length = n) (hn : n ≤ 300) (m : Nat) : ∀ (k i : Nat), i + m = n → m < k →
    duffellaw03_CrcTwo.l0 k a b (n : Int) (bothL a b i) (List.replicate i (0 : Int)) (i : Int) = some true := by
  induction m with
  | zero =>
    intro k i hi hk
    obtain ⟨k, rfl⟩ : ∃ j, k = j + 1 := ⟨k - 1, by omega⟩
    obtain rfl : i = n := by omega
    simp only [duffellaw03_CrcTwo.l0]
    refine (if_neg (by omega)).trans ?_
    rw [csum a (by omega), csum b (by omega), csum (bothL a b i) (by simp [bothL]; omega), csum (List.replicate i (0 : Int)) (by simp; omega)]
    simp only [Option.bind_some]
    exact (if_pos (diff a b ha hb i h1 h2)).trans rfl
  | succ m ih =>
    intro k i hi hk
    obtain ⟨k, rfl⟩ : ∃ j, k = j + 1 := ⟨k - 1, by omega⟩
    have w : wrap64 ((i : Int) + 1) = ((i + 1 : Nat) : Int) := by unfold wrap64; omega
    have hrec := ih k (i + 1) (by omega) (by omega)
    simp only [duffellaw03_CrcTwo.l0]
    rw [w]
    clear w
    refine (if_pos (by omega)).trans ((if_pos (by omega)).trans ((if_pos (by omega)).trans ((if_pos (by omega)).trans ?_)))
    simp only [Option.bind_some]
    refine (if_pos (by simp [bothL]; omega)).trans ((if_pos (by simp; omega)).trans ?_)
    rw [← bothL_succ, show List.replicate i (0 : Int) ++ [0] = List.replicate (i + 1) 0 from (List.replicate_succ' ..).symm]
    exact hrec
theorem CrcTwo : duffellaw03_CrcTwo.Pure := by
  intro l0 l1 _ _ hw0 _ _ hw1
  have hb0 : Bytes l0 := Bytes.of_wf hw0
  have hb1 : Bytes l1 := Bytes.of_wf hw1
  obtain ⟨n, hn0, hn1, hn2, hW1, hW2⟩ : ∃ n : Nat, n ≤ l0.length ∧ n ≤ l1.length ∧ n ≤ 300 ∧ duffelref01_Within.f (l1.length : Int) 0 300 = some ((min l1.length 300 : Nat) : Int) ∧ duffelref01_Within.f (l0.length : Int) 0 ((min l1.length 300 : Nat) : Int) = some (n : Int) := by
    refine ⟨min l0.length (min l1.length 300), by omega, by omega, by omega, ?_, ?_⟩
    · unfold duffelref01_Within.f
      rw [if_neg (by omega)]
      by_cases c : (l1.length : Int) > 300
      · rw [if_pos c]; congr 1; omega
      · rw [if_neg c]; congr 1; omega
    · unfold duffelref01_Within.f
      rw [if_neg (by omega)]
      by_cases c : (l0.length : Int) > ((min l1.length 300 : Nat) : Int)
      · rw [if_pos c]; congr 1; omega
      · rw [if_neg c]; congr 1; omega
  obtain ⟨K, hK⟩ : ∃ K : Nat, 301 < K := ⟨302, by omega⟩
  refine ⟨K, ?_⟩
  unfold duffellaw03_CrcTwo.f
  rw [hW1]
  simp only [Option.bind_some]
  rw [hW2]
  simp only [Option.bind_some]
  refine (if_pos (by omega)).trans ((if_pos (by omega)).trans ((if_pos (by omega)).trans ?_))
  rw [Int.toNat_natCast]
  have h := two_loop (l0.take n) (l1.take n) (hb0.take n) (hb1.take n) n (by rw [List.length_take]; omega) (by rw [List.length_take]; omega) hn2 n K 0 (by omega) (by omega)
  exact h
end Go.Proofs.Ytlemagpmhenmmaa.Pure
