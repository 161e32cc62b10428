/- The reference's Put, as printed (namespace EX): the bytes of a number. -/
import Derived.Test.YtfnihlndaenkhaaEXNum
namespace Go.Proofs.Ytfnihlndaenkhaa.EXR
open Go.RowKit Go.Proofs.Ytfnihlndaenkhaa.EX Go.Proofs.YtfnihlndaenkhaaW.PrintWords Go.Proofs.YtfnihlndaenkhaaW.PrintLast Go.Proofs.YtfnihlndaenkhaaW.PrintMore Go.Proofs.Ytfnihlndaenkhaa.Fld
theorem wr_p (t : Nat) (h : t ≤ 100000) : wrap64 ((t : Int) + 1) = ((t + 1 : Nat) : Int) := w64i _ (by omega) (by omega)
theorem put_step (s : Int) (hs : 0 ≤ s ∧ s < 4294967296) (i : Nat) : 0 ≤ s / 2 ^ (8 * i) ∧ s / 2 ^ (8 * i) < 4294967296 := by
  refine ⟨Int.ediv_nonneg hs.1 (Int.le_of_lt (Int.pow_pos (by decide))), Int.lt_of_le_of_lt (Int.ediv_le_self _ hs.1) hs.2⟩
theorem put_l0 (s : Int) (hs : 0 ≤ s ∧ s < 4294967296) (n : Nat) (hn : n ≤ 4) (d : Nat) : ∀ (i K : Nat), i + d = n → d + 1 ≤ K →
    duffelref02_Put.l0 K (s / 2 ^ (8 * i)) (n : Int) (le s i) (i : Int) = some (le s n) := by
  induction d with
  | zero =>
    intro i K hi hK
    obtain ⟨K, rfl⟩ : ∃ j, K = j + 1 := ⟨K - 1, by omega⟩
    obtain rfl : i = n := by omega
    rw [duffelref02_Put.l0]
    exact if_neg (by omega)
  | succ d ih =>
    intro i K hi hK
    obtain ⟨K, rfl⟩ : ∃ j, K = j + 1 := ⟨K - 1, by omega⟩
    have hX := ih (i + 1) K (by omega) (by omega)
    obtain ⟨h0, h1⟩ := put_step s hs i
    have e1 : (Int.tdiv (s / 2 ^ (8 * i)) 256) % 4294967296 = s / 2 ^ (8 * (i + 1)) := by
      rw [Int.tdiv_eq_ediv_of_nonneg h0, show 8 * (i + 1) = 8 * i + 8 by omega, Int.pow_add, ← Int.ediv_ediv_of_nonneg (Int.le_of_lt (Int.pow_pos (by decide)))]
      show _ = s / 2 ^ (8 * i) / 256
      generalize s / 2 ^ (8 * i) = x at *
      omega
    have e2 : (Int.tmod (s / 2 ^ (8 * i)) 256) % 256 = byteAt s i := by
      rw [Int.tmod_eq_emod_of_nonneg h0]
      unfold byteAt
      omega
    rw [duffelref02_Put.l0, e1, e2, ← le_succ, wr_p i (by omega)]
    clear e1 e2
    exact (if_pos (by omega)).trans ((if_pos (by rw [le_length]; omega)).trans hX)
theorem put_run (s : Int) (hs : 0 ≤ s ∧ s < 4294967296) (n : Nat) (hn : n ≤ 4) (K : Nat) (hK : 5 ≤ K) : duffelref02_Put.f K s (n : Int) = some (le s n) := by
  have h := put_l0 s hs n hn n 0 K (by omega) (by omega)
  rw [show s / 2 ^ (8 * 0) = s by simp] at h
  exact h
end Go.Proofs.Ytfnihlndaenkhaa.EXR
