/- CrcSums, the plain part: the document's sum is the run of bytes; a list is the same as itself. -/
import Derived.Test.YtlemagpmhenmmaaCrcSums1
namespace Go.Proofs.Ytlemagpmhenmmaa.Pure
open Go.RowKit Go.Proofs.YtlemagpmhenmmaaW.PrintWords Go.Proofs.YtlemagpmhenmmaaW.PrintLast Go.Proofs.YtlemagpmhenmmaaW.PrintMore Go.Proofs.Ytlemagpmhenmmaa.CrcPure Go.Proofs.Ytlemagpmhenmmaa.CrcWalk Go.Proofs.Ytlemagpmhenmmaa.PCrcSums Go.Proofs.Ytlemagpmhenmmaa.MyCut
theorem sstep (x : Nat) (hx : x < 4294967296) : duffelref03_Step.f (x : Int) = some ((Crc.step x : Nat) : Int) := by
  unfold duffelref03_Step.f Crc.step
  have e1 : Int.tmod (x : Int) 2 = ((x % 2 : Nat) : Int) := by rw [Int.tmod_eq_emod_of_nonneg (by omega)]; omega
  have e2 : (Int.tdiv (x : Int) 2) % 4294967296 = ((x / 2 : Nat) : Int) := by rw [Int.tdiv_eq_ediv_of_nonneg (by omega)]; omega
  rw [e1, e2]
  by_cases h : x % 2 = 1
  · rw [if_pos h, if_pos (by rw [h]; rfl)]
    exact congrArg some (CrcWalk.u32_xor (x / 2) 3988292384 (by omega) (by decide))
  · rw [if_neg h, if_neg (by omega)]
theorem wr (j : Nat) (h : j < 1000000000) : wrap64 ((j : Int) + 1) = ((j + 1 : Nat) : Int) := by unfold wrap64; omega
theorem inner (l : List Int) (i : Nat) (hi : i < 1000000) (r : Option Int) (n : Nat) : ∀ (k j : Nat) (x : Nat), x < 4294967296 → j + n = 8 → duffelref03_Sum.l0 k l ((Crc.steps n x : Nat) : Int) ((i + 1 : Nat) : Int) = r → duffelref03_Sum.l1 (k + n + 1) l (x : Int) (i : Int) (j : Int) = r := by
  induction n with
  | zero =>
    intro k j x hx hj h
    simp only [duffelref03_Sum.l1]
    refine (if_neg (by omega)).trans ?_
    rw [wr i (by omega)]; exact h
  | succ n ih =>
    intro k j x hx hj h
    have e : k + (n + 1) + 1 = (k + n + 1) + 1 := by omega
    rw [e]
    simp only [duffelref03_Sum.l1]
    refine (if_pos (by omega)).trans ?_
    rw [sstep x hx, wr j (by omega)]
    exact ih k (j + 1) _ (Crc.step_lt hx) (by omega) h
theorem outer (l : List Int) (hl : Bytes l) (hn : l.length ≤ 1000) (n : Nat) : ∀ (k i : Nat) (x : Nat), x < 4294967296 → i + n = l.length → 10 * n < k → duffelref03_Sum.l0 k l (x : Int) (i : Int) = some (((Crc.run x (toN (l.drop i)) ^^^ full : Nat)) : Int) := by
  induction n with
  | zero =>
    intro k i x hx hi hk
    obtain ⟨k, rfl⟩ : ∃ m, k = m + 1 := ⟨k - 1, by omega⟩
    simp only [duffelref03_Sum.l0]
    refine (if_neg (by omega)).trans ?_
    rw [List.drop_of_length_le (by omega)]
    exact congrArg some (CrcWalk.u32_xor x full hx (by decide))
  | succ n ih =>
    intro k i x hx hi hk
    obtain ⟨k, rfl⟩ : ∃ m, k = m + 8 + 1 + 1 := ⟨k - 10, by omega⟩
    simp only [duffelref03_Sum.l0]
    refine (if_pos (by omega)).trans ((if_pos (by omega)).trans ?_)
    have hlt : i < l.length := by omega
    obtain ⟨y0, y1⟩ := CrcSums.byte_at hl i hlt
    obtain ⟨c, hc⟩ := Int.eq_ofNat_of_zero_le y0
    have hx2 : x ^^^ c < 4294967296 := Nat.xor_lt_two_pow (n := 32) hx (by omega)
    have e1 : rd l i % 4294967296 = ((c : Nat) : Int) := by omega
    rw [e1, CrcWalk.u32_xor x c hx (by omega)]
    refine inner l i (by omega) _ 8 k 0 _ hx2 rfl ?_
    have h2 := ih k (i + 1) (Crc.steps 8 (x ^^^ c)) (Crc.steps_lt 8 hx2) (by omega) (by omega)
    rw [h2, drop_rd l i hlt, hc]
    rfl
theorem refsum (s : Int) (h0 : 0 ≤ s) (h1 : s < 4294967296) (l : List Int) (hl : Bytes l) (hn : l.length ≤ 1000) (k : Nat) (hk : 10 * l.length < k) : duffelref03_Sum.f k s l = some (addF tabL s l) := by
  obtain ⟨n, rfl⟩ := Int.eq_ofNat_of_zero_le h0
  have hn2 : n < 4294967296 := by omega
  unfold duffelref03_Sum.f
  have e : Go.bits .xor .u32 (n : Int) 4294967295 = ((n ^^^ full : Nat) : Int) := CrcWalk.u32_xor n full hn2 (by decide)
  rw [e, addF_eq n hn2 l hl]
  have h := outer l hl hn l.length k 0 (n ^^^ full) (Nat.xor_lt_two_pow (n := 32) hn2 (by decide)) (by omega) hk
  rw [List.drop_zero] at h
  rw [Nat.xor_comm full n, Nat.xor_comm full]
  exact h
theorem same_refl (l : List Int) (hn : l.length ≤ 1000000) (n : Nat) : ∀ (k i : Nat), i + n = l.length → n < k → duffelref01_Same.l0 k l l (i : Int) = some true := by
  induction n with
  | zero =>
    intro k i hi hk
    obtain ⟨k, rfl⟩ : ∃ m, k = m + 1 := ⟨k - 1, by omega⟩
    simp only [duffelref01_Same.l0]
    exact if_neg (by omega)
  | succ n ih =>
    intro k i hi hk
    obtain ⟨k, rfl⟩ : ∃ m, k = m + 1 := ⟨k - 1, by omega⟩
    simp only [duffelref01_Same.l0]
    refine (if_pos (by omega)).trans ((if_pos (by omega)).trans ((if_pos (by omega)).trans ((if_pos trivial).trans ?_)))
    rw [wr i (by omega)]
    exact ih k (i + 1) (by omega) (by omega)
theorem same_ok (l : List Int) (hn : l.length ≤ 1000000) (k : Nat) (hk : l.length < k) : duffelref01_Same.f k l l = some true := by
  unfold duffelref01_Same.f
  refine (if_pos rfl).trans ?_
  exact same_refl l hn l.length k 0 (by omega) hk
theorem sums_ok (tl : List Int) (ht : tl.length = 256) (s : Int) (h0 : 0 ≤ s) (h1 : s < 4294967296) (A2 : Option Addr) (c2 : Nat) (l0 : List Int) (w : World) (hr0 : Kd.C (Kd.int .u8) w A2 l0.length l0) (hc0 : l0.length ≤ c2) (hb : Bytes l0) :
    Calls Try.prog 4 #[.agg (tabV tl), .int .u32 s, .slice A2 l0.length c2] w fun e w' => e = .returned (.bool true) ∧ Below w.heap.size w w' := by
  have hl : (l0.take 300).length ≤ 300 := by rw [List.length_take]; omega
  have hbb : Bytes (l0.take 300) := hb.take 300
  refine CrcSums.sums_any tl ht s A2 c2 c2 l0 (l0.take 300) 4000 w hr0 hc0 (cut_u8.nat l0 300) hbb (by omega) ?_ (refsum 0 (by decide) (by decide) _ hbb (by omega) 4000 (by omega)) (refsum s h0 h1 _ hbb (by omega) 4000 (by omega)) (same_ok _ (by omega) 4000 (by omega))
  unfold duffelref01_Copy.f
  rw [if_pos (by simp; omega), List.nil_append]
end Go.Proofs.Ytlemagpmhenmmaa.Pure
