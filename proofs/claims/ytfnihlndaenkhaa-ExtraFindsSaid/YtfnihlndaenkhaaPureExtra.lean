/- Package extra's references, as printed: what they answer; what is written is read as it was, and the other way round. -/
import Derived.Test.YtfnihlndaenkhaaExtraR0
import Derived.Test.YtfnihlndaenkhaaEXPut
import Derived.Test.YtfnihlndaenkhaaEXSame
namespace Go.Proofs.Ytfnihlndaenkhaa.Fld
open Go.Proofs.Ytfnihlndaenkhaa.EX Go.Proofs.Ytfnihlndaenkhaa.EXR
open Go.RowKit Go.Proofs.YtfnihlndaenkhaaW.PrintWords Go.Proofs.YtfnihlndaenkhaaW.PrintLast Go.Proofs.YtfnihlndaenkhaaW.PrintMore
set_option linter.unusedVariables false
set_option linter.unusedSimpArgs false
theorem rdT_nat (X : List FT) (i : Nat) (h : i < X.length) : rd_T27 X (i : Int) = X[i] := by simp [rd_T27, List.getD, h]
/-! the reference's Same -/
theorem rsame_l0 (X : List FT) (M : Nat) (hM : ∀ x ∈ X, x.f1.length ≤ M) (hl : X.length ≤ 1000000000) (hMl : M ≤ 1000000000) (d : Nat) : ∀ (i K : Nat), i + d = X.length → M + 2 + d ≤ K → duffelref23_Same.l0 K X X (i : Int) = some true := by
  induction d with
  | zero =>
    intro i K hi hK
    obtain ⟨K, rfl⟩ : ∃ j, K = j + 1 := ⟨K - 1, by omega⟩
    rw [duffelref23_Same.l0]
    exact if_neg (by omega)
  | succ d ih =>
    intro i K hi hK
    obtain ⟨K, rfl⟩ : ∃ j, K = j + 1 := ⟨K - 1, by omega⟩
    have hX := ih (i + 1) K (by omega) (by omega)
    have hm := hM X[i] (List.getElem_mem (by omega))
    have hs := same_ok X[i].f1 (by omega) K (by omega)
    rw [duffelref23_Same.l0, rdT_nat X i (by omega), hs, w64i ((i : Int) + 1) (by omega) (by omega)]
    refine (if_pos (by omega)).trans ((if_pos (by omega)).trans ((if_pos (by omega)).trans ((if_pos rfl).trans ?_)))
    show (if true = true then duffelref23_Same.l0 K X X ((i : Int) + 1) else some false) = _
    rw [if_pos rfl]
    exact hX
theorem rsame_ok (X : List FT) (M : Nat) (hM : ∀ x ∈ X, x.f1.length ≤ M) (hl : X.length ≤ 1000000000) (hMl : M ≤ 1000000000) (K : Nat) (hK : M + 2 + X.length ≤ K) : duffelref23_Same.f K X X = some true := by
  unfold duffelref23_Same.f
  rw [if_pos rfl]
  exact rsame_l0 X M hM hl hMl X.length 0 K (by omega) hK
/-! the reference's Write -/
theorem rwrite_bad (X : List FT) (K : Nat) (acc : List Int) (i : Nat) (hi : i < X.length) (hl : X.length ≤ 1000000000) (h : okF X[i] = false) (hK : 3 ≤ K) : duffelref23_Write.l0 K X acc (i : Int) = some ([], 18) := by
  obtain ⟨K, rfl⟩ : ∃ j, K = j + 2 := ⟨K - 2, by omega⟩
  have h' : ¬ (0 ≤ X[i].f0 ∧ X[i].f0 ≤ 65535 ∧ X[i].f1.length ≤ 65535) := fun h2 => by rw [(okF_iff X[i]).2 h2] at h; cases h
  rw [duffelref23_Write.l0, rdT_nat X i hi]
  refine (if_pos (by omega)).trans ((if_pos (by omega)).trans ?_)
  by_cases c1 : X[i].f0 < 0
  · rw [if_pos c1, duffelref23_Write.j1]; exact if_pos rfl
  · rw [if_neg c1]
    by_cases c2 : X[i].f0 > 65535
    · rw [if_pos c2, duffelref23_Write.j1]; exact if_pos rfl
    · rw [if_neg c2, duffelref23_Write.j1]
      exact if_pos (decide_eq_true (by omega))
theorem rwrite_good (X : List FT) (K : Nat) (acc : List Int) (i : Nat) (hi : i < X.length) (hl : X.length ≤ 1000000000) (h : okF X[i] = true) (hK : 8 ≤ K) (ha : acc.length ≤ 100000000) :
    duffelref23_Write.l0 K X acc (i : Int) = duffelref23_Write.l0 (K - 2) X (acc ++ fb X[i]) ((i + 1 : Nat) : Int) := by
  obtain ⟨K, rfl⟩ : ∃ j, K = j + 2 := ⟨K - 2, by omega⟩
  obtain ⟨h0, h1, h2⟩ := (okF_iff X[i]).1 h
  have p1 := put_run X[i].f0 ⟨h0, by omega⟩ 2 (by decide) K (by omega)
  have p2 := put_run (X[i].f1.length : Int) ⟨by omega, by omega⟩ 2 (by decide) K (by omega)
  rw [show ((2 : Nat) : Int) = 2 from rfl] at p1 p2
  have m1 : X[i].f0 % 4294967296 = X[i].f0 := by omega
  have m2 : (X[i].f1.length : Int) % 4294967296 = (X[i].f1.length : Int) := by omega
  rw [duffelref23_Write.l0, rdT_nat X i hi]
  refine (if_pos (by omega)).trans ((if_pos (by omega)).trans ((if_neg (by omega)).trans ((if_neg (by omega)).trans ?_)))
  rw [duffelref23_Write.j1, rdT_nat X i hi, m1, m2, p1, p2, w64i ((i : Int) + 1) (by omega) (by omega)]
  refine (if_neg (by rw [decide_eq_false (by omega)]; decide)).trans ((if_pos (by omega)).trans ((if_pos (by omega)).trans ?_))
  show (if acc.length + (le X[i].f0 2).length < 140737488355328 then _ else _) = _
  rw [if_pos (by rw [le_length]; omega)]
  show (if (acc ++ le X[i].f0 2).length + (le (X[i].f1.length : Int) 2).length < 140737488355328 then _ else _) = _
  rw [if_pos (by rw [List.length_append, le_length, le_length]; omega)]
  show (if (acc ++ le X[i].f0 2 ++ le (X[i].f1.length : Int) 2).length + X[i].f1.length < 140737488355328 then _ else _) = _
  rw [if_pos (by rw [List.length_append, List.length_append, le_length, le_length]; omega)]
  show duffelref23_Write.l0 K X (acc ++ le X[i].f0 2 ++ le (X[i].f1.length : Int) 2 ++ X[i].f1) _ = duffelref23_Write.l0 K X _ _
  congr 1
  unfold fb
  simp only [List.append_assoc]
theorem okA_false (X : List FT) (i : Nat) (h : okA X i = false) (hi : i ≤ X.length) : okA X X.length = false := by
  have h2 : ¬ okA X X.length = true := fun h3 => by
    have : okA X i = true := by
      unfold okA at h3 ⊢
      rw [List.all_eq_true] at h3 ⊢
      exact fun x hx => h3 x (by rw [List.take_length]; exact List.mem_of_mem_take hx)
    rw [this] at h; cases h
  simpa using h2
theorem rwrite_l0 (X : List FT) (hl : X.length ≤ 1000000) (hs : szF X X.length ≤ 100000000) (d : Nat) : ∀ (i K : Nat), i + d = X.length → 2 * d + 10 ≤ K → okA X i = true → duffelref23_Write.l0 K X (catF X i) (i : Int) = some (wrL X, wrE X) := by
  induction d with
  | zero =>
    intro i K hi hK hok
    obtain ⟨K, rfl⟩ : ∃ j, K = j + 1 := ⟨K - 1, by omega⟩
    obtain rfl : i = X.length := by omega
    rw [duffelref23_Write.l0]
    refine (if_neg (by omega)).trans ?_
    unfold wrL wrE wrOk
    rw [hok]
    by_cases c : (catF X X.length).length ≤ 65535
    · rw [if_neg (by omega), decide_eq_true c]; rfl
    · rw [if_pos (by omega), decide_eq_false c]; rfl
  | succ d ih =>
    intro i K hi hK hok
    have hlt : i < X.length := by omega
    cases hx : okF X[i] with
    | false =>
      have h1 : okA X (i + 1) = false := by rw [okA_succ X i hlt, hok, hx]; rfl
      have h2 := okA_false X (i + 1) h1 (by omega)
      rw [rwrite_bad X K _ i hlt (by omega) hx (by omega)]
      unfold wrL wrE wrOk
      rw [h2]; rfl
    | true =>
      have hcl := catF_len X i
      have hmo := szF_mono X i X.length (by omega)
      rw [rwrite_good X K _ i hlt (by omega) hx (by omega) (by omega), ← catF_succ X i hlt]
      exact ih (i + 1) (K - 2) (by omega) (by omega) (by rw [okA_succ X i hlt, hok, hx]; rfl)
theorem rwrite_run (X : List FT) (hl : X.length ≤ 1000000) (hs : szF X X.length ≤ 100000000) (K : Nat) (hK : 2 * X.length + 10 ≤ K) : duffelref23_Write.f K X = some (wrL X, wrE X) :=
  rwrite_l0 X hl hs X.length 0 K (by omega) hK (by simp [okA])
/-! the reference's Read -/
theorem cut_mid (b : List Int) (i m : Nat) : (b.take (i + m)).drop i = (b.drop i).take m := by rw [List.drop_take, Nat.add_sub_cancel_left]
theorem rread_l0 (b : List Int) (hb : Byt8 b) (hl : b.length ≤ 1000000) (k : Nat) : ∀ (a K : Nat) (acc : List FT), a ≤ b.length → b.length - a < k → k + 10 ≤ K → acc.length ≤ a → duffelref23_Read.l0 K b acc (a : Int) = some (rdF k (b.drop a) acc) := by
  induction k with
  | zero => intro a K acc ha hk; omega
  | succ k ih =>
    intro a K acc ha hk hK hacc
    obtain ⟨K, rfl⟩ : ∃ j, K = j + 1 := ⟨K - 1, by omega⟩
    have hdl : (b.drop a).length = b.length - a := List.length_drop
    rw [duffelref23_Read.l0]
    by_cases h0 : a < b.length
    · refine (if_pos (by omega)).trans ?_
      rw [w64i ((b.length : Int) - (a : Int)) (by omega) (by omega), w64i ((a : Int) + 2) (by omega) (by omega), w64i ((a : Int) + 4) (by omega) (by omega)]
      by_cases h4 : b.length - a < 4
      · rw [if_pos (by omega), rdF_short k _ acc (by omega) (by omega)]
      · rw [if_neg (by omega), if_pos (by omega), if_pos (by omega), if_pos (by omega)]
        have e1 : (b.take ((a : Int) + 4).toNat).drop ((a : Int) + 2).toNat = ((b.drop a).drop 2).take 2 := by
          rw [show ((a : Int) + 4).toNat = (a + 2) + 2 by omega, show ((a : Int) + 2).toNat = a + 2 by omega, cut_mid, List.drop_drop]
        have e2 : (b.take ((a : Int) + 2).toNat).drop (a : Int).toNat = (b.drop a).take 2 := by
          rw [show ((a : Int) + 2).toNat = a + 2 by omega, Int.toNat_natCast, cut_mid]
        have b1 : Byt8 (((b.drop a).drop 2).take 2) := ((hb.drop a).drop 2).take 2
        have b2 : Byt8 ((b.drop a).take 2) := (hb.drop a).take 2
        have l1 : (((b.drop a).drop 2).take 2).length = 2 := by rw [List.length_take, List.length_drop]; omega
        have l2 : ((b.drop a).take 2).length = 2 := by rw [List.length_take]; omega
        have n1 := num_bound _ b1
        have n2 := num_bound _ b2
        rw [l1] at n1
        rw [l2] at n2
        have q1 := num_run _ b1 (by omega) K (by omega)
        have q2 := num_run _ b2 (by omega) K (by omega)
        rw [e1, e2, q1, q2]
        obtain ⟨n, hn⟩ : ∃ n : Nat, num (((b.drop a).drop 2).take 2) = (n : Int) := ⟨(num (((b.drop a).drop 2).take 2)).toNat, by omega⟩
        obtain ⟨z, hz⟩ : ∃ z, num ((b.drop a).take 2) = z := ⟨_, rfl⟩
        rw [hz] at n2
        have hnb : n < 65536 := by have := n1.2; rw [hn] at this; have h9 : (256 : Int) ^ 2 = 65536 := by decide
                                   omega
        have hzb : z < 65536 := by have := n2.2; have h9 : (256 : Int) ^ 2 = 65536 := by decide
                                   omega
        have hr := rdF_step k (b.drop a) acc (by omega) n hn
        rw [hz] at hr
        rw [hn, hz]
        clear q1 q2 b1 b2 l1 l2 n1 e1 e2
        rw [Option.bind_some, w64i (n : Int) (by omega) (by omega), w64i ((b.length : Int) - (a : Int) - 4) (by omega) (by omega), w64i ((a : Int) + 4 + (n : Int)) (by omega) (by omega)]
        by_cases h6 : b.length - a - 4 < n
        · rw [if_pos (by omega), rdF_long k _ acc (by omega) (by rw [hn]; omega)]
        · rw [if_neg (by omega), if_pos (by omega), if_pos (by omega), if_pos (by omega)]
          rw [Option.bind_some, if_pos (by omega), if_pos (by omega), if_pos (by omega)]
          have e3 : (b.take ((a : Int) + 4 + (n : Int)).toNat).drop ((a : Int) + 4).toNat = ((b.drop a).drop 4).take n := by
            rw [show ((a : Int) + 4 + (n : Int)).toNat = (a + 4) + n by omega, show ((a : Int) + 4).toNat = a + 4 by omega, cut_mid, List.drop_drop]
          have e4 : duffelref01_Copy.f (((b.drop a).drop 4).take n) = some (((b.drop a).drop 4).take n) := if_pos (by rw [List.length_take, List.length_drop]; simp; omega)
          rw [e3, e4, Option.bind_some, if_pos (by omega), hr (by omega), w64i z (by omega) (by omega)]
          have hi := ih (a + (4 + n)) K (acc ++ [⟨z, ((b.drop a).drop 4).take n⟩]) (by omega) (by omega) (by omega) (by rw [List.length_append]; simp; omega)
          rw [show ((a + (4 + n) : Nat) : Int) = (a : Int) + 4 + (n : Int) by omega, ← List.drop_drop] at hi
          exact hi
    · obtain rfl : a = b.length := by omega
      rw [List.drop_length, rdF_nil]
      exact if_neg (by omega)
theorem rread_run (b : List Int) (hb : Byt8 b) (hl : b.length ≤ 1000000) (K : Nat) (hK : b.length + 20 ≤ K) : duffelref23_Read.f K b = some (rdA b) :=
  rread_l0 b hb hl (b.length + 1) 0 K [] (by omega) (by omega) (by omega) (Nat.zero_le _)
end Go.Proofs.Ytfnihlndaenkhaa.Fld
