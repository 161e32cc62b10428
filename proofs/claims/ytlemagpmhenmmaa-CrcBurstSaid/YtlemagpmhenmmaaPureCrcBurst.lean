/- CrcBurst, the plain law: a text of which up to 32 bits in a row are turned, the first of them surely, has another sum. No conditions. -/
import Derived.Test.YtlemagpmhenmmaaQBx1
import Derived.Test.YtlemagpmhenmmaaCrcPure
import Derived.IntWalk
namespace Go.Proofs.Ytlemagpmhenmmaa.Pure
open Go.RowKit Go.Proofs.Ytlemagpmhenmmaa.QB Go.Proofs.YtlemagpmhenmmaaW.PrintWords Go.Proofs.YtlemagpmhenmmaaW.PrintLast Go.Proofs.YtlemagpmhenmmaaW.PrintMore Go.Proofs.Ytlemagpmhenmmaa.MyCut Go.Proofs.Ytlemagpmhenmmaa.CrcPure Go.Proofs.Ytlemagpmhenmmaa.CrcWalk

theorem bitsOf_len (n : Nat) : ∀ c : Nat, (Crc.bitsOf n c).length = n := by
  induction n with
  | zero => intro c; rfl
  | succ n ih => intro c; simp [Crc.bitsOf, ih]
theorem bitsOf_lt (n : Nat) : ∀ c : Nat, ∀ d ∈ Crc.bitsOf n c, d < 2 := by
  induction n with
  | zero => intro c d h; cases h
  | succ n ih =>
    intro c d h
    simp only [Crc.bitsOf, List.mem_cons] at h
    rcases h with rfl | h
    · omega
    · exact ih _ d h
theorem pow_half (k : Nat) : 2 ^ (k + 1) / 2 = 2 ^ k := by rw [Nat.pow_succ]; omega
/-- A bit that is 0, turned. -/
theorem bitsOf_flip (n : Nat) : ∀ (k c : Nat), k < n → (Crc.bitsOf n c)[k]? = some 0 → Crc.bitsOf n (c ^^^ 2 ^ k) = (Crc.bitsOf n c).set k 1 := by
  induction n with
  | zero => intro k c h; omega
  | succ n ih =>
    intro k c hk h
    cases k with
    | zero =>
      simp only [Crc.bitsOf, List.getElem?_cons_zero, Option.some.injEq] at h
      simp only [Crc.bitsOf, List.set_cons_zero]
      rw [Crc.xor_mod2, Crc.xor_div2]
      have e : (c + 2 ^ 0) % 2 = 1 := by simp; omega
      rw [e]
      simp
    | succ k =>
      simp only [Crc.bitsOf, List.getElem?_cons_succ] at h
      simp only [Crc.bitsOf, List.set_cons_succ]
      rw [Crc.xor_mod2, Crc.xor_div2, pow_half, ih k _ (by omega) h]
      have e : (c + 2 ^ (k + 1)) % 2 = c % 2 := by rw [Nat.pow_succ]; omega
      rw [e]
def bits (d : List Nat) : List Nat := d.flatMap (Crc.bitsOf 8)
theorem bits_len (d : List Nat) : (bits d).length = 8 * d.length := by
  induction d with
  | nil => rfl
  | cons c d ih => simp only [bits, List.flatMap_cons, List.length_append, bitsOf_len, List.length_cons] at ih ⊢; omega
theorem bits_cons (c : Nat) (d : List Nat) : bits (c :: d) = Crc.bitsOf 8 c ++ bits d := rfl
theorem bits_flip (d : List Nat) : ∀ q : Nat, (bits d)[q]? = some 0 → bits (d.set (q / 8) (d.getD (q / 8) 0 ^^^ 2 ^ (q % 8))) = (bits d).set q 1 := by
  induction d with
  | nil => intro q h; simp [bits] at h
  | cons c d ih =>
    intro q h
    by_cases hq : q < 8
    · have e1 : q / 8 = 0 := by omega
      have e2 : q % 8 = q := by omega
      rw [bits_cons, List.getElem?_append_left (by rw [bitsOf_len]; exact hq)] at h
      rw [e1, e2, bits_cons, List.set_append_left _ _ (by rw [bitsOf_len]; exact hq), List.set_cons_zero, bits_cons]
      have e3 : (c :: d).getD 0 0 = c := rfl
      rw [e3, bitsOf_flip 8 q c hq h]
    · obtain ⟨p, rfl⟩ : ∃ p, q = p + 8 := ⟨q - 8, by omega⟩
      rw [bits_cons, List.getElem?_append_right (by rw [bitsOf_len]; omega), bitsOf_len] at h
      have h' : (bits d)[p]? = some 0 := by rw [← h]; congr 1
      have e1 : (p + 8) / 8 = p / 8 + 1 := by omega
      have e2 : (p + 8) % 8 = p % 8 := by omega
      rw [e1, e2, bits_cons, List.set_append_right _ _ (by rw [bitsOf_len]; omega), bitsOf_len, List.set_cons_succ, bits_cons]
      have e3 : (c :: d).getD (p / 8 + 1) 0 = d.getD (p / 8) 0 := by simp [List.getD]
      have e4 : p + 8 - 8 = p := by omega
      rw [e3, e4, ih p h']
theorem xor_self_left (a b : Nat) : (a ^^^ b) ^^^ a = b := by rw [Nat.xor_comm a b, Nat.xor_assoc, Nat.xor_self, Nat.xor_zero]
theorem zip_back (b : List Nat) : ∀ d : List Nat, d.length = b.length → List.zipWith (· ^^^ ·) (List.zipWith (· ^^^ ·) b d) b = d := by
  induction b with
  | nil => intro d h; simp at h; subst h; rfl
  | cons x b ih => intro d h; cases d with
    | nil => simp at h
    | cons y d => simp only [List.zipWith_cons_cons]; rw [xor_self_left, ih d (by simpa using h)]
/-- The sums part. -/
theorem sums_part (b d : List Nat) (x0 x7 : List Int) (hb : Bytes x0) (h7 : Bytes x7) (e0 : toN x0 = b) (e7 : toN x7 = List.zipWith (· ^^^ ·) b d) (hl : d.length = b.length) (hd : ∀ c ∈ d, c < 256)
    (p q : Nat) (ds : List Nat) (h2 : ∀ e ∈ ds, e < 2) (h31 : ds.length ≤ 31) (hbits : bits d = List.replicate p 0 ++ (1 :: ds ++ List.replicate q 0)) : addF tabL 0 x7 ≠ addF tabL 0 x0 := by
  intro h
  rw [sum_eq x7 h7, sum_eq x0 hb] at h
  have h' := full_inj (Int.ofNat.inj h)
  rw [e0, e7] at h'
  have hx := Crc.run_xor (List.zipWith (· ^^^ ·) b d) b full full (by simp [hl])
  rw [zip_back b d hl, Nat.xor_self, h', Nat.xor_self, Crc.run_bits d 0 hd] at hx
  have hb2 : d.flatMap (Crc.bitsOf 8) = bits d := rfl
  rw [hb2, hbits] at hx
  exact Crc.burst p q ds h2 h31 hx

theorem bits_lt256 (x : Nat) (hx : x < 256) (r : Nat) (hr : r < 8) : x ^^^ 2 ^ r < 256 :=
  Nat.xor_lt_two_pow (n := 8) hx (Nat.pow_lt_pow_right (a := 2) (by decide) hr)
theorem shl_one (r : Nat) (hr : r < 8) : shl .u8 1 (r : Int) = ((2 ^ r : Nat) : Int) := by
  unfold shl
  have : r = 0 ∨ r = 1 ∨ r = 2 ∨ r = 3 ∨ r = 4 ∨ r = 5 ∨ r = 6 ∨ r = 7 := by omega
  rcases this with rfl | rfl | rfl | rfl | rfl | rfl | rfl | rfl <;> decide
/-- Where the loop stands at round i: x7 is b with d turned, d's bits are noughts, i bits from 'at' on, noughts. -/
structure Inv (b : List Nat) (x7 : List Int) (s i : Nat) (d ds : List Nat) : Prop where
  len7 : x7.length = b.length
  lend : d.length = b.length
  low : ∀ c ∈ d, c < 256
  by7 : Bytes x7
  at7 : ∀ j : Nat, j < b.length → rd x7 j = ((b.getD j 0 ^^^ d.getD j 0 : Nat) : Int)
  bit : bits d = List.replicate s 0 ++ (ds ++ List.replicate (8 * b.length - s - i) 0)
  ln : ds.length = i
  two : ∀ e ∈ ds, e < 2
  one : 0 < i → ∃ r, ds = 1 :: r
theorem getD_set (d : List Nat) (j m v : Nat) (hj : j < d.length) : (d.set j v).getD m 0 = if m = j then v else d.getD m 0 := by
  simp only [List.getD, List.getElem?_set]
  by_cases h : m = j
  · subst h; simp [hj]
  · rw [if_neg (fun e => h e.symm), if_neg h]
theorem rd_set (x : List Int) (j m : Nat) (v : Int) (hj : j < x.length) : rd (x.set j v) (m : Int) = if m = j then v else rd x (m : Int) := by
  simp only [rd, List.getD, List.getElem?_set, Int.toNat_natCast]
  by_cases h : m = j
  · subst h; simp [hj]
  · rw [if_neg (fun e => h e.symm), if_neg h]
theorem Inv.bit_at {b : List Nat} {x7 : List Int} {s i : Nat} {d ds : List Nat} (h : Inv b x7 s i d ds) (hq : s + i < 8 * b.length) : (bits d)[s + i]? = some 0 := by
  rw [h.bit, List.getElem?_append_right (by simp), List.length_replicate, List.getElem?_append_right (by rw [h.ln]; omega), h.ln, List.getElem?_replicate]
  rw [if_pos (by omega)]
theorem Inv.flip {b : List Nat} {x7 : List Int} {s i : Nat} {d ds : List Nat} (h : Inv b x7 s i d ds) (hb : ∀ c ∈ b, c < 256) (hq : s + i < 8 * b.length) :
    Inv b (x7.set ((s + i) / 8) (Go.bits .xor .u8 (rd x7 (((s + i) / 8 : Nat) : Int)) (shl .u8 1 (((s + i) % 8 : Nat) : Int)))) s (i + 1) (d.set ((s + i) / 8) (d.getD ((s + i) / 8) 0 ^^^ 2 ^ ((s + i) % 8))) (ds ++ [1]) := by
  have hj : (s + i) / 8 < b.length := by omega
  have hr : (s + i) % 8 < 8 := by omega
  have hdj : d.getD ((s + i) / 8) 0 < 256 := by
    have hl : (s + i) / 8 < d.length := by rw [h.lend]; exact hj
    rw [List.getD, List.getElem?_eq_getElem hl]
    exact h.low _ (List.getElem_mem hl)
  have hbj : b.getD ((s + i) / 8) 0 < 256 := by
    rw [List.getD, List.getElem?_eq_getElem hj]
    exact hb _ (List.getElem_mem hj)
  have hx : b.getD ((s + i) / 8) 0 ^^^ d.getD ((s + i) / 8) 0 < 256 := Nat.xor_lt_two_pow (n := 8) hbj hdj
  have hv : Go.bits .xor .u8 (rd x7 (((s + i) / 8 : Nat) : Int)) (shl .u8 1 (((s + i) % 8 : Nat) : Int)) = ((b.getD ((s + i) / 8) 0 ^^^ (d.getD ((s + i) / 8) 0 ^^^ 2 ^ ((s + i) % 8)) : Nat) : Int) := by
    rw [h.at7 _ hj, shl_one _ hr, CrcPure.u8_xor _ _ hx (Nat.pow_lt_pow_right (a := 2) (m := (s + i) % 8) (n := 8) (by decide) hr), Nat.xor_assoc]
  have hnew := bits_lt256 _ hdj _ hr
  rw [hv]
  exact {
    len7 := by rw [List.length_set]; exact h.len7
    lend := by rw [List.length_set]; exact h.lend
    low := fun c hc => by
      rcases List.mem_or_eq_of_mem_set hc with h1 | rfl
      · exact h.low c h1
      · exact hnew
    by7 := fun c hc => by
      rcases List.mem_or_eq_of_mem_set hc with h1 | rfl
      · exact h.by7 c h1
      · have := Nat.xor_lt_two_pow (n := 8) hbj hnew
        omega
    at7 := fun m hm => by
      rw [rd_set _ _ _ _ (by rw [h.len7]; exact hj), getD_set _ _ _ _ (by rw [h.lend]; exact hj)]
      by_cases e : m = (s + i) / 8
      · subst e; rw [if_pos rfl, if_pos rfl]
      · rw [if_neg e, if_neg e]; exact h.at7 m hm
    bit := by
      rw [bits_flip d _ (h.bit_at hq), h.bit]
      have e : 8 * b.length - s - i = 8 * b.length - s - (i + 1) + 1 := by omega
      rw [e, List.replicate_succ, List.set_append_right _ _ (by simp), List.length_replicate, List.set_append_right _ _ (by rw [h.ln]; omega), h.ln]
      have e2 : s + i - s - i = 0 := by omega
      rw [e2, List.set_cons_zero, List.append_assoc]
      rfl
    ln := by simp [h.ln]
    two := fun e he => by
      simp at he
      rcases he with h1 | rfl
      · exact h.two e h1
      · decide
    one := fun _ => by
      rcases Nat.eq_zero_or_pos i with h0 | h0
      · have : ds = [] := List.eq_nil_of_length_eq_zero (h.ln.trans h0)
        subst this; exact ⟨[], rfl⟩
      · obtain ⟨r, rfl⟩ := h.one h0
        exact ⟨r ++ [1], rfl⟩ }
theorem Inv.pass {b : List Nat} {x7 : List Int} {s i : Nat} {d ds : List Nat} (h : Inv b x7 s i d ds) (hi : 0 < i) (hq : s + i < 8 * b.length) : Inv b x7 s (i + 1) d (ds ++ [0]) :=
  { h with
    bit := by
      rw [h.bit]
      have e : 8 * b.length - s - i = 8 * b.length - s - (i + 1) + 1 := by omega
      rw [e, List.replicate_succ, List.append_assoc]
      rfl
    ln := by simp [h.ln]
    two := fun e he => by
      simp at he
      rcases he with h1 | rfl
      · exact h.two e h1
      · decide
    one := fun _ => by
      obtain ⟨r, rfl⟩ := h.one hi
      exact ⟨r ++ [0], rfl⟩ }
theorem Inv.sums {b : List Nat} {x0 x7 : List Int} {s i : Nat} {d ds : List Nat} (h : Inv b x7 s i d ds) (hb : Bytes x0) (e0 : toN x0 = b) (hi : 0 < i) (h32 : i ≤ 32) : addF tabL 0 x7 ≠ addF tabL 0 x0 := by
  obtain ⟨r, rfl⟩ := h.one hi
  have hl := h.ln
  simp at hl
  refine sums_part b d x0 x7 hb h.by7 e0 ?_ h.lend h.low s (8 * b.length - s - i) r (fun e he => h.two e (by simp [he])) (by omega) h.bit
  apply List.ext_getElem?
  intro j
  by_cases hj : j < b.length
  · have h1 := h.at7 j hj
    have hj7 : j < x7.length := by rw [h.len7]; exact hj
    have hjd : j < d.length := by rw [h.lend]; exact hj
    simp only [rd, List.getD, Int.toNat_natCast, List.getElem?_eq_getElem hj7, List.getElem?_eq_getElem hj, List.getElem?_eq_getElem hjd, Option.getD_some] at h1
    rw [List.getElem?_zipWith, List.getElem?_eq_getElem hj, List.getElem?_eq_getElem hjd]
    simp [toN, List.getElem?_eq_getElem hj7, h1]
  · rw [List.getElem?_eq_none (by simp [toN, h.len7]; omega), List.getElem?_eq_none (by simp; omega)]
theorem lives_true : duffellaw03_lives.f = some true := rfl
theorem crc_some (l : List Int) (h : l.length ≤ 1000) : crc_Sum.f l = some (addF tabL 0 l) := by
  unfold crc_Sum.f; rw [if_pos (by omega)]
theorem burst_end (k : Nat) (x0 x7 : List Int) (x1 x2 x8 : Int) (h0 : x0.length ≤ 1000) (h7 : x7.length ≤ 1000) (h : addF tabL 0 x7 ≠ addF tabL 0 x0) :
    duffellaw03_CrcBurst.j1 (k + 1) x0 x1 x2 x7 x8 false = some true := by
  simp only [duffellaw03_CrcBurst.j1]
  rw [if_neg (by decide), crc_some _ h7, crc_some _ h0]
  simp only [Option.bind_some]
  rw [if_neg h, lives_true]
  rfl
theorem burst_loop (b : List Nat) (hb : ∀ c ∈ b, c < 256) (x0 : List Int) (h0 : Bytes x0) (e0 : toN x0 = b) (hn : b.length ≤ 500) (hp : 0 < b.length) (s : Nat) (hs : s < 8 * b.length) (x2 : Int) (m : Nat) :
    ∀ (k i : Nat) (x7 : List Int) (d ds : List Nat), Inv b x7 s i d ds → i ≤ 32 → s + i ≤ 8 * b.length → 33 - i = m → 2 * m + 3 < k → duffellaw03_CrcBurst.l0 k x0 (s : Int) x2 x7 (i : Int) = some true := by
  have hx0 : x0.length = b.length := by rw [← e0]; simp [toN]
  induction m with
  | zero => intro k i x7 d ds hI hi hq hm hk; omega
  | succ m ih =>
    intro k i x7 d ds hI hi hq hm hk
    obtain ⟨k, rfl⟩ : ∃ j, k = j + 2 := ⟨k - 2, by omega⟩
    have h7 : x7.length = b.length := hI.len7
    have w1 : wrap64 (8 * (x0.length : Int)) = 8 * (x0.length : Int) := by unfold wrap64; omega
    have w2 : wrap64 (8 * (x0.length : Int) - s) = 8 * (x0.length : Int) - s := by clear w1; unfold wrap64; omega
    simp only [duffellaw03_CrcBurst.l0]
    rw [w1, w2]
    clear w1 w2
    by_cases c1 : i < 32
    · refine (if_pos (show (i : Int) < 32 by omega)).trans ?_
      by_cases c2 : s + i < 8 * b.length
      · refine (congrArg (duffellaw03_CrcBurst.j1 (k + 1) x0 (s : Int) x2 x7 (i : Int)) (decide_eq_true (show (i : Int) < 8 * (x0.length : Int) - (s : Int) by omega))).trans ?_
        have hg : 0 < i → duffellaw03_CrcBurst.l0 k x0 (s : Int) x2 x7 ((i + 1 : Nat) : Int) = some true := fun h0 => ih k (i + 1) _ _ _ (hI.pass h0 c2) (by omega) (by omega) (by omega) (by omega)
        have hf := ih k (i + 1) _ _ _ (hI.flip hb c2) (by omega) (by omega) (by omega) (by omega)
        have fl : (if 0 ≤ (((s + i) / 8 : Nat) : Int) then (if (((s + i) / 8 : Nat) : Int) < (x7.length : Int) then (if 0 ≤ (((s + i) % 8 : Nat) : Int) then (duffellaw03_CrcBurst.l0 k x0 (s : Int) x2 (x7.set ((((s + i) / 8 : Nat) : Int)).toNat (Go.bits .xor .u8 (rd x7 (((s + i) / 8 : Nat) : Int)) (shl .u8 1 (((s + i) % 8 : Nat) : Int)))) ((i + 1 : Nat) : Int)) else (none)) else (none)) else (none)) = some true := by
          refine (if_pos (show (0 : Int) ≤ (((s + i) / 8 : Nat) : Int) by omega)).trans ?_
          refine (if_pos (show (((s + i) / 8 : Nat) : Int) < (x7.length : Int) by omega)).trans ?_
          refine (if_pos (show (0 : Int) ≤ (((s + i) % 8 : Nat) : Int) by omega)).trans ?_
          rw [Int.toNat_natCast]
          exact hf
        simp only [duffellaw03_CrcBurst.j1]
        refine (if_pos trivial).trans ?_
        clear ih
        have q1 : wrap64 ((s : Int) + i) = ((s + i : Nat) : Int) := by unfold wrap64; omega
        rw [q1]
        clear q1
        have q2 : wrap64 (Int.tdiv ((s + i : Nat) : Int) 8) = (((s + i) / 8 : Nat) : Int) := by rw [Int.tdiv_eq_ediv_of_nonneg (by omega)]; unfold wrap64; omega
        rw [q2]
        clear q2
        have q3 : IntKind.u64.wrap (Int.tmod ((s + i : Nat) : Int) 8) = (((s + i) % 8 : Nat) : Int) := by
          rw [Int.tmod_eq_emod_of_nonneg (by omega)]
          have : ((s + i : Nat) : Int) % 8 = (((s + i) % 8 : Nat) : Int) := by omega
          rw [this]
          exact IntWalk.u64_in _ (by omega)
        have w3 : wrap64 ((i : Int) + 1) = ((i + 1 : Nat) : Int) := by unfold wrap64; omega
        rw [q3, w3]
        clear q3 w3
        by_cases c3 : (i : Int) = 0
        · exact (if_pos c3).trans fl
        · refine (if_neg c3).trans ?_
          have w4 : IntKind.u64.wrap (i : Int) = (i : Int) := IntWalk.u64_in _ (by omega)
          rw [w4]
          refine (if_pos (show (0 : Int) ≤ (i : Int) by omega)).trans ?_
          by_cases c4 : Go.bits .and .u32 (shr .u32 x2 (i : Int)) 1 = 1
          · exact (if_pos c4).trans fl
          · refine (if_neg c4).trans ?_
            exact hg (by omega)
      · refine (congrArg (duffellaw03_CrcBurst.j1 (k + 1) x0 (s : Int) x2 x7 (i : Int)) (decide_eq_false (show ¬ (i : Int) < 8 * (x0.length : Int) - (s : Int) by omega))).trans ?_
        exact burst_end k x0 x7 _ _ _ (by omega) (by omega) (hI.sums h0 e0 (by omega) (by omega))
    · refine (if_neg (show ¬ (i : Int) < 32 by omega)).trans ?_
      exact burst_end k x0 x7 _ _ _ (by omega) (by omega) (hI.sums h0 e0 (by omega) (by omega))
theorem toN_getD (l : List Int) (h : Bytes l) (j : Nat) (hj : j < l.length) : rd l j = (((toN l).getD j 0 : Nat) : Int) := by
  have := h l[j] (List.getElem_mem hj)
  simp [rd, toN, List.getD, hj]
  omega
theorem bits_zeros (n : Nat) : bits (List.replicate n 0) = List.replicate (8 * n) 0 := by
  induction n with
  | zero => rfl
  | succ n ih =>
    rw [List.replicate_succ, bits_cons, ih]
    have e : Crc.bitsOf 8 0 = List.replicate 8 0 := by decide
    rw [e, List.replicate_append_replicate]
    congr 1
    omega
theorem CrcBurst : duffellaw03_CrcBurst.Pure := by
  intro l0 a1 a2 _ _ hw hw1 _
  have hb0 : Bytes l0 := Bytes.of_wf hw
  obtain ⟨K, hK⟩ : ∃ K : Nat, 80 < K := ⟨81, by omega⟩
  refine ⟨K, ?_⟩
  unfold duffellaw03_CrcBurst.f
  rw [show (500 : Int) = ((500 : Nat) : Int) from rfl, cut_u8.nat]
  simp only [Option.bind_some]
  have hb : Bytes (l0.take 500) := hb0.take 500
  have hl : (l0.take 500).length ≤ 500 := by rw [List.length_take]; omega
  generalize l0.take 500 = l at hb hl
  by_cases c : (l.length : Int) = 0
  · rw [if_pos c, lives_true]; rfl
  rw [if_neg c]
  have hc : duffelref01_Copy.f l = some l := by
    unfold duffelref01_Copy.f
    rw [if_pos (by simp; omega), List.nil_append]
  rw [hc]
  simp only [Option.bind_some]
  have w1 : wrap64 (8 * (l.length : Int)) = 8 * (l.length : Int) := by unfold wrap64; omega
  have w2 : wrap64 (8 * (l.length : Int) - 1) = 8 * (l.length : Int) - 1 := by unfold wrap64; omega
  rw [w1, w2]
  obtain ⟨s, hs, hw⟩ : ∃ s : Nat, s < 8 * l.length ∧ duffelref01_Within.f a1 0 (8 * (l.length : Int) - 1) = some (s : Int) := by
    unfold duffelref01_Within.f
    by_cases d1 : a1 < 0
    · rw [if_pos d1]; exact ⟨0, by omega, rfl⟩
    rw [if_neg d1]
    by_cases d2 : a1 > 8 * (l.length : Int) - 1
    · rw [if_pos d2]; exact ⟨8 * l.length - 1, by omega, by congr 1; omega⟩
    rw [if_neg d2]
    exact ⟨a1.toNat, by omega, by congr 1; omega⟩
  rw [hw]
  simp only [Option.bind_some]
  have hlen : (toN l).length = l.length := by simp [toN]
  have hfin := fun hi => burst_loop (toN l) (toN_lt hb) l hb rfl (by omega) (by omega) s (by omega) a2 33 K 0 l (List.replicate l.length 0) [] hi (by omega) (by omega) rfl (by omega)
  rw [show ((0 : Nat) : Int) = 0 from rfl] at hfin
  refine hfin ?_
  exact {
    len7 := hlen.symm
    lend := by simp [hlen]
    low := fun c hc => by simp at hc; omega
    by7 := hb
    at7 := fun j hj => by
      rw [toN_getD l hb j (by omega)]
      have : (List.replicate l.length 0).getD j 0 = 0 := by simp [List.getD, List.getElem?_replicate]; split <;> rfl
      rw [this, Nat.xor_zero]
    bit := by
      rw [bits_zeros, hlen, List.nil_append, List.replicate_append_replicate]
      congr 1
      omega
    ln := rfl
    two := fun e he => by cases he
    one := fun h => by omega }
end Go.Proofs.Ytlemagpmhenmmaa.Pure
