/- Package extra: what is written is read as it was; what is read, written again, is the bytes; plain. -/
import Derived.Test.YtfnihlndaenkhaaExtraR0
namespace Go.Proofs.Ytfnihlndaenkhaa.Fld
open Go.Proofs.Ytfnihlndaenkhaa.EX
open Go.RowKit Go.Proofs.YtfnihlndaenkhaaW.PrintWords Go.Proofs.YtfnihlndaenkhaaW.PrintLast Go.Proofs.YtfnihlndaenkhaaW.PrintMore
set_option linter.unusedVariables false
set_option linter.unusedSimpArgs false
theorem nm_le2 (x : Int) (h0 : 0 ≤ x) (h1 : x ≤ 65535) : num (le x 2) = x := by
  have e : le x 2 = [byteAt x 0, byteAt x 1] := rfl
  rw [e]
  show byteAt x 0 + 256 * (byteAt x 1 + 256 * 0) = x
  unfold byteAt
  simp only [Nat.mul_zero, Nat.mul_one, Int.pow_zero, Int.ediv_one, show (2 : Int) ^ 8 = 256 from rfl]
  omega
theorem le_num2 (l : List Int) (hl : l.length = 2) (hb : ∀ x ∈ l, 0 ≤ x ∧ x ≤ 255) : le (num l) 2 = l := by
  match l, hl with
  | [p, q], _ =>
    have h1 := hb p (by simp)
    have h2 := hb q (by simp)
    have e : le (num [p, q]) 2 = [byteAt (num [p, q]) 0, byteAt (num [p, q]) 1] := rfl
    rw [e, show num [p, q] = p + 256 * (q + 256 * 0) from rfl]
    unfold byteAt
    simp only [Nat.mul_zero, Nat.mul_one, Int.pow_zero, Int.ediv_one, show (2 : Int) ^ 8 = 256 from rfl]
    have e1 : (p + 256 * (q + 256 * 0)) % 256 = p := by omega
    have e2 : (p + 256 * (q + 256 * 0)) / 256 % 256 = q := by omega
    rw [e1, e2]
theorem rd_cat (k : Nat) : ∀ (r : List Int) (acc : List FT), r.length < k → (∀ x ∈ r, 0 ≤ x ∧ x ≤ 255) →
    (∃ ys, rdF k r acc = (acc ++ ys, 0) ∧ ys.flatMap fb = r ∧ ys.all okF = true) ∨ rdF k r acc = ([], 3) := by
  induction k with
  | zero => intro r acc h; omega
  | succ k ih =>
    intro r acc hk hb
    by_cases h0 : r.length = 0
    · obtain rfl := List.eq_nil_of_length_eq_zero h0
      exact .inl ⟨[], by rw [rdF_nil, List.append_nil], rfl, rfl⟩
    · by_cases h4 : r.length < 4
      · exact .inr (rdF_short k r acc (by omega) h4)
      · have hb1 : ∀ x ∈ (r.drop 2).take 2, 0 ≤ x ∧ x ≤ 255 := fun x hx => hb x (List.mem_of_mem_drop (List.mem_of_mem_take hx))
        have hb0 : ∀ x ∈ r.take 2, 0 ≤ x ∧ x ≤ 255 := fun x hx => hb x (List.mem_of_mem_take hx)
        have l1 : ((r.drop 2).take 2).length = 2 := by rw [List.length_take, List.length_drop]; omega
        have l0 : (r.take 2).length = 2 := by rw [List.length_take]; omega
        have n1 := num_bound _ hb1
        have n0 := num_bound _ hb0
        rw [l1] at n1
        rw [l0] at n0
        obtain ⟨n, hn⟩ : ∃ n : Nat, num ((r.drop 2).take 2) = (n : Int) := ⟨(num ((r.drop 2).take 2)).toNat, by omega⟩
        have h9 : (256 : Int) ^ 2 = 65536 := by decide
        rw [hn, h9] at n1
        rw [h9] at n0
        by_cases h6 : r.length - 4 < n
        · exact .inr (rdF_long k r acc (by omega) (by rw [hn]; omega))
        · rw [rdF_step k r acc (by omega) n hn (by omega)]
          rcases ih (r.drop (4 + n)) (acc ++ [⟨num (r.take 2), (r.drop 4).take n⟩]) (by rw [List.length_drop]; omega) (fun x hx => hb x (List.mem_of_mem_drop hx)) with ⟨ys, e1, e2, e3⟩ | e
          · refine .inl ⟨⟨num (r.take 2), (r.drop 4).take n⟩ :: ys, by rw [e1, List.append_assoc]; rfl, ?_, ?_⟩
            · have hD : ((r.drop 4).take n).length = n := by rw [List.length_take, List.length_drop]; omega
              rw [List.flatMap_cons, e2]
              unfold fb
              rw [hD, ← hn, le_num2 _ l0 hb0, le_num2 _ l1 hb1]
              have p1 : r.take 2 ++ r.drop 2 = r := List.take_append_drop 2 r
              have p2 : (r.drop 2).take 2 ++ (r.drop 2).drop 2 = r.drop 2 := List.take_append_drop 2 _
              have p3 : (r.drop 4).take n ++ (r.drop 4).drop n = r.drop 4 := List.take_append_drop n _
              rw [List.drop_drop] at p2 p3
              rw [List.append_assoc, List.append_assoc, p3, p2, p1]
            · rw [List.all_cons, e3, Bool.and_true]
              exact (okF_iff _).2 ⟨n0.1, by show num (r.take 2) ≤ 65535; omega, by show ((r.drop 4).take n).length ≤ 65535; rw [List.length_take, List.length_drop]; omega⟩
          · exact .inr e
theorem rd_of_cat (ys : List FT) : ∀ (k : Nat) (acc : List FT), (ys.flatMap fb).length < k → ys.all okF = true → rdF k (ys.flatMap fb) acc = (acc ++ ys, 0) := by
  induction ys with
  | nil =>
    intro k acc hk _
    obtain ⟨k, rfl⟩ : ∃ j, k = j + 1 := ⟨k - 1, by omega⟩
    rw [List.flatMap_nil, rdF_nil, List.append_nil]
  | cons y ys ih =>
    intro k acc hk hok
    obtain ⟨k, rfl⟩ : ∃ j, k = j + 1 := ⟨k - 1, by omega⟩
    rw [List.all_cons, Bool.and_eq_true] at hok
    obtain ⟨h0, h1, h2⟩ := (okF_iff y).1 hok.1
    rw [List.flatMap_cons, List.length_append, fb_len] at hk
    rw [List.flatMap_cons]
    obtain ⟨T, hT⟩ : ∃ T, ys.flatMap fb = T := ⟨_, rfl⟩
    rw [hT] at hk ih ⊢
    have e0 : fb y ++ T = le y.f0 2 ++ (le (y.f1.length : Int) 2 ++ (y.f1 ++ T)) := by unfold fb; simp only [List.append_assoc]
    have ll : (le y.f0 2).length = 2 := le_length _ _
    have ll2 : (le (y.f1.length : Int) 2).length = 2 := le_length _ _
    have t2 : (fb y ++ T).take 2 = le y.f0 2 := by rw [e0, List.take_left' ll]
    have d2 : (fb y ++ T).drop 2 = le (y.f1.length : Int) 2 ++ (y.f1 ++ T) := by rw [e0, List.drop_left' ll]
    have t22 : ((fb y ++ T).drop 2).take 2 = le (y.f1.length : Int) 2 := by rw [d2, List.take_left' ll2]
    have d4 : (fb y ++ T).drop 4 = y.f1 ++ T := by
      have : (fb y ++ T).drop 4 = ((fb y ++ T).drop 2).drop 2 := by rw [List.drop_drop]
      rw [this, d2, List.drop_left' ll2]
    have d4n : (fb y ++ T).drop (4 + y.f1.length) = T := by
      have : (fb y ++ T).drop (4 + y.f1.length) = ((fb y ++ T).drop 4).drop y.f1.length := by rw [List.drop_drop]
      rw [this, d4, List.drop_left]
    have hl : (fb y ++ T).length = 4 + y.f1.length + T.length := by rw [List.length_append, fb_len]
    rw [rdF_step k (fb y ++ T) acc (by omega) y.f1.length (by rw [t22]; exact nm_le2 _ (by omega) (by omega)) (by omega), d4n, t2, d4, List.take_left, nm_le2 _ h0 h1]
    have hi := ih k (acc ++ [⟨y.f0, y.f1⟩]) (by omega) hok.2
    rw [hi, List.append_assoc]
    rfl
theorem catF_all (X : List FT) : catF X X.length = X.flatMap fb := by unfold catF; rw [List.take_length]
theorem okA_all (X : List FT) : okA X X.length = X.all okF := by unfold okA; rw [List.take_length]
theorem rdA_two (b : List Int) (hb : ∀ x ∈ b, 0 ≤ x ∧ x ≤ 255) : (∃ ys, rdA b = (ys, 0) ∧ ys.flatMap fb = b ∧ ys.all okF = true) ∨ rdA b = ([], 3) := by
  rcases rd_cat (b.length + 1) b [] (by omega) hb with ⟨ys, h1, h2, h3⟩ | h
  · exact .inl ⟨ys, h1, h2, h3⟩
  · exact .inr h
/-- what is read, written again -/
theorem wr_of_rd (b : List Int) (ys : List FT) (h2 : ys.flatMap fb = b) (h3 : ys.all okF = true) (hl : b.length ≤ 65535) : wrL ys = b ∧ wrE ys = 0 := by
  have h : wrOk ys = true := by unfold wrOk; rw [okA_all, h3, catF_all, h2, decide_eq_true hl]; rfl
  unfold wrL wrE
  rw [h, catF_all, h2]
  exact ⟨rfl, rfl⟩
/-- what is written, read -/
theorem rd_of_wr (X : List FT) (h : wrE X = 0) : rdA (wrL X) = (X, 0) := by
  have h1 : wrOk X = true := by
    unfold wrE at h
    by_cases c : wrOk X = true
    · exact c
    · rw [if_neg c] at h; cases h
  have h2 := h1
  unfold wrOk at h2
  rw [Bool.and_eq_true, okA_all] at h2
  unfold wrL rdA
  rw [if_pos h1, catF_all]
  exact rd_of_cat X _ [] (by omega) h2.1
theorem wrE_two (X : List FT) : wrE X = 0 ∨ wrE X = 18 := by unfold wrE; split <;> simp
theorem wrL_len (X : List FT) : (wrL X).length ≤ 65535 := by
  unfold wrL
  split
  · rename_i h
    unfold wrOk at h
    rw [Bool.and_eq_true] at h
    exact of_decide_eq_true h.2
  · exact Nat.zero_le _
theorem fb_bytes (x : FT) (h : ∀ y ∈ x.f1, 0 ≤ y ∧ y ≤ 255) : ∀ y ∈ fb x, 0 ≤ y ∧ y ≤ 255 := by
  have hle : ∀ (z : Int) (n : Nat), ∀ y ∈ le z n, 0 ≤ y ∧ y ≤ 255 := by
    intro z n y hy
    obtain ⟨i, _, rfl⟩ := List.mem_map.1 hy
    unfold byteAt
    omega
  intro y hy
  rcases List.mem_append.1 hy with h1 | h1
  · exact hle _ _ y h1
  · rcases List.mem_append.1 h1 with h2 | h2
    · exact hle _ _ y h2
    · exact h y h2
theorem wrL_bytes (X : List FT) (h : ∀ x ∈ X, ∀ y ∈ x.f1, 0 ≤ y ∧ y ≤ 255) : ∀ y ∈ wrL X, 0 ≤ y ∧ y ≤ 255 := by
  unfold wrL
  split
  · rw [catF_all]
    intro y hy
    obtain ⟨x, hx, hyx⟩ := List.mem_flatMap.1 hy
    exact fb_bytes x (h x hx) y hyx
  · intro y hy; cases hy
theorem flat_len (ys : List FT) : (ys.flatMap fb).length = szF ys ys.length := by rw [← catF_all, catF_len]
theorem flat_mem (ys : List FT) (x : FT) (h : x ∈ ys) : 4 + x.f1.length ≤ (ys.flatMap fb).length := by
  induction ys with
  | nil => cases h
  | cons y ys ih =>
    rw [List.flatMap_cons, List.length_append, fb_len]
    rcases List.mem_cons.1 h with rfl | h
    · omega
    · have := ih h; omega
theorem flat_card (ys : List FT) : ys.length * 4 ≤ (ys.flatMap fb).length := by
  induction ys with
  | nil => simp
  | cons y ys ih => rw [List.flatMap_cons, List.length_append, fb_len, List.length_cons]; omega
/-- how many fields are read, how long they are -/
theorem rdA_size (b : List Int) (hb : ∀ x ∈ b, 0 ≤ x ∧ x ≤ 255) : (rdA b).1.length ≤ b.length ∧ (∀ x ∈ (rdA b).1, x.f1.length ≤ b.length) ∧ szF (rdA b).1 (rdA b).1.length ≤ b.length ∧ ((rdA b).2 = 0 ∨ (rdA b).1 = [] ∧ (rdA b).2 = 3) := by
  rcases rdA_two b hb with ⟨ys, h1, h2, h3⟩ | h
  · rw [h1]
    have e1 := flat_card ys
    rw [h2] at e1
    have e2 := flat_len ys
    rw [h2] at e2
    refine ⟨by show ys.length ≤ _; omega, fun x hx => ?_, by show szF ys ys.length ≤ _; omega, .inl rfl⟩
    have := flat_mem ys x hx
    rw [h2] at this
    omega
  · rw [h]
    exact ⟨Nat.zero_le _, fun x hx => (by cases hx), Nat.zero_le _, .inr ⟨rfl, rfl⟩⟩
end Go.Proofs.Ytfnihlndaenkhaa.Fld
