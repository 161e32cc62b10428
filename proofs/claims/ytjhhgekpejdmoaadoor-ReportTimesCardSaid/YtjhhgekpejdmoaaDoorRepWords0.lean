/- Plain laws of package report: numbers in digits and commas, blanks, methods; each program's function and the document's answer alike. -/
import Derived.Test.YtjhhgekpejdmoaaDoorRBx2
import Derived.Test.YtjhhgekpejdmoaaDoorRepPlain
import Derived.Lib.EndianBits
namespace Go.Proofs.YtjhhgekpejdmoaaDoor.Pure
open Go RB Go.RowKit
open Go.Proofs.YtjhhgekpejdmoaaDoor.Rp
abbrev bx (L : List UInt8) : ByteArray := ⟨L.toArray⟩
theorem bx_app (A B : List UInt8) : bx A ++ bx B = bx (A ++ B) := ByteArray.ext (by simp)
theorem bx_size (L : List UInt8) : (bx L).size = L.length := by simp [ByteArray.size]
theorem bx_list (L : List UInt8) : (bx L).data.toList = L := rfl
theorem bx_ext (L : List UInt8) (a b : Nat) : (bx L).extract a b = bx ((L.drop a).take (b - a)) := ByteArray.ext (by
  rw [ByteArray.data_extract]
  simp)
theorem u64_nn {n : Int} (h0 : 0 ≤ n) (h1 : n ≤ 18446744073709551615) : IntKind.u64.wrap n = n := by rw [IntKind.wrap_u64]; omega
theorem wsi (x : Int) (h : -9223372036854775808 ≤ x) (h2 : x ≤ 9223372036854775807) : wrap64 x = x := by
  unfold wrap64; first | omega | (simp only []; omega)
def dg (d : Nat) : UInt8 := UInt8.ofNat (48 + d)
theorem dig_ext (d : Nat) (h : d < 10) : (⟨#[48, 49, 50, 51, 52, 53, 54, 55, 56, 57]⟩ : ByteArray).extract d (d + 1) = bx [dg d] := by
  have : ∀ e : Fin 10, ([48, 49, 50, 51, 52, 53, 54, 55, 56, 57].drop e.val).take 1 = [dg e.val] := by decide
  rw [show (⟨#[48, 49, 50, 51, 52, 53, 54, 55, 56, 57]⟩ : ByteArray) = bx [48, 49, 50, 51, 52, 53, 54, 55, 56, 57] from rfl, bx_ext, Nat.add_sub_cancel_left, this ⟨d, h⟩]
theorem digits_loop : ∀ (K u : Nat) (R : List UInt8), u < 10 ^ (K + 1) → K ≤ 100 → R.length + K ≤ 1000 → u < 18446744073709551616 →
    duffelref28_digits.l0 (K + 1) (u : Int) (bx (dg (u % 10) :: R)) = some (bx (Lib.decDigits u ++ R))
  | K, u, R, h, hK, hR, hu => by
    rw [duffelref28_digits.l0]
    by_cases c : u < 10
    · rw [if_neg (by omega), dec_one u c, Nat.mod_eq_of_lt c]; rfl
    · rw [if_pos (by omega)]
      have e1 : IntKind.u64.wrap (Int.tdiv (u : Int) 10) = ((u / 10 : Nat) : Int) := by
        rw [Int.tdiv_eq_ediv_of_nonneg (by omega), u64_nn (by omega) (by omega)]; omega
      have e2 : Int.tmod ((u / 10 : Nat) : Int) 10 = ((u / 10 % 10 : Nat) : Int) := by
        rw [Int.tmod_eq_emod_of_nonneg (by omega)]; omega
      have e3 : IntKind.u64.wrap (((u / 10 % 10 : Nat) : Int) + 1) = ((u / 10 % 10 + 1 : Nat) : Int) := by
        rw [u64_nn (by omega) (by omega)]; omega
      rw [e1, e2, e3, if_pos (by omega), if_pos (by omega), if_pos (by omega), Int.toNat_natCast, Int.toNat_natCast, dig_ext _ (by omega), bx_app, bx_size, bx_size]
      have hl : ([dg (u / 10 % 10)] ++ dg (u % 10) :: R).length = R.length + 2 := by simp
      rw [if_pos (by simp only [List.length_cons, List.length_nil]; omega)]
      cases K with
      | zero => exact absurd h (by omega)
      | succ K =>
        have ih := digits_loop K (u / 10) (dg (u % 10) :: R) (by rw [Nat.pow_succ] at h; omega) (by omega) (by simp only [List.length_cons]; omega) (by omega)
        rw [show [dg (u / 10 % 10)] ++ dg (u % 10) :: R = dg (u / 10 % 10) :: dg (u % 10) :: R from rfl, ih, dec_more u (by omega), List.append_assoc]
        rfl
theorem digits_ok (K u : Nat) (hK : 30 ≤ K) (hK2 : K ≤ 500) (hu : u < 18446744073709551616) : duffelref28_digits.f (K + 1) (u : Int) = some (bx (Lib.decDigits u)) := by
  have e2 : Int.tmod (u : Int) 10 = ((u % 10 : Nat) : Int) := by rw [Int.tmod_eq_emod_of_nonneg (by omega)]; omega
  have e3 : IntKind.u64.wrap (((u % 10 : Nat) : Int) + 1) = ((u % 10 + 1 : Nat) : Int) := by
    rw [u64_nn (by omega) (by omega)]; omega
  unfold duffelref28_digits.f
  rw [e2, e3, if_pos (by omega), if_pos (by omega), if_pos (by omega), Int.toNat_natCast, Int.toNat_natCast, dig_ext _ (by omega)]
  have mono : ∀ (K : Nat) (x : Int) (S v : ByteArray), duffelref28_digits.l0 K x S = some v → duffelref28_digits.l0 (K + 1) x S = some v := by
    intro K
    induction K with
    | zero => intro x S v h; rw [duffelref28_digits.l0] at h; cases h
    | succ K ih =>
      intro x S v h
      rw [duffelref28_digits.l0] at h ⊢
      repeat' split at h
      all_goals first | cases h; done | skip
      all_goals simp only [*, if_true, if_false] at *
      all_goals first | exact h | exact ih _ _ _ h
  have up : ∀ d, duffelref28_digits.l0 (31 + d) (u : Int) (bx [dg (u % 10)]) = some (bx (Lib.decDigits u)) := by
    intro d
    induction d with
    | zero =>
      have := digits_loop 30 u [] (by omega) (by omega) (by simp) hu
      rw [List.append_nil] at this
      exact this
    | succ d ih => exact mono _ _ _ _ ih
  have := up (K - 30)
  rw [show 31 + (K - 30) = K + 1 from by omega] at this
  exact this
theorem number_ok (K : Nat) (n : Int) (hK : 30 ≤ K) (hK2 : K ≤ 500) (h0 : -9223372036854775808 ≤ n) (h1 : n ≤ 9223372036854775807) : duffelref28_Number.f (K + 1) n = some (bx (Lib.itoa n)) := by
  unfold duffelref28_Number.f Lib.itoa
  by_cases c : n < 0
  · rw [if_pos c, if_pos c]
    have e : IntKind.u64.wrap (-(IntKind.u64.wrap n)) = ((n.natAbs : Nat) : Int) := by
      rw [IntKind.wrap_u64, IntKind.wrap_u64]; omega
    have hl := dec_length 20 n.natAbs (by omega) (by omega)
    rw [e, digits_ok K _ hK hK2 (by omega), Option.bind_some, bx_size, if_pos (by omega), show (⟨#[45]⟩ : ByteArray) = bx [45] from rfl, bx_app]
    rfl
  · rw [if_neg c, if_neg c]
    have e : IntKind.u64.wrap n = ((n.toNat : Nat) : Int) := by rw [u64_nn (by omega) (by omega)]; omega
    rw [e, digits_ok K _ hK hK2 (by omega), Option.bind_some]
theorem itoa_ok (n : Int) (h0 : -9223372036854775808 ≤ n) (h1 : n ≤ 9223372036854775807) : strconv_Itoa.f n = some (bx (Lib.itoa n)) := by
  unfold strconv_Itoa.f
  rw [if_pos ⟨h0, h1⟩]
theorem tailG_length : ∀ D : List UInt8, (tailG D).length ≤ 2 * D.length
  | [] => Nat.le_refl _
  | d :: ds => by
    have := tailG_length ds
    rw [tailG_cons]
    split <;> simp <;> omega
theorem codeAt_length (D : List UInt8) (j : Nat) (hj : j ≤ D.length) : j ≤ (codeAt D j).length ∧ (codeAt D j).length ≤ 2 * D.length := by
  unfold codeAt
  have := tailG_length (D.drop j)
  rw [List.length_drop] at this
  rw [List.length_append, List.length_take]
  omega
theorem code_loop : ∀ (K : Nat) (D X : List UInt8) (j : Nat), 1 ≤ j → j ≤ D.length → (D.length - j) % 3 = 0 → D.length ≤ 1000 → X.length ≤ 10 → j ≤ K + 1 →
    report_Group.l0 (K + 1) (bx (codeAt D j)) (bx X) ((j : Int) - 3) = some (bx (X ++ groupL D))
  | K, D, X, j, h1, hj, hm, hD, hX, hK => by
    have hl := codeAt_length D j hj
    rw [report_Group.l0]
    by_cases c : 3 < j
    · have e : ((j : Int) - 3).toNat = j - 3 := by omega
      have a1 : (List.take (j - 3) (codeAt D j)).length = j - 3 := by rw [List.length_take]; omega
      rw [if_pos (by omega), if_pos (by omega), bx_size, if_pos (by omega), e, bx_ext, bx_ext, Nat.sub_zero, List.drop_zero, bx_size, a1, if_pos (by omega), show (⟨#[44]⟩ : ByteArray) = bx [44] from rfl, bx_app, bx_size, bx_size, bx_app]
      have a2 : List.take ((codeAt D j).length - (j - 3)) (List.drop (j - 3) (codeAt D j)) = List.drop (j - 3) (codeAt D j) := List.take_of_length_le (by rw [List.length_drop]; omega)
      rw [a2, if_pos (by rw [List.length_append, a1, List.length_drop]; simp only [List.length_cons, List.length_nil]; omega), code_step D j (by omega) hj hm, wsi _ (by omega) (by omega)]
      cases K with
      | zero => omega
      | succ K =>
        have ih := code_loop K D X (j - 3) (by omega) (by omega) (by omega) hD hX (by omega)
        rw [show ((j - 3 : Nat) : Int) = (j : Int) - 3 from by omega] at ih
        exact ih
    · rw [if_neg (by omega), bx_size, bx_size, if_pos (by omega), bx_app, code_end D j h1 (by omega) hj hm]
theorem group_ok (K : Nat) (n : Int) (hK : 30 ≤ K) (h0 : -9223372036854775808 ≤ n) (h1 : n ≤ 9223372036854775807) :
    report_Group.f (K + 2) n = some (bx ((if n < 0 then [45] else []) ++ groupL (Lib.decDigits n.natAbs))) := by
  have hl := dec_length 20 n.natAbs (by omega) (by omega)
  have hc := code_loop K (Lib.decDigits n.natAbs)
  have key : ∀ X : List UInt8, X.length ≤ 10 → report_Group.j0 (K + 2) (bx (Lib.decDigits n.natAbs)) (bx X) = some (bx (X ++ groupL (Lib.decDigits n.natAbs))) := by
    intro X hX
    rw [report_Group.j0, bx_size, wsi _ (by omega) (by omega)]
    have := hc X (Lib.decDigits n.natAbs).length hl.2 (Nat.le_refl _) (by rw [Nat.sub_self]) (by omega) hX (by omega)
    rw [code_start] at this
    exact this
  unfold report_Group.f
  rw [itoa_ok n h0 h1, Option.bind_some]
  unfold Lib.itoa
  by_cases c : n < 0
  · rw [if_pos c, if_pos c, if_pos c, bx_size, if_pos (by simp only [List.length_cons]; omega), bx_ext, show (⟨#[45]⟩ : ByteArray) = bx [45] from rfl]
    rw [show List.take ((45 :: Lib.decDigits n.natAbs).length - 1) (List.drop 1 (45 :: Lib.decDigits n.natAbs)) = Lib.decDigits n.natAbs from by simp]
    exact key [45] (by simp)
  · rw [if_neg c, if_neg c, if_neg c, show n.toNat = n.natAbs from by omega]
    exact key [] (by simp)
theorem ref_loop : ∀ (K : Nat) (D X out : List UInt8) (i : Nat), 0 < i → i ≤ D.length → D.length ≤ 1000 → X.length ≤ 10 → out.length ≤ 2 * i → D.length - i ≤ K →
    duffelref34_Group.l0 (K + 1) (bx D) (bx X) (bx out) (i : Int) = some (bx (X ++ (out ++ tailG (D.drop i))))
  | K, D, X, out, i, h0, hi, hD, hX, ho, hK => by
    rw [duffelref34_Group.l0, bx_size]
    by_cases c : i < D.length
    · have e1 : Int.tmod (wrap64 ((D.length : Int) - (i : Int))) 3 = (((D.length - i) % 3 : Nat) : Int) := by
        rw [wsi _ (by omega) (by omega), Int.tmod_eq_emod_of_nonneg (by omega)]; omega
      have e2 : wrap64 ((i : Int) + 1) = ((i + 1 : Nat) : Int) := by rw [wsi _ (by omega) (by omega)]; omega
      have e3 : (bx D).extract i (i + 1) = bx [D.getD i 0] := by
        rw [bx_ext, Nat.add_sub_cancel_left, List.drop_eq_getElem_cons c, List.getD_eq_getElem?_getD, List.getElem?_eq_getElem c]; rfl
      rw [if_pos (by omega), if_pos (by omega), e1, e2, Int.toNat_natCast, Int.toNat_natCast, e3, show (⟨#[44]⟩ : ByteArray) = bx [44] from rfl, bx_app, bx_app, bx_app, bx_size, bx_size, bx_size, ref_step D i c h0 out]
      cases K with
      | zero => omega
      | succ K =>
        by_cases c3 : (D.length - i) % 3 = 0
        · rw [if_pos (by omega), if_pos (by omega), if_pos (by omega), if_pos (by omega), if_pos (by omega), if_pos (by simp only [List.length_append, List.length_cons, List.length_nil]; omega), if_pos c3]
          exact ref_loop K D X _ (i + 1) (by omega) (by omega) hD hX (by simp only [List.length_append, List.length_cons, List.length_nil]; omega) (by omega)
        · rw [if_neg (by omega), if_pos (by omega), if_pos (by omega), if_pos (by omega), if_pos (by simp only [List.length_cons, List.length_nil]; omega), if_neg c3, List.append_nil]
          exact ref_loop K D X _ (i + 1) (by omega) (by omega) hD hX (by simp only [List.length_append, List.length_cons, List.length_nil]; omega) (by omega)
    · have e : D.drop i = [] := List.drop_eq_nil_of_le (by omega)
      rw [if_neg (by omega), bx_size, bx_size, if_pos (by omega), bx_app, e]
      rw [show tailG [] = [] from rfl, List.append_nil]
theorem rgroup_ok (K : Nat) (n : Int) (hK : 30 ≤ K) (hK2 : K ≤ 400) (h0 : -9223372036854775808 ≤ n) (h1 : n ≤ 9223372036854775807) :
    duffelref34_Group.f (K + 3) n = some (bx ((if n < 0 then [45] else []) ++ groupL (Lib.decDigits n.natAbs))) := by
  have hl := dec_length 20 n.natAbs (by omega) (by omega)
  have key : ∀ (D X : List UInt8), X.length ≤ 10 → 1 ≤ D.length → D.length ≤ 20 → duffelref34_Group.j0 (K + 3) (bx D) (bx X) = some (bx (X ++ groupL D)) := by
    intro D X hX h1 h2
    cases D with
    | nil => simp at h1
    | cons d ds =>
      rw [duffelref34_Group.j0, duffelref34_Group.l0, bx_size]
      have e2 : wrap64 ((0 : Int) + 1) = 1 := by rw [wsi _ (by omega) (by omega)]; rfl
      rw [if_pos (by simp only [List.length_cons]; omega), if_neg (by omega), e2, if_pos (by omega), if_pos (by omega), if_pos (by simp only [List.length_cons]; omega), show (⟨#[]⟩ : ByteArray) = bx [] from rfl, bx_ext, bx_app, bx_size, bx_size]
      rw [show List.take ((1 : Int).toNat - (0 : Int).toNat) (List.drop (0 : Int).toNat (d :: ds)) = [d] from rfl, if_pos (by simp)]
      have := ref_loop K (d :: ds) X [d] 1 (by omega) (by simp) (by omega) hX (by simp) (by omega)
      exact this
  unfold duffelref34_Group.f
  rw [number_ok (K + 2) n (by omega) (by omega) h0 h1, Option.bind_some]
  unfold Lib.itoa
  by_cases c : n < 0
  · rw [if_pos c, if_pos c, if_pos c, bx_size, if_pos (by simp only [List.length_cons]; omega), bx_ext, show (⟨#[45]⟩ : ByteArray) = bx [45] from rfl]
    rw [show List.take ((45 :: Lib.decDigits n.natAbs).length - 1) (List.drop 1 (45 :: Lib.decDigits n.natAbs)) = Lib.decDigits n.natAbs from by simp]
    exact key _ [45] (by simp) hl.2 hl.1
  · rw [if_neg c, if_neg c, if_neg c, show n.toNat = n.natAbs from by omega]
    exact key _ [] (by simp) hl.2 hl.1
theorem blanks_ok (m : Int) (h : m ≤ 100000) : report_blanks.f m = some (bx (Lib.repeatL [32] m.toNat)) := by
  unfold report_blanks.f strings_Repeat.f
  have e : (Go.Proofs.YtjhhgekpejdmoaaDoorW.PrintWords.mx m 0).toNat = m.toNat := by unfold Go.Proofs.YtjhhgekpejdmoaaDoorW.PrintWords.mx; split <;> omega
  have g : 0 ≤ Go.Proofs.YtjhhgekpejdmoaaDoorW.PrintWords.mx m 0 ∧ Go.Proofs.YtjhhgekpejdmoaaDoorW.PrintWords.mx m 0 ≤ 1000000 := by unfold Go.Proofs.YtjhhgekpejdmoaaDoorW.PrintWords.mx; split <;> omega
  rw [if_pos ⟨g.1, g.2, by decide⟩, e]
  rfl
theorem rep_len (d : Nat) : (Lib.repeatL [32] d).length = d := by rw [Lib.repeatL_length]; simp
theorem left_ok (s : ByteArray) (n : Int) (hs : s.size ≤ 60) (h0 : -5 ≤ n) (h1 : n ≤ 200) : report_Left.f s n = some (s ++ bx (Lib.repeatL [32] (n - s.size).toNat)) := by
  unfold report_Left.f
  have e : Go.Proofs.YtjhhgekpejdmoaaDoorW.PrintWords.mn n 65536 = n := by unfold Go.Proofs.YtjhhgekpejdmoaaDoorW.PrintWords.mn; rw [if_neg (by omega)]
  rw [e, wsi _ (by omega) (by omega), blanks_ok _ (by omega), Option.bind_some, bx_size (Lib.repeatL _ _), rep_len, if_pos (by omega)]
theorem right_ok (s : ByteArray) (n : Int) (hs : s.size ≤ 60) (h0 : -5 ≤ n) (h1 : n ≤ 200) : report_Right.f s n = some (bx (Lib.repeatL [32] (n - s.size).toNat) ++ s) := by
  unfold report_Right.f
  have e : Go.Proofs.YtjhhgekpejdmoaaDoorW.PrintWords.mn n 65536 = n := by unfold Go.Proofs.YtjhhgekpejdmoaaDoorW.PrintWords.mn; rw [if_neg (by omega)]
  rw [e, wsi _ (by omega) (by omega), blanks_ok _ (by omega), Option.bind_some, bx_size (Lib.repeatL _ _), rep_len, if_pos (by omega)]
theorem app_nil (s : ByteArray) : s ++ bx [] = s := ByteArray.ext (by simp)
theorem nil_app (s : ByteArray) : bx [] ++ s = s := ByteArray.ext (by simp)
theorem rleft_loop : ∀ (d K : Nat) (s : ByteArray) (n : Int), s.size ≤ 300 → n ≤ 200 → (n - s.size).toNat = d → d + 1 ≤ K → duffelref34_Left.l0 K s n = some (s ++ bx (Lib.repeatL [32] d))
  | 0, K, s, n, hs, hn, hd, hK => by
    obtain ⟨K, rfl⟩ : ∃ j, K = j + 1 := ⟨K - 1, by omega⟩
    rw [duffelref34_Left.l0, if_neg (by omega)]
    exact congrArg some (app_nil s).symm
  | d + 1, K, s, n, hs, hn, hd, hK => by
    obtain ⟨K, rfl⟩ : ∃ j, K = j + 1 := ⟨K - 1, by omega⟩
    have hz : (s ++ bx [32]).size = s.size + 1 := by rw [ByteArray.size_append]; rfl
    rw [duffelref34_Left.l0, if_pos (by omega), if_pos (by omega), if_pos (by omega), show (⟨#[32]⟩ : ByteArray) = bx [32] from rfl, rleft_loop d K (s ++ bx [32]) n (by omega) hn (by omega) (by omega), ByteArray.append_assoc, bx_app [32], Nat.add_comm d 1, Lib.repeatL_add, Lib.repeatL_one]
theorem rright_loop : ∀ (d K : Nat) (s : ByteArray) (n : Int), s.size ≤ 300 → n ≤ 200 → (n - s.size).toNat = d → d + 1 ≤ K → duffelref34_Right.l0 K s n = some (bx (Lib.repeatL [32] d) ++ s)
  | 0, K, s, n, hs, hn, hd, hK => by
    obtain ⟨K, rfl⟩ : ∃ j, K = j + 1 := ⟨K - 1, by omega⟩
    rw [duffelref34_Right.l0, if_neg (by omega)]
    exact congrArg some (nil_app s).symm
  | d + 1, K, s, n, hs, hn, hd, hK => by
    obtain ⟨K, rfl⟩ : ∃ j, K = j + 1 := ⟨K - 1, by omega⟩
    have hz : (bx [32] ++ s).size = s.size + 1 := by rw [ByteArray.size_append, Nat.add_comm]; rfl
    rw [duffelref34_Right.l0, if_pos (by omega), if_pos (by omega), if_pos (by omega), show (⟨#[32]⟩ : ByteArray) = bx [32] from rfl, rright_loop d K (bx [32] ++ s) n (by omega) hn (by omega) (by omega), ← ByteArray.append_assoc, bx_app _ [32], Lib.repeatL_add, Lib.repeatL_one]
end Go.Proofs.YtjhhgekpejdmoaaDoor.Pure
