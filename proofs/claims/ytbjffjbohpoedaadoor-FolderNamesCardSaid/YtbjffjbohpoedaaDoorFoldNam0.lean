/- The reference of package folder, of what the printed loops compute: names. -/
import Derived.Test.YtbjffjbohpoedaaDoorFoldM2
import Derived.Test.YtbjffjbohpoedaaDoorFRx4
import Derived.Test.YtbjffjbohpoedaaDoorFRx5
namespace Go.Proofs.YtbjffjbohpoedaaDoor.Fd
open Go.Proofs.YtbjffjbohpoedaaDoor.Wd
open Go.RowKit Go.Proofs.YtbjffjbohpoedaaDoorW.PrintWords Go.Proofs.YtbjffjbohpoedaaDoorW.PrintLast Go.Proofs.YtbjffjbohpoedaaDoorW.PrintMore
set_option linter.unusedVariables false
set_option linter.unusedSimpArgs false
theorem drop_get (F : List Int) (i : Nat) (h : i < F.length) : F.drop i = F.getD i 0 :: F.drop (i + 1) := by
  rw [List.drop_eq_getElem_cons h, List.getD_eq_getElem?_getD, List.getElem?_eq_getElem h]; rfl
theorem w_inc (i : Nat) (h : i < 1000000) : wrap64 ((i : Int) + 1) = ((i + 1 : Nat) : Int) := by unfold wrap64; omega
theorem rd_nat (L : List Int) (i : Nat) : rd L (i : Int) = L.getD i 0 := by unfold rd; rw [Int.toNat_natCast]
theorem rdL_nat (X : List (List Int)) (i : Nat) (h : i < X.length) : FR.rd_L1 X (i : Int) = X[i] := by
  unfold FR.rd_L1; rw [Int.toNat_natCast, List.getD_eq_getElem?_getD, List.getElem?_eq_getElem h]; rfl
/-- what is open, ahead of the next parts -/
def glue (now : List Int) : List (List Int) → List (List Int)
  | [] => [now]
  | q :: qs => (now ++ q) :: qs
theorem glue_nil (l : List Int) : glue [] (splitL l) = splitL l := by
  cases h : splitL l with
  | nil => exact absurd h (splitL_ne l)
  | cons q qs => rfl
theorem rcut_ev (F : List Int) (hl : F.length < 1000000) : ∀ (n i : Nat) (out : List (List Int)) (now : List Int), F.length - i = n → i ≤ F.length → out.length ≤ i → now.length ≤ i →
    Ev (fun K => FR.duffelref30_Cut.l0 K F out now (i : Int)) (out ++ glue now (splitL (F.drop i)))
  | 0, i, out, now, h, hi, ho, hn => by
    have e : i = F.length := by omega
    refine Ev.step (f := fun _ => some (out ++ glue now (splitL (F.drop i)))) (fun K => ?_) (Ev.now _)
    show FR.duffelref30_Cut.l0 (K + 1) F _ _ _ = _
    rw [FR.duffelref30_Cut.l0]
    rw [if_neg (by omega), if_pos (by omega), e, List.drop_length]
    simp [splitL, glue]
  | n + 1, i, out, now, h, hi, ho, hn => by
    have c : i < F.length := by omega
    have ed := drop_get F i c
    by_cases e : F.getD i 0 = 47
    · have ih := rcut_ev F hl n (i + 1) (out ++ [now]) [] (by omega) (by omega) (by simp; omega) (by simp)
      have ea : out ++ glue now (splitL (F.drop i)) = (out ++ [now]) ++ glue [] (splitL (F.drop (i + 1))) := by
        rw [ed, e, glue_nil]
        simp [splitL, glue]
      rw [ea]
      refine Ev.step (fun K => ?_) ih
      show FR.duffelref30_Cut.l0 (K + 1) F _ _ _ = _
      rw [FR.duffelref30_Cut.l0]
      rw [if_pos (by omega), if_pos (by omega), rd_nat, if_pos e, if_pos (by omega), w_inc i (by omega)]
    · have ih := rcut_ev F hl n (i + 1) out (now ++ [F.getD i 0]) (by omega) (by omega) (by omega) (by simp; omega)
      have ea : out ++ glue now (splitL (F.drop i)) = out ++ glue (now ++ [F.getD i 0]) (splitL (F.drop (i + 1))) := by
        rw [ed]
        congr 1
        conv => lhs; unfold splitL
        rw [if_neg e]
        cases hs : splitL (F.drop (i + 1)) with
        | nil => exact absurd hs (splitL_ne _)
        | cons q qs => simp [glue]
      rw [ea]
      refine Ev.step (fun K => ?_) ih
      show FR.duffelref30_Cut.l0 (K + 1) F _ _ _ = _
      rw [FR.duffelref30_Cut.l0]
      rw [if_pos (by omega), if_pos (by omega), rd_nat, if_neg e, if_pos (by omega), w_inc i (by omega)]
theorem rcut0_ev (F : List Int) (hl : F.length < 1000000) : Ev (fun K => FR.duffelref30_Cut.f K F) (splitL F) := by
  have := rcut_ev F hl F.length 0 [] [] (by omega) (by omega) (by simp) (by simp)
  rw [List.nil_append, List.drop_zero, glue_nil] at this
  exact this
theorem rpieces_ev (F : List Int) (hl : F.length < 1000000) : Ev (fun K => FR.duffelref30_Pieces.f K F) (piecesL F) := by
  unfold piecesL cutEnd
  by_cases h : 0 < F.length
  · have e1 : wrap64 ((F.length : Int) - 1) = ((F.length - 1 : Nat) : Int) := by unfold wrap64; omega
    by_cases e : F.getD (F.length - 1) 0 = 47
    · rw [if_pos ⟨h, e⟩]
      refine Ev.congr (f := fun K => FR.duffelref30_Pieces.j0 K F true) (fun K => ?_) (Ev.step (f := fun K => (FR.duffelref30_Cut.f K (F.take (F.length - 1))).bind fun t => some t) (fun K => ?_) (Ev.bind (rcut0_ev _ (by rw [List.length_take]; omega)) (Ev.now _)))
      · show (if (F.length : Int) > 0 then _ else _) = _
        rw [if_pos (by omega), e1, if_pos (by omega), if_pos (by omega), rd_nat, e]; rfl
      · show FR.duffelref30_Pieces.j0 (K + 1) F true = _
        rw [FR.duffelref30_Pieces.j0]
        rw [if_pos rfl, e1, if_pos (by omega), if_pos (by omega), Int.toNat_natCast]
    · rw [if_neg (fun hh => e hh.2)]
      refine Ev.congr (f := fun K => FR.duffelref30_Pieces.j0 K F false) (fun K => ?_) (Ev.step (f := fun K => (FR.duffelref30_Cut.f K F).bind fun t => some t) (fun K => ?_) (Ev.bind (rcut0_ev _ hl) (Ev.now _)))
      · show (if (F.length : Int) > 0 then _ else _) = _
        rw [if_pos (by omega), e1, if_pos (by omega), if_pos (by omega), rd_nat, beq_eq_false_iff_ne.mpr e]
      · show FR.duffelref30_Pieces.j0 (K + 1) F false = _
        rw [FR.duffelref30_Pieces.j0]
        rw [if_neg (by decide)]
  · rw [if_neg (fun hh => h hh.1)]
    refine Ev.congr (f := fun K => FR.duffelref30_Pieces.j0 K F false) (fun K => ?_) (Ev.step (f := fun K => (FR.duffelref30_Cut.f K F).bind fun t => some t) (fun K => ?_) (Ev.bind (rcut0_ev _ hl) (Ev.now _)))
    · show (if (F.length : Int) > 0 then _ else _) = _
      rw [if_neg (by omega)]
    · show FR.duffelref30_Pieces.j0 (K + 1) F false = _
      rw [FR.duffelref30_Pieces.j0]
      rw [if_neg (by decide)]
theorem same_loopF (L : List Int) (hl : L.length ≤ 1000000) : ∀ (K i : Nat), i ≤ L.length → L.length - i + 1 ≤ K → FR.duffelref01_Same.l0 K L L (i : Int) = some true
  | 0, i, _, h => by omega
  | K + 1, i, hi, hK => by
    rw [FR.duffelref01_Same.l0]
    by_cases g : i < L.length
    · have e2 : wrap64 ((i : Int) + 1) = ((i + 1 : Nat) : Int) := by rw [w_in _ (by omega) (by omega)]; omega
      rw [if_pos (by omega), if_pos (by omega), if_pos (by omega), if_pos rfl, e2]
      exact same_loopF L hl K (i + 1) (by omega) (by omega)
    · rw [if_neg (by omega)]
theorem is1_ev (X : List (List Int)) (hl : X.length < 1000000) (hr : ∀ p ∈ X, ∀ x ∈ p, 0 ≤ x ∧ x ≤ 255) : ∀ (n i : Nat), X.length - i = n → i ≤ X.length → Ev (fun K => FR.duffelref30_Is.l1 K X (i : Int)) (!(X.drop i).any badB)
  | 0, i, h, hi => by
    rw [List.drop_eq_nil_of_le (by omega)]
    refine Ev.step (f := fun _ => some true) (fun K => ?_) (Ev.now _)
    show FR.duffelref30_Is.l1 (K + 1) X _ = _
    rw [FR.duffelref30_Is.l1]
    rw [if_neg (by omega)]
  | n + 1, i, h, hi => by
    have c : i < X.length := by omega
    have ih := is1_ev X hl hr n (i + 1) (by omega) (by omega)
    obtain ⟨t1, t2, t3⟩ := bad_tests X[i] (hr _ (List.getElem_mem c))
    rw [List.drop_eq_getElem_cons c, List.any_cons]
    by_cases e1 : X[i] = []
    · rw [show badB X[i] = true from decide_eq_true (.inl e1)]
      refine Ev.step (f := fun _ => some false) (fun K => ?_) (Ev.now _)
      show FR.duffelref30_Is.l1 (K + 1) X _ = _
      rw [FR.duffelref30_Is.l1]
      rw [if_pos (by omega), if_pos (by omega), rdL_nat X i c, if_pos (beq_iff_eq.mp (t1.trans (decide_eq_true e1)))]
    · have n1 : ¬ (strOfNums X[i]).toList = ([] : List UInt8) := beq_eq_false_iff_ne.mp (t1.trans (decide_eq_false e1))
      by_cases e2 : X[i] = [46]
      · rw [show badB X[i] = true from decide_eq_true (.inr (.inl e2))]
        refine Ev.step (f := fun _ => some false) (fun K => ?_) (Ev.now _)
        show FR.duffelref30_Is.l1 (K + 1) X _ = _
        rw [FR.duffelref30_Is.l1]
        rw [if_pos (by omega), if_pos (by omega), rdL_nat X i c, if_neg n1, if_pos (beq_iff_eq.mp (t2.trans (decide_eq_true e2)))]
      · have n2 : ¬ (strOfNums X[i]).toList = ([46] : List UInt8) := beq_eq_false_iff_ne.mp (t2.trans (decide_eq_false e2))
        by_cases e3 : X[i] = [46, 46]
        · rw [show badB X[i] = true from decide_eq_true (.inr (.inr e3))]
          refine Ev.step (f := fun _ => some false) (fun K => ?_) (Ev.now _)
          show FR.duffelref30_Is.l1 (K + 1) X _ = _
          rw [FR.duffelref30_Is.l1]
          rw [if_pos (by omega), if_pos (by omega), rdL_nat X i c, if_neg n1, if_neg n2, if_pos (beq_iff_eq.mp (t3.trans (decide_eq_true e3)))]
        · have n3 : ¬ (strOfNums X[i]).toList = ([46, 46] : List UInt8) := beq_eq_false_iff_ne.mp (t3.trans (decide_eq_false e3))
          rw [show badB X[i] = false from decide_eq_false (fun h => h.elim e1 (fun h => h.elim e2 e3)), Bool.false_or]
          refine Ev.step (fun K => ?_) ih
          show FR.duffelref30_Is.l1 (K + 1) X _ = _
          rw [FR.duffelref30_Is.l1]
          rw [if_pos (by omega), if_pos (by omega), rdL_nat X i c, if_neg n1, if_neg n2, if_neg n3, w_inc i (by omega)]
theorem is_ev (b : List Int) (hl : b.length < 1000) (hr : ∀ x ∈ b, 0 ≤ x ∧ x ≤ 255) : ∀ (n i : Nat), b.length - i = n → i ≤ b.length → Ev (fun K => FR.duffelref30_Is.l0 K b (i : Int)) (!(b.drop i).any oddB && !(piecesL b).any badB)
  | 0, i, h, hi => by
    have h1 := is1_ev (piecesL b) (by have := pieces_len b; omega) (pieces_rng b hr) _ 0 rfl (Nat.zero_le _)
    rw [List.drop_zero] at h1
    rw [List.drop_eq_nil_of_le (by omega)]
    refine Ev.step (f := fun K => (FR.duffelref30_Pieces.f K b).bind fun t => FR.duffelref30_Is.l1 K t 0) (fun K => ?_) (Ev.bind (rpieces_ev b (by omega)) h1)
    show FR.duffelref30_Is.l0 (K + 1) b _ = _
    rw [FR.duffelref30_Is.l0]
    rw [if_neg (by omega)]
  | n + 1, i, h, hi => by
    have c : i < b.length := by omega
    have ih := is_ev b hl hr n (i + 1) (by omega) (by omega)
    rw [drop_get b i c, List.any_cons]
    obtain ⟨x, hx⟩ : ∃ x, b.getD i 0 = x := ⟨_, rfl⟩
    rw [hx]
    have er : ∀ K, FR.duffelref30_Is.l0 (K + 1) b (i : Int) = if x < 32 then some false else if x = 92 then some false else if x = 58 then some false else FR.duffelref30_Is.l0 K b ((i + 1 : Nat) : Int) := by
      intro K
      rw [FR.duffelref30_Is.l0]
      rw [if_pos (by omega), if_pos (by omega), rd_nat, w_inc i (by omega), hx]
    cases ho : oddB x with
    | true =>
      rw [Bool.true_or]
      refine Ev.step (f := fun _ => some false) (fun K => ?_) (Ev.now _)
      show FR.duffelref30_Is.l0 (K + 1) b _ = _
      rw [er]
      unfold oddB at ho
      by_cases h1 : x < 32
      · rw [if_pos h1]
      · rw [if_neg h1]
        by_cases h2 : x = 92
        · rw [if_pos h2]
        · rw [if_neg h2]
          by_cases h3 : x = 58
          · rw [if_pos h3]
          · rw [decide_eq_false h1, beq_eq_false_iff_ne.mpr h2, beq_eq_false_iff_ne.mpr h3] at ho; cases ho
    | false =>
      rw [Bool.false_or]
      refine Ev.step (fun K => ?_) ih
      show FR.duffelref30_Is.l0 (K + 1) b _ = _
      rw [er]
      unfold oddB at ho
      have h1 : ¬ x < 32 := fun h => by rw [decide_eq_true h] at ho; simp at ho
      have h2 : ¬ x = 92 := fun h => by subst h; simp at ho
      have h3 : ¬ x = 58 := fun h => by subst h; simp at ho
      rw [if_neg h1, if_neg h2, if_neg h3]
theorem is0_ev (b : List Int) (hl : b.length < 1000) (hr : ∀ x ∈ b, 0 ≤ x ∧ x ≤ 255) : Ev (fun K => FR.duffelref30_Is.f K b) (isB b) := by
  have h := is_ev b hl hr _ 0 rfl (Nat.zero_le _)
  rw [List.drop_zero] at h
  exact h
/-- what is to come behind i parts -/
def tailJ (X : List (List Int)) (i : Nat) : List Int := if i = 0 then joinL X else joinT (X.drop i)
def endJ (f : Bool) (s : List Int) : List Int := if f = true ∧ 0 < s.length then s ++ [47] else s
theorem tailJ_step (X : List (List Int)) (i : Nat) (h : i < X.length) : tailJ X i = (if i = 0 then [] else [47]) ++ X[i] ++ tailJ X (i + 1) := by
  unfold tailJ
  by_cases e : i = 0
  · subst e
    rw [if_pos rfl, if_pos rfl, if_neg (by omega)]
    cases X with
    | nil => simp at h
    | cons p r => simp [joinL]
  · rw [if_neg e, if_neg e, if_neg (by omega), List.drop_eq_getElem_cons h, joinT]
    rfl
theorem tailJ_end (X : List (List Int)) : tailJ X X.length = [] := by
  unfold tailJ
  by_cases e : X.length = 0
  · rw [if_pos e, List.eq_nil_of_length_eq_zero e]; rfl
  · rw [if_neg e, List.drop_length]; rfl
theorem join_ev (X : List (List Int)) (f : Bool) (hl : X.length < 1000000) (hj : (joinL X).length < 1000000) : ∀ (n i : Nat) (out : List Int), X.length - i = n → i ≤ X.length → out ++ tailJ X i = joinL X → Ev (fun K => FR.duffelref30_join.l0 K X f out (i : Int)) (endJ f (joinL X))
  | 0, i, out, h, hi, ho => by
    have e : i = X.length := by omega
    rw [e, tailJ_end, List.append_nil] at ho
    rw [← ho] at hj ⊢
    refine Ev.step (f := fun _ => some (endJ f out)) (fun K => ?_) (Ev.now _)
    show FR.duffelref30_join.l0 (K + 1) X f out _ = _
    rw [FR.duffelref30_join.l0]
    rw [if_neg (by omega)]
    unfold endJ
    cases f with
    | false => rw [if_neg (by decide), if_neg (fun h => Bool.noConfusion h.1)]
    | true =>
      rw [if_pos rfl]
      by_cases h0 : 0 < out.length
      · rw [if_pos (by omega), if_pos (by omega), if_pos ⟨rfl, h0⟩]
      · rw [if_neg (by omega), if_neg (fun h => h0 h.2)]
  | n + 1, i, out, h, hi, ho => by
    have c : i < X.length := by omega
    rw [tailJ_step X i c] at ho
    have hlen := congrArg List.length ho
    simp only [List.length_append] at hlen
    by_cases e : i = 0
    · rw [if_pos e] at ho hlen
      have ih := join_ev X f hl hj n (i + 1) (out ++ X[i]) (by omega) (by omega) (by rw [← ho]; simp)
      refine Ev.step (fun K => ?_) ih
      show FR.duffelref30_join.l0 (K + 1) X f out _ = _
      rw [FR.duffelref30_join.l0]
      rw [if_pos (by omega), if_neg (by omega), if_pos (by omega), rdL_nat X i c, if_pos (by omega), w_inc i (by omega)]
    · rw [if_neg e] at ho hlen
      simp only [List.length_singleton] at hlen
      have ih := join_ev X f hl hj n (i + 1) (out ++ [47] ++ X[i]) (by omega) (by omega) (by rw [← ho]; simp)
      refine Ev.step (fun K => ?_) ih
      show FR.duffelref30_join.l0 (K + 1) X f out _ = _
      rw [FR.duffelref30_join.l0]
      rw [if_pos (by omega), if_pos (by omega), if_pos (by omega), Option.bind_some, if_pos (by omega), rdL_nat X i c, if_pos (by rw [List.length_append]; simp; omega), w_inc i (by omega)]
theorem join0_ev (X : List (List Int)) (f : Bool) (hl : X.length < 1000000) (hj : (joinL X).length < 1000000) : Ev (fun K => FR.duffelref30_join.f K X f) (endJ f (joinL X)) :=
  join_ev X f hl hj _ 0 [] rfl (Nat.zero_le _) (by unfold tailJ; rw [if_pos rfl]; rfl)
theorem rparts_ev (b : List Int) (hl : b.length < 1000) (hr : ∀ x ∈ b, 0 ≤ x ∧ x ≤ 255) : Ev (fun K => FR.duffelref30_Parts.f K b) (partsF b) := by
  refine Ev.congr (fun K => by unfold FR.duffelref30_Parts.f; rfl) (Ev.bind (is0_ev b hl hr) ?_)
  unfold partsF
  cases h : isB b with
  | true =>
    rw [if_pos rfl]
    exact Ev.congr (fun K => if_pos rfl) (Ev.bind (rpieces_ev b (by omega)) (Ev.now _))
  | false =>
    rw [if_neg (by decide)]
    exact Ev.congr (fun K => if_neg (by decide)) (Ev.now _)
theorem rparent_ev (b : List Int) (hl : b.length < 900) (hr : ∀ x ∈ b, 0 ≤ x ∧ x ≤ 255) : Ev (fun K => FR.duffelref30_Parent.f K b) (parentL b) := by
  have hp := parts_facts b (by omega) hr
  have hq := parent_len b
  refine Ev.congr (fun K => by unfold FR.duffelref30_Parent.f; rfl) (Ev.bind (rparts_ev b (by omega) hr) ?_)
  unfold parentL at *
  by_cases h : (partsF b).length < 2
  · rw [if_pos h]
    exact Ev.congr (fun K => if_pos (by omega)) (Ev.now _)
  · rw [if_neg h] at hq ⊢
    have e1 : wrap64 (((partsF b).length : Int) - 1) = (((partsF b).length - 1 : Nat) : Int) := by rw [w_in _ (by omega) (by omega)]; omega
    have ej : endJ true (joinL (partsF b).dropLast) = joinL (partsF b).dropLast ++ [47] := by
      unfold endJ
      have hd : (partsF b).dropLast ≠ [] := fun e => by
        have := congrArg List.length e
        rw [List.length_dropLast, List.length_nil] at this
        omega
      refine if_pos ⟨rfl, ?_⟩
      cases hs : (partsF b).dropLast with
      | nil => exact absurd hs hd
      | cons p r =>
        have := hp.2.1 p (List.dropLast_subset _ (by rw [hs]; simp))
        unfold joinL
        rw [List.length_append]
        have := List.length_pos_iff.2 this
        omega
    rw [List.length_append] at hq
    have hj := join0_ev (partsF b).dropLast true (by rw [List.length_dropLast]; omega) (by omega)
    rw [ej] at hj
    refine Ev.congr (fun K => ?_) (Ev.bind hj (Ev.now _))
    show (if ((partsF b).length : Int) < 2 then _ else _) = _
    rw [if_neg (by omega), e1, if_pos (by omega), if_pos (by omega), Int.toNat_natCast, ← List.dropLast_eq_take]
theorem samen_ev (X : List (List Int)) (hl : X.length < 1000000) (hp : ∀ p ∈ X, p.length ≤ 1000000) : ∀ (n i : Nat), X.length - i = n → i ≤ X.length → Ev (fun K => FR.duffelref30_SameNames.l0 K X X (i : Int)) true
  | 0, i, h, hi => by
    refine Ev.step (f := fun _ => some true) (fun K => ?_) (Ev.now _)
    show FR.duffelref30_SameNames.l0 (K + 1) X X _ = _
    rw [FR.duffelref30_SameNames.l0]
    rw [if_neg (by omega)]
  | n + 1, i, h, hi => by
    have c : i < X.length := by omega
    have ih := samen_ev X hl hp n (i + 1) (by omega) (by omega)
    have hs : Ev (fun K => FR.duffelref01_Same.f K X[i] X[i]) true := by
      refine Ev.of (FR.duffelref01_Same.mono _ _) (k := X[i].length + 1) ?_
      unfold FR.duffelref01_Same.f
      rw [if_pos rfl]
      exact same_loopF X[i] (hp _ (List.getElem_mem c)) _ 0 (by omega) (by omega)
    refine Ev.step (f := fun K => (FR.duffelref01_Same.f K X[i] X[i]).bind fun t => if t = true then FR.duffelref30_SameNames.l0 K X X ((i + 1 : Nat) : Int) else some false) (fun K => ?_) (Ev.bind hs (Ev.congr (fun K => if_pos rfl) ih))
    show FR.duffelref30_SameNames.l0 (K + 1) X X _ = _
    rw [FR.duffelref30_SameNames.l0]
    rw [if_pos (by omega), if_pos (by omega), if_pos (by omega), rdL_nat X i c, w_inc i (by omega)]
theorem samen0_ev (X : List (List Int)) (hl : X.length < 1000000) (hp : ∀ p ∈ X, p.length ≤ 1000000) : Ev (fun K => FR.duffelref30_SameNames.f K X X) true :=
  Ev.congr (fun K => by unfold FR.duffelref30_SameNames.f; exact if_pos rfl) (samen_ev X hl hp _ 0 rfl (Nat.zero_le _))
def finC (B : List Int) (O : List (List Int)) : List Int × Int := if isB (endJ (isFB B) (joinL O)) = true then (endJ (isFB B) (joinL O), 0) else ([], 16)
theorem endJ_rng {f : Bool} {s : List Int} (h : ∀ x ∈ s, 0 ≤ x ∧ x ≤ 255) : ∀ x ∈ endJ f s, 0 ≤ x ∧ x ≤ 255 := by
  intro x hx
  unfold endJ at hx
  split at hx
  · rcases List.mem_append.1 hx with hx | hx
    · exact h x hx
    · rw [List.mem_singleton.1 hx]; omega
  · exact h x hx
theorem endJ_len (f : Bool) (s : List Int) : (endJ f s).length ≤ s.length + 1 := by
  unfold endJ; split
  · rw [List.length_append]; exact Nat.le_refl _
  · omega
theorem fin_ev (B : List Int) (O : List (List Int)) (hl : O.length < 1000000) (hj : (joinL O).length ≤ 900) (hr : ∀ x ∈ joinL O, 0 ≤ x ∧ x ≤ 255) :
    Ev (fun K => (FR.duffelref30_join.f K O (isFB B)).bind fun t => (FR.duffelref30_Is.f K t).bind fun u => if u = true then some (t, (0 : Int)) else some (([] : List Int), 16)) (finC B O) := by
  have h1 := join0_ev O (isFB B) hl (by omega)
  have h2 := is0_ev (endJ (isFB B) (joinL O)) (by have := endJ_len (isFB B) (joinL O); omega) (endJ_rng hr)
  refine Ev.bind h1 (Ev.bind h2 ?_)
  unfold finC
  cases h : isB (endJ (isFB B) (joinL O)) with
  | true => simp only [↓reduceIte]; exact Ev.now _
  | false => simp only [Bool.false_eq_true, ↓reduceIte]; exact Ev.now _
theorem clean1_ev (B : List Int) (X : List (List Int)) (lB : B.length < 1000000) (lX : X.length < 1000000) (rX : ∀ p ∈ X, ∀ x ∈ p, 0 ≤ x ∧ x ≤ 255) (O : List (List Int)) (hO : O.length < 1000000) (hj : (joinL O).length ≤ 900) (hr : ∀ x ∈ joinL O, 0 ≤ x ∧ x ≤ 255) :
    ∀ (n i : Nat) (out : List (List Int)), X.length - i = n → i ≤ X.length → out.length ≤ i → (X.drop i).foldl stepC out = O → Ev (fun K => FR.duffelref30_Clean.l1 K B X out (i : Int)) (finC B O)
  | 0, i, out, h, hi, ho, hf => by
    rw [List.drop_eq_nil_of_le (by omega)] at hf
    obtain rfl : out = O := hf
    have he := fin_ev B out hO hj hr
    by_cases h0 : 0 < B.length
    · have e1 : wrap64 ((B.length : Int) - 1) = ((B.length - 1 : Nat) : Int) := by rw [w_in _ (by omega) (by omega)]; omega
      have e2 : (B.getD (B.length - 1) 0 == 47) = isFB B := by
        unfold isFB
        by_cases e : B.getD (B.length - 1) 0 = 47
        · rw [beq_iff_eq.mpr e, decide_eq_true ⟨h0, e⟩]
        · rw [beq_eq_false_iff_ne.mpr e, decide_eq_false (fun h => e h.2)]
      refine Ev.step (fun K => ?_) he
      show FR.duffelref30_Clean.l1 (K + 1) B X out (i : Int) = _
      rw [FR.duffelref30_Clean.l1]
      rw [if_neg (by omega), if_pos (by omega), e1, if_pos (by omega), if_pos (by omega), rd_nat, e2]
    · have e2 : isFB B = false := decide_eq_false (fun h => h0 h.1)
      rw [e2] at he
      refine Ev.step (fun K => ?_) he
      show FR.duffelref30_Clean.l1 (K + 1) B X out (i : Int) = _
      rw [FR.duffelref30_Clean.l1]
      rw [if_neg (by omega), if_neg (by omega)]
  | n + 1, i, out, h, hi, ho, hf => by
    have c : i < X.length := by omega
    rw [List.drop_eq_getElem_cons c, List.foldl_cons] at hf
    obtain ⟨t1, t2, t3⟩ := bad_tests X[i] (rX _ (List.getElem_mem c))
    have ih := fun out' (h1 : out'.length ≤ i + 1) (h2 : (X.drop (i + 1)).foldl stepC out' = O) => clean1_ev B X lB lX rX O hO hj hr n (i + 1) out' (by omega) (by omega) h1 h2
    by_cases e1 : X[i] = []
    · have es : stepC out X[i] = out := if_pos (Or.inl e1)
      rw [es] at hf
      refine Ev.step (f := fun K => FR.duffelref30_Clean.j4 K B X out (i : Int) (strOfNums X[i]) true) (fun K => ?_) (Ev.step (fun K => ?_) (ih out (by omega) hf))
      · show FR.duffelref30_Clean.l1 (K + 1) B X out (i : Int) = _
        rw [FR.duffelref30_Clean.l1]
        rw [if_pos (by omega), if_pos (by omega), rdL_nat X i c, if_pos (beq_iff_eq.mp (t1.trans (decide_eq_true e1)))]
      · show FR.duffelref30_Clean.j4 (K + 1) B X out (i : Int) _ true = _
        rw [FR.duffelref30_Clean.j4]
        rw [if_pos rfl, w_inc i (by omega)]
    · have n1 : ¬ (strOfNums X[i]).toList = ([] : List UInt8) := beq_eq_false_iff_ne.mp (t1.trans (decide_eq_false e1))
      have step1 : ∀ K, FR.duffelref30_Clean.l1 (K + 1) B X out (i : Int) = FR.duffelref30_Clean.j4 K B X out (i : Int) (strOfNums X[i]) (decide (X[i] = [46])) := by
        intro K
        rw [FR.duffelref30_Clean.l1]
        rw [if_pos (by omega), if_pos (by omega), rdL_nat X i c, if_neg n1, t2]
      by_cases e2 : X[i] = [46]
      · have es : stepC out X[i] = out := if_pos (Or.inr e2)
        rw [es] at hf
        refine Ev.step (f := fun K => FR.duffelref30_Clean.j4 K B X out (i : Int) (strOfNums X[i]) true) (fun K => ?_) (Ev.step (fun K => ?_) (ih out (by omega) hf))
        · show FR.duffelref30_Clean.l1 (K + 1) B X out (i : Int) = _
          rw [step1, decide_eq_true e2]
        · show FR.duffelref30_Clean.j4 (K + 1) B X out (i : Int) _ true = _
          rw [FR.duffelref30_Clean.j4]
          rw [if_pos rfl, w_inc i (by omega)]
      · by_cases e3 : X[i] = [46, 46]
        · have es : stepC out X[i] = out.dropLast := by unfold stepC; rw [if_neg (fun h => h.elim e1 e2), if_pos e3]
          rw [es] at hf
          refine Ev.step (f := fun K => FR.duffelref30_Clean.j4 K B X out (i : Int) (strOfNums X[i]) false) (fun K => ?_) (Ev.step (fun K => ?_) (ih out.dropLast (by rw [List.length_dropLast]; omega) hf))
          · show FR.duffelref30_Clean.l1 (K + 1) B X out (i : Int) = _
            rw [step1, decide_eq_false e2]
          · show FR.duffelref30_Clean.j4 (K + 1) B X out (i : Int) _ false = _
            rw [FR.duffelref30_Clean.j4]
            rw [if_neg (by decide), if_pos (beq_iff_eq.mp (t3.trans (decide_eq_true e3)))]
            by_cases h0 : 0 < out.length
            · have e9 : wrap64 ((out.length : Int) - 1) = ((out.length - 1 : Nat) : Int) := by rw [w_in _ (by omega) (by omega)]; omega
              rw [if_pos (by omega), e9, if_pos (by omega), if_pos (by omega), Int.toNat_natCast, ← List.dropLast_eq_take, w_inc i (by omega)]
            · have e9 : out = [] := List.eq_nil_of_length_eq_zero (by omega)
              rw [if_neg (by omega), e9, w_inc i (by omega)]; rfl
        · have n3 : ¬ (strOfNums X[i]).toList = ([46, 46] : List UInt8) := beq_eq_false_iff_ne.mp (t3.trans (decide_eq_false e3))
          have es : stepC out X[i] = out ++ [X[i]] := by unfold stepC; rw [if_neg (fun h => h.elim e1 e2), if_neg e3]
          rw [es] at hf
          refine Ev.step (f := fun K => FR.duffelref30_Clean.j4 K B X out (i : Int) (strOfNums X[i]) false) (fun K => ?_) (Ev.step (fun K => ?_) (ih (out ++ [X[i]]) (by rw [List.length_append]; simp; omega) hf))
          · show FR.duffelref30_Clean.l1 (K + 1) B X out (i : Int) = _
            rw [step1, decide_eq_false e2]
          · show FR.duffelref30_Clean.j4 (K + 1) B X out (i : Int) _ false = _
            rw [FR.duffelref30_Clean.j4]
            rw [if_neg (by decide), if_neg n3, if_pos (by omega), if_pos (by omega), if_pos (by omega), rdL_nat X i c, w_inc i (by omega)]
theorem clean_cond (R : List Int) (K : Nat) (hl : R.length < 1000000) : (if (R.length : Int) ≥ 2 then (if 1 < (R.length : Int) then (if (rd R 1) = 58 then (if 0 < (R.length : Int) then (if (rd R 0) ≥ 65 then (if (rd R 0) ≤ 90 then (FR.duffelref30_Clean.j1 K R true) else (if (rd R 0) ≥ 97 then (FR.duffelref30_Clean.j1 K R (decide ((rd R 0) ≤ 122))) else (FR.duffelref30_Clean.j1 K R false))) else (if (rd R 0) ≥ 97 then (FR.duffelref30_Clean.j1 K R (decide ((rd R 0) ≤ 122))) else (FR.duffelref30_Clean.j1 K R false))) else (none)) else (FR.duffelref30_Clean.j1 K R false)) else (none)) else (FR.duffelref30_Clean.j1 K R false)) = FR.duffelref30_Clean.j1 K R (condB R) := by
  have e1 : rd R 1 = R.getD 1 0 := rd_nat R 1
  have e0 : rd R 0 = R.getD 0 0 := rd_nat R 0
  rw [e1, e0]
  unfold condB
  by_cases h : 2 ≤ R.length
  · rw [if_pos (by omega), if_pos (by omega)]
    by_cases h1 : R.getD 1 0 = 58
    · rw [if_pos h1, if_pos (by omega)]
      have ed : decide (2 ≤ R.length ∧ R.getD 1 0 = 58 ∧ letB (R.getD 0 0) = true) = letB (R.getD 0 0) := by
        cases hb : letB (R.getD 0 0) with
        | true => exact decide_eq_true ⟨h, h1, rfl⟩
        | false => exact decide_eq_false (fun hh => Bool.noConfusion hh.2.2)
      rw [ed]
      generalize R.getD 0 0 = x
      unfold letB
      by_cases a : x ≥ 65
      · rw [if_pos a]
        by_cases b : x ≤ 90
        · rw [if_pos b, decide_eq_true (Or.inr ⟨a, b⟩)]
        · rw [if_neg b]
          by_cases d : x ≥ 97
          · rw [if_pos d]
            congr 1
            exact decide_eq_decide.2 ⟨fun h => Or.inl ⟨d, h⟩, fun h => h.elim (fun h => h.2) (fun h => absurd h.2 b)⟩
          · rw [if_neg d, decide_eq_false (fun h => h.elim (fun h => d h.1) (fun h => b h.2))]
      · rw [if_neg a, if_neg (by omega), decide_eq_false (fun h => h.elim (fun h => a (by omega)) (fun h => a h.1))]
    · rw [if_neg h1, decide_eq_false (fun hh => h1 hh.2.1)]
  · rw [if_neg (by omega), decide_eq_false (fun hh => h hh.1)]
theorem fin_body (B : List Int) (b : List Int) (h : B = stripC (replL b)) : finC B (outC B) = cleanR b := by
  unfold finC cleanR cleanL
  rw [← h]
  have e : endJ (isFB B) (joinL (outC B)) = bodyC B := by
    unfold endJ bodyC
    by_cases c : isFB B = true ∧ 0 < (joinL (outC B)).length
    · rw [if_pos c, if_pos ⟨c.2, c.1⟩]
    · rw [if_neg c, if_neg (fun h => c ⟨h.2, h.1⟩)]
  rw [e]
theorem rclean0_ev (b : List Int) (hl : b.length ≤ 200) (hr : ∀ x ∈ b, 0 ≤ x ∧ x ≤ 255) : ∀ (n i : Nat), b.length - i = n → i ≤ b.length → Ev (fun K => FR.duffelref30_Clean.l0 K b (replL (b.take i)) (i : Int)) (cleanR b)
  | 0, i, h, hi => by
    rw [List.take_of_length_le (by omega)]
    have hRl : (replL b).length = b.length := by unfold replL; rw [List.length_map]
    have hRr := repl_rng hr
    have hBl : (stripC (replL b)).length ≤ 200 := by
      unfold stripC; split
      · rw [List.length_drop]; omega
      · omega
    have hBr : ∀ x ∈ stripC (replL b), 0 ≤ x ∧ x ≤ 255 := by
      unfold stripC; split
      · exact fun x hx => hRr x (List.mem_of_mem_drop hx)
      · exact hRr
    have fb := fin_body (stripC (replL b)) b rfl
    have sc := strip_cond (replL b)
    generalize stripC (replL b) = B at *
    have hs := splitL_length B
    have hf := outC_facts (splitL B) [] (fun p => ∀ x ∈ p, 0 ≤ x ∧ x ≤ 255) (fun p hp => by cases hp) (fun p hp x hx => hBr x (splitL_mem B p hp x hx))
    have hsum := outC_sum (splitL B) []
    have hjl := joinL_len (outC B)
    have h5 := splitL_sum B
    have eo : outC B = (splitL B).foldl stepC [] := rfl
    rw [← eo] at hf hsum
    have hf1 := hf.1
    simp only [List.length_nil, List.map_nil, List.sum_nil] at hf1 hsum
    have hjr : ∀ x ∈ joinL (outC B), 0 ≤ x ∧ x ≤ 255 := by
      intro x hx
      rcases joinL_mem _ x hx with rfl | ⟨p, hp, hx⟩
      · omega
      · exact (hf.2 p hp).1 x hx
    have h1 := clean1_ev B (splitL B) (by omega) (by omega) (fun p hp x hx => hBr x (splitL_mem B p hp x hx)) (outC B) (by omega) (by omega) hjr _ 0 [] rfl (Nat.zero_le _) (Nat.zero_le _) (by rw [List.drop_zero]; rfl)
    rw [fb] at h1
    have h2 : Ev (fun K => FR.duffelref30_Clean.j2 K B) (cleanR b) := Ev.step (f := fun K => (FR.duffelref30_Cut.f K B).bind fun t => FR.duffelref30_Clean.l1 K B t [] 0) (fun K => by show FR.duffelref30_Clean.j2 (K + 1) B = _; rw [FR.duffelref30_Clean.j2]) (Ev.bind (rcut0_ev B (by omega)) h1)
    have h3 : Ev (fun K => FR.duffelref30_Clean.j1 K (replL b) (condB (replL b))) (cleanR b) := by
      cases hc : condB (replL b) with
      | true =>
        have h2l : 2 ≤ (replL b).length := (of_decide_eq_true hc).1
        rw [hc, if_pos rfl] at sc
        rw [sc] at h2
        refine Ev.step (fun K => ?_) h2
        show FR.duffelref30_Clean.j1 (K + 1) (replL b) true = _
        rw [FR.duffelref30_Clean.j1]
        rw [if_pos rfl, if_pos (by omega)]
        rfl
      | false =>
        rw [hc, if_neg (by decide)] at sc
        rw [sc] at h2
        refine Ev.step (fun K => ?_) h2
        show FR.duffelref30_Clean.j1 (K + 1) (replL b) false = _
        rw [FR.duffelref30_Clean.j1]
        rw [if_neg (by decide)]
    refine Ev.step (fun K => ?_) h3
    show FR.duffelref30_Clean.l0 (K + 1) b (replL b) (i : Int) = _
    rw [FR.duffelref30_Clean.l0]
    rw [if_neg (by omega)]
    exact clean_cond (replL b) K (by omega)
  | n + 1, i, h, hi => by
    have c : i < b.length := by omega
    have ih := rclean0_ev b hl hr n (i + 1) (by omega) (by omega)
    have et : replL (b.take (i + 1)) = replL (b.take i) ++ [repl1 (b.getD i 0)] := by
      rw [List.take_add_one, List.getElem?_eq_getElem c, repl_append, List.getD_eq_getElem?_getD, List.getElem?_eq_getElem c]; rfl
    have hl2 : (replL (b.take i)).length = i := by unfold replL; rw [List.length_map, List.length_take]; omega
    rw [et] at ih
    refine Ev.step (fun K => ?_) ih
    show FR.duffelref30_Clean.l0 (K + 1) b _ _ = _
    rw [FR.duffelref30_Clean.l0]
    rw [if_pos (by omega), if_pos (by omega), rd_nat]
    unfold repl1
    by_cases e : b.getD i 0 = 92
    · rw [if_pos e, if_pos (by omega), w_inc i (by omega), if_pos e]
    · rw [if_neg e, if_pos (by omega), w_inc i (by omega), if_neg e]
theorem rclean_ev (b : List Int) (hl : b.length ≤ 200) (hr : ∀ x ∈ b, 0 ≤ x ∧ x ≤ 255) : Ev (fun K => FR.duffelref30_Clean.f K b) (cleanR b) :=
  rclean0_ev b hl hr _ 0 rfl (Nat.zero_le _)
end Go.Proofs.YtbjffjbohpoedaaDoor.Fd
