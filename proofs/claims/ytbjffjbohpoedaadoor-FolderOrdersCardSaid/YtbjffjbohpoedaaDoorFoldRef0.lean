/- The reference's cut, pieces, order, Less, of what the printed loops compute. -/
import Derived.Test.YtbjffjbohpoedaaDoorFoldOrd0
import Derived.Test.YtbjffjbohpoedaaDoorFRx2
namespace Go.Proofs.YtbjffjbohpoedaaDoor.Fd
open Go.Proofs.YtbjffjbohpoedaaDoor.Wd
open Go.RowKit Go.Proofs.YtbjffjbohpoedaaDoorW.PrintWords Go.Proofs.YtbjffjbohpoedaaDoorW.PrintLast Go.Proofs.YtbjffjbohpoedaaDoorW.PrintMore
set_option linter.unusedVariables false
set_option linter.unusedSimpArgs false
theorem drop_get (F : List Int) (i : Nat) (h : i < F.length) : F.drop i = F.getD i 0 :: F.drop (i + 1) := by
  rw [List.drop_eq_getElem_cons h, List.getD_eq_getElem?_getD, List.getElem?_eq_getElem h]; rfl
theorem w_inc (i : Nat) (h : i < 1000000) : wrap64 ((i : Int) + 1) = ((i + 1 : Nat) : Int) := by unfold wrap64; omega
theorem rd_nat (L : List Int) (i : Nat) : rd L (i : Int) = L.getD i 0 := by unfold rd; rw [Int.toNat_natCast]
theorem rdL_nat (X : List (List Int)) (i : Nat) (h : i < X.length) : FR.rd_L1 X (i : Int) = X[i] := by
  unfold FR.rd_L1; rw [Int.toNat_natCast, List.getD_eq_getElem?_getD, List.getElem?_eq_getElem h]; rfl
/-- what is open, ahead of the next parts -/
def glue (now : List Int) : List (List Int) → List (List Int)
  | [] => [now]
  | q :: qs => (now ++ q) :: qs
theorem glue_nil (l : List Int) : glue [] (splitL l) = splitL l := by
  cases h : splitL l with
  | nil => exact absurd h (splitL_ne l)
  | cons q qs => rfl
theorem rcut_ev (F : List Int) (hl : F.length < 1000000) : ∀ (n i : Nat) (out : List (List Int)) (now : List Int), F.length - i = n → i ≤ F.length → out.length ≤ i → now.length ≤ i →
    Ev (fun K => FR.duffelref30_Cut.l0 K F out now (i : Int)) (out ++ glue now (splitL (F.drop i)))
  | 0, i, out, now, h, hi, ho, hn => by
    have e : i = F.length := by omega
    refine Ev.step (f := fun _ => some (out ++ glue now (splitL (F.drop i)))) (fun K => ?_) (Ev.now _)
    show FR.duffelref30_Cut.l0 (K + 1) F _ _ _ = _
    rw [FR.duffelref30_Cut.l0]
    rw [if_neg (by omega), if_pos (by omega), e, List.drop_length]
    simp [splitL, glue]
  | n + 1, i, out, now, h, hi, ho, hn => by
    have c : i < F.length := by omega
    have ed := drop_get F i c
    by_cases e : F.getD i 0 = 47
    · have ih := rcut_ev F hl n (i + 1) (out ++ [now]) [] (by omega) (by omega) (by simp; omega) (by simp)
      have ea : out ++ glue now (splitL (F.drop i)) = (out ++ [now]) ++ glue [] (splitL (F.drop (i + 1))) := by
        rw [ed, e, glue_nil]
        simp [splitL, glue]
      rw [ea]
      refine Ev.step (fun K => ?_) ih
      show FR.duffelref30_Cut.l0 (K + 1) F _ _ _ = _
      rw [FR.duffelref30_Cut.l0]
      rw [if_pos (by omega), if_pos (by omega), rd_nat, if_pos e, if_pos (by omega), w_inc i (by omega)]
    · have ih := rcut_ev F hl n (i + 1) out (now ++ [F.getD i 0]) (by omega) (by omega) (by omega) (by simp; omega)
      have ea : out ++ glue now (splitL (F.drop i)) = out ++ glue (now ++ [F.getD i 0]) (splitL (F.drop (i + 1))) := by
        rw [ed]
        congr 1
        conv => lhs; unfold splitL
        rw [if_neg e]
        cases hs : splitL (F.drop (i + 1)) with
        | nil => exact absurd hs (splitL_ne _)
        | cons q qs => simp [glue]
      rw [ea]
      refine Ev.step (fun K => ?_) ih
      show FR.duffelref30_Cut.l0 (K + 1) F _ _ _ = _
      rw [FR.duffelref30_Cut.l0]
      rw [if_pos (by omega), if_pos (by omega), rd_nat, if_neg e, if_pos (by omega), w_inc i (by omega)]
theorem rcut0_ev (F : List Int) (hl : F.length < 1000000) : Ev (fun K => FR.duffelref30_Cut.f K F) (splitL F) := by
  have := rcut_ev F hl F.length 0 [] [] (by omega) (by omega) (by simp) (by simp)
  rw [List.nil_append, List.drop_zero, glue_nil] at this
  exact this
theorem rpieces_ev (F : List Int) (hl : F.length < 1000000) : Ev (fun K => FR.duffelref30_Pieces.f K F) (piecesL F) := by
  unfold piecesL cutEnd
  by_cases h : 0 < F.length
  · have e1 : wrap64 ((F.length : Int) - 1) = ((F.length - 1 : Nat) : Int) := by unfold wrap64; omega
    by_cases e : F.getD (F.length - 1) 0 = 47
    · rw [if_pos ⟨h, e⟩]
      refine Ev.congr (f := fun K => FR.duffelref30_Pieces.j0 K F true) (fun K => ?_) (Ev.step (f := fun K => (FR.duffelref30_Cut.f K (F.take (F.length - 1))).bind fun t => some t) (fun K => ?_) (Ev.bind (rcut0_ev _ (by rw [List.length_take]; omega)) (Ev.now _)))
      · show (if (F.length : Int) > 0 then _ else _) = _
        rw [if_pos (by omega), e1, if_pos (by omega), if_pos (by omega), rd_nat, e]; rfl
      · show FR.duffelref30_Pieces.j0 (K + 1) F true = _
        rw [FR.duffelref30_Pieces.j0]
        rw [if_pos rfl, e1, if_pos (by omega), if_pos (by omega), Int.toNat_natCast]
    · rw [if_neg (fun hh => e hh.2)]
      refine Ev.congr (f := fun K => FR.duffelref30_Pieces.j0 K F false) (fun K => ?_) (Ev.step (f := fun K => (FR.duffelref30_Cut.f K F).bind fun t => some t) (fun K => ?_) (Ev.bind (rcut0_ev _ hl) (Ev.now _)))
      · show (if (F.length : Int) > 0 then _ else _) = _
        rw [if_pos (by omega), e1, if_pos (by omega), if_pos (by omega), rd_nat, beq_eq_false_iff_ne.mpr e]
      · show FR.duffelref30_Pieces.j0 (K + 1) F false = _
        rw [FR.duffelref30_Pieces.j0]
        rw [if_neg (by decide)]
  · rw [if_neg (fun hh => h hh.1)]
    refine Ev.congr (f := fun K => FR.duffelref30_Pieces.j0 K F false) (fun K => ?_) (Ev.step (f := fun K => (FR.duffelref30_Cut.f K F).bind fun t => some t) (fun K => ?_) (Ev.bind (rcut0_ev _ hl) (Ev.now _)))
    · show (if (F.length : Int) > 0 then _ else _) = _
      rw [if_neg (by omega)]
    · show FR.duffelref30_Pieces.j0 (K + 1) F false = _
      rw [FR.duffelref30_Pieces.j0]
      rw [if_neg (by decide)]
theorem rfold_nat : ∀ n : Nat, n < 256 → FR.duffelref29_Fold.f 12 (n : Int) = some (fold1 n) := by decide +kernel
theorem rfold_ev (a : Int) (h0 : 0 ≤ a) (h1 : a ≤ 255) : Ev (fun K => FR.duffelref29_Fold.f K a) (fold1 a) := by
  obtain ⟨n, rfl⟩ := Int.eq_ofNat_of_zero_le h0
  exact Ev.of (FR.duffelref29_Fold.mono _) (rfold_nat n (by omega))
theorem all_ev (L : List Int) (hl : L.length < 1000000) (hr : ∀ x ∈ L, 0 ≤ x ∧ x ≤ 255) : ∀ (n i : Nat), L.length - i = n → i ≤ L.length → Ev (fun K => FR.duffelref29_All.l0 K L ((L.take i).map fold1) (i : Int)) (L.map fold1)
  | 0, i, h, hi => by
    have e : i = L.length := by omega
    refine Ev.step (f := fun _ => some (L.map fold1)) (fun K => ?_) (Ev.now _)
    show FR.duffelref29_All.l0 (K + 1) L _ _ = _
    rw [FR.duffelref29_All.l0]
    rw [if_neg (by omega), e, List.take_length]
  | n + 1, i, h, hi => by
    have c : i < L.length := by omega
    have hm : L.getD i 0 ∈ L := by rw [List.getD_eq_getElem?_getD, List.getElem?_eq_getElem c]; exact List.getElem_mem c
    have hb := hr _ hm
    have ih := all_ev L hl hr n (i + 1) (by omega) (by omega)
    refine Ev.step (f := fun K => (FR.duffelref29_Fold.f K (L.getD i 0)).bind fun t => FR.duffelref29_All.l0 K L ((L.take i).map fold1 ++ [t]) ((i + 1 : Nat) : Int)) (fun K => ?_) (Ev.bind (rfold_ev _ hb.1 hb.2) (Ev.congr (fun K => ?_) ih))
    · show FR.duffelref29_All.l0 (K + 1) L _ _ = _
      have hlen : ((L.take i).map fold1).length < 140737488355328 := by rw [List.length_map, List.length_take]; omega
      rw [FR.duffelref29_All.l0]
      rw [if_pos (by omega), if_pos (by omega), rd_nat, w_inc i (by omega)]
      congr 1
      funext t
      rw [if_pos hlen]
    · rw [List.take_add_one, List.getElem?_eq_getElem c, List.map_append, List.getD_eq_getElem?_getD, List.getElem?_eq_getElem c]; rfl
theorem all_ev0 (L : List Int) (hl : L.length < 1000000) (hr : ∀ x ∈ L, 0 ≤ x ∧ x ≤ 255) : Ev (fun K => FR.duffelref29_All.f K L) (L.map fold1) :=
  all_ev L hl hr L.length 0 (by omega) (by omega)
/-- the first difference; d: there is none -/
def ordR (d : Int) : List Int → List Int → Int
  | x :: xs, y :: ys => if x = y then ordR d xs ys else x - y
  | _, _ => d
theorem ordR_end (d : Int) (p q : List Int) (h : p = [] ∨ q = []) : ordR d p q = d := by
  rcases h with rfl | rfl
  · rfl
  · cases p <;> rfl
theorem order_ev (p q : List Int) (hp : Byt p) (hq : Byt q) (lp : p.length < 1000000) (lq : q.length < 1000000) : ∀ (n i : Nat), p.length - i = n → i ≤ p.length → i ≤ q.length →
    Ev (fun K => FR.duffelref30_order.l0 K p q (i : Int)) (ordR ((p.length : Int) - q.length) (p.drop i) (q.drop i)) := by
  have wd : wrap64 ((p.length : Int) - (q.length : Int)) = (p.length : Int) - q.length := w_in _ (by omega) (by omega)
  intro n
  induction n with
  | zero =>
    intro i h hi hi2
    rw [ordR_end _ _ _ (.inl (List.drop_eq_nil_of_le (by omega)))]
    refine Ev.step (f := fun K => FR.duffelref30_order.j1 K p q (i : Int) false) (fun K => ?_) (Ev.step (f := fun _ => some ((p.length : Int) - q.length)) (fun K => ?_) (Ev.now _))
    · show FR.duffelref30_order.l0 (K + 1) p q (i : Int) = _
      rw [FR.duffelref30_order.l0]
      rw [if_neg (by omega)]
    · show FR.duffelref30_order.j1 (K + 1) p q (i : Int) false = _
      rw [FR.duffelref30_order.j1]
      rw [if_neg (by decide), wd]
  | succ n ih =>
    intro i h hi hi2
    have c : i < p.length := by omega
    by_cases c2 : i < q.length
    · have hx := hp (p.getD i 0) (by rw [List.getD_eq_getElem?_getD, List.getElem?_eq_getElem c]; exact List.getElem_mem c)
      have hy := hq (q.getD i 0) (by rw [List.getD_eq_getElem?_getD, List.getElem?_eq_getElem c2]; exact List.getElem_mem c2)
      have hI := ih (i + 1) (by omega) (by omega) (by omega)
      rw [drop_get p i c, drop_get q i c2, ordR]
      by_cases e : p.getD i 0 = q.getD i 0
      · rw [if_pos e]
        refine Ev.step (f := fun K => FR.duffelref30_order.j1 K p q (i : Int) true) (fun K => ?_) (Ev.step (fun K => ?_) hI)
        · show FR.duffelref30_order.l0 (K + 1) p q (i : Int) = _
          rw [FR.duffelref30_order.l0]
          rw [if_pos (by omega), decide_eq_true (by omega)]
        · show FR.duffelref30_order.j1 (K + 1) p q (i : Int) true = _
          rw [FR.duffelref30_order.j1]
          rw [if_pos rfl, if_pos (by omega), if_pos (by omega), if_pos (by omega), rd_nat, rd_nat, if_pos e, w_inc i (by omega)]
      · rw [if_neg e]
        refine Ev.step (f := fun K => FR.duffelref30_order.j1 K p q (i : Int) true) (fun K => ?_) (Ev.step (f := fun _ => some (p.getD i 0 - q.getD i 0)) (fun K => ?_) (Ev.now _))
        · show FR.duffelref30_order.l0 (K + 1) p q (i : Int) = _
          rw [FR.duffelref30_order.l0]
          rw [if_pos (by omega), decide_eq_true (by omega)]
        · show FR.duffelref30_order.j1 (K + 1) p q (i : Int) true = _
          rw [FR.duffelref30_order.j1]
          rw [if_pos rfl, if_pos (by omega), if_pos (by omega), if_pos (by omega), rd_nat, rd_nat, if_neg e, w_in (p.getD i 0) (by omega) (by omega), w_in (q.getD i 0) (by omega) (by omega), w_in (p.getD i 0 - q.getD i 0) (by omega) (by omega)]
    · rw [ordR_end _ _ _ (.inr (List.drop_eq_nil_of_le (by omega)))]
      refine Ev.step (f := fun K => FR.duffelref30_order.j1 K p q (i : Int) false) (fun K => ?_) (Ev.step (f := fun _ => some ((p.length : Int) - q.length)) (fun K => ?_) (Ev.now _))
      · show FR.duffelref30_order.l0 (K + 1) p q (i : Int) = _
        rw [FR.duffelref30_order.l0]
        rw [if_pos (by omega), decide_eq_false (by omega)]
      · show FR.duffelref30_order.j1 (K + 1) p q (i : Int) false = _
        rw [FR.duffelref30_order.j1]
        rw [if_neg (by decide), wd]
theorem order_sgn : ∀ (p q : List Int) (d : Int), Byt p → Byt q → d = (p.length : Int) - q.length → sgn (ordR d p q) = sgn (cmpZ p q)
  | [], [], d, _, _, h => by subst h; rfl
  | [], y :: q, d, _, _, h => by
    have : d < 0 := by rw [h]; simp only [List.length_nil, List.length_cons]; omega
    show sgn d = sgn (-1)
    unfold sgn; rw [if_pos this]; rfl
  | x :: p, [], d, _, _, h => by
    have h1 : ¬ d < 0 := by rw [h]; simp only [List.length_nil, List.length_cons]; omega
    have h2 : ¬ d = 0 := by rw [h]; simp only [List.length_nil, List.length_cons]; omega
    show sgn d = sgn 1
    unfold sgn; rw [if_neg h1, if_neg h2]; rfl
  | x :: p, y :: q, d, hp, hq, h => by
    rw [ordR, cmp_cons x y p q (hp x (by simp)) (hq y (by simp))]
    by_cases e : x = y
    · subst e
      rw [if_pos rfl, if_neg (by omega), if_neg (by omega)]
      exact order_sgn p q d hp.tail hq.tail (by rw [h]; simp only [List.length_cons]; omega)
    · rw [if_neg e]
      by_cases h1 : x < y
      · rw [if_pos h1]; unfold sgn; rw [if_pos (by omega)]; rfl
      · rw [if_neg h1, if_pos (by omega)]; unfold sgn; rw [if_neg (by omega), if_neg (by omega)]; rfl
theorem sgn_lt {z : Int} : sgn z = .lt ↔ z < 0 := by
  unfold sgn; by_cases h : z < 0
  · simp [h]
  · by_cases h2 : z = 0 <;> simp [h, h2]
theorem sgn_eq {z : Int} : sgn z = .eq ↔ z = 0 := by
  unfold sgn; by_cases h : z < 0
  · rw [if_pos h]; simp; omega
  · by_cases h2 : z = 0 <;> simp [h, h2]
theorem order0_ev (p q : List Int) (hp : Byt p) (hq : Byt q) (lp : p.length < 1000000) (lq : q.length < 1000000) : ∃ z, Ev (fun K => FR.duffelref30_order.f K p q) z ∧ (z < 0 ↔ cmpZ p q < 0) ∧ (z = 0 ↔ cmpZ p q = 0) := by
  have h := order_ev p q hp hq lp lq p.length 0 (by omega) (by omega) (by omega)
  have hs := order_sgn p q _ hp hq rfl
  rw [List.drop_zero, List.drop_zero] at h
  exact ⟨_, h, by rw [← sgn_lt, hs, sgn_lt], by rw [← sgn_eq, hs, sgn_eq]⟩
def lessD (X Y : List (List Int)) (ce : Int) (i : Nat) : Bool :=
  decide ((if cmpP (X.drop i) (Y.drop i) = 0 then (if X.length = Y.length then ce else (X.length : Int) - Y.length) else cmpP (X.drop i) (Y.drop i)) < 0)
theorem less_ev (a b : List Int) (ha : Byt a) (hb : Byt b) (la : a.length < 1000) (lb : b.length < 1000) (X Y : List (List Int)) (hX : ∀ p ∈ X, Byt p) (hY : ∀ p ∈ Y, Byt p) (lX : ∀ p ∈ X, p.length < 1000) (lY : ∀ p ∈ Y, p.length < 1000) (nX : X.length < 2000) (nY : Y.length < 2000) :
    ∀ (n i : Nat), X.length - i = n → i ≤ X.length → i ≤ Y.length → Ev (fun K => FR.duffelref30_Less.l0 K a b X Y (i : Int)) (lessD X Y (cmpZ a b) i) := by
  obtain ⟨z, hz, z1, z2⟩ := order0_ev a b ha hb (by omega) (by omega)
  have fin : ∀ i : Nat, cmpP (X.drop i) (Y.drop i) = 0 → Ev (fun K => FR.duffelref30_Less.j1 K a b X Y (i : Int) false) (lessD X Y (cmpZ a b) i) := by
    intro i h0
    unfold lessD
    rw [if_pos h0]
    by_cases hl : X.length = Y.length
    · rw [if_pos hl]
      refine Ev.step (f := fun K => (FR.duffelref30_order.f K a b).bind fun t => some (decide (t < 0))) (fun K => ?_) (Ev.bind hz ?_)
      · show FR.duffelref30_Less.j1 (K + 1) a b X Y (i : Int) false = _
        rw [FR.duffelref30_Less.j1]
        rw [if_neg (by decide), if_pos (by omega)]
      · rw [show decide (cmpZ a b < 0) = decide (z < 0) from decide_eq_decide.2 z1.symm]
        exact Ev.now _
    · rw [if_neg hl]
      refine Ev.step (f := fun _ => some (decide ((X.length : Int) - Y.length < 0))) (fun K => ?_) (Ev.now _)
      show FR.duffelref30_Less.j1 (K + 1) a b X Y (i : Int) false = _
      rw [FR.duffelref30_Less.j1]
      rw [if_neg (by decide), if_neg (by omega)]
      congr 1
      exact decide_eq_decide.2 (by omega)
  intro n
  induction n with
  | zero =>
    intro i h hi hi2
    refine Ev.step (fun K => ?_) (fin i (cmpP_end X Y i (by omega)))
    show FR.duffelref30_Less.l0 (K + 1) a b X Y (i : Int) = _
    rw [FR.duffelref30_Less.l0]
    rw [if_neg (by omega)]
  | succ n ih =>
    intro i h hi hi2
    have c : i < X.length := by omega
    by_cases c2 : i < Y.length
    · have hI := ih (i + 1) (by omega) (by omega) (by omega)
      have bx := hX X[i] (List.getElem_mem c)
      have bY := hY Y[i] (List.getElem_mem c2)
      have lx := lX X[i] (List.getElem_mem c)
      have ly := lY Y[i] (List.getElem_mem c2)
      have st := cmpP_step X Y i c c2
      obtain ⟨y, hy, y1, y2⟩ := order0_ev (X[i].map fold1) (Y[i].map fold1) (fold_byt bx) (fold_byt bY) (by rw [List.length_map]; omega) (by rw [List.length_map]; omega)
      have e1 := all_ev0 X[i] (by omega) bx
      have e2 := all_ev0 Y[i] (by omega) bY
      refine Ev.step (f := fun K => FR.duffelref30_Less.j1 K a b X Y (i : Int) true) (fun K => ?_) (Ev.step (f := fun K => (FR.duffelref29_All.f K X[i]).bind fun t => (FR.duffelref29_All.f K Y[i]).bind fun u => (FR.duffelref30_order.f K t u).bind fun v => if v = 0 then FR.duffelref30_Less.l0 K a b X Y ((i + 1 : Nat) : Int) else some (decide (v < 0))) (fun K => ?_) (Ev.bind e1 (Ev.bind e2 (Ev.bind hy ?_))))
      · show FR.duffelref30_Less.l0 (K + 1) a b X Y (i : Int) = _
        rw [FR.duffelref30_Less.l0]
        rw [if_pos (by omega), decide_eq_true (by omega)]
      · show FR.duffelref30_Less.j1 (K + 1) a b X Y (i : Int) true = _
        rw [FR.duffelref30_Less.j1]
        rw [if_pos rfl, if_pos (by omega), if_pos (by omega), rdL_nat X i c, rdL_nat Y i c2, w_inc i (by omega)]
        congr 1
        funext t
        rw [if_pos (by omega)]
      · by_cases hz0 : y = 0
        · have e3 : lessD X Y (cmpZ a b) i = lessD X Y (cmpZ a b) (i + 1) := by
            unfold lessD
            rw [st, if_pos (y2.1 hz0)]
          rw [e3]
          exact Ev.congr (fun K => by rw [if_pos hz0]) hI
        · have hne : ¬ cmpZ (X[i].map fold1) (Y[i].map fold1) = 0 := fun h => hz0 (y2.2 h)
          have e3 : lessD X Y (cmpZ a b) i = decide (y < 0) := by
            unfold lessD
            rw [st, if_neg hne, if_neg hne]
            exact decide_eq_decide.2 y1.symm
          rw [e3]
          exact Ev.congr (fun K => by rw [if_neg hz0]) (Ev.now _)
    · refine Ev.step (fun K => ?_) (fin i (cmpP_end X Y i (by omega)))
      show FR.duffelref30_Less.l0 (K + 1) a b X Y (i : Int) = _
      rw [FR.duffelref30_Less.l0]
      rw [if_pos (by omega), decide_eq_false (by omega)]
theorem rless_ev (a b : List Int) (ha : Byt a) (hb : Byt b) (la : a.length < 1000) (lb : b.length < 1000) : Ev (fun K => FR.duffelref30_Less.f K a b) (lessB a b) := by
  have h := less_ev a b ha hb la lb (piecesL a) (piecesL b) (pieces_byt ha) (pieces_byt hb) (fun p hp => by have := pieces_each a p hp; omega) (fun p hp => by have := pieces_each b p hp; omega) (by have := pieces_len a; omega) (by have := pieces_len b; omega) _ 0 rfl (Nat.zero_le _) (Nat.zero_le _)
  refine Ev.congr (fun K => by unfold FR.duffelref30_Less.f; rfl) (Ev.bind (rpieces_ev a (by omega)) (Ev.bind (rpieces_ev b (by omega)) ?_))
  exact h
theorem rless_any (A : Option Addr) (c : Nat) (a : List Int) (A' : Option Addr) (c' : Nat) (b : List Int) (w : World) (ha : Arg w A c a) (hb : Arg w A' c' b) (la : a.length < 1000) (lb : b.length < 1000) :
    Calls Tryd.prog 10 #[.slice A a.length c, .slice A' b.length c'] w fun e w' => e = .returned (.bool (lessB a b)) ∧ Below w.heap.size w w' := by
  obtain ⟨K, hK⟩ := (rless_ev a b ha.rng hb.rng la lb).rounds
  exact FR.duffelref30_Less.calls K A c a A' c' b _ w ha.C ha.le hb.C hb.le hK
end Go.Proofs.YtbjffjbohpoedaaDoor.Fd
