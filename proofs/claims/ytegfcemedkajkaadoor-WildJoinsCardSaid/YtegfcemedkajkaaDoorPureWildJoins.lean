/- WildJoins: two patterns of one part each match, one behind the other, what both match, one behind the other. -/
import Derived.Test.YtegfcemedkajkaaDoorWildJoins0
namespace Go.Proofs.YtegfcemedkajkaaDoor.Pure
open Go.RowKit Go.Proofs.YtegfcemedkajkaaDoor.WC Go.Proofs.YtegfcemedkajkaaDoor.Wd Go.Proofs.YtegfcemedkajkaaDoorW.PrintWords Go.Proofs.YtegfcemedkajkaaDoorW.PrintLast Go.Proofs.YtegfcemedkajkaaDoorW.PrintMore
set_option linter.unusedVariables false
theorem rdl_nat (X : List (List Int)) (i : Nat) : rd_L1 X (i : Int) = X.getD i [] := by unfold rd_L1; rw [Int.toNat_natCast]
theorem take_fine {l : List Int} (n : Nat) (h : Fine l) : Fine (l.take n) := ⟨by have := h.1; rw [List.length_take]; omega, fun x hx => h.2 x (List.mem_of_mem_take hx)⟩
theorem few_go (N M : Nat) (hN : N < 1000) (X : List (List Int)) (hw : ∀ r ∈ X, Fine r) : ∀ (n i : Nat), N - i = n → i ≤ N → i ≤ X.length → Ev (fun K => duffelref29_Few.l0 K X (N : Int) (M : Int) ((X.take i).map fun l => l.take M) (i : Int)) ((X.take N).map fun l => l.take M)
  | 0, i, h, hi, hl => by
    have e : i = N := by omega
    subst e
    have h2 : Ev (fun K => duffelref29_Few.j1 K X (i : Int) (M : Int) ((X.take i).map fun l => l.take M) (i : Int) false) ((X.take i).map fun l => l.take M) := by
      refine Ev.step (f := fun _ => some ((X.take i).map fun l => l.take M)) (fun K => ?_) (Ev.now _)
      show duffelref29_Few.j1 (K + 1) X _ _ _ _ false = _
      rw [duffelref29_Few.j1]
      exact if_neg (by decide)
    refine Ev.step (fun K => ?_) h2
    show duffelref29_Few.l0 (K + 1) X _ _ _ _ = _
    rw [duffelref29_Few.l0]
    by_cases c : (i : Int) < (X.length : Int)
    · rw [if_pos c, decide_eq_false (by omega)]
    · rw [if_neg c]
  | n + 1, i, h, hi, hl => by
    by_cases c : i < X.length
    · have ih := few_go N M hN X hw n (i + 1) (by omega) (by omega) (by omega)
      have hm := mem_getD c
      have hf := take_fine M (hw _ hm)
      have hlen : ((X.take i).map fun l => l.take M).length < 5864062014805 := by rw [List.length_map, List.length_take]; omega
      have e2 : ((X.take i).map fun l => l.take M) ++ [(X.getD i []).take M] = (X.take (i + 1)).map fun l => l.take M := by
        rw [List.take_add_one (l := X) (i := i), List.getElem?_eq_getElem c, List.map_append, List.getD_eq_getElem?_getD, List.getElem?_eq_getElem c]; rfl
      have h2 : Ev (fun K => duffelref29_Few.j1 K X (N : Int) (M : Int) ((X.take i).map fun l => l.take M) (i : Int) true) ((X.take N).map fun l => l.take M) := by
        refine Ev.step (fun K => ?_) ih
        show duffelref29_Few.j1 (K + 1) X _ _ _ _ true = _
        rw [duffelref29_Few.j1]
        rw [if_pos rfl, if_pos (by omega), if_pos (by omega), rdl_nat, cut_nat (X.getD i []) M, Option.bind_some, copy_eq hf, Option.bind_some, if_pos hlen, e2, w_inc i (by omega)]
      refine Ev.step (fun K => ?_) h2
      show duffelref29_Few.l0 (K + 1) X _ _ _ _ = _
      rw [duffelref29_Few.l0]
      rw [if_pos (by omega), decide_eq_true (by omega)]
    · have e : X.take N = X.take i := by rw [List.take_of_length_le (by omega), List.take_of_length_le (by omega)]
      have h2 : Ev (fun K => duffelref29_Few.j1 K X (N : Int) (M : Int) ((X.take i).map fun l => l.take M) (i : Int) false) ((X.take N).map fun l => l.take M) := by
        refine Ev.step (f := fun _ => some ((X.take N).map fun l => l.take M)) (fun K => ?_) (Ev.now _)
        show duffelref29_Few.j1 (K + 1) X _ _ _ _ false = _
        rw [duffelref29_Few.j1]
        rw [e]
        exact if_neg (by decide)
      refine Ev.step (fun K => ?_) h2
      show duffelref29_Few.l0 (K + 1) X _ _ _ _ = _
      rw [duffelref29_Few.l0]
      rw [if_neg (by omega)]
theorem few_four (p q s t : List Int) (f0 : Fine p) (f1 : Fine q) (f2 : Fine s) (f3 : Fine t) (n0 : p.length ≤ 40) (n1 : q.length ≤ 40) (n2 : s.length ≤ 40) (n3 : t.length ≤ 40) : ∃ k, duffelref29_Few.f k [p, q, s, t] 4 40 = some [p, q, s, t] := by
  have h := few_go 4 40 (by omega) [p, q, s, t] (by
    intro r hr
    simp only [List.mem_cons, List.not_mem_nil, or_false] at hr
    rcases hr with rfl | rfl | rfl | rfl
    · exact f0
    · exact f1
    · exact f2
    · exact f3) 4 0 rfl (by omega) (by simp)
  have e : (([p, q, s, t] : List (List Int)).take 4).map (fun l => l.take 40) = [p, q, s, t] := by
    simp [List.take_of_length_le n0, List.take_of_length_le n1, List.take_of_length_le n2, List.take_of_length_le n3]
  rw [e] at h
  obtain ⟨k, hk⟩ := h
  exact ⟨k, hk k (Nat.le_refl _)⟩
theorem glob_join : ∀ (P Q S T : List Int), glob P S = true → glob Q T = true → glob (P ++ Q) (S ++ T) = true
  | [], Q, S, T, h1, h2 => by
    have : S = [] := by cases S with | nil => rfl | cons d S => cases h1
    subst this; exact h2
  | c :: P, Q, S, T, h1, h2 => by
    rw [List.cons_append]
    by_cases e : c = 42
    · subst e
      rw [glob_star] at h1 ⊢
      obtain ⟨u, v, rfl, hv⟩ := (starOf_iff _ _).1 h1
      exact (starOf_iff _ _).2 ⟨u, v ++ T, by simp, glob_join P Q v T hv h2⟩
    · cases S with
      | nil => rw [glob_lit0 c P e] at h1; cases h1
      | cons d S =>
        rw [glob_lit1 c P e, Bool.and_eq_true] at h1
        rw [List.cons_append, glob_lit1 c _ e, Bool.and_eq_true]
        exact ⟨h1.1, glob_join P Q S T h1.2 h2⟩
theorem fold_dot : ∀ n : Nat, n < 256 → fold1 n = 46 → (n : Int) = 46 := by decide +kernel
theorem fold_three {p : List Int} (h : Fine p) (e : p.map fold1 = [42, 46, 42]) : p = [42, 46, 42] := by
  have hl : p.length = 3 := by simpa using congrArg List.length e
  obtain ⟨a, b, c, rfl⟩ : ∃ a b c, p = [a, b, c] := by
    match p, hl with
    | [a, b, c], _ => exact ⟨a, b, c, rfl⟩
  simp only [List.map_cons, List.map_nil, List.cons.injEq, and_true] at e
  have ha := (fold_all (h.2 a (by simp))).2.2.2.1 e.1
  have hc := (fold_all (h.2 c (by simp))).2.2.2.1 e.2.2
  have hb0 := h.2 b (by simp)
  obtain ⟨n, rfl⟩ := Int.eq_ofNat_of_zero_le hb0.1
  have hb := fold_dot n (by omega) e.2.1
  rw [ha, hb, hc]
theorem clean_mem {l : List Int} (h : cleanL l) : ∀ x ∈ l, x ≠ 47 ∧ x ≠ 92 := by
  intro x hx
  obtain ⟨i, hi, rfl⟩ := List.mem_iff_getElem.1 hx
  have := h i hi
  rwa [List.getD_eq_getElem?_getD, List.getElem?_eq_getElem hi] at this
theorem match_one_part {p s : List Int} (f0 : Fine p) (f2 : Fine s) (h0 : ∀ x ∈ p, x ≠ 47 ∧ x ≠ 92) (h2 : ∀ x ∈ s, x ≠ 47 ∧ x ≠ 92) : matchB p s = partB (p.map fold1) (s.map fold1) := by
  rw [match_last (parts_none f0 h0), parts_none f2 h2]; rfl
theorem join_match {p q s t : List Int} (f0 : Fine p) (f1 : Fine q) (f2 : Fine s) (f3 : Fine t) (hsm : p.length + q.length < 1000000 ∧ s.length + t.length < 1000000) (c0 : cleanL p) (c1 : cleanL q) (c2 : cleanL s) (c3 : cleanL t)
    (n0 : ¬ (strOfNums p).toList = ([42, 46, 42] : List UInt8)) (n1 : ¬ (strOfNums q).toList = ([42, 46, 42] : List UInt8)) (m0 : matchB p s = true) (m1 : matchB q t = true) : matchB (p ++ q) (s ++ t) = true := by
  have d0 := clean_mem c0
  have d1 := clean_mem c1
  have d2 := clean_mem c2
  have d3 := clean_mem c3
  have app : ∀ {a b : List Int}, (∀ x ∈ a, x ≠ 47 ∧ x ≠ 92) → (∀ x ∈ b, x ≠ 47 ∧ x ≠ 92) → ∀ x ∈ a ++ b, x ≠ 47 ∧ x ≠ 92 := fun ha hb x hx => (List.mem_append.mp hx).elim (ha x) (hb x)
  have fpq : Fine (p ++ q) := ⟨by rw [List.length_append]; exact hsm.1, fun x hx => (List.mem_append.mp hx).elim (f0.2 x) (f1.2 x)⟩
  have fst : Fine (s ++ t) := ⟨by rw [List.length_append]; exact hsm.2, fun x hx => (List.mem_append.mp hx).elim (f2.2 x) (f3.2 x)⟩
  rw [match_one_part f0 f2 d0 d2] at m0
  rw [match_one_part f1 f3 d1 d3] at m1
  rw [match_one_part fpq fst (app d0 d1) (app d2 d3), List.map_append, List.map_append]
  have g : ∀ {a b : List Int}, Fine a → ¬ (strOfNums a).toList = ([42, 46, 42] : List UInt8) → partB (a.map fold1) b = true → glob (a.map fold1) b = true := by
    intro a b fa na h
    have e : ¬ a.map fold1 = [42, 46, 42] := fun e => na (by rw [fold_three fa e, Lib.strOfNums_toList]; decide)
    unfold partB at h
    rwa [decide_eq_false e, Bool.false_or] at h
  unfold partB
  rw [glob_join _ _ _ _ (g f0 n0 m0) (g f1 n1 m1), Bool.or_true]
theorem WildJoins (w : World) (A0 : Option Addr) (c0 : Nat) (l0 : List Int) (A1 : Option Addr) (c1 : Nat) (l1 : List Int) (A2 : Option Addr) (c2 : Nat) (l2 : List Int) (A3 : Option Addr) (c3 : Nat) (l3 : List Int)
    (h0 : Kd.C (Kd.int .u8) w A0 l0.length l0) (k0 : l0.length ≤ c0) (h1 : Kd.C (Kd.int .u8) w A1 l1.length l1) (k1 : l1.length ≤ c1) (h2 : Kd.C (Kd.int .u8) w A2 l2.length l2) (k2 : l2.length ≤ c2) (h3 : Kd.C (Kd.int .u8) w A3 l3.length l3) (k3 : l3.length ≤ c3)
    (w0 : ∀ x ∈ l0, (Lit.int .u8 x).wf = true) (w1 : ∀ x ∈ l1, (Lit.int .u8 x).wf = true) (w2 : ∀ x ∈ l2, (Lit.int .u8 x).wf = true) (w3 : ∀ x ∈ l3, (Lit.int .u8 x).wf = true) :
    Calls Tryd.prog 5 #[.slice A0 l0.length c0, .slice A1 l1.length c1, .slice A2 l2.length c2, .slice A3 l3.length c3] w (TPost w) := by
  have f0 := fine_take 20 (by omega) w0
  have f1 := fine_take 20 (by omega) w1
  have f2 := fine_take 40 (by omega) w2
  have f3 := fine_take 40 (by omega) w3
  have n : ∀ (l : List Int) (m : Nat), (l.take m).length ≤ m := fun l m => by rw [List.length_take]; omega
  have n0 := n l0 20
  have n1 := n l1 20
  have n2 := n l2 40
  have n3 := n l3 40
  have hsm : (l0.take 20).length + (l1.take 20).length < 1000000 ∧ (l2.take 40).length + (l3.take 40).length < 1000000 := by omega
  exact joins_calls A0 c0 l0 A1 c1 l1 A2 c2 l2 A3 c3 l3 w h0 k0 h1 k1 h2 k2 h3 k3 _ _ _ _ (cut_nat l0 20) (cut_nat l1 20) (cut_nat l2 40) (cut_nat l3 40) f0 f1 f2 f3 hsm (join_match f0 f1 f2 f3 hsm)
    (few_four _ _ _ _ f0 f1 f2 f3 (by omega) (by omega) (by omega) (by omega))
end Go.Proofs.YtegfcemedkajkaaDoor.Pure
