/- WildChooses, of what the printed functions compute: which names any patterns pick. -/
import Derived.Test.YtegfcemedkajkaaDoorPureWild0
namespace Go.Proofs.YtegfcemedkajkaaDoor.Pure
open Go.RowKit Go.Proofs.YtegfcemedkajkaaDoor.WC Go.Proofs.YtegfcemedkajkaaDoor.Wd Go.Proofs.YtegfcemedkajkaaDoorW.PrintWords Go.Proofs.YtegfcemedkajkaaDoorW.PrintLast Go.Proofs.YtegfcemedkajkaaDoorW.PrintMore
set_option linter.unusedVariables false
theorem rdl_nat (X : List (List Int)) (i : Nat) : rd_L1 X (i : Int) = X.getD i [] := by unfold rd_L1; rw [Int.toNat_natCast]
theorem take_fine (l : List Int) (n : Nat) (hn : n < 1000000) (h : ∀ x ∈ l, (Lit.int .u8 x).wf = true) : Fine (l.take n) := fine_take n hn h
def few (X : List (List Int)) : List (List Int) := (X.take 5).map fun l => l.take 30
theorem few_go (X : List (List Int)) (hw : ∀ r ∈ X, ∀ x ∈ r, (Lit.int .u8 x).wf = true) : ∀ (n i : Nat), 5 - i = n → i ≤ 5 → i ≤ X.length → Ev (fun K => duffelref29_Few.l0 K X 5 30 ((X.take i).map fun l => l.take 30) (i : Int)) (few X)
  | 0, i, h, hi, hl => by
    have e : i = 5 := by omega
    subst e
    have h2 : Ev (fun K => duffelref29_Few.j1 K X 5 30 ((X.take 5).map fun l => l.take 30) ((5 : Nat) : Int) false) (few X) := by
      refine Ev.step (f := fun _ => some (few X)) (fun K => ?_) (Ev.now _)
      show duffelref29_Few.j1 (K + 1) X 5 30 _ _ false = _
      rw [duffelref29_Few.j1]
      exact if_neg (by decide)
    refine Ev.step (fun K => ?_) h2
    show duffelref29_Few.l0 (K + 1) X 5 30 _ _ = _
    rw [duffelref29_Few.l0]
    by_cases c : ((5 : Nat) : Int) < (X.length : Int)
    · rw [if_pos c]; rfl
    · rw [if_neg c]
  | n + 1, i, h, hi, hl => by
    by_cases c : i < X.length
    · have ih := few_go X hw n (i + 1) (by omega) (by omega) (by omega)
      have hm := mem_getD c
      have hf := take_fine (X.getD i []) 30 (by omega) (hw _ hm)
      have hlen : ((X.take i).map fun l => l.take 30).length < 5864062014805 := by rw [List.length_map, List.length_take]; omega
      have e2 : ((X.take i).map fun l => l.take 30) ++ [(X.getD i []).take 30] = (X.take (i + 1)).map fun l => l.take 30 := by
        rw [List.take_add_one (l := X) (i := i), List.getElem?_eq_getElem c, List.map_append, List.getD_eq_getElem?_getD, List.getElem?_eq_getElem c]; rfl
      have h2 : Ev (fun K => duffelref29_Few.j1 K X 5 30 ((X.take i).map fun l => l.take 30) (i : Int) true) (few X) := by
        refine Ev.step (fun K => ?_) ih
        show duffelref29_Few.j1 (K + 1) X 5 30 _ _ true = _
        rw [duffelref29_Few.j1]
        rw [if_pos rfl, if_pos (by omega), if_pos (by omega), rdl_nat, show MyCut.cut_u8.f (X.getD i []) 30 = some ((X.getD i []).take 30) from cut_nat _ 30, Option.bind_some, copy_eq hf, Option.bind_some, if_pos hlen, e2, w_inc i (by omega)]
      refine Ev.step (fun K => ?_) h2
      show duffelref29_Few.l0 (K + 1) X 5 30 _ _ = _
      rw [duffelref29_Few.l0]
      rw [if_pos (by omega), decide_eq_true (by omega)]
    · have e : X.take 5 = X.take i := by rw [List.take_of_length_le (by omega), List.take_of_length_le (by omega)]
      have h2 : Ev (fun K => duffelref29_Few.j1 K X 5 30 ((X.take i).map fun l => l.take 30) (i : Int) false) (few X) := by
        refine Ev.step (f := fun _ => some (few X)) (fun K => ?_) (Ev.now _)
        show duffelref29_Few.j1 (K + 1) X 5 30 _ _ false = _
        rw [duffelref29_Few.j1]
        unfold few
        rw [e]
        exact if_neg (by decide)
      refine Ev.step (fun K => ?_) h2
      show duffelref29_Few.l0 (K + 1) X 5 30 _ _ = _
      rw [duffelref29_Few.l0]
      rw [if_neg (by omega)]
theorem few_ev (X : List (List Int)) (hw : ∀ r ∈ X, ∀ x ∈ r, (Lit.int .u8 x).wf = true) : Ev (fun K => duffelref29_Few.f K X 5 30) (few X) := by
  have h := few_go X hw 5 0 rfl (by omega) (by omega)
  exact h
theorem few_fine {X : List (List Int)} (hw : ∀ r ∈ X, ∀ x ∈ r, (Lit.int .u8 x).wf = true) : (few X).length < 1000000 ∧ ∀ p ∈ few X, Fine p := by
  constructor
  · unfold few; rw [List.length_map, List.length_take]; omega
  · intro p hp
    obtain ⟨r, hr, rfl⟩ := List.mem_map.1 hp
    exact take_fine r 30 (by omega) (hw r (List.mem_of_mem_take hr))
theorem any_cons (X : List (List Int)) (s : List Int) (i : Nat) (c : i < X.length) : Wd.anyB (X.drop i) s = (matchB (X.getD i []) s || Wd.anyB (X.drop (i + 1)) s) := by
  unfold Wd.anyB
  rw [List.drop_eq_getElem_cons c, List.getD_eq_getElem?_getD, List.getElem?_eq_getElem c]; rfl
theorem choose_l1 (Y : List (List Int)) (s : List Int) (hl : Y.length < 1000000) (fY : ∀ p ∈ Y, Fine p) (fs : Fine s) : ∀ (n i : Nat) (b : Bool), Y.length - i = n → i ≤ Y.length → Ev (fun K => duffelref29_Choose.l1 K Y s b (i : Int)) (b && !Wd.anyB (Y.drop i) s)
  | 0, i, b, h, hi => by
    have e : i = Y.length := by omega
    subst e
    rw [List.drop_length, show Wd.anyB [] s = false from rfl, Bool.not_false, Bool.and_true]
    refine Ev.step (f := fun _ => some b) (fun K => ?_) (Ev.now _)
    show duffelref29_Choose.l1 (K + 1) Y s b _ = _
    rw [duffelref29_Choose.l1]
    rw [if_neg (by omega)]
  | n + 1, i, b, h, hi => by
    have c : i < Y.length := by omega
    rw [any_cons Y s i c]
    cases b with
    | true =>
      have ih := choose_l1 Y s hl fY fs n (i + 1) (!matchB (Y.getD i []) s) (by omega) (by omega)
      rw [Bool.not_or, Bool.true_and]
      refine Ev.step (fun K => ?_) ih
      show duffelref29_Choose.l1 (K + 1) Y s true _ = _
      rw [duffelref29_Choose.l1]
      rw [if_pos (by omega), if_pos rfl, if_pos (by omega), rdl_nat, rmatch_eq (fY _ (mem_getD c)) fs, Option.bind_some, w_inc i (by omega)]
    | false =>
      have ih := choose_l1 Y s hl fY fs n (i + 1) false (by omega) (by omega)
      rw [Bool.false_and] at ih ⊢
      refine Ev.step (fun K => ?_) ih
      show duffelref29_Choose.l1 (K + 1) Y s false _ = _
      rw [duffelref29_Choose.l1]
      rw [if_pos (by omega), if_neg (by decide), w_inc i (by omega)]
theorem choose_l0 (X Y : List (List Int)) (s : List Int) (hl : X.length < 1000000) (fX : ∀ p ∈ X, Fine p) (hl2 : Y.length < 1000000) (fY : ∀ p ∈ Y, Fine p) (fs : Fine s) : ∀ (n i : Nat) (b : Bool), X.length - i = n → i ≤ X.length →
    Ev (fun K => duffelref29_Choose.l0 K X Y s b (i : Int)) ((b || Wd.anyB (X.drop i) s) && !Wd.anyB Y s)
  | 0, i, b, h, hi => by
    have e : i = X.length := by omega
    subst e
    rw [List.drop_length, show Wd.anyB [] s = false from rfl, Bool.or_false]
    have h1 := choose_l1 Y s hl2 fY fs Y.length 0 b (by omega) (by omega)
    rw [List.drop_zero] at h1
    refine Ev.step (fun K => ?_) h1
    show duffelref29_Choose.l0 (K + 1) X Y s b _ = _
    rw [duffelref29_Choose.l0]
    rw [if_neg (by omega)]; rfl
  | n + 1, i, b, h, hi => by
    have c : i < X.length := by omega
    rw [any_cons X s i c]
    cases b with
    | false =>
      have ih := choose_l0 X Y s hl fX hl2 fY fs n (i + 1) (matchB (X.getD i []) s) (by omega) (by omega)
      rw [Bool.false_or]
      refine Ev.step (fun K => ?_) ih
      show duffelref29_Choose.l0 (K + 1) X Y s false _ = _
      rw [duffelref29_Choose.l0]
      rw [if_pos (by omega), if_neg (by decide), if_pos (by omega), rdl_nat, rmatch_eq (fX _ (mem_getD c)) fs, Option.bind_some, w_inc i (by omega)]
    | true =>
      have ih := choose_l0 X Y s hl fX hl2 fY fs n (i + 1) true (by omega) (by omega)
      rw [Bool.true_or] at ih ⊢
      refine Ev.step (fun K => ?_) ih
      show duffelref29_Choose.l0 (K + 1) X Y s true _ = _
      rw [duffelref29_Choose.l0]
      rw [if_pos (by omega), if_pos rfl, w_inc i (by omega)]
theorem WildChooses (l0 l1 : List (List Int)) (l2 : List Int) (hm0 : l0.length ≤ maxLen) (hw0 : ∀ r ∈ l0, r.length ≤ maxLen ∧ ∀ x ∈ r, (Lit.int .u8 x).wf = true) (hm1 : l1.length ≤ maxLen) (hw1 : ∀ r ∈ l1, r.length ≤ maxLen ∧ ∀ x ∈ r, (Lit.int .u8 x).wf = true)
    (hm2 : l2.length ≤ maxLen) (y2 : l2.length * 1 ≤ 140737488351232) (hw2 : ∀ x ∈ l2, (Lit.int .u8 x).wf = true) : ∃ k, duffellaw29_WildChooses.f k l0 l1 l2 = some true := by
  have g0 := few_fine (fun r hr => (hw0 r hr).2)
  have g1 := few_fine (fun r hr => (hw1 r hr).2)
  have f2 := fine_take 60 (by omega) hw2
  have e0 := few_ev l0 (fun r hr => (hw0 r hr).2)
  have e1 := few_ev l1 (fun r hr => (hw1 r hr).2)
  have ec := choose_l0 (few l0) (few l1) (l2.take 60) g0.1 g0.2 g1.1 g1.2 f2 (few l0).length 0 ((((few l0).length : Nat) : Int) == 0) (by omega) (by omega)
  rw [List.drop_zero] at ec
  have ew : wild_Choose.f (few l0) (few l1) (l2.take 60) = some (chooseB (few l0) (few l1) (l2.take 60)) := if_pos ⟨⟨rowsB_of g0.1 g0.2, rowsB_of g1.1 g1.2⟩, fineB_of f2⟩
  have eb : ((((((few l0).length : Nat) : Int) == 0) || Wd.anyB (few l0) (l2.take 60)) && !Wd.anyB (few l1) (l2.take 60)) = chooseB (few l0) (few l1) (l2.take 60) := by
    unfold chooseB
    congr 2
    rw [Bool.eq_iff_iff, beq_iff_eq, decide_eq_true_iff]; omega
  rw [eb] at ec
  have ht : Ev (fun K => (duffelref29_Choose.f K (few l0) (few l1) (l2.take 60)).bind fun t227 => (if (chooseB (few l0) (few l1) (l2.take 60) == t227) = true then ((duffellaw29_lives.f).bind fun t228 => (some t228)) else (some false))) true :=
    Ev.bind ec (Ev.congr (fun K => (if_pos (by simp)).trans lives_eq) (Ev.now true))
  have hall : Ev (fun K => duffellaw29_WildChooses.f K l0 l1 l2) true := by
    refine Ev.congr (fun K => by unfold duffellaw29_WildChooses.f; rfl) (Ev.bind e0 (Ev.bind e1 ?_))
    refine Ev.congr (fun K => ?_) ht
    rw [show MyCut.cut_u8.f l2 60 = some (l2.take 60) from cut_nat l2 60, Option.bind_some, ew, Option.bind_some]
  exact hall.rounds
end Go.Proofs.YtegfcemedkajkaaDoor.Pure
