/- Package wild, of what the printed functions compute: plain words for all its laws. -/
import Derived.Test.YtegfcemedkajkaaDoorWCx4
import Derived.OpenShut
namespace Go.Proofs.YtegfcemedkajkaaDoor.Pure
open Go.RowKit Go.Proofs.YtegfcemedkajkaaDoor.WC Go.Proofs.YtegfcemedkajkaaDoor.Wd Go.Proofs.YtegfcemedkajkaaDoorW.PrintWords Go.Proofs.YtegfcemedkajkaaDoorW.PrintLast Go.Proofs.YtegfcemedkajkaaDoorW.PrintMore
set_option linter.unusedVariables false
theorem byte_wf {x : Int} (h : (Lit.int .u8 x).wf = true) : 0 ≤ x ∧ x ≤ 255 := bounds_u8 h
theorem fine_take {l : List Int} (n : Nat) (hn : n < 1000000) (hw : ∀ x ∈ l, (Lit.int .u8 x).wf = true) : Fine (l.take n) :=
  ⟨by rw [List.length_take]; omega, fun x hx => byte_wf (hw x (List.mem_of_mem_take hx))⟩
theorem fold_nat : ∀ n : Nat, n < 256 → (0 ≤ fold1 n ∧ fold1 n ≤ 255) ∧ fold1 (fold1 n) = fold1 n ∧ (fold1 n = 47 → (n : Int) = 47 ∨ (n : Int) = 92) ∧ (fold1 n = 42 → (n : Int) = 42) ∧ (fold1 n = 63 → (n : Int) = 63) := by decide +kernel
theorem fold_all {a : Int} (h : 0 ≤ a ∧ a ≤ 255) : (0 ≤ fold1 a ∧ fold1 a ≤ 255) ∧ fold1 (fold1 a) = fold1 a ∧ (fold1 a = 47 → a = 47 ∨ a = 92) ∧ (fold1 a = 42 → a = 42) ∧ (fold1 a = 63 → a = 63) := by
  obtain ⟨n, rfl⟩ := Int.eq_ofNat_of_zero_le h.1
  exact fold_nat n (by omega)
theorem fine_fold {l : List Int} (h : Fine l) : Fine (l.map fold1) := by
  refine ⟨by rw [List.length_map]; exact h.1, fun x hx => ?_⟩
  obtain ⟨y, hy, rfl⟩ := List.mem_map.1 hx
  exact (fold_all (h.2 y hy)).1
theorem fold_fold {l : List Int} (h : Fine l) : (l.map fold1).map fold1 = l.map fold1 := by
  rw [List.map_map]
  exact List.map_congr_left fun x hx => (fold_all (h.2 x hx)).2.1
theorem parts_fold {l : List Int} (h : Fine l) : partsL (l.map fold1) = partsL l := by unfold partsL; rw [fold_fold h]
theorem match_eq {a b : List Int} (ha : Fine a) (hb : Fine b) : wild_Match.f a b = some (matchB a b) := if_pos ⟨fineB_of ha, fineB_of hb⟩
theorem rmatch_eq {a b : List Int} (ha : Fine a) (hb : Fine b) : duffelref29_Match.f a b = some (matchB a b) := if_pos ⟨fineB_of ha, fineB_of hb⟩
theorem rall_eq {a : List Int} (ha : Fine a) : duffelref29_All.f a = some (a.map fold1) := if_pos (fineB_of ha)
theorem foldall_eq {a : List Int} (ha : Fine a) : wild_FoldAll.f a = some (a.map fold1) := if_pos (fineB_of ha)
theorem rparts_eq {a : List Int} (ha : Fine a) : duffelref29_Parts.f a = some (partsL a) := if_pos (fineB_of ha)
theorem copy_eq {a : List Int} (ha : Fine a) : duffelref01_Copy.f a = some a := (if_pos (by have := ha.1; simp; omega)).trans (by simp)
theorem equal_eq {a b : List Int} (ha : Fine a) (hb : Fine b) : bytes_Equal.f a b = some (decide (a = b)) := by
  unfold bytes_Equal.f
  rw [Lib.strOfNums_toList, Lib.strOfNums_toList]
  congr 1
  rw [Bool.eq_iff_iff, beq_iff_eq, decide_eq_true_iff]
  exact ⟨fun h => bytesOf_inj a b (fun x hx => by have := ha.2 x hx; omega) (fun x hx => by have := hb.2 x hx; omega) h, fun h => by rw [h]⟩
theorem wsame_eq {a b : List Int} (ha : Fine a) (hb : Fine b) : wild_Same.f a b = some (decide (a.map fold1 = b.map fold1)) := by
  unfold wild_Same.f
  rw [foldall_eq ha, Option.bind_some, foldall_eq hb, Option.bind_some, equal_eq (fine_fold ha) (fine_fold hb), Option.bind_some]
theorem same_l0 (a b : List Int) (hl : a.length = b.length) (hn : a.length < 1000000) : ∀ (n i : Nat), a.length - i = n → i ≤ a.length → a.take i = b.take i → Ev (fun K => duffelref01_Same.l0 K a b (i : Int)) (decide (a = b))
  | 0, i, h, hi, ht => by
    have e : i = a.length := by omega
    subst e
    rw [List.take_length, hl, List.take_length] at ht
    rw [decide_eq_true ht]
    refine Ev.step (f := fun _ => some true) (fun K => ?_) (Ev.now _)
    show duffelref01_Same.l0 (K + 1) a b _ = _
    rw [duffelref01_Same.l0]
    rw [if_neg (by omega)]
  | n + 1, i, h, hi, ht => by
    have c : i < a.length := by omega
    by_cases e : a.getD i 0 = b.getD i 0
    · have ih := same_l0 a b hl hn n (i + 1) (by omega) (by omega) (by
        rw [List.take_add_one, List.take_add_one, ht, List.getElem?_eq_getElem c, List.getElem?_eq_getElem (by omega)]
        rw [List.getD_eq_getElem?_getD, List.getD_eq_getElem?_getD, List.getElem?_eq_getElem c, List.getElem?_eq_getElem (by omega)] at e
        simp at e; rw [e])
      refine Ev.step (fun K => ?_) ih
      show duffelref01_Same.l0 (K + 1) a b _ = _
      rw [duffelref01_Same.l0]
      rw [if_pos (by omega), if_pos (by omega), if_pos (by omega), rd_nat, rd_nat, if_pos e, w_inc i (by omega)]
    · rw [decide_eq_false (fun h => e (by rw [h]))]
      refine Ev.step (f := fun _ => some false) (fun K => ?_) (Ev.now _)
      show duffelref01_Same.l0 (K + 1) a b _ = _
      rw [duffelref01_Same.l0]
      rw [if_pos (by omega), if_pos (by omega), if_pos (by omega), rd_nat, rd_nat, if_neg e]
theorem same_ev (a b : List Int) (hn : a.length < 1000000) : Ev (fun K => duffelref01_Same.f K a b) (decide (a = b)) := by
  by_cases h : a.length = b.length
  · exact Ev.congr (fun K => by unfold duffelref01_Same.f; exact if_pos (by omega)) (same_l0 a b h hn a.length 0 (by omega) (by omega) rfl)
  · rw [decide_eq_false (fun e => h (by rw [e]))]
    exact Ev.congr (fun K => by unfold duffelref01_Same.f; exact if_neg (by omega)) (Ev.now false)
theorem same_at (a b : List Int) (hn : a.length < 1000000) : ∃ k, ∀ K, k ≤ K → duffelref01_Same.f K a b = some (decide (a = b)) := same_ev a b hn
theorem cut_nat (l : List Int) (n : Nat) : MyCut.cut_u8.f l (n : Int) = some (l.take n) := MyCut.cut_u8.nat l n
theorem lives_eq : ((duffellaw29_lives.f).bind fun t => (some t)) = some true := rfl
/-- a pattern of one part matches the last part -/
theorem match_last {p s : List Int} {F : List Int} (h : partsL p = [F]) : matchB p s = partB F ((partsL s).getD ((partsL s).length - 1) []) := by
  unfold matchB
  rw [h]
  exact if_pos rfl
theorem splitL_none : ∀ l : List Int, 47 ∉ l → splitL l = [l]
  | [], _ => rfl
  | x :: l, h => by
    have h1 : ¬ x = 47 := fun e => h (by rw [e]; simp)
    rw [splitL, if_neg h1, splitL_none l (fun hh => h (by simp [hh]))]
theorem cutEnd_none (F : List Int) (h : 47 ∉ F) : cutEnd F = F := by
  unfold cutEnd
  refine if_neg fun hh => h ?_
  rw [← hh.2]
  exact (by rw [List.getD_eq_getElem?_getD, List.getElem?_eq_getElem (by omega)]; exact List.getElem_mem _)
theorem parts_none {p : List Int} (hf : Fine p) (h : ∀ x ∈ p, x ≠ 47 ∧ x ≠ 92) : partsL p = [p.map fold1] := by
  have h47 : 47 ∉ p.map fold1 := by
    intro hm
    obtain ⟨y, hy, e⟩ := List.mem_map.1 hm
    rcases (fold_all (hf.2 y hy)).2.2.1 e with e | e
    · exact (h y hy).1 e
    · exact (h y hy).2 e
  unfold partsL
  rw [cutEnd_none _ h47, splitL_none _ h47]
theorem glob_plain : ∀ (F t : List Int), (∀ x ∈ F, x ≠ 42 ∧ x ≠ 63) → glob F t = decide (F = t)
  | [], [], _ => rfl
  | [], d :: t, _ => rfl
  | c :: F, [], h => by rw [glob_lit0 c F (h c (by simp)).1]; rfl
  | c :: F, d :: t, h => by
    rw [glob_lit1 c F (h c (by simp)).1, glob_plain F t (fun x hx => h x (by simp [hx])), decide_eq_false (h c (by simp)).2, Bool.false_or, Bool.eq_iff_iff, Bool.and_eq_true]
    simp
theorem part_plain {F t : List Int} (h : ∀ x ∈ F, x ≠ 42 ∧ x ≠ 63) : partB F t = decide (F = t) := by
  have e : ¬ F = [42, 46, 42] := fun e => (h 42 (by rw [e]; simp)).1 rfl
  unfold partB
  rw [decide_eq_false e, Bool.false_or, glob_plain F t h]
theorem glob_one (t : List Int) : glob [42] t = true := by
  rw [glob_star]
  exact (starOf_iff _ _).2 ⟨t, [], by simp, rfl⟩
end Go.Proofs.YtegfcemedkajkaaDoor.Pure
