/- The reference's Parts and part, of what the printed loops compute: the same plain law. -/
import Derived.Test.YtegfcemedkajkaaDoorWBx6
import Derived.Test.YtegfcemedkajkaaDoorWildMatch0
namespace Go.Proofs.YtegfcemedkajkaaDoor.Wd
open Go.RowKit Go.Proofs.YtegfcemedkajkaaDoorW.PrintWords Go.Proofs.YtegfcemedkajkaaDoorW.PrintLast Go.Proofs.YtegfcemedkajkaaDoorW.PrintMore
set_option linter.unusedVariables false
set_option linter.unusedSimpArgs false
theorem rfold_nat : ∀ n : Nat, n < 256 → WB.duffelref29_Fold.f 12 (n : Int) = some (fold1 n) := by decide +kernel
theorem rfold_ev (a : Int) (h0 : 0 ≤ a) (h1 : a ≤ 255) : Ev (fun K => WB.duffelref29_Fold.f K a) (fold1 a) := by
  obtain ⟨n, rfl⟩ := Int.eq_ofNat_of_zero_le h0
  exact Ev.of (WB.duffelref29_Fold.mono _) (rfold_nat n (by omega))
theorem all_ev (L : List Int) (hl : L.length < 1000000) (hr : ∀ x ∈ L, 0 ≤ x ∧ x ≤ 255) : ∀ (n i : Nat), L.length - i = n → i ≤ L.length → Ev (fun K => WB.duffelref29_All.l0 K L ((L.take i).map fold1) (i : Int)) (L.map fold1)
  | 0, i, h, hi => by
    have e : i = L.length := by omega
    refine Ev.step (f := fun _ => some (L.map fold1)) (fun K => ?_) (Ev.now _)
    show WB.duffelref29_All.l0 (K + 1) L _ _ = _
    rw [WB.duffelref29_All.l0]
    rw [if_neg (by omega), e, List.take_length]
  | n + 1, i, h, hi => by
    have c : i < L.length := by omega
    have hm : L.getD i 0 ∈ L := by rw [List.getD_eq_getElem?_getD, List.getElem?_eq_getElem c]; exact List.getElem_mem c
    have hb := hr _ hm
    have ih := all_ev L hl hr n (i + 1) (by omega) (by omega)
    refine Ev.step (f := fun K => (WB.duffelref29_Fold.f K (L.getD i 0)).bind fun t => WB.duffelref29_All.l0 K L ((L.take i).map fold1 ++ [t]) ((i + 1 : Nat) : Int)) (fun K => ?_) (Ev.bind (rfold_ev _ hb.1 hb.2) (Ev.congr (fun K => ?_) ih))
    · show WB.duffelref29_All.l0 (K + 1) L _ _ = _
      have hlen : ((L.take i).map fold1).length < 140737488355328 := by rw [List.length_map, List.length_take]; omega
      rw [WB.duffelref29_All.l0]
      rw [if_pos (by omega), if_pos (by omega), rd_nat, w_inc i (by omega)]
      congr 1
      funext t
      rw [if_pos hlen]
    · rw [List.take_add_one, List.getElem?_eq_getElem c, List.map_append, List.getD_eq_getElem?_getD, List.getElem?_eq_getElem c]; rfl
theorem all_ev0 (L : List Int) (hl : L.length < 1000000) (hr : ∀ x ∈ L, 0 ≤ x ∧ x ≤ 255) : Ev (fun K => WB.duffelref29_All.f K L) (L.map fold1) :=
  all_ev L hl hr L.length 0 (by omega) (by omega)
/-- what is open, ahead of the next parts -/
def glue (now : List Int) : List (List Int) → List (List Int)
  | [] => [now]
  | q :: qs => (now ++ q) :: qs
theorem glue_nil (l : List Int) : glue [] (splitL l) = splitL l := by
  cases h : splitL l with
  | nil => exact absurd h (splitL_ne l)
  | cons q qs => rfl
theorem pparts_ev (F : List Int) (hl : F.length < 1000000) : ∀ (n i : Nat) (out : List (List Int)) (now : List Int), F.length - i = n → i ≤ F.length → out.length ≤ i → now.length ≤ i →
    Ev (fun K => WB.duffelref29_Parts.l0 K F out now (i : Int)) (out ++ glue now (splitL (F.drop i)))
  | 0, i, out, now, h, hi, ho, hn => by
    have e : i = F.length := by omega
    refine Ev.step (f := fun _ => some (out ++ glue now (splitL (F.drop i)))) (fun K => ?_) (Ev.now _)
    show WB.duffelref29_Parts.l0 (K + 1) F _ _ _ = _
    rw [WB.duffelref29_Parts.l0]
    rw [if_neg (by omega), if_pos (by omega), e, List.drop_length]
    simp [splitL, glue]
  | n + 1, i, out, now, h, hi, ho, hn => by
    have c : i < F.length := by omega
    have ed := drop_get F i c
    by_cases e : F.getD i 0 = 47
    · have ih := pparts_ev F hl n (i + 1) (out ++ [now]) [] (by omega) (by omega) (by simp; omega) (by simp)
      have ea : out ++ glue now (splitL (F.drop i)) = (out ++ [now]) ++ glue [] (splitL (F.drop (i + 1))) := by
        rw [ed, e, glue_nil]
        simp [splitL, glue]
      rw [ea]
      refine Ev.step (fun K => ?_) ih
      show WB.duffelref29_Parts.l0 (K + 1) F _ _ _ = _
      rw [WB.duffelref29_Parts.l0]
      rw [if_pos (by omega), if_pos (by omega), rd_nat, if_pos e, if_pos (by omega), w_inc i (by omega)]
    · have ih := pparts_ev F hl n (i + 1) out (now ++ [F.getD i 0]) (by omega) (by omega) (by omega) (by simp; omega)
      have ea : out ++ glue now (splitL (F.drop i)) = out ++ glue (now ++ [F.getD i 0]) (splitL (F.drop (i + 1))) := by
        rw [ed]
        congr 1
        conv => lhs; unfold splitL
        rw [if_neg e]
        cases hs : splitL (F.drop (i + 1)) with
        | nil => exact absurd hs (splitL_ne _)
        | cons q qs => simp [glue]
      rw [ea]
      refine Ev.step (fun K => ?_) ih
      show WB.duffelref29_Parts.l0 (K + 1) F _ _ _ = _
      rw [WB.duffelref29_Parts.l0]
      rw [if_pos (by omega), if_pos (by omega), rd_nat, if_neg e, if_pos (by omega), w_inc i (by omega)]
theorem parts_ev (L : List Int) (hl : L.length < 1000000) (hr : ∀ x ∈ L, 0 ≤ x ∧ x ≤ 255) : Ev (fun K => WB.duffelref29_Parts.f K L) (partsL L) := by
  have hF : (L.map fold1).length < 1000000 := by rw [List.length_map]; exact hl
  refine Ev.congr (fun K => by unfold WB.duffelref29_Parts.f; rfl) (Ev.bind (all_ev0 L hl hr) ?_)
  unfold partsL
  generalize L.map fold1 = F at *
  have key : ∀ G : List Int, G.length < 1000000 → Ev (fun K => WB.duffelref29_Parts.j1 K G) (splitL G) := by
    intro G hG
    have := pparts_ev G hG G.length 0 [] [] (by omega) (by omega) (by simp) (by simp)
    rw [List.nil_append, List.drop_zero, glue_nil] at this
    exact Ev.step (fun K => by show WB.duffelref29_Parts.j1 (K + 1) G = _; rw [WB.duffelref29_Parts.j1]; rfl) this
  unfold cutEnd
  by_cases h : 0 < F.length
  · have e1 : wrap64 ((F.length : Int) - 1) = ((F.length - 1 : Nat) : Int) := by unfold wrap64; omega
    by_cases e : F.getD (F.length - 1) 0 = 47
    · rw [if_pos ⟨h, e⟩]
      refine Ev.congr (f := fun K => WB.duffelref29_Parts.j0 K F true) (fun K => ?_) (Ev.step (f := fun K => WB.duffelref29_Parts.j1 K (F.take (F.length - 1))) (fun K => ?_) (key _ (by rw [List.length_take]; omega)))
      · show (if (F.length : Int) > 0 then _ else _) = _
        rw [if_pos (by omega), e1, if_pos (by omega), if_pos (by omega), rd_nat, e]; rfl
      · show WB.duffelref29_Parts.j0 (K + 1) F true = _
        rw [WB.duffelref29_Parts.j0]
        rw [if_pos rfl, e1, if_pos (by omega), if_pos (by omega), Int.toNat_natCast]
    · rw [if_neg (fun hh => e hh.2)]
      refine Ev.congr (f := fun K => WB.duffelref29_Parts.j0 K F false) (fun K => ?_) (Ev.step (f := fun K => WB.duffelref29_Parts.j1 K F) (fun K => ?_) (key _ hF))
      · show (if (F.length : Int) > 0 then _ else _) = _
        rw [if_pos (by omega), e1, if_pos (by omega), if_pos (by omega), rd_nat, beq_eq_false_iff_ne.mpr e]
      · show WB.duffelref29_Parts.j0 (K + 1) F false = _
        rw [WB.duffelref29_Parts.j0]
        rw [if_neg (by decide)]
  · rw [if_neg (fun hh => h hh.1)]
    refine Ev.congr (f := fun K => WB.duffelref29_Parts.j0 K F false) (fun K => ?_) (Ev.step (f := fun K => WB.duffelref29_Parts.j1 K F) (fun K => ?_) (key _ hF))
    · show (if (F.length : Int) > 0 then _ else _) = _
      rw [if_neg (by omega)]
    · show WB.duffelref29_Parts.j0 (K + 1) F false = _
      rw [WB.duffelref29_Parts.j0]
      rw [if_neg (by decide)]
end Go.Proofs.YtegfcemedkajkaaDoor.Wd
