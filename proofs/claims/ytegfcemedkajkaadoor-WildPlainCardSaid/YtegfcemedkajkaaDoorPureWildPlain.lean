/- WildPlain, of what the printed functions compute: a star matches each name, a plain pattern the same. -/
import Derived.Test.YtegfcemedkajkaaDoorPureWild0
import Derived.Test.YtegfcemedkajkaaDoorWCx2
namespace Go.Proofs.YtegfcemedkajkaaDoor.Pure
open Go.RowKit Go.Proofs.YtegfcemedkajkaaDoor.WC Go.Proofs.YtegfcemedkajkaaDoor.Wd Go.Proofs.YtegfcemedkajkaaDoorW.PrintWords Go.Proofs.YtegfcemedkajkaaDoorW.PrintLast Go.Proofs.YtegfcemedkajkaaDoorW.PrintMore
theorem plain_end (p s : List Int) (f0 : Fine p) (f1 : Fine s) (hp : ∀ x ∈ p, x ≠ 42 ∧ x ≠ 63 ∧ x ≠ 47 ∧ x ≠ 92) :
    Ev (fun K => (duffelref29_Parts.f s).bind fun t133 => ((wild_Match.f p s).bind fun t136 => ((duffelref29_All.f p).bind fun t137 => (if 0 ≤ (wrap64 ((t133.length : Int) - 1)) then (if (wrap64 ((t133.length : Int) - 1)) < (t133.length : Int) then ((duffelref01_Same.f K t137 (rd_L1 t133 (wrap64 ((t133.length : Int) - 1)))).bind fun t141 => (if (t136 == t141) = true then ((duffellaw29_lives.f).bind fun t142 => (some t142)) else (some false))) else (none)) else (none))))) true := by
  obtain ⟨m, hm⟩ := parts_pos s
  have hg := (good_parts s f1.1 f1.2).1
  have hF : ∀ x ∈ p.map fold1, x ≠ 42 ∧ x ≠ 63 := by
    intro x hx
    obtain ⟨y, hy, rfl⟩ := List.mem_map.1 hx
    have h := fold_all (f0.2 y hy)
    exact ⟨fun e => (hp y hy).1 (h.2.2.2.1 e), fun e => (hp y hy).2.1 (h.2.2.2.2 e)⟩
  have e1 : wrap64 (((partsL s).length : Int) - 1) = (m : Int) := by rw [hm]; unfold wrap64; omega
  have er : rd_L1 (partsL s) (m : Int) = (partsL s).getD m [] := by unfold rd_L1; rw [Int.toNat_natCast]
  have em : matchB p s = decide (p.map fold1 = (partsL s).getD m []) := by
    rw [match_last (parts_none f0 (fun x hx => (hp x hx).2.2)), hm, Nat.add_sub_cancel, part_plain hF]
  obtain ⟨k, hk⟩ := same_at (p.map fold1) ((partsL s).getD m []) (fine_fold f0).1
  refine ⟨k, fun K hK => ?_⟩
  show (duffelref29_Parts.f s).bind _ = _
  rw [rparts_eq f1, Option.bind_some, match_eq f0 f1, Option.bind_some, rall_eq f0, Option.bind_some, e1]
  refine (if_pos (by omega)).trans ((if_pos (by omega)).trans ?_)
  rw [er, hk K hK, Option.bind_some, em]
  exact (if_pos (by simp)).trans lives_eq
theorem plain_l0 (p s : List Int) (f0 : Fine p) (f1 : Fine s) : ∀ (n i : Nat), p.length - i = n → i ≤ p.length → (∀ j, j < i → p.getD j 0 ≠ 42 ∧ p.getD j 0 ≠ 63 ∧ p.getD j 0 ≠ 47 ∧ p.getD j 0 ≠ 92) → Ev (fun K => duffellaw29_WildPlain.l0 K p s (i : Int)) true
  | 0, i, h, hi, ha => by
    have e : i = p.length := by omega
    subst e
    refine Ev.step (fun K => ?_) (plain_end p s f0 f1 (fun x hx => ?_))
    · show duffellaw29_WildPlain.l0 (K + 1) p s _ = _
      rw [duffellaw29_WildPlain.l0]
      rw [if_neg (by omega)]
    · obtain ⟨i, hi, rfl⟩ := List.mem_iff_getElem.1 hx
      have := ha i hi
      rwa [List.getD_eq_getElem?_getD, List.getElem?_eq_getElem hi] at this
  | n + 1, i, h, hi, ha => by
    have c : i < p.length := by omega
    have hl := f0.1
    by_cases hs : p.getD i 0 ≠ 42 ∧ p.getD i 0 ≠ 63 ∧ p.getD i 0 ≠ 47 ∧ p.getD i 0 ≠ 92
    · refine Ev.step (fun K => ?_) (plain_l0 p s f0 f1 n (i + 1) (by omega) (by omega) (fun j hj => ?_))
      · show duffellaw29_WildPlain.l0 (K + 1) p s _ = _
        rw [duffellaw29_WildPlain.l0]
        rw [if_pos (by omega), if_pos (by omega), rd_nat, if_neg hs.1, if_neg hs.2.1, if_neg hs.2.2.1, if_neg hs.2.2.2, w_inc i (by omega)]
      · by_cases e : j = i
        · subst e; exact hs
        · exact ha j (by omega)
    · refine Ev.step (f := fun _ => some true) (fun K => ?_) (Ev.now _)
      show duffellaw29_WildPlain.l0 (K + 1) p s _ = _
      rw [duffellaw29_WildPlain.l0]
      rw [if_pos (by omega), if_pos (by omega), rd_nat]
      by_cases e1 : p.getD i 0 = 42
      · rw [if_pos e1]; rfl
      · rw [if_neg e1]
        by_cases e2 : p.getD i 0 = 63
        · rw [if_pos e2]; rfl
        · rw [if_neg e2]
          by_cases e3 : p.getD i 0 = 47
          · rw [if_pos e3]; rfl
          · rw [if_neg e3]
            by_cases e4 : p.getD i 0 = 92
            · rw [if_pos e4]; rfl
            · exact absurd ⟨e1, e2, e3, e4⟩ hs
theorem one_star : partsL [42] = [[42]] := by decide +kernel
theorem star_dot : partsL [42, 46, 42] = [[42, 46, 42]] := by decide +kernel
theorem WildPlain : duffellaw29_WildPlain.Pure := by
  intro l0 l1 _ _ hw0 _ _ hw1
  have f0 := fine_take 40 (by omega) hw0
  have f1 := fine_take 80 (by omega) hw1
  have g0 : Fine [42] := ⟨by decide, by decide⟩
  have g1 : Fine [42, 46, 42] := ⟨by decide, by decide⟩
  obtain ⟨k, hk⟩ := plain_l0 (l0.take 40) (l1.take 80) f0 f1 _ 0 rfl (by omega) (fun j hj => by omega)
  refine ⟨k + 1, ?_⟩
  unfold duffellaw29_WildPlain.f
  rw [show MyCut.cut_u8.f l0 40 = some (l0.take 40) from cut_nat l0 40, Option.bind_some, show MyCut.cut_u8.f l1 80 = some (l1.take 80) from cut_nat l1 80, Option.bind_some]
  generalize l0.take 40 = p at *
  generalize l1.take 80 = s at *
  have m0 : matchB [42] s = true := by rw [match_last one_star]; unfold partB; rw [glob_one, Bool.or_true]
  have m1 : matchB [42, 46, 42] s = true := by rw [match_last star_dot]; unfold partB; rw [decide_eq_true rfl, Bool.true_or]
  rw [match_eq g0 f1, Option.bind_some, m0, if_pos rfl, match_eq g1 f1, Option.bind_some, m1]
  rw [duffellaw29_WildPlain.j0]
  exact (if_neg (by decide)).trans (hk k (Nat.le_refl _))
end Go.Proofs.YtegfcemedkajkaaDoor.Pure
