/- DosOrders, of what the printed functions compute: of two times one is ahead, if its numbers are less, the date first; a day later has one day more over. -/
import Derived.Test.YtboliliohghncaaDOx2
import Derived.Test.YtboliliohghncaaDosDays
namespace Go.Proofs.Ytboliliohghncaa.Pure
open Go.RowKit Go.Proofs.Ytboliliohghncaa.DO Go.Proofs.Ytboliliohghncaa.Dy Go.Proofs.YtboliliohghncaaW.PrintWords Go.Proofs.YtboliliohghncaaW.PrintLast
set_option linter.unusedVariables false
theorem ws (x : Int) (h0 : -9000000000000000000 ≤ x) (h1 : x ≤ 9000000000000000000) : wrap64 x = x := by unfold wrap64; omega
theorem lives_ok : duffellaw22_lives.f = some true := by
  unfold duffellaw22_lives.f dos_Pack.f
  rw [show packZ 1980 1 1 0 0 0 = (0, 33, 0) from by decide]; rfl
theorem lives_bind : ((duffellaw22_lives.f).bind fun t => some t) = some true := by rw [lives_ok]; rfl
section
variable {y m d h mi s : Int}
theorem check_ok (ok : okStamp y m d h mi s) : dos_Check.f y m d h mi s = some 0 := by unfold dos_Check.f; rw [if_pos ok]
theorem check_no (ok : ¬ okStamp y m d h mi s) : dos_Check.f y m d h mi s = some 17 := by unfold dos_Check.f; rw [if_neg ok]
theorem days_ok (ok : okStamp y m d h mi s) : dos_Days.f y m d h mi s = some (dayN y m d) := by unfold dos_Days.f daysZ; rw [if_pos ok]
theorem j3_ok (ok : okStamp y m d h mi s) (ny nm nd : Int) (hn : (okStamp ny nm nd h mi s ∧ dayN ny nm nd = dayN y m d + 1) ∨ (y = 2107 ∧ ¬ okStamp ny nm nd h mi s)) (k : Nat) :
    duffellaw22_DosOrders.j3 (k + 1) y m d h mi s ny nm nd h mi s = some true := by
  have hb := dayN_bd ok
  have w : wrap64 (dayN y m d + 1) = dayN y m d + 1 := ws _ (by omega) (by omega)
  rw [duffellaw22_DosOrders.j3]
  rcases hn with ⟨o, e⟩ | ⟨e, o⟩
  · have tail : ((dos_Days.f ny nm nd h mi s).bind fun t128 => ((dos_Days.f y m d h mi s).bind fun t129 => (if t128 = (wrap64 (t129 + 1)) then ((duffellaw22_lives.f).bind fun t130 => (some t130)) else (some false)))) = some true := by
      rw [days_ok o, Option.bind_some, days_ok ok, Option.bind_some, w, if_pos e, lives_bind]
    by_cases c : y = 2107
    · rw [if_pos c, check_ok o, Option.bind_some, if_pos rfl]; exact tail
    · rw [if_neg c]; exact tail
  · rw [if_pos e, check_no o, Option.bind_some, if_neg (by decide), lives_bind]
theorem j2_ok (ok : okStamp y m d h mi s) (nm nd : Int) (hn : (okStamp y nm nd h mi s ∧ dayN y nm nd = dayN y m d + 1) ∨ (m = 12 ∧ d = 31 ∧ nm = 13 ∧ nd = 1)) (k : Nat) :
    duffellaw22_DosOrders.j2 (k + 2) y m d h mi s y nm nd h mi s = some true := by
  rw [duffellaw22_DosOrders.j2]
  rcases hn with ⟨o, e⟩ | ⟨rfl, rfl, rfl, rfl⟩
  · rw [check_ok o, Option.bind_some, if_pos rfl]
    exact j3_ok ok y nm nd (.inl ⟨o, e⟩) k
  · have hy : 1980 ≤ y ∧ y ≤ 2107 := ⟨ok.1, ok.2.1⟩
    have hnot : ¬ okStamp y 13 1 h mi s := fun o => by have := o.2.2.2.1; omega
    rw [check_no hnot, Option.bind_some, if_neg (by decide), ws (y + 1) (by omega) (by omega)]
    by_cases c : y = 2107
    · exact j3_ok ok (y + 1) 1 1 (.inr ⟨c, fun o => by have := o.2.1; omega⟩) k
    · have e1 : mdays (y + 1) 1 = 31 := rfl
      refine j3_ok ok (y + 1) 1 1 (.inl ⟨?_, next_year y⟩) k
      obtain ⟨a1, a2, a3, a4, a5, a6, a7⟩ := ok
      exact ⟨by omega, by omega, by omega, by omega, by omega, by omega, a7⟩
theorem j1_ok (ok : okStamp y m d h mi s) (k : Nat) : duffellaw22_DosOrders.j1 (k + 3) false y m d h mi s = some true := by
  have hm := mdays_le y m
  have hd : 1 ≤ d ∧ d ≤ mdays y m := ⟨ok.2.2.2.2.1, ok.2.2.2.2.2.1⟩
  have hmm : 1 ≤ m ∧ m ≤ 12 := ⟨ok.2.2.1, ok.2.2.2.1⟩
  rw [duffellaw22_DosOrders.j1, if_neg (by decide), ws (d + 1) (by omega) (by omega)]
  by_cases c : d + 1 ≤ mdays y m
  · have o : okStamp y m (d + 1) h mi s := by
      obtain ⟨a1, a2, a3, a4, a5, a6, a7⟩ := ok
      exact ⟨a1, a2, a3, a4, by omega, c, a7⟩
    rw [check_ok o, Option.bind_some, if_pos rfl]
    exact j2_ok ok m (d + 1) (.inl ⟨o, by unfold dayN; omega⟩) k
  · have o : ¬ okStamp y m (d + 1) h mi s := fun o => c o.2.2.2.2.2.1
    rw [check_no o, Option.bind_some, if_neg (by decide), ws (m + 1) (by omega) (by omega)]
    have ed : d = mdays y m := by omega
    by_cases c12 : m = 12
    · subst c12
      have e12 : mdays y 12 = 31 := rfl
      exact j2_ok ok (12 + 1) 1 (.inr ⟨rfl, by omega, by omega, rfl⟩) k
    · have hn := mdays_le y (m + 1)
      refine j2_ok ok (m + 1) 1 (.inl ⟨?_, ?_⟩) k
      · obtain ⟨a1, a2, a3, a4, a5, a6, a7⟩ := ok
        exact ⟨a1, a2, by omega, by omega, by omega, by omega, a7⟩
      · rw [next_month hmm.1 (by omega), ed]
end
theorem days_dec {a b : Int} (h : a ≤ b) : decide (a > b) = false := decide_eq_false (by omega)
theorem orders_ok (a0 a1 a2 a3 a4 a5 b0 b1 b2 b3 b4 b5 : Int) : duffellaw22_DosOrders.f 4 a0 a1 a2 a3 a4 a5 b0 b1 b2 b3 b4 b5 = some true := by
  have no : ∀ x5 x6 x8 x9 : Int, ¬ (okStamp a0 a1 a2 a3 a4 a5 ∧ okStamp b0 b1 b2 b3 b4 b5) → duffellaw22_DosOrders.j0 4 x5 x6 x8 x9 true a0 a1 a2 a3 a4 a5 b0 b1 b2 b3 b4 b5 = some true := by
    intro x5 x6 x8 x9 h
    rw [duffellaw22_DosOrders.j0, if_pos rfl]
    unfold dos_Less.f lessZ
    rw [if_neg h, Option.bind_some, if_neg (by decide), lives_bind]
  unfold duffellaw22_DosOrders.f dos_Pack.f
  rw [Option.bind_some, Option.bind_some]
  by_cases oa : okStamp a0 a1 a2 a3 a4 a5
  · by_cases ob : okStamp b0 b1 b2 b3 b4 b5
    · have e1 : packZ a0 a1 a2 a3 a4 a5 = (a3 * 2048 + a4 * 32 + a5 / 2, (a0 - 1980) * 512 + a1 * 32 + a2, 0) := if_pos oa
      have e2 : packZ b0 b1 b2 b3 b4 b5 = (b3 * 2048 + b4 * 32 + b5 / 2, (b0 - 1980) * 512 + b1 * 32 + b2, 0) := if_pos ob
      have hl := lex_num oa ob
      have hle : lexB [a0, a1, a2, a3, a4, a5] [b0, b1, b2, b3, b4, b5] = true → dayN a0 a1 a2 ≤ dayN b0 b1 b2 := fun h => day_mono oa ob (lex_day h)
      have el : dos_Less.f a0 a1 a2 a3 a4 a5 b0 b1 b2 b3 b4 b5 = some (lexB [a0, a1, a2, a3, a4, a5] [b0, b1, b2, b3, b4, b5]) := by unfold dos_Less.f lessZ; rw [if_pos ⟨oa, ob⟩]
      rw [e1, e2]
      refine (if_pos rfl).trans ?_
      show duffellaw22_DosOrders.j0 4 (a3 * 2048 + a4 * 32 + a5 / 2) ((a0 - 1980) * 512 + a1 * 32 + a2) (b3 * 2048 + b4 * 32 + b5 / 2) ((b0 - 1980) * 512 + b1 * 32 + b2) ((0 : Int) != 0) a0 a1 a2 a3 a4 a5 b0 b1 b2 b3 b4 b5 = some true
      rw [show ((0 : Int) != 0) = false from by decide]
      generalize a3 * 2048 + a4 * 32 + a5 / 2 = ta at *
      generalize b3 * 2048 + b4 * 32 + b5 / 2 = tb at *
      generalize (a0 - 1980) * 512 + a1 * 32 + a2 = da at *
      generalize (b0 - 1980) * 512 + b1 * 32 + b2 = db at *
      generalize lexB [a0, a1, a2, a3, a4, a5] [b0, b1, b2, b3, b4, b5] = L at *
      have fin : L = true → duffellaw22_DosOrders.j1 3 (decide (dayN a0 a1 a2 > dayN b0 b1 b2)) a0 a1 a2 a3 a4 a5 = some true := fun h => by rw [days_dec (hle h)]; exact j1_ok oa 0
      have fin2 := j1_ok oa 0
      rw [duffellaw22_DosOrders.j0, if_neg (by decide), el, Option.bind_some]
      by_cases c1 : da < db
      · have hL : L = true := by rw [hl]; exact decide_eq_true (.inl c1)
        subst hL
        rw [if_pos c1, if_neg (by decide), Option.bind_some, if_pos rfl, days_ok oa, Option.bind_some, days_ok ob, Option.bind_some]
        exact fin rfl
      · rw [if_neg c1]
        by_cases c2 : da = db
        · rw [if_pos c2]
          by_cases c3 : ta < tb
          · have hL : L = true := by rw [hl]; exact decide_eq_true (.inr ⟨c2, c3⟩)
            subst hL
            rw [if_neg (by rw [decide_eq_true c3]; decide), Option.bind_some, if_pos rfl, days_ok oa, Option.bind_some, days_ok ob, Option.bind_some]
            exact fin rfl
          · have hL : L = false := by rw [hl]; exact decide_eq_false (by omega)
            subst hL
            rw [if_neg (by rw [decide_eq_false c3]; decide), Option.bind_some, if_neg (by decide)]
            exact fin2
        · have hL : L = false := by rw [hl]; exact decide_eq_false (by omega)
          subst hL
          rw [if_neg c2, if_neg (by decide), Option.bind_some, if_neg (by decide)]
          exact fin2
    · have e2 : packZ b0 b1 b2 b3 b4 b5 = (0, 0, 17) := if_neg ob
      rw [e2]
      have h := fun x5 x6 x8 x9 => no x5 x6 x8 x9 (fun q => ob q.2)
      split
      · exact h _ _ _ _
      · exact h _ _ _ _
  · have e1 : packZ a0 a1 a2 a3 a4 a5 = (0, 0, 17) := if_neg oa
    rw [e1]
    refine (if_neg (by decide)).trans ?_
    exact no _ _ _ _ (fun q => oa q.1)
end Go.Proofs.Ytboliliohghncaa.Pure
