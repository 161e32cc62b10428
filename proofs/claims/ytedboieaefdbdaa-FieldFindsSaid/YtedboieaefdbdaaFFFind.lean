/- The reference's Find, as printed (namespace FF). -/
import Derived.Test.YtedboieaefdbdaaFFEnd
namespace Go.Proofs.Ytedboieaefdbdaa.FFR
open Go.RowKit Go.Proofs.Ytedboieaefdbdaa.FF Go.Proofs.YtedboieaefdbdaaW.PrintWords Go.Proofs.YtedboieaefdbdaaW.PrintLast Go.Proofs.YtedboieaefdbdaaW.PrintMore Go.Proofs.Ytedboieaefdbdaa.Fld
theorem wr_m (t : Nat) (h : t ≤ 100000) : wrap64 ((t : Int) + 1) = ((t + 1 : Nat) : Int) := w64i _ (by omega) (by omega)
theorem rfind_loop (l : List Int) (hb : Byt8 l) (hl : l.length ≤ 1000) (s f : Int) (N : Nat) (hN : N = min (l.length - 3) (f + 1).toNat) (d : Nat) : ∀ (i K : Nat), i + d = N → 2 * d + 10 ≤ K →
    duffelref02_Find.l0 K l s f (lastB (P4 l s) i) (i : Int) = some (lastB (P4 l s) N) := by
  induction d with
  | zero =>
    intro i K hi hK
    obtain ⟨K, rfl⟩ : ∃ j, K = j + 2 := ⟨K - 2, by omega⟩
    rw [duffelref02_Find.l0, wr_e i (by omega), show N = i by omega]
    by_cases h1 : ((i + 4 : Nat) : Int) ≤ (l.length : Int)
    · refine (if_pos h1).trans ?_
      rw [duffelref02_Find.j1, decide_eq_false (by omega)]
      exact if_neg (by decide)
    · refine (if_neg h1).trans ?_
      rw [duffelref02_Find.j1]
      exact if_neg (by decide)
  | succ d ih =>
    intro i K hi hK
    obtain ⟨K, rfl⟩ : ∃ j, K = j + 2 := ⟨K - 2, by omega⟩
    have hX := ih (i + 1) K (by omega) (by omega)
    rw [duffelref02_Find.l0, wr_e i (by omega)]
    refine (if_pos (by omega)).trans ?_
    rw [duffelref02_Find.j1, decide_eq_true (by omega), wr_e i (by omega), wr_m i (by omega), Int.toNat_natCast, Int.toNat_natCast, take_drop, num_run _ ((hb.drop i).take 4) (by rw [List.length_take]; omega) K (by omega)]
    refine (if_pos rfl).trans ((if_pos (by omega)).trans ((if_pos (by omega)).trans ((if_pos (by omega)).trans ?_)))
    simp only [Option.bind_some]
    rw [show lastB (P4 l s) (i + 1) = if P4 l s i = true then (i : Int) else lastB (P4 l s) i from rfl] at hX
    by_cases h : num ((l.drop i).take 4) = s
    · refine (if_pos h).trans ?_
      rw [if_pos (by unfold P4; exact decide_eq_true ⟨by omega, h⟩)] at hX
      exact hX
    · refine (if_neg h).trans ?_
      rw [if_neg (by unfold P4; rw [decide_eq_true_eq]; exact fun h2 => h h2.2)] at hX
      exact hX
theorem rfind_run (l : List Int) (hb : Byt8 l) (hl : l.length ≤ 1000) (s f : Int) (K : Nat) (hK : 2 * l.length + 10 ≤ K) :
    duffelref02_Find.f K l s f = some (lastB (P4 l s) (min (l.length - 3) (f + 1).toNat)) := by
  unfold duffelref02_Find.f
  exact rfind_loop l hb hl s f _ rfl (min (l.length - 3) (f + 1).toNat) 0 K (by omega) (by omega)
end Go.Proofs.Ytedboieaefdbdaa.FFR
