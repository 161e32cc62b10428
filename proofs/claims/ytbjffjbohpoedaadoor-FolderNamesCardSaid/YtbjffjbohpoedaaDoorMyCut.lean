/- r01.Cut of a slice that is only read: its beginning. No conditions but that it does not fail. -/
import Derived.Test.YtbjffjbohpoedaaDoorProg
import Derived.Test.YtbjffjbohpoedaaDoorMyWords
import Derived.Deep.QuietTactic
import Derived.BigQuiet
namespace Go.Proofs.YtbjffjbohpoedaaDoor.MyCut
open Go.RowKit Go.Proofs.YtbjffjbohpoedaaDoorW.PrintWords Go.Proofs.YtbjffjbohpoedaaDoorW.PrintLast Go.Proofs.YtbjffjbohpoedaaDoorW.PrintMore
set_option linter.unusedVariables false
set_option linter.unusedSimpArgs false
theorem infoE : (Tryd.prog.info? 5).map (fun i => (i.zero, i.size, i.bytes)) = some (some (.int .u8 0), 1, 1) := by kernel_rfl
def cut_u8.f (l : List Int) (n : Int) : Option (List Int) := if (l.length : Int) > n then (if 0 ≤ n then some (l.take n.toNat) else none) else some l
theorem cut_u8.cases {l : List Int} {n : Int} {r : List Int} (hf : cut_u8.f l n = some r) : ((l.length : Int) > n ∧ 0 ≤ n ∧ r = l.take n.toNat) ∨ (¬ (l.length : Int) > n ∧ r = l) := by
  unfold cut_u8.f at hf
  by_cases h : (l.length : Int) > n
  · rw [if_pos h] at hf
    by_cases h0 : 0 ≤ n
    · rw [if_pos h0] at hf; exact .inl ⟨h, h0, (Option.some.inj hf).symm⟩
    · rw [if_neg h0] at hf; cases hf
  · rw [if_neg h] at hf; exact .inr ⟨h, (Option.some.inj hf).symm⟩
theorem cut_u8.nat (l : List Int) (n : Nat) : cut_u8.f l n = some (l.take n) := by
  unfold cut_u8.f
  by_cases h : (l.length : Int) > n
  · rw [if_pos h, if_pos (by omega), Int.toNat_natCast]
  · rw [if_neg h, List.take_of_length_le (by omega)]
theorem C_cut_u8 {w : World} {A : Option Addr} {l : List Int} {n : Int} {r : List Int} (h : Kd.C (Kd.int .u8) w A l.length l) (hf : cut_u8.f l n = some r) : Kd.C (Kd.int .u8) w A r.length r := by
  rcases cut_u8.cases hf with ⟨h1, h2, rfl⟩ | ⟨_, rfl⟩
  · exact Kd.C_take h (by omega)
  · exact h
theorem le_cut_u8 {c : Nat} {l : List Int} {n : Int} {r : List Int} (h : l.length ≤ c) (hf : cut_u8.f l n = some r) : r.length ≤ c := by
  rcases cut_u8.cases hf with ⟨h1, h2, rfl⟩ | ⟨_, rfl⟩
  · rw [List.length_take]; omega
  · exact h
set_option maxHeartbeats 1000000 in
set_option maxRecDepth 100000 in
theorem cut_u8.calls (A : Option Addr) (c : Nat) (l : List Int) (n : Int) (r : List Int) (w : World) (hc : l.length ≤ c) (hf : cut_u8.f l n = some r) :
    Calls Tryd.prog 8 #[.slice A l.length c, .int .i64 n] w fun e w' => e = .returned (.slice A r.length c) ∧ w = w' := by
  rcases cut_u8.cases hf with ⟨h, hn, rfl⟩ | ⟨h, rfl⟩
  · have c1 : decide (n < (l.length : Int)) = true := decide_eq_true h
    have c2 : decide (0 ≤ n) = true := decide_eq_true hn
    have q : (n : Int) ≤ ((l.length : Int) : Int) := by omega
    obtain ⟨i0, hi, _, hs, _⟩ := info_parts infoE
    have hcut := cut_to (P := Tryd.prog) 22 5 .i64 Tryd.underlying22 hi A l.length c n hn q hc
    have e : (l.take n.toNat).length = n.toNat := by rw [List.length_take]; omega
    rw [e]
    clear e hi hs hf h
    replace q := eq_true q
    have hn' := eq_true hn
    clear hn
    go_enter Tryd.func8, Tryd.ntmps8
    go_wp2
    go_ret
    exact ⟨rfl, rfl⟩
  · have c1 : decide (n < (r.length : Int)) = false := decide_eq_false h
    clear hf h
    go_enter Tryd.func8, Tryd.ntmps8
    go_wp2
    go_ret
    exact ⟨rfl, rfl⟩
theorem frozen_at {w w' : World} {m : Nat} {a : Addr} {b : Bool} (hq : w.drewN m = w') (h : w.frozen? a = b) : w'.frozen? a = b := by subst hq; exact h
end Go.Proofs.YtbjffjbohpoedaaDoor.MyCut
