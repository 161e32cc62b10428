/- The law CrcTables, walked: true for every byte. -/
import Derived.Test.YtlemagpmhenmmaaCrcLives0
import Derived.Test.YtlemagpmhenmmaaPCrcTablesx1
import Derived.StillTailTactics
import Derived.Deep.RegionWith
namespace Go.Proofs.Ytlemagpmhenmmaa.CrcWalk
open Go.RowKit Go.Proofs.YtlemagpmhenmmaaW.PrintWords Go.Proofs.YtlemagpmhenmmaaW.PrintLast Go.Proofs.YtlemagpmhenmmaaW.PrintMore Go.Proofs.Ytlemagpmhenmmaa.PCrcTables
set_option linter.unusedVariables false
set_option linter.unusedSimpArgs false
theorem step_eq (x : Nat) (hx : x < 4294967296) : duffelref03_Step.f (x : Int) = some ((Crc.step x : Nat) : Int) := by
  unfold duffelref03_Step.f Crc.step
  have e1 : Int.tmod (x : Int) 2 = ((x % 2 : Nat) : Int) := by rw [Int.tmod_eq_emod_of_nonneg (by omega)]; omega
  have e2 : (Int.tdiv (x : Int) 2) % 4294967296 = ((x / 2 : Nat) : Int) := by rw [Int.tdiv_eq_ediv_of_nonneg (by omega)]; omega
  rw [e1, e2]
  by_cases h : x % 2 = 1
  · rw [if_pos h, if_pos (by rw [h]; rfl)]
    exact congrArg some (u32_xor (x / 2) 3988292384 (by omega) (by decide))
  · rw [if_neg h, if_neg (by omega)]
theorem word_loop (n : Nat) : ∀ (k j : Nat) (x : Nat), x < 4294967296 → j + n = 8 → n < k → duffelref03_Word.l0 k (x : Int) (j : Int) = some ((Crc.steps n x : Nat) : Int) := by
  induction n with
  | zero =>
    intro k j x hx hj hk
    obtain ⟨k, rfl⟩ : ∃ m, k = m + 1 := ⟨k - 1, by omega⟩
    simp only [duffelref03_Word.l0]
    rw [if_neg (by omega)]; rfl
  | succ n ih =>
    intro k j x hx hj hk
    obtain ⟨k, rfl⟩ : ∃ m, k = m + 1 := ⟨k - 1, by omega⟩
    simp only [duffelref03_Word.l0]
    rw [if_pos (by omega), step_eq x hx]
    simp only [Option.bind_some]
    have w : wrap64 ((j : Int) + 1) = ((j + 1 : Nat) : Int) := by unfold wrap64; omega
    rw [w]
    exact ih k (j + 1) _ (Crc.step_lt hx) (by omega) (by omega)
theorem word_eq (c : Int) (h0 : 0 ≤ c) (h1 : c < 256) : duffelref03_Word.f 9 c = some (rd tabL c) := by
  obtain ⟨n, rfl⟩ := Int.eq_ofNat_of_zero_le h0
  unfold duffelref03_Word.f
  have e : (n : Int) % 4294967296 = (n : Int) := by omega
  rw [e, show (0 : Int) = ((0 : Nat) : Int) from rfl, word_loop 8 9 0 n (by omega) (by omega) (by omega)]
  have : n < 256 := by omega
  simp [rd, tabL, word, List.getD, this]
theorem index_tab (c : Int) (h0 : 0 ≤ c) (h1 : c < 256) (w : World) : (Instr.index 23 (.agg (tabV tabL)) (.int .u8 c)).run Try.prog w = .ok (.int .u32 (rd tabL c)) w := by
  obtain ⟨n, rfl⟩ := Int.eq_ofNat_of_zero_le h0
  have hn : n < 256 := by omega
  have ha := tabV_at tabL n (by rw [tabL_len]; exact hn)
  obtain ⟨i0, hi0, hz, hs, _⟩ := info_parts (show (Try.prog.info? 22).map (fun i => (i.zero, i.size, i.bytes)) = some (some (.int .u32 0), 1, 4) from by kernel_rfl)
  simp [Instr.index, asIntOf, run_underlying Try.underlying23, sizeOf, typeInfo, hi0, hs, hn, part, ha]
set_option maxHeartbeats 1000000 in
set_option maxRecDepth 100000 in
theorem tables_any (c : Int) (h0 : 0 ≤ c) (h1 : c < 256) (w : World) : Calls Try.prog 3 #[.int .u8 c] w fun e w' => e = .returned (.bool true) ∧ Below w.heap.size w w' := by
  have HW := Aside0.mk (word_eq c h0 h1)
  have hix := index_tab c h0 h1
  go_enter Try.func3, Try.ntmps3
  go_wp2_with fail
  go_region_with (first
    | (go_at_call 8; refine (table_any _).mono ?_; rintro e w1 ⟨rfl, hb⟩; have HB := Aside0.mk hb; clear hb; rw [tabTo_tabL])
    | (go_at_call 9; refine (duffelref03_Word.calls 9 c _ _ HW.out).mono ?_; rintro e w' ⟨rfl, ⟨nd, rfl⟩⟩)
    | (go_at_call 10; refine (lives_any _).mono ?_; rintro e w2 ⟨rfl, hb2⟩; have HB2 := Aside0.mk hb2; clear hb2))
  all_goals (go_wp2; go_ret; exact ⟨rfl, below_step (pw_below_drewN (below_step (below_drew (Below.refl _ w)) HB.out) _) HB2.out⟩)
end Go.Proofs.Ytlemagpmhenmmaa.CrcWalk
