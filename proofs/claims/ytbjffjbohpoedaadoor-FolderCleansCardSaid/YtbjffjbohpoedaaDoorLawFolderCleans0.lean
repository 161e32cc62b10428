/- FolderCleans, walked. -/
import Derived.Test.YtbjffjbohpoedaaDoorFoldM2
import Derived.Test.YtbjffjbohpoedaaDoorFoldLaw0
namespace Go.Proofs.YtbjffjbohpoedaaDoor.Fd
open Go.Proofs.YtbjffjbohpoedaaDoor.Wd
open Go.RowKit Go.Proofs.YtbjffjbohpoedaaDoorW.PrintWords Go.Proofs.YtbjffjbohpoedaaDoorW.PrintLast Go.Proofs.YtbjffjbohpoedaaDoorW.PrintMore
set_option linter.unusedVariables false
set_option linter.unusedSimpArgs false
theorem clean_some {A : Option Addr} {c : Nat} {L : List Int} {W : World} {l : List Int} {z : Int} (h : Calls Tryd.prog 14 #[.slice A L.length c] W (CPost W L)) (hr : cleanR L = (l, z)) :
    Calls Tryd.prog 14 #[.slice A L.length c] W fun e w' => ∃ A' c', e = .returned (.tuple #[.slice A' l.length c', .int .i64 z]) ∧ Arg w' A' c' l ∧ Below W.heap.size W w' := by
  refine h.mono ?_
  rintro e w' ⟨A', c', l', z', rfl, h1, h2, h3⟩
  rw [hr] at h3
  obtain ⟨rfl, rfl⟩ := Prod.mk.inj h3
  exact ⟨A', c', rfl, h1, h2⟩
set_option maxHeartbeats 8000000 in
set_option maxRecDepth 100000 in
theorem cleans_any (A0 : Option Addr) (c0 : Nat) (l0 : List Int) (w : World) (m0 : l0.length ≤ c0) (h0 : Arg w A0 c0 (l0.take 80)) :
    Calls Tryd.prog 4 #[.slice A0 l0.length c0] w fun e w' => e = .returned (.bool true) ∧ Below w.heap.size w w' := by
  have CUT0 := Aside0.mk (fun W => MyCut.cut_u8.calls A0 c0 l0 80 (l0.take 80) W m0 (MyCut.cut_u8.nat l0 80))
  have n0 : (l0.take 80).length ≤ 80 := by rw [List.length_take]; omega
  obtain ⟨b, hb⟩ : ∃ b, l0.take 80 = b := ⟨_, rfl⟩
  rw [hb] at CUT0 h0 n0
  clear hb m0
  have hcl := clean_len b
  have LIV := Aside0.mk lives_any
  have HB := Aside0.mk (Below.refl w.heap.size w)
  have CKB : Aside0 (∀ W, Below w.heap.size w W → Calls Tryd.prog 15 #[.slice A0 b.length c0] W fun e w' => e = .returned (.int .i64 (errZ (isB b))) ∧ Below W.heap.size W w') := ⟨fun W hb => check_any A0 c0 b W (h0.below hb)⟩
  cases hq : isB (cleanL b) with
  | false =>
    have hnb : isB b = false := by
      cases h : isB b with
      | false => rfl
      | true => rw [path_clean b h, h] at hq; cases hq
    have hr : cleanR b = ([], 16) := by unfold cleanR; rw [if_neg (by rw [hq]; decide)]
    have CLN := Aside0.mk (fun W (hb : Below w.heap.size w W) => clean_some (clean_any A0 c0 b W (h0.below hb) (by omega)) hr)
    rw [hnb] at CKB
    rw [show errZ false = 16 from rfl] at CKB
    clear hq hnb hr hcl n0 h0
    go_enter Tryd.func4, Tryd.ntmps4
    go_wp2_with (first
      | (go_at_call 8; (with_reducible refine (CUT0.out _).mono ?_); rintro e w1 ⟨rfl, rfl⟩)
      | (go_at_call 14; (with_reducible refine (CLN.out _ HB.out).mono ?_); rintro e w1 ⟨A1, c1, rfl, h1, hb⟩; have HB := Aside0.mk (below_step HB.out hb); clear h1 hb)
      | (go_at_call 15; (with_reducible refine (CKB.out _ HB.out).mono ?_); rintro e w1 ⟨rfl, hb⟩; have HB := Aside0.mk (below_step HB.out hb); clear hb)
      | (go_at_call 13; (with_reducible refine (LIV.out _).mono ?_); rintro e w1 ⟨rfl, hb⟩; have HB := Aside0.mk (below_step HB.out hb); clear hb))
    go_ret
    exact ⟨rfl, HB.out⟩
  | true =>
    obtain ⟨cc, hcc⟩ : ∃ cc, cleanL b = cc := ⟨_, rfl⟩
    have hr : cleanR b = (cc, 0) := by unfold cleanR; rw [if_pos hq, hcc]
    rw [hcc] at hq hcl
    have hrc : cleanR cc = (cc, 0) := by unfold cleanR; rw [path_clean cc hq, if_pos hq]
    have CLN := Aside0.mk (fun W (hb : Below w.heap.size w W) => clean_some (clean_any A0 c0 b W (h0.below hb) (by omega)) hr)
    have CLC : Aside0 (∀ W A c, Arg W A c cc → Calls Tryd.prog 14 #[.slice A cc.length c] W fun e w' => ∃ A' c', e = .returned (.tuple #[.slice A' cc.length c', .int .i64 0]) ∧ Arg w' A' c' cc ∧ Below W.heap.size W w') := ⟨fun W A c h => clean_some (clean_any A c cc W h (by omega)) hrc⟩
    have CKC : Aside0 (∀ W A c, Arg W A c cc → Calls Tryd.prog 15 #[.slice A cc.length c] W fun e w' => e = .returned (.int .i64 0) ∧ Below W.heap.size W w') := ⟨fun W A c h => by have := check_any A c cc W h; rw [hq] at this; exact this⟩
    have SAM : Aside0 (∀ W A c A' c', Arg W A c cc → Arg W A' c' cc → Calls Tryd.prog 11 #[.slice A cc.length c, .slice A' cc.length c'] W fun e w' => e = .returned (.bool true) ∧ Below W.heap.size W w') := ⟨fun W A c A' c' h h' => same_any A c A' c' cc cc W rfl h h'⟩
    cases hn : isB b with
    | true =>
      have ebc : b = cc := by rw [← hcc, path_clean b hn]
      have SBC : Aside0 (∀ W A' c', Below w.heap.size w W → Arg W A' c' cc → Calls Tryd.prog 11 #[.slice A0 b.length c0, .slice A' cc.length c'] W fun e w' => e = .returned (.bool true) ∧ Below W.heap.size W w') := ⟨fun W A' c' hb h' => same_any A0 c0 A' c' b cc W ebc (h0.below hb) h'⟩
      rw [hn] at CKB
      rw [show errZ true = 0 from rfl] at CKB
      clear hq hn hr hrc hcl n0 h0 hcc ebc
      go_enter Tryd.func4, Tryd.ntmps4
      go_wp2_with (first
        | (go_at_call 8; (with_reducible refine (CUT0.out _).mono ?_); rintro e w1 ⟨rfl, rfl⟩)
        | (go_at_call 14; (with_reducible refine (CLN.out _ HB.out).mono ?_); rintro e w1 ⟨A1, c1, rfl, h1, hb⟩; have H1 := Aside0.mk h1; have HB := Aside0.mk (below_step HB.out hb); clear h1 hb)
        | (go_at_call 14; (with_reducible refine (CLC.out _ _ _ H1.out).mono ?_); rintro e w1 ⟨A2, c2, rfl, h2, hb⟩; have H2 := Aside0.mk h2; have H1 := Aside0.mk (H1.out.below hb); have HB := Aside0.mk (below_step HB.out hb); clear h2 hb)
        | (go_at_call 15; (with_reducible refine (CKC.out _ _ _ H1.out).mono ?_); rintro e w1 ⟨rfl, hb⟩; have H2 := Aside0.mk (H2.out.below hb); have H1 := Aside0.mk (H1.out.below hb); have HB := Aside0.mk (below_step HB.out hb); clear hb)
        | (go_at_call 15; (with_reducible refine (CKB.out _ HB.out).mono ?_); rintro e w1 ⟨rfl, hb⟩; have H2 := Aside0.mk (H2.out.below hb); have H1 := Aside0.mk (H1.out.below hb); have HB := Aside0.mk (below_step HB.out hb); clear hb)
        | (go_at_call 11; (with_reducible refine (SAM.out _ _ _ _ _ H1.out H2.out).mono ?_); rintro e w1 ⟨rfl, hb⟩; have H2 := Aside0.mk (H2.out.below hb); have H1 := Aside0.mk (H1.out.below hb); have HB := Aside0.mk (below_step HB.out hb); clear hb)
        | (go_at_call 11; (with_reducible refine (SBC.out _ _ _ HB.out H1.out).mono ?_); rintro e w1 ⟨rfl, hb⟩; have HB := Aside0.mk (below_step HB.out hb); clear hb)
        | (go_at_call 13; (with_reducible refine (LIV.out _).mono ?_); rintro e w1 ⟨rfl, hb⟩; have HB := Aside0.mk (below_step HB.out hb); clear hb))
      go_ret
      exact ⟨rfl, HB.out⟩
    | false =>
      rw [hn] at CKB
      rw [show errZ false = 16 from rfl] at CKB
      clear hq hn hr hrc hcl n0 h0 hcc
      go_enter Tryd.func4, Tryd.ntmps4
      go_wp2_with (first
        | (go_at_call 8; (with_reducible refine (CUT0.out _).mono ?_); rintro e w1 ⟨rfl, rfl⟩)
        | (go_at_call 14; (with_reducible refine (CLN.out _ HB.out).mono ?_); rintro e w1 ⟨A1, c1, rfl, h1, hb⟩; have H1 := Aside0.mk h1; have HB := Aside0.mk (below_step HB.out hb); clear h1 hb)
        | (go_at_call 14; (with_reducible refine (CLC.out _ _ _ H1.out).mono ?_); rintro e w1 ⟨A2, c2, rfl, h2, hb⟩; have H2 := Aside0.mk h2; have H1 := Aside0.mk (H1.out.below hb); have HB := Aside0.mk (below_step HB.out hb); clear h2 hb)
        | (go_at_call 15; (with_reducible refine (CKC.out _ _ _ H1.out).mono ?_); rintro e w1 ⟨rfl, hb⟩; have H2 := Aside0.mk (H2.out.below hb); have H1 := Aside0.mk (H1.out.below hb); have HB := Aside0.mk (below_step HB.out hb); clear hb)
        | (go_at_call 15; (with_reducible refine (CKB.out _ HB.out).mono ?_); rintro e w1 ⟨rfl, hb⟩; have H2 := Aside0.mk (H2.out.below hb); have H1 := Aside0.mk (H1.out.below hb); have HB := Aside0.mk (below_step HB.out hb); clear hb)
        | (go_at_call 11; (with_reducible refine (SAM.out _ _ _ _ _ H1.out H2.out).mono ?_); rintro e w1 ⟨rfl, hb⟩; have H2 := Aside0.mk (H2.out.below hb); have H1 := Aside0.mk (H1.out.below hb); have HB := Aside0.mk (below_step HB.out hb); clear hb)
        | (go_at_call 13; (with_reducible refine (LIV.out _).mono ?_); rintro e w1 ⟨rfl, hb⟩; have HB := Aside0.mk (below_step HB.out hb); clear hb))
      go_ret
      exact ⟨rfl, HB.out⟩
end Go.Proofs.YtbjffjbohpoedaaDoor.Fd
