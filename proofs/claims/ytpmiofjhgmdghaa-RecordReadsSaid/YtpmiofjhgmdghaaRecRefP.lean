/- record: the reference's numbers out of what was taken (plain). -/
import Derived.Test.YtpmiofjhgmdghaaRecRef0
namespace Go.Proofs.Ytpmiofjhgmdghaa.Fld
open Go.RowKit Go.Proofs.YtpmiofjhgmdghaaW.PrintWords Go.Proofs.YtpmiofjhgmdghaaW.PrintLast Go.Proofs.YtpmiofjhgmdghaaW.PrintMore Go.Proofs.Ytpmiofjhgmdghaa.RQ Go.Proofs.Ytpmiofjhgmdghaa.RQR
set_option linter.unusedVariables false
set_option linter.unusedSimpArgs false
theorem cut_cat {X p Y : List Int} {i m : Nat} (hi : X.length = i) (hp : p.length = m) : ((X ++ (p ++ Y)).take (i + m)).drop i = p := by
  subst hi; subst hp
  rw [List.take_length_add_append, List.drop_left, List.take_left]
theorem at_cat {X p Y : List Int} {i : Nat} (hi : X.length = i) (hp : p.length = 2) (hb : Byt8 p) (hl : (X ++ (p ++ Y)).length ≤ 1000) : duffelref24_at.f 10 (X ++ (p ++ Y)) (i : Int) = some (num p) := by
  have hle : i + 2 ≤ (X ++ (p ++ Y)).length := by simp only [List.length_append]; omega
  have e : wrap64 ((i : Int) + 2) = ((i + 2 : Nat) : Int) := w64i _ (by omega) (by omega)
  have hn := num_bound p hb
  rw [hp] at hn
  have hw : wrap64 (num p) = num p := by
    have h2 : num p < 65536 := hn.2
    exact w64i _ (by clear e; omega) (by clear e; omega)
  unfold duffelref24_at.f
  rw [e, Int.toNat_natCast, Int.toNat_natCast, cut_cat hi hp, num_run p hb (by omega) 10 (by decide), Option.bind_some, hw]
  clear e hw hn
  exact (if_pos (by omega)).trans ((if_pos (by omega)).trans (if_pos (by omega)))
theorem head_cat {p1 p2 p3 p4 p5 p6 p7 p8 Y : List Int} (l1 : p1.length = 2) (b1 : Byt8 p1) (l2 : p2.length = 2) (b2 : Byt8 p2) (l3 : p3.length = 2) (b3 : Byt8 p3) (l4 : p4.length = 2) (b4 : Byt8 p4) (l5 : p5.length = 2) (b5 : Byt8 p5) (l6 : p6.length = 4) (b6 : Byt8 p6) (l7 : p7.length = 4) (b7 : Byt8 p7) (l8 : p8.length = 4) (b8 : Byt8 p8) (hY : Y.length ≤ 100) : duffelref24_head.f 10 (p1 ++ (p2 ++ (p3 ++ (p4 ++ (p5 ++ (p6 ++ (p7 ++ (p8 ++ (Y))))))))) = some (num p1, num p2, num p3, num p4, num p5, num p6, num p7, num p8, [], []) := by
  have hlen : (p1 ++ (p2 ++ (p3 ++ (p4 ++ (p5 ++ (p6 ++ (p7 ++ (p8 ++ (Y))))))))).length = 26 - 4 + Y.length := by simp only [List.length_append]; omega
  have e1 : (p1 ++ (p2 ++ (p3 ++ (p4 ++ (p5 ++ (p6 ++ (p7 ++ (p8 ++ (Y))))))))) = (([] : List Int)) ++ (p1 ++ (p2 ++ (p3 ++ (p4 ++ (p5 ++ (p6 ++ (p7 ++ (p8 ++ (Y))))))))) := by first | simp only [List.append_assoc, List.nil_append] | rfl
  have a1 : duffelref24_at.f 10 (p1 ++ (p2 ++ (p3 ++ (p4 ++ (p5 ++ (p6 ++ (p7 ++ (p8 ++ (Y))))))))) 0 = some (num p1) := by
    rw [e1]
    exact at_cat (i := 0) (by first | rfl | omega | (simp only [List.length_append, List.length_nil]; try omega)) l1 b1 (by rw [← e1]; omega)
  have e2 : (p1 ++ (p2 ++ (p3 ++ (p4 ++ (p5 ++ (p6 ++ (p7 ++ (p8 ++ (Y))))))))) = (p1) ++ (p2 ++ (p3 ++ (p4 ++ (p5 ++ (p6 ++ (p7 ++ (p8 ++ (Y)))))))) := by first | simp only [List.append_assoc, List.nil_append] | rfl
  have a2 : duffelref24_at.f 10 (p1 ++ (p2 ++ (p3 ++ (p4 ++ (p5 ++ (p6 ++ (p7 ++ (p8 ++ (Y))))))))) 2 = some (num p2) := by
    rw [e2]
    exact at_cat (i := 2) (by first | rfl | omega | (simp only [List.length_append, List.length_nil]; try omega)) l2 b2 (by rw [← e2]; omega)
  have e3 : (p1 ++ (p2 ++ (p3 ++ (p4 ++ (p5 ++ (p6 ++ (p7 ++ (p8 ++ (Y))))))))) = (p1 ++ p2) ++ (p3 ++ (p4 ++ (p5 ++ (p6 ++ (p7 ++ (p8 ++ (Y))))))) := by first | simp only [List.append_assoc, List.nil_append] | rfl
  have a3 : duffelref24_at.f 10 (p1 ++ (p2 ++ (p3 ++ (p4 ++ (p5 ++ (p6 ++ (p7 ++ (p8 ++ (Y))))))))) 4 = some (num p3) := by
    rw [e3]
    exact at_cat (i := 4) (by first | rfl | omega | (simp only [List.length_append, List.length_nil]; try omega)) l3 b3 (by rw [← e3]; omega)
  have e4 : (p1 ++ (p2 ++ (p3 ++ (p4 ++ (p5 ++ (p6 ++ (p7 ++ (p8 ++ (Y))))))))) = (p1 ++ p2 ++ p3) ++ (p4 ++ (p5 ++ (p6 ++ (p7 ++ (p8 ++ (Y)))))) := by first | simp only [List.append_assoc, List.nil_append] | rfl
  have a4 : duffelref24_at.f 10 (p1 ++ (p2 ++ (p3 ++ (p4 ++ (p5 ++ (p6 ++ (p7 ++ (p8 ++ (Y))))))))) 6 = some (num p4) := by
    rw [e4]
    exact at_cat (i := 6) (by first | rfl | omega | (simp only [List.length_append, List.length_nil]; try omega)) l4 b4 (by rw [← e4]; omega)
  have e5 : (p1 ++ (p2 ++ (p3 ++ (p4 ++ (p5 ++ (p6 ++ (p7 ++ (p8 ++ (Y))))))))) = (p1 ++ p2 ++ p3 ++ p4) ++ (p5 ++ (p6 ++ (p7 ++ (p8 ++ (Y))))) := by first | simp only [List.append_assoc, List.nil_append] | rfl
  have a5 : duffelref24_at.f 10 (p1 ++ (p2 ++ (p3 ++ (p4 ++ (p5 ++ (p6 ++ (p7 ++ (p8 ++ (Y))))))))) 8 = some (num p5) := by
    rw [e5]
    exact at_cat (i := 8) (by first | rfl | omega | (simp only [List.length_append, List.length_nil]; try omega)) l5 b5 (by rw [← e5]; omega)
  have e6 : (p1 ++ (p2 ++ (p3 ++ (p4 ++ (p5 ++ (p6 ++ (p7 ++ (p8 ++ (Y))))))))) = (p1 ++ p2 ++ p3 ++ p4 ++ p5) ++ (p6 ++ (p7 ++ (p8 ++ (Y)))) := by first | simp only [List.append_assoc, List.nil_append] | rfl
  have c6 : ((p1 ++ (p2 ++ (p3 ++ (p4 ++ (p5 ++ (p6 ++ (p7 ++ (p8 ++ (Y))))))))).take 14).drop 10 = p6 := by
    rw [e6]
    exact cut_cat (i := 10) (m := 4) (by simp only [List.length_append]; omega) l6
  have e7 : (p1 ++ (p2 ++ (p3 ++ (p4 ++ (p5 ++ (p6 ++ (p7 ++ (p8 ++ (Y))))))))) = (p1 ++ p2 ++ p3 ++ p4 ++ p5 ++ p6) ++ (p7 ++ (p8 ++ (Y))) := by first | simp only [List.append_assoc, List.nil_append] | rfl
  have c7 : ((p1 ++ (p2 ++ (p3 ++ (p4 ++ (p5 ++ (p6 ++ (p7 ++ (p8 ++ (Y))))))))).take 18).drop 14 = p7 := by
    rw [e7]
    exact cut_cat (i := 14) (m := 4) (by simp only [List.length_append]; omega) l7
  have e8 : (p1 ++ (p2 ++ (p3 ++ (p4 ++ (p5 ++ (p6 ++ (p7 ++ (p8 ++ (Y))))))))) = (p1 ++ p2 ++ p3 ++ p4 ++ p5 ++ p6 ++ p7) ++ (p8 ++ (Y)) := by first | simp only [List.append_assoc, List.nil_append] | rfl
  have c8 : ((p1 ++ (p2 ++ (p3 ++ (p4 ++ (p5 ++ (p6 ++ (p7 ++ (p8 ++ (Y))))))))).take 22).drop 18 = p8 := by
    rw [e8]
    exact cut_cat (i := 18) (m := 4) (by simp only [List.length_append]; omega) l8
  unfold duffelref24_head.f
  rw [a1, Option.bind_some, a2, Option.bind_some, a3, Option.bind_some, a4, Option.bind_some, a5, Option.bind_some]
  rw [c6, c7, c8, num_run p6 b6 (by omega) 10 (by decide), num_run p7 b7 (by omega) 10 (by decide), num_run p8 b8 (by omega) 10 (by decide)]
  refine (if_pos (by decide)).trans ((if_pos (by rw [hlen]; omega)).trans ?_)
  rw [Option.bind_some]
  refine (if_pos (by decide)).trans ((if_pos (by rw [hlen]; omega)).trans ?_)
  rw [Option.bind_some]
  refine (if_pos (by decide)).trans ((if_pos (by rw [hlen]; omega)).trans ?_)
  rw [Option.bind_some]
theorem loP {b : List Int} {q0 q1 q2 q3 q4 q5 q6 q7 q8 q9 q10 : Sta} {x1 x2 x3 x4 x5 x6 x7 x8 x9 x10 : Int} (hb : ∀ x ∈ b, 0 ≤ x ∧ x ≤ 255) (e1 : rA b q0 2 = q1) (v1 : rV b q0 2 = x1) (e2 : rA b q1 2 = q2) (v2 : rV b q1 2 = x2) (e3 : rA b q2 2 = q3) (v3 : rV b q2 2 = x3) (e4 : rA b q3 2 = q4) (v4 : rV b q3 2 = x4) (e5 : rA b q4 2 = q5) (v5 : rV b q4 2 = x5) (e6 : rA b q5 4 = q6) (v6 : rV b q5 4 = x6) (e7 : rA b q6 4 = q7) (v7 : rV b q6 4 = x7) (e8 : rA b q7 4 = q8) (v8 : rV b q7 4 = x8) (e9 : rA b q8 2 = q9) (v9 : rV b q8 2 = x9) (e10 : rA b q9 2 = q10) (v10 : rV b q9 2 = x10) : (tkN b q0 [2, 2, 2, 2, 2, 4, 4, 4, 2, 2] 10).2 = q10 ∧ (q10.2 = 0 → ∃ D, (tkN b q0 [2, 2, 2, 2, 2, 4, 4, 4, 2, 2] 10).1 = D ∧ D.length = 26 ∧ Byt8 D ∧ duffelref24_head.f 10 (D.drop 0) = some (x1, x2, x3, x4, x5, x6, x7, x8, [], []) ∧ duffelref24_at.f 10 D 22 = some x9 ∧ duffelref24_at.f 10 D 24 = some x10) := by
  have t1 : tkN b q0 [2, 2, 2, 2, 2, 4, 4, 4, 2, 2] 1 = ([] ++ rL b q0 2, q1) := by
    rw [tkN, tkN]
    show (_ ++ rL b q0 2, rA b q0 2) = _
    rw [e1]
  have t2 : tkN b q0 [2, 2, 2, 2, 2, 4, 4, 4, 2, 2] 2 = ([] ++ rL b q0 2 ++ rL b q1 2, q2) := by
    rw [tkN, t1]
    show (_ ++ rL b q1 2, rA b q1 2) = _
    rw [e2]
  have t3 : tkN b q0 [2, 2, 2, 2, 2, 4, 4, 4, 2, 2] 3 = ([] ++ rL b q0 2 ++ rL b q1 2 ++ rL b q2 2, q3) := by
    rw [tkN, t2]
    show (_ ++ rL b q2 2, rA b q2 2) = _
    rw [e3]
  have t4 : tkN b q0 [2, 2, 2, 2, 2, 4, 4, 4, 2, 2] 4 = ([] ++ rL b q0 2 ++ rL b q1 2 ++ rL b q2 2 ++ rL b q3 2, q4) := by
    rw [tkN, t3]
    show (_ ++ rL b q3 2, rA b q3 2) = _
    rw [e4]
  have t5 : tkN b q0 [2, 2, 2, 2, 2, 4, 4, 4, 2, 2] 5 = ([] ++ rL b q0 2 ++ rL b q1 2 ++ rL b q2 2 ++ rL b q3 2 ++ rL b q4 2, q5) := by
    rw [tkN, t4]
    show (_ ++ rL b q4 2, rA b q4 2) = _
    rw [e5]
  have t6 : tkN b q0 [2, 2, 2, 2, 2, 4, 4, 4, 2, 2] 6 = ([] ++ rL b q0 2 ++ rL b q1 2 ++ rL b q2 2 ++ rL b q3 2 ++ rL b q4 2 ++ rL b q5 4, q6) := by
    rw [tkN, t5]
    show (_ ++ rL b q5 4, rA b q5 4) = _
    rw [e6]
  have t7 : tkN b q0 [2, 2, 2, 2, 2, 4, 4, 4, 2, 2] 7 = ([] ++ rL b q0 2 ++ rL b q1 2 ++ rL b q2 2 ++ rL b q3 2 ++ rL b q4 2 ++ rL b q5 4 ++ rL b q6 4, q7) := by
    rw [tkN, t6]
    show (_ ++ rL b q6 4, rA b q6 4) = _
    rw [e7]
  have t8 : tkN b q0 [2, 2, 2, 2, 2, 4, 4, 4, 2, 2] 8 = ([] ++ rL b q0 2 ++ rL b q1 2 ++ rL b q2 2 ++ rL b q3 2 ++ rL b q4 2 ++ rL b q5 4 ++ rL b q6 4 ++ rL b q7 4, q8) := by
    rw [tkN, t7]
    show (_ ++ rL b q7 4, rA b q7 4) = _
    rw [e8]
  have t9 : tkN b q0 [2, 2, 2, 2, 2, 4, 4, 4, 2, 2] 9 = ([] ++ rL b q0 2 ++ rL b q1 2 ++ rL b q2 2 ++ rL b q3 2 ++ rL b q4 2 ++ rL b q5 4 ++ rL b q6 4 ++ rL b q7 4 ++ rL b q8 2, q9) := by
    rw [tkN, t8]
    show (_ ++ rL b q8 2, rA b q8 2) = _
    rw [e9]
  have t10 : tkN b q0 [2, 2, 2, 2, 2, 4, 4, 4, 2, 2] 10 = ([] ++ rL b q0 2 ++ rL b q1 2 ++ rL b q2 2 ++ rL b q3 2 ++ rL b q4 2 ++ rL b q5 4 ++ rL b q6 4 ++ rL b q7 4 ++ rL b q8 2 ++ rL b q9 2, q10) := by
    rw [tkN, t9]
    show (_ ++ rL b q9 2, rA b q9 2) = _
    rw [e10]
  rw [t10]
  refine ⟨rfl, fun h => ?_⟩
  have z10 : (rA b q9 2).2 = 0 := by rw [e10]; exact h
  have y10 : q9.2 = 0 := rA_zero z10
  have z9 : (rA b q8 2).2 = 0 := by rw [e9]; exact y10
  have y9 : q8.2 = 0 := rA_zero z9
  have z8 : (rA b q7 4).2 = 0 := by rw [e8]; exact y9
  have y8 : q7.2 = 0 := rA_zero z8
  have z7 : (rA b q6 4).2 = 0 := by rw [e7]; exact y8
  have y7 : q6.2 = 0 := rA_zero z7
  have z6 : (rA b q5 4).2 = 0 := by rw [e6]; exact y7
  have y6 : q5.2 = 0 := rA_zero z6
  have z5 : (rA b q4 2).2 = 0 := by rw [e5]; exact y6
  have y5 : q4.2 = 0 := rA_zero z5
  have z4 : (rA b q3 2).2 = 0 := by rw [e4]; exact y5
  have y4 : q3.2 = 0 := rA_zero z4
  have z3 : (rA b q2 2).2 = 0 := by rw [e3]; exact y4
  have y3 : q2.2 = 0 := rA_zero z3
  have z2 : (rA b q1 2).2 = 0 := by rw [e2]; exact y3
  have y2 : q1.2 = 0 := rA_zero z2
  have z1 : (rA b q0 2).2 = 0 := by rw [e1]; exact y2
  have y1 : q0.2 = 0 := rA_zero z1
  obtain ⟨p1, hp1⟩ : ∃ p, rL b q0 2 = p := ⟨_, rfl⟩
  have l1 : p1.length = 2 := hp1 ▸ rL_full (n := 2) z1
  have b1 : Byt8 p1 := hp1 ▸ tkL_bytes0 hb
  replace v1 : num p1 = x1 := by rw [← hp1]; exact v1
  subst v1
  obtain ⟨p2, hp2⟩ : ∃ p, rL b q1 2 = p := ⟨_, rfl⟩
  have l2 : p2.length = 2 := hp2 ▸ rL_full (n := 2) z2
  have b2 : Byt8 p2 := hp2 ▸ tkL_bytes0 hb
  replace v2 : num p2 = x2 := by rw [← hp2]; exact v2
  subst v2
  obtain ⟨p3, hp3⟩ : ∃ p, rL b q2 2 = p := ⟨_, rfl⟩
  have l3 : p3.length = 2 := hp3 ▸ rL_full (n := 2) z3
  have b3 : Byt8 p3 := hp3 ▸ tkL_bytes0 hb
  replace v3 : num p3 = x3 := by rw [← hp3]; exact v3
  subst v3
  obtain ⟨p4, hp4⟩ : ∃ p, rL b q3 2 = p := ⟨_, rfl⟩
  have l4 : p4.length = 2 := hp4 ▸ rL_full (n := 2) z4
  have b4 : Byt8 p4 := hp4 ▸ tkL_bytes0 hb
  replace v4 : num p4 = x4 := by rw [← hp4]; exact v4
  subst v4
  obtain ⟨p5, hp5⟩ : ∃ p, rL b q4 2 = p := ⟨_, rfl⟩
  have l5 : p5.length = 2 := hp5 ▸ rL_full (n := 2) z5
  have b5 : Byt8 p5 := hp5 ▸ tkL_bytes0 hb
  replace v5 : num p5 = x5 := by rw [← hp5]; exact v5
  subst v5
  obtain ⟨p6, hp6⟩ : ∃ p, rL b q5 4 = p := ⟨_, rfl⟩
  have l6 : p6.length = 4 := hp6 ▸ rL_full (n := 4) z6
  have b6 : Byt8 p6 := hp6 ▸ tkL_bytes0 hb
  replace v6 : num p6 = x6 := by rw [← hp6]; exact v6
  subst v6
  obtain ⟨p7, hp7⟩ : ∃ p, rL b q6 4 = p := ⟨_, rfl⟩
  have l7 : p7.length = 4 := hp7 ▸ rL_full (n := 4) z7
  have b7 : Byt8 p7 := hp7 ▸ tkL_bytes0 hb
  replace v7 : num p7 = x7 := by rw [← hp7]; exact v7
  subst v7
  obtain ⟨p8, hp8⟩ : ∃ p, rL b q7 4 = p := ⟨_, rfl⟩
  have l8 : p8.length = 4 := hp8 ▸ rL_full (n := 4) z8
  have b8 : Byt8 p8 := hp8 ▸ tkL_bytes0 hb
  replace v8 : num p8 = x8 := by rw [← hp8]; exact v8
  subst v8
  obtain ⟨p9, hp9⟩ : ∃ p, rL b q8 2 = p := ⟨_, rfl⟩
  have l9 : p9.length = 2 := hp9 ▸ rL_full (n := 2) z9
  have b9 : Byt8 p9 := hp9 ▸ tkL_bytes0 hb
  replace v9 : num p9 = x9 := by rw [← hp9]; exact v9
  subst v9
  obtain ⟨p10, hp10⟩ : ∃ p, rL b q9 2 = p := ⟨_, rfl⟩
  have l10 : p10.length = 2 := hp10 ▸ rL_full (n := 2) z10
  have b10 : Byt8 p10 := hp10 ▸ tkL_bytes0 hb
  replace v10 : num p10 = x10 := by rw [← hp10]; exact v10
  subst v10
  rw [hp1, hp2, hp3, hp4, hp5, hp6, hp7, hp8, hp9, hp10]
  clear t1 e1 z1 hp1 t2 e2 z2 hp2 t3 e3 z3 hp3 t4 e4 z4 hp4 t5 e5 z5 hp5 t6 e6 z6 hp6 t7 e7 z7 hp7 t8 e8 z8 hp8 t9 e9 z9 hp9 t10 e10 z10 hp10
  refine ⟨_, rfl, ?_⟩
  have hlen : ([] ++ p1 ++ p2 ++ p3 ++ p4 ++ p5 ++ p6 ++ p7 ++ p8 ++ p9 ++ p10).length = 26 := by simp only [List.length_append, List.length_nil]; omega
  refine ⟨hlen, ?_, ?_, ?_, ?_⟩
  · intro x hx
    simp only [List.mem_append, List.not_mem_nil, false_or] at hx
    rcases hx with ((((((((h | h) | h) | h) | h) | h) | h) | h) | h) | h
    all_goals first | exact b1 _ h | exact b2 _ h | exact b3 _ h | exact b4 _ h | exact b5 _ h | exact b6 _ h | exact b7 _ h | exact b8 _ h | exact b9 _ h | exact b10 _ h
  · have e : ([] ++ p1 ++ p2 ++ p3 ++ p4 ++ p5 ++ p6 ++ p7 ++ p8 ++ p9 ++ p10).drop 0 = p1 ++ (p2 ++ (p3 ++ (p4 ++ (p5 ++ (p6 ++ (p7 ++ (p8 ++ ((p9 ++ (p10)))))))))) := by
      have e2 : ([] ++ p1 ++ p2 ++ p3 ++ p4 ++ p5 ++ p6 ++ p7 ++ p8 ++ p9 ++ p10) = ([]) ++ (p1 ++ (p2 ++ (p3 ++ (p4 ++ (p5 ++ (p6 ++ (p7 ++ (p8 ++ ((p9 ++ (p10))))))))))) := by first | simp only [List.append_assoc, List.nil_append] | rfl
      rw [e2]
      exact List.drop_left' (by first | rfl | omega | (simp only [List.length_append, List.length_nil]; try omega))
    rw [e]
    exact head_cat l1 b1 l2 b2 l3 b3 l4 b4 l5 b5 l6 b6 l7 b7 l8 b8 (by simp only [List.length_append]; omega)
  · have e : ([] ++ p1 ++ p2 ++ p3 ++ p4 ++ p5 ++ p6 ++ p7 ++ p8 ++ p9 ++ p10) = (p1 ++ p2 ++ p3 ++ p4 ++ p5 ++ p6 ++ p7 ++ p8) ++ (p9 ++ (p10)) := by first | simp only [List.append_assoc, List.nil_append, List.append_nil] | rfl
    have hl := hlen
    rw [e] at hl ⊢
    exact at_cat (i := 22) (by first | rfl | omega | (simp only [List.length_append, List.length_nil]; try omega)) l9 b9 (by omega)
  · have e : ([] ++ p1 ++ p2 ++ p3 ++ p4 ++ p5 ++ p6 ++ p7 ++ p8 ++ p9 ++ p10) = (p1 ++ p2 ++ p3 ++ p4 ++ p5 ++ p6 ++ p7 ++ p8 ++ p9) ++ (p10 ++ (([] : List Int))) := by first | simp only [List.append_assoc, List.nil_append, List.append_nil] | rfl
    have hl := hlen
    rw [e] at hl ⊢
    exact at_cat (i := 24) (by first | rfl | omega | (simp only [List.length_append, List.length_nil]; try omega)) l10 b10 (by omega)
theorem ceP {b : List Int} {q0 q1 q2 q3 q4 q5 q6 q7 q8 q9 q10 q11 q12 q13 q14 q15 q16 : Sta} {x1 x2 x3 x4 x5 x6 x7 x8 x9 x10 x11 x12 x13 x14 x15 x16 : Int} (hb : ∀ x ∈ b, 0 ≤ x ∧ x ≤ 255) (e1 : rA b q0 2 = q1) (v1 : rV b q0 2 = x1) (e2 : rA b q1 2 = q2) (v2 : rV b q1 2 = x2) (e3 : rA b q2 2 = q3) (v3 : rV b q2 2 = x3) (e4 : rA b q3 2 = q4) (v4 : rV b q3 2 = x4) (e5 : rA b q4 2 = q5) (v5 : rV b q4 2 = x5) (e6 : rA b q5 2 = q6) (v6 : rV b q5 2 = x6) (e7 : rA b q6 4 = q7) (v7 : rV b q6 4 = x7) (e8 : rA b q7 4 = q8) (v8 : rV b q7 4 = x8) (e9 : rA b q8 4 = q9) (v9 : rV b q8 4 = x9) (e10 : rA b q9 2 = q10) (v10 : rV b q9 2 = x10) (e11 : rA b q10 2 = q11) (v11 : rV b q10 2 = x11) (e12 : rA b q11 2 = q12) (v12 : rV b q11 2 = x12) (e13 : rA b q12 2 = q13) (v13 : rV b q12 2 = x13) (e14 : rA b q13 2 = q14) (v14 : rV b q13 2 = x14) (e15 : rA b q14 4 = q15) (v15 : rV b q14 4 = x15) (e16 : rA b q15 4 = q16) (v16 : rV b q15 4 = x16) : (tkN b q0 [2, 2, 2, 2, 2, 2, 4, 4, 4, 2, 2, 2, 2, 2, 4, 4] 16).2 = q16 ∧ (q16.2 = 0 → ∃ D, (tkN b q0 [2, 2, 2, 2, 2, 2, 4, 4, 4, 2, 2, 2, 2, 2, 4, 4] 16).1 = D ∧ D.length = 42 ∧ Byt8 D ∧ duffelref24_head.f 10 (D.drop 2) = some (x2, x3, x4, x5, x6, x7, x8, x9, [], []) ∧ duffelref24_at.f 10 D 0 = some x1 ∧ duffelref24_at.f 10 D 24 = some x10 ∧ duffelref24_at.f 10 D 26 = some x11 ∧ duffelref24_at.f 10 D 28 = some x12 ∧ duffelref24_at.f 10 D 30 = some x13 ∧ duffelref24_at.f 10 D 32 = some x14 ∧ duffelref02_Num.f 10 ((D.take 38).drop 34) = some x15 ∧ duffelref02_Num.f 10 ((D.take 42).drop 38) = some x16) := by
  have t1 : tkN b q0 [2, 2, 2, 2, 2, 2, 4, 4, 4, 2, 2, 2, 2, 2, 4, 4] 1 = ([] ++ rL b q0 2, q1) := by
    rw [tkN, tkN]
    show (_ ++ rL b q0 2, rA b q0 2) = _
    rw [e1]
  have t2 : tkN b q0 [2, 2, 2, 2, 2, 2, 4, 4, 4, 2, 2, 2, 2, 2, 4, 4] 2 = ([] ++ rL b q0 2 ++ rL b q1 2, q2) := by
    rw [tkN, t1]
    show (_ ++ rL b q1 2, rA b q1 2) = _
    rw [e2]
  have t3 : tkN b q0 [2, 2, 2, 2, 2, 2, 4, 4, 4, 2, 2, 2, 2, 2, 4, 4] 3 = ([] ++ rL b q0 2 ++ rL b q1 2 ++ rL b q2 2, q3) := by
    rw [tkN, t2]
    show (_ ++ rL b q2 2, rA b q2 2) = _
    rw [e3]
  have t4 : tkN b q0 [2, 2, 2, 2, 2, 2, 4, 4, 4, 2, 2, 2, 2, 2, 4, 4] 4 = ([] ++ rL b q0 2 ++ rL b q1 2 ++ rL b q2 2 ++ rL b q3 2, q4) := by
    rw [tkN, t3]
    show (_ ++ rL b q3 2, rA b q3 2) = _
    rw [e4]
  have t5 : tkN b q0 [2, 2, 2, 2, 2, 2, 4, 4, 4, 2, 2, 2, 2, 2, 4, 4] 5 = ([] ++ rL b q0 2 ++ rL b q1 2 ++ rL b q2 2 ++ rL b q3 2 ++ rL b q4 2, q5) := by
    rw [tkN, t4]
    show (_ ++ rL b q4 2, rA b q4 2) = _
    rw [e5]
  have t6 : tkN b q0 [2, 2, 2, 2, 2, 2, 4, 4, 4, 2, 2, 2, 2, 2, 4, 4] 6 = ([] ++ rL b q0 2 ++ rL b q1 2 ++ rL b q2 2 ++ rL b q3 2 ++ rL b q4 2 ++ rL b q5 2, q6) := by
    rw [tkN, t5]
    show (_ ++ rL b q5 2, rA b q5 2) = _
    rw [e6]
  have t7 : tkN b q0 [2, 2, 2, 2, 2, 2, 4, 4, 4, 2, 2, 2, 2, 2, 4, 4] 7 = ([] ++ rL b q0 2 ++ rL b q1 2 ++ rL b q2 2 ++ rL b q3 2 ++ rL b q4 2 ++ rL b q5 2 ++ rL b q6 4, q7) := by
    rw [tkN, t6]
    show (_ ++ rL b q6 4, rA b q6 4) = _
    rw [e7]
  have t8 : tkN b q0 [2, 2, 2, 2, 2, 2, 4, 4, 4, 2, 2, 2, 2, 2, 4, 4] 8 = ([] ++ rL b q0 2 ++ rL b q1 2 ++ rL b q2 2 ++ rL b q3 2 ++ rL b q4 2 ++ rL b q5 2 ++ rL b q6 4 ++ rL b q7 4, q8) := by
    rw [tkN, t7]
    show (_ ++ rL b q7 4, rA b q7 4) = _
    rw [e8]
  have t9 : tkN b q0 [2, 2, 2, 2, 2, 2, 4, 4, 4, 2, 2, 2, 2, 2, 4, 4] 9 = ([] ++ rL b q0 2 ++ rL b q1 2 ++ rL b q2 2 ++ rL b q3 2 ++ rL b q4 2 ++ rL b q5 2 ++ rL b q6 4 ++ rL b q7 4 ++ rL b q8 4, q9) := by
    rw [tkN, t8]
    show (_ ++ rL b q8 4, rA b q8 4) = _
    rw [e9]
  have t10 : tkN b q0 [2, 2, 2, 2, 2, 2, 4, 4, 4, 2, 2, 2, 2, 2, 4, 4] 10 = ([] ++ rL b q0 2 ++ rL b q1 2 ++ rL b q2 2 ++ rL b q3 2 ++ rL b q4 2 ++ rL b q5 2 ++ rL b q6 4 ++ rL b q7 4 ++ rL b q8 4 ++ rL b q9 2, q10) := by
    rw [tkN, t9]
    show (_ ++ rL b q9 2, rA b q9 2) = _
    rw [e10]
  have t11 : tkN b q0 [2, 2, 2, 2, 2, 2, 4, 4, 4, 2, 2, 2, 2, 2, 4, 4] 11 = ([] ++ rL b q0 2 ++ rL b q1 2 ++ rL b q2 2 ++ rL b q3 2 ++ rL b q4 2 ++ rL b q5 2 ++ rL b q6 4 ++ rL b q7 4 ++ rL b q8 4 ++ rL b q9 2 ++ rL b q10 2, q11) := by
    rw [tkN, t10]
    show (_ ++ rL b q10 2, rA b q10 2) = _
    rw [e11]
  have t12 : tkN b q0 [2, 2, 2, 2, 2, 2, 4, 4, 4, 2, 2, 2, 2, 2, 4, 4] 12 = ([] ++ rL b q0 2 ++ rL b q1 2 ++ rL b q2 2 ++ rL b q3 2 ++ rL b q4 2 ++ rL b q5 2 ++ rL b q6 4 ++ rL b q7 4 ++ rL b q8 4 ++ rL b q9 2 ++ rL b q10 2 ++ rL b q11 2, q12) := by
    rw [tkN, t11]
    show (_ ++ rL b q11 2, rA b q11 2) = _
    rw [e12]
  have t13 : tkN b q0 [2, 2, 2, 2, 2, 2, 4, 4, 4, 2, 2, 2, 2, 2, 4, 4] 13 = ([] ++ rL b q0 2 ++ rL b q1 2 ++ rL b q2 2 ++ rL b q3 2 ++ rL b q4 2 ++ rL b q5 2 ++ rL b q6 4 ++ rL b q7 4 ++ rL b q8 4 ++ rL b q9 2 ++ rL b q10 2 ++ rL b q11 2 ++ rL b q12 2, q13) := by
    rw [tkN, t12]
    show (_ ++ rL b q12 2, rA b q12 2) = _
    rw [e13]
  have t14 : tkN b q0 [2, 2, 2, 2, 2, 2, 4, 4, 4, 2, 2, 2, 2, 2, 4, 4] 14 = ([] ++ rL b q0 2 ++ rL b q1 2 ++ rL b q2 2 ++ rL b q3 2 ++ rL b q4 2 ++ rL b q5 2 ++ rL b q6 4 ++ rL b q7 4 ++ rL b q8 4 ++ rL b q9 2 ++ rL b q10 2 ++ rL b q11 2 ++ rL b q12 2 ++ rL b q13 2, q14) := by
    rw [tkN, t13]
    show (_ ++ rL b q13 2, rA b q13 2) = _
    rw [e14]
  have t15 : tkN b q0 [2, 2, 2, 2, 2, 2, 4, 4, 4, 2, 2, 2, 2, 2, 4, 4] 15 = ([] ++ rL b q0 2 ++ rL b q1 2 ++ rL b q2 2 ++ rL b q3 2 ++ rL b q4 2 ++ rL b q5 2 ++ rL b q6 4 ++ rL b q7 4 ++ rL b q8 4 ++ rL b q9 2 ++ rL b q10 2 ++ rL b q11 2 ++ rL b q12 2 ++ rL b q13 2 ++ rL b q14 4, q15) := by
    rw [tkN, t14]
    show (_ ++ rL b q14 4, rA b q14 4) = _
    rw [e15]
  have t16 : tkN b q0 [2, 2, 2, 2, 2, 2, 4, 4, 4, 2, 2, 2, 2, 2, 4, 4] 16 = ([] ++ rL b q0 2 ++ rL b q1 2 ++ rL b q2 2 ++ rL b q3 2 ++ rL b q4 2 ++ rL b q5 2 ++ rL b q6 4 ++ rL b q7 4 ++ rL b q8 4 ++ rL b q9 2 ++ rL b q10 2 ++ rL b q11 2 ++ rL b q12 2 ++ rL b q13 2 ++ rL b q14 4 ++ rL b q15 4, q16) := by
    rw [tkN, t15]
    show (_ ++ rL b q15 4, rA b q15 4) = _
    rw [e16]
  rw [t16]
  refine ⟨rfl, fun h => ?_⟩
  have z16 : (rA b q15 4).2 = 0 := by rw [e16]; exact h
  have y16 : q15.2 = 0 := rA_zero z16
  have z15 : (rA b q14 4).2 = 0 := by rw [e15]; exact y16
  have y15 : q14.2 = 0 := rA_zero z15
  have z14 : (rA b q13 2).2 = 0 := by rw [e14]; exact y15
  have y14 : q13.2 = 0 := rA_zero z14
  have z13 : (rA b q12 2).2 = 0 := by rw [e13]; exact y14
  have y13 : q12.2 = 0 := rA_zero z13
  have z12 : (rA b q11 2).2 = 0 := by rw [e12]; exact y13
  have y12 : q11.2 = 0 := rA_zero z12
  have z11 : (rA b q10 2).2 = 0 := by rw [e11]; exact y12
  have y11 : q10.2 = 0 := rA_zero z11
  have z10 : (rA b q9 2).2 = 0 := by rw [e10]; exact y11
  have y10 : q9.2 = 0 := rA_zero z10
  have z9 : (rA b q8 4).2 = 0 := by rw [e9]; exact y10
  have y9 : q8.2 = 0 := rA_zero z9
  have z8 : (rA b q7 4).2 = 0 := by rw [e8]; exact y9
  have y8 : q7.2 = 0 := rA_zero z8
  have z7 : (rA b q6 4).2 = 0 := by rw [e7]; exact y8
  have y7 : q6.2 = 0 := rA_zero z7
  have z6 : (rA b q5 2).2 = 0 := by rw [e6]; exact y7
  have y6 : q5.2 = 0 := rA_zero z6
  have z5 : (rA b q4 2).2 = 0 := by rw [e5]; exact y6
  have y5 : q4.2 = 0 := rA_zero z5
  have z4 : (rA b q3 2).2 = 0 := by rw [e4]; exact y5
  have y4 : q3.2 = 0 := rA_zero z4
  have z3 : (rA b q2 2).2 = 0 := by rw [e3]; exact y4
  have y3 : q2.2 = 0 := rA_zero z3
  have z2 : (rA b q1 2).2 = 0 := by rw [e2]; exact y3
  have y2 : q1.2 = 0 := rA_zero z2
  have z1 : (rA b q0 2).2 = 0 := by rw [e1]; exact y2
  have y1 : q0.2 = 0 := rA_zero z1
  obtain ⟨p1, hp1⟩ : ∃ p, rL b q0 2 = p := ⟨_, rfl⟩
  have l1 : p1.length = 2 := hp1 ▸ rL_full (n := 2) z1
  have b1 : Byt8 p1 := hp1 ▸ tkL_bytes0 hb
  replace v1 : num p1 = x1 := by rw [← hp1]; exact v1
  subst v1
  obtain ⟨p2, hp2⟩ : ∃ p, rL b q1 2 = p := ⟨_, rfl⟩
  have l2 : p2.length = 2 := hp2 ▸ rL_full (n := 2) z2
  have b2 : Byt8 p2 := hp2 ▸ tkL_bytes0 hb
  replace v2 : num p2 = x2 := by rw [← hp2]; exact v2
  subst v2
  obtain ⟨p3, hp3⟩ : ∃ p, rL b q2 2 = p := ⟨_, rfl⟩
  have l3 : p3.length = 2 := hp3 ▸ rL_full (n := 2) z3
  have b3 : Byt8 p3 := hp3 ▸ tkL_bytes0 hb
  replace v3 : num p3 = x3 := by rw [← hp3]; exact v3
  subst v3
  obtain ⟨p4, hp4⟩ : ∃ p, rL b q3 2 = p := ⟨_, rfl⟩
  have l4 : p4.length = 2 := hp4 ▸ rL_full (n := 2) z4
  have b4 : Byt8 p4 := hp4 ▸ tkL_bytes0 hb
  replace v4 : num p4 = x4 := by rw [← hp4]; exact v4
  subst v4
  obtain ⟨p5, hp5⟩ : ∃ p, rL b q4 2 = p := ⟨_, rfl⟩
  have l5 : p5.length = 2 := hp5 ▸ rL_full (n := 2) z5
  have b5 : Byt8 p5 := hp5 ▸ tkL_bytes0 hb
  replace v5 : num p5 = x5 := by rw [← hp5]; exact v5
  subst v5
  obtain ⟨p6, hp6⟩ : ∃ p, rL b q5 2 = p := ⟨_, rfl⟩
  have l6 : p6.length = 2 := hp6 ▸ rL_full (n := 2) z6
  have b6 : Byt8 p6 := hp6 ▸ tkL_bytes0 hb
  replace v6 : num p6 = x6 := by rw [← hp6]; exact v6
  subst v6
  obtain ⟨p7, hp7⟩ : ∃ p, rL b q6 4 = p := ⟨_, rfl⟩
  have l7 : p7.length = 4 := hp7 ▸ rL_full (n := 4) z7
  have b7 : Byt8 p7 := hp7 ▸ tkL_bytes0 hb
  replace v7 : num p7 = x7 := by rw [← hp7]; exact v7
  subst v7
  obtain ⟨p8, hp8⟩ : ∃ p, rL b q7 4 = p := ⟨_, rfl⟩
  have l8 : p8.length = 4 := hp8 ▸ rL_full (n := 4) z8
  have b8 : Byt8 p8 := hp8 ▸ tkL_bytes0 hb
  replace v8 : num p8 = x8 := by rw [← hp8]; exact v8
  subst v8
  obtain ⟨p9, hp9⟩ : ∃ p, rL b q8 4 = p := ⟨_, rfl⟩
  have l9 : p9.length = 4 := hp9 ▸ rL_full (n := 4) z9
  have b9 : Byt8 p9 := hp9 ▸ tkL_bytes0 hb
  replace v9 : num p9 = x9 := by rw [← hp9]; exact v9
  subst v9
  obtain ⟨p10, hp10⟩ : ∃ p, rL b q9 2 = p := ⟨_, rfl⟩
  have l10 : p10.length = 2 := hp10 ▸ rL_full (n := 2) z10
  have b10 : Byt8 p10 := hp10 ▸ tkL_bytes0 hb
  replace v10 : num p10 = x10 := by rw [← hp10]; exact v10
  subst v10
  obtain ⟨p11, hp11⟩ : ∃ p, rL b q10 2 = p := ⟨_, rfl⟩
  have l11 : p11.length = 2 := hp11 ▸ rL_full (n := 2) z11
  have b11 : Byt8 p11 := hp11 ▸ tkL_bytes0 hb
  replace v11 : num p11 = x11 := by rw [← hp11]; exact v11
  subst v11
  obtain ⟨p12, hp12⟩ : ∃ p, rL b q11 2 = p := ⟨_, rfl⟩
  have l12 : p12.length = 2 := hp12 ▸ rL_full (n := 2) z12
  have b12 : Byt8 p12 := hp12 ▸ tkL_bytes0 hb
  replace v12 : num p12 = x12 := by rw [← hp12]; exact v12
  subst v12
  obtain ⟨p13, hp13⟩ : ∃ p, rL b q12 2 = p := ⟨_, rfl⟩
  have l13 : p13.length = 2 := hp13 ▸ rL_full (n := 2) z13
  have b13 : Byt8 p13 := hp13 ▸ tkL_bytes0 hb
  replace v13 : num p13 = x13 := by rw [← hp13]; exact v13
  subst v13
  obtain ⟨p14, hp14⟩ : ∃ p, rL b q13 2 = p := ⟨_, rfl⟩
  have l14 : p14.length = 2 := hp14 ▸ rL_full (n := 2) z14
  have b14 : Byt8 p14 := hp14 ▸ tkL_bytes0 hb
  replace v14 : num p14 = x14 := by rw [← hp14]; exact v14
  subst v14
  obtain ⟨p15, hp15⟩ : ∃ p, rL b q14 4 = p := ⟨_, rfl⟩
  have l15 : p15.length = 4 := hp15 ▸ rL_full (n := 4) z15
  have b15 : Byt8 p15 := hp15 ▸ tkL_bytes0 hb
  replace v15 : num p15 = x15 := by rw [← hp15]; exact v15
  subst v15
  obtain ⟨p16, hp16⟩ : ∃ p, rL b q15 4 = p := ⟨_, rfl⟩
  have l16 : p16.length = 4 := hp16 ▸ rL_full (n := 4) z16
  have b16 : Byt8 p16 := hp16 ▸ tkL_bytes0 hb
  replace v16 : num p16 = x16 := by rw [← hp16]; exact v16
  subst v16
  rw [hp1, hp2, hp3, hp4, hp5, hp6, hp7, hp8, hp9, hp10, hp11, hp12, hp13, hp14, hp15, hp16]
  clear t1 e1 z1 hp1 t2 e2 z2 hp2 t3 e3 z3 hp3 t4 e4 z4 hp4 t5 e5 z5 hp5 t6 e6 z6 hp6 t7 e7 z7 hp7 t8 e8 z8 hp8 t9 e9 z9 hp9 t10 e10 z10 hp10 t11 e11 z11 hp11 t12 e12 z12 hp12 t13 e13 z13 hp13 t14 e14 z14 hp14 t15 e15 z15 hp15 t16 e16 z16 hp16
  refine ⟨_, rfl, ?_⟩
  have hlen : ([] ++ p1 ++ p2 ++ p3 ++ p4 ++ p5 ++ p6 ++ p7 ++ p8 ++ p9 ++ p10 ++ p11 ++ p12 ++ p13 ++ p14 ++ p15 ++ p16).length = 42 := by simp only [List.length_append, List.length_nil]; omega
  refine ⟨hlen, ?_, ?_, ?_, ?_, ?_, ?_, ?_, ?_, ?_, ?_⟩
  · intro x hx
    simp only [List.mem_append, List.not_mem_nil, false_or] at hx
    rcases hx with ((((((((((((((h | h) | h) | h) | h) | h) | h) | h) | h) | h) | h) | h) | h) | h) | h) | h
    all_goals first | exact b1 _ h | exact b2 _ h | exact b3 _ h | exact b4 _ h | exact b5 _ h | exact b6 _ h | exact b7 _ h | exact b8 _ h | exact b9 _ h | exact b10 _ h | exact b11 _ h | exact b12 _ h | exact b13 _ h | exact b14 _ h | exact b15 _ h | exact b16 _ h
  · have e : ([] ++ p1 ++ p2 ++ p3 ++ p4 ++ p5 ++ p6 ++ p7 ++ p8 ++ p9 ++ p10 ++ p11 ++ p12 ++ p13 ++ p14 ++ p15 ++ p16).drop 2 = p2 ++ (p3 ++ (p4 ++ (p5 ++ (p6 ++ (p7 ++ (p8 ++ (p9 ++ ((p10 ++ (p11 ++ (p12 ++ (p13 ++ (p14 ++ (p15 ++ (p16))))))))))))))) := by
      have e2 : ([] ++ p1 ++ p2 ++ p3 ++ p4 ++ p5 ++ p6 ++ p7 ++ p8 ++ p9 ++ p10 ++ p11 ++ p12 ++ p13 ++ p14 ++ p15 ++ p16) = (p1) ++ (p2 ++ (p3 ++ (p4 ++ (p5 ++ (p6 ++ (p7 ++ (p8 ++ (p9 ++ ((p10 ++ (p11 ++ (p12 ++ (p13 ++ (p14 ++ (p15 ++ (p16)))))))))))))))) := by first | simp only [List.append_assoc, List.nil_append] | rfl
      rw [e2]
      exact List.drop_left' (by first | rfl | omega | (simp only [List.length_append, List.length_nil]; try omega))
    rw [e]
    exact head_cat l2 b2 l3 b3 l4 b4 l5 b5 l6 b6 l7 b7 l8 b8 l9 b9 (by simp only [List.length_append]; omega)
  · have e : ([] ++ p1 ++ p2 ++ p3 ++ p4 ++ p5 ++ p6 ++ p7 ++ p8 ++ p9 ++ p10 ++ p11 ++ p12 ++ p13 ++ p14 ++ p15 ++ p16) = (([] : List Int)) ++ (p1 ++ (p2 ++ (p3 ++ (p4 ++ (p5 ++ (p6 ++ (p7 ++ (p8 ++ (p9 ++ (p10 ++ (p11 ++ (p12 ++ (p13 ++ (p14 ++ (p15 ++ (p16)))))))))))))))) := by first | simp only [List.append_assoc, List.nil_append, List.append_nil] | rfl
    have hl := hlen
    rw [e] at hl ⊢
    exact at_cat (i := 0) (by first | rfl | omega | (simp only [List.length_append, List.length_nil]; try omega)) l1 b1 (by omega)
  · have e : ([] ++ p1 ++ p2 ++ p3 ++ p4 ++ p5 ++ p6 ++ p7 ++ p8 ++ p9 ++ p10 ++ p11 ++ p12 ++ p13 ++ p14 ++ p15 ++ p16) = (p1 ++ p2 ++ p3 ++ p4 ++ p5 ++ p6 ++ p7 ++ p8 ++ p9) ++ (p10 ++ (p11 ++ (p12 ++ (p13 ++ (p14 ++ (p15 ++ (p16))))))) := by first | simp only [List.append_assoc, List.nil_append, List.append_nil] | rfl
    have hl := hlen
    rw [e] at hl ⊢
    exact at_cat (i := 24) (by first | rfl | omega | (simp only [List.length_append, List.length_nil]; try omega)) l10 b10 (by omega)
  · have e : ([] ++ p1 ++ p2 ++ p3 ++ p4 ++ p5 ++ p6 ++ p7 ++ p8 ++ p9 ++ p10 ++ p11 ++ p12 ++ p13 ++ p14 ++ p15 ++ p16) = (p1 ++ p2 ++ p3 ++ p4 ++ p5 ++ p6 ++ p7 ++ p8 ++ p9 ++ p10) ++ (p11 ++ (p12 ++ (p13 ++ (p14 ++ (p15 ++ (p16)))))) := by first | simp only [List.append_assoc, List.nil_append, List.append_nil] | rfl
    have hl := hlen
    rw [e] at hl ⊢
    exact at_cat (i := 26) (by first | rfl | omega | (simp only [List.length_append, List.length_nil]; try omega)) l11 b11 (by omega)
  · have e : ([] ++ p1 ++ p2 ++ p3 ++ p4 ++ p5 ++ p6 ++ p7 ++ p8 ++ p9 ++ p10 ++ p11 ++ p12 ++ p13 ++ p14 ++ p15 ++ p16) = (p1 ++ p2 ++ p3 ++ p4 ++ p5 ++ p6 ++ p7 ++ p8 ++ p9 ++ p10 ++ p11) ++ (p12 ++ (p13 ++ (p14 ++ (p15 ++ (p16))))) := by first | simp only [List.append_assoc, List.nil_append, List.append_nil] | rfl
    have hl := hlen
    rw [e] at hl ⊢
    exact at_cat (i := 28) (by first | rfl | omega | (simp only [List.length_append, List.length_nil]; try omega)) l12 b12 (by omega)
  · have e : ([] ++ p1 ++ p2 ++ p3 ++ p4 ++ p5 ++ p6 ++ p7 ++ p8 ++ p9 ++ p10 ++ p11 ++ p12 ++ p13 ++ p14 ++ p15 ++ p16) = (p1 ++ p2 ++ p3 ++ p4 ++ p5 ++ p6 ++ p7 ++ p8 ++ p9 ++ p10 ++ p11 ++ p12) ++ (p13 ++ (p14 ++ (p15 ++ (p16)))) := by first | simp only [List.append_assoc, List.nil_append, List.append_nil] | rfl
    have hl := hlen
    rw [e] at hl ⊢
    exact at_cat (i := 30) (by first | rfl | omega | (simp only [List.length_append, List.length_nil]; try omega)) l13 b13 (by omega)
  · have e : ([] ++ p1 ++ p2 ++ p3 ++ p4 ++ p5 ++ p6 ++ p7 ++ p8 ++ p9 ++ p10 ++ p11 ++ p12 ++ p13 ++ p14 ++ p15 ++ p16) = (p1 ++ p2 ++ p3 ++ p4 ++ p5 ++ p6 ++ p7 ++ p8 ++ p9 ++ p10 ++ p11 ++ p12 ++ p13) ++ (p14 ++ (p15 ++ (p16))) := by first | simp only [List.append_assoc, List.nil_append, List.append_nil] | rfl
    have hl := hlen
    rw [e] at hl ⊢
    exact at_cat (i := 32) (by first | rfl | omega | (simp only [List.length_append, List.length_nil]; try omega)) l14 b14 (by omega)
  · have e : ([] ++ p1 ++ p2 ++ p3 ++ p4 ++ p5 ++ p6 ++ p7 ++ p8 ++ p9 ++ p10 ++ p11 ++ p12 ++ p13 ++ p14 ++ p15 ++ p16) = (p1 ++ p2 ++ p3 ++ p4 ++ p5 ++ p6 ++ p7 ++ p8 ++ p9 ++ p10 ++ p11 ++ p12 ++ p13 ++ p14) ++ (p15 ++ (p16)) := by first | simp only [List.append_assoc, List.nil_append, List.append_nil] | rfl
    have hl := hlen
    rw [e] at hl ⊢
    rw [show 38 = 34 + 4 from rfl, cut_cat (i := 34) (m := 4) (by simp only [List.length_append]; omega) l15]
    exact num_run p15 b15 (by omega) 10 (by decide)
  · have e : ([] ++ p1 ++ p2 ++ p3 ++ p4 ++ p5 ++ p6 ++ p7 ++ p8 ++ p9 ++ p10 ++ p11 ++ p12 ++ p13 ++ p14 ++ p15 ++ p16) = (p1 ++ p2 ++ p3 ++ p4 ++ p5 ++ p6 ++ p7 ++ p8 ++ p9 ++ p10 ++ p11 ++ p12 ++ p13 ++ p14 ++ p15) ++ (p16 ++ (([] : List Int))) := by first | simp only [List.append_assoc, List.nil_append, List.append_nil] | rfl
    have hl := hlen
    rw [e] at hl ⊢
    rw [show 42 = 38 + 4 from rfl, cut_cat (i := 38) (m := 4) (by simp only [List.length_append]; omega) l16]
    exact num_run p16 b16 (by omega) 10 (by decide)
theorem enP {b : List Int} {q0 q1 q2 q3 q4 q5 q6 q7 : Sta} {x1 x2 x3 x4 x5 x6 x7 : Int} (hb : ∀ x ∈ b, 0 ≤ x ∧ x ≤ 255) (e1 : rA b q0 2 = q1) (v1 : rV b q0 2 = x1) (e2 : rA b q1 2 = q2) (v2 : rV b q1 2 = x2) (e3 : rA b q2 2 = q3) (v3 : rV b q2 2 = x3) (e4 : rA b q3 2 = q4) (v4 : rV b q3 2 = x4) (e5 : rA b q4 4 = q5) (v5 : rV b q4 4 = x5) (e6 : rA b q5 4 = q6) (v6 : rV b q5 4 = x6) (e7 : rA b q6 2 = q7) (v7 : rV b q6 2 = x7) : (tkN b q0 [2, 2, 2, 2, 4, 4, 2] 7).2 = q7 ∧ (q7.2 = 0 → ∃ D, (tkN b q0 [2, 2, 2, 2, 4, 4, 2] 7).1 = D ∧ D.length = 18 ∧ Byt8 D ∧ duffelref24_at.f 10 D 0 = some x1 ∧ duffelref24_at.f 10 D 2 = some x2 ∧ duffelref24_at.f 10 D 4 = some x3 ∧ duffelref24_at.f 10 D 6 = some x4 ∧ duffelref24_at.f 10 D 16 = some x7 ∧ duffelref02_Num.f 10 ((D.take 12).drop 8) = some x5 ∧ duffelref02_Num.f 10 ((D.take 16).drop 12) = some x6) := by
  have t1 : tkN b q0 [2, 2, 2, 2, 4, 4, 2] 1 = ([] ++ rL b q0 2, q1) := by
    rw [tkN, tkN]
    show (_ ++ rL b q0 2, rA b q0 2) = _
    rw [e1]
  have t2 : tkN b q0 [2, 2, 2, 2, 4, 4, 2] 2 = ([] ++ rL b q0 2 ++ rL b q1 2, q2) := by
    rw [tkN, t1]
    show (_ ++ rL b q1 2, rA b q1 2) = _
    rw [e2]
  have t3 : tkN b q0 [2, 2, 2, 2, 4, 4, 2] 3 = ([] ++ rL b q0 2 ++ rL b q1 2 ++ rL b q2 2, q3) := by
    rw [tkN, t2]
    show (_ ++ rL b q2 2, rA b q2 2) = _
    rw [e3]
  have t4 : tkN b q0 [2, 2, 2, 2, 4, 4, 2] 4 = ([] ++ rL b q0 2 ++ rL b q1 2 ++ rL b q2 2 ++ rL b q3 2, q4) := by
    rw [tkN, t3]
    show (_ ++ rL b q3 2, rA b q3 2) = _
    rw [e4]
  have t5 : tkN b q0 [2, 2, 2, 2, 4, 4, 2] 5 = ([] ++ rL b q0 2 ++ rL b q1 2 ++ rL b q2 2 ++ rL b q3 2 ++ rL b q4 4, q5) := by
    rw [tkN, t4]
    show (_ ++ rL b q4 4, rA b q4 4) = _
    rw [e5]
  have t6 : tkN b q0 [2, 2, 2, 2, 4, 4, 2] 6 = ([] ++ rL b q0 2 ++ rL b q1 2 ++ rL b q2 2 ++ rL b q3 2 ++ rL b q4 4 ++ rL b q5 4, q6) := by
    rw [tkN, t5]
    show (_ ++ rL b q5 4, rA b q5 4) = _
    rw [e6]
  have t7 : tkN b q0 [2, 2, 2, 2, 4, 4, 2] 7 = ([] ++ rL b q0 2 ++ rL b q1 2 ++ rL b q2 2 ++ rL b q3 2 ++ rL b q4 4 ++ rL b q5 4 ++ rL b q6 2, q7) := by
    rw [tkN, t6]
    show (_ ++ rL b q6 2, rA b q6 2) = _
    rw [e7]
  rw [t7]
  refine ⟨rfl, fun h => ?_⟩
  have z7 : (rA b q6 2).2 = 0 := by rw [e7]; exact h
  have y7 : q6.2 = 0 := rA_zero z7
  have z6 : (rA b q5 4).2 = 0 := by rw [e6]; exact y7
  have y6 : q5.2 = 0 := rA_zero z6
  have z5 : (rA b q4 4).2 = 0 := by rw [e5]; exact y6
  have y5 : q4.2 = 0 := rA_zero z5
  have z4 : (rA b q3 2).2 = 0 := by rw [e4]; exact y5
  have y4 : q3.2 = 0 := rA_zero z4
  have z3 : (rA b q2 2).2 = 0 := by rw [e3]; exact y4
  have y3 : q2.2 = 0 := rA_zero z3
  have z2 : (rA b q1 2).2 = 0 := by rw [e2]; exact y3
  have y2 : q1.2 = 0 := rA_zero z2
  have z1 : (rA b q0 2).2 = 0 := by rw [e1]; exact y2
  have y1 : q0.2 = 0 := rA_zero z1
  obtain ⟨p1, hp1⟩ : ∃ p, rL b q0 2 = p := ⟨_, rfl⟩
  have l1 : p1.length = 2 := hp1 ▸ rL_full (n := 2) z1
  have b1 : Byt8 p1 := hp1 ▸ tkL_bytes0 hb
  replace v1 : num p1 = x1 := by rw [← hp1]; exact v1
  subst v1
  obtain ⟨p2, hp2⟩ : ∃ p, rL b q1 2 = p := ⟨_, rfl⟩
  have l2 : p2.length = 2 := hp2 ▸ rL_full (n := 2) z2
  have b2 : Byt8 p2 := hp2 ▸ tkL_bytes0 hb
  replace v2 : num p2 = x2 := by rw [← hp2]; exact v2
  subst v2
  obtain ⟨p3, hp3⟩ : ∃ p, rL b q2 2 = p := ⟨_, rfl⟩
  have l3 : p3.length = 2 := hp3 ▸ rL_full (n := 2) z3
  have b3 : Byt8 p3 := hp3 ▸ tkL_bytes0 hb
  replace v3 : num p3 = x3 := by rw [← hp3]; exact v3
  subst v3
  obtain ⟨p4, hp4⟩ : ∃ p, rL b q3 2 = p := ⟨_, rfl⟩
  have l4 : p4.length = 2 := hp4 ▸ rL_full (n := 2) z4
  have b4 : Byt8 p4 := hp4 ▸ tkL_bytes0 hb
  replace v4 : num p4 = x4 := by rw [← hp4]; exact v4
  subst v4
  obtain ⟨p5, hp5⟩ : ∃ p, rL b q4 4 = p := ⟨_, rfl⟩
  have l5 : p5.length = 4 := hp5 ▸ rL_full (n := 4) z5
  have b5 : Byt8 p5 := hp5 ▸ tkL_bytes0 hb
  replace v5 : num p5 = x5 := by rw [← hp5]; exact v5
  subst v5
  obtain ⟨p6, hp6⟩ : ∃ p, rL b q5 4 = p := ⟨_, rfl⟩
  have l6 : p6.length = 4 := hp6 ▸ rL_full (n := 4) z6
  have b6 : Byt8 p6 := hp6 ▸ tkL_bytes0 hb
  replace v6 : num p6 = x6 := by rw [← hp6]; exact v6
  subst v6
  obtain ⟨p7, hp7⟩ : ∃ p, rL b q6 2 = p := ⟨_, rfl⟩
  have l7 : p7.length = 2 := hp7 ▸ rL_full (n := 2) z7
  have b7 : Byt8 p7 := hp7 ▸ tkL_bytes0 hb
  replace v7 : num p7 = x7 := by rw [← hp7]; exact v7
  subst v7
  rw [hp1, hp2, hp3, hp4, hp5, hp6, hp7]
  clear t1 e1 z1 hp1 t2 e2 z2 hp2 t3 e3 z3 hp3 t4 e4 z4 hp4 t5 e5 z5 hp5 t6 e6 z6 hp6 t7 e7 z7 hp7
  refine ⟨_, rfl, ?_⟩
  have hlen : ([] ++ p1 ++ p2 ++ p3 ++ p4 ++ p5 ++ p6 ++ p7).length = 18 := by simp only [List.length_append, List.length_nil]; omega
  refine ⟨hlen, ?_, ?_, ?_, ?_, ?_, ?_, ?_, ?_⟩
  · intro x hx
    simp only [List.mem_append, List.not_mem_nil, false_or] at hx
    rcases hx with (((((h | h) | h) | h) | h) | h) | h
    all_goals first | exact b1 _ h | exact b2 _ h | exact b3 _ h | exact b4 _ h | exact b5 _ h | exact b6 _ h | exact b7 _ h
  · have e : ([] ++ p1 ++ p2 ++ p3 ++ p4 ++ p5 ++ p6 ++ p7) = (([] : List Int)) ++ (p1 ++ (p2 ++ (p3 ++ (p4 ++ (p5 ++ (p6 ++ (p7))))))) := by first | simp only [List.append_assoc, List.nil_append, List.append_nil] | rfl
    have hl := hlen
    rw [e] at hl ⊢
    exact at_cat (i := 0) (by first | rfl | omega | (simp only [List.length_append, List.length_nil]; try omega)) l1 b1 (by omega)
  · have e : ([] ++ p1 ++ p2 ++ p3 ++ p4 ++ p5 ++ p6 ++ p7) = (p1) ++ (p2 ++ (p3 ++ (p4 ++ (p5 ++ (p6 ++ (p7)))))) := by first | simp only [List.append_assoc, List.nil_append, List.append_nil] | rfl
    have hl := hlen
    rw [e] at hl ⊢
    exact at_cat (i := 2) (by first | rfl | omega | (simp only [List.length_append, List.length_nil]; try omega)) l2 b2 (by omega)
  · have e : ([] ++ p1 ++ p2 ++ p3 ++ p4 ++ p5 ++ p6 ++ p7) = (p1 ++ p2) ++ (p3 ++ (p4 ++ (p5 ++ (p6 ++ (p7))))) := by first | simp only [List.append_assoc, List.nil_append, List.append_nil] | rfl
    have hl := hlen
    rw [e] at hl ⊢
    exact at_cat (i := 4) (by first | rfl | omega | (simp only [List.length_append, List.length_nil]; try omega)) l3 b3 (by omega)
  · have e : ([] ++ p1 ++ p2 ++ p3 ++ p4 ++ p5 ++ p6 ++ p7) = (p1 ++ p2 ++ p3) ++ (p4 ++ (p5 ++ (p6 ++ (p7)))) := by first | simp only [List.append_assoc, List.nil_append, List.append_nil] | rfl
    have hl := hlen
    rw [e] at hl ⊢
    exact at_cat (i := 6) (by first | rfl | omega | (simp only [List.length_append, List.length_nil]; try omega)) l4 b4 (by omega)
  · have e : ([] ++ p1 ++ p2 ++ p3 ++ p4 ++ p5 ++ p6 ++ p7) = (p1 ++ p2 ++ p3 ++ p4 ++ p5 ++ p6) ++ (p7 ++ (([] : List Int))) := by first | simp only [List.append_assoc, List.nil_append, List.append_nil] | rfl
    have hl := hlen
    rw [e] at hl ⊢
    exact at_cat (i := 16) (by first | rfl | omega | (simp only [List.length_append, List.length_nil]; try omega)) l7 b7 (by omega)
  · have e : ([] ++ p1 ++ p2 ++ p3 ++ p4 ++ p5 ++ p6 ++ p7) = (p1 ++ p2 ++ p3 ++ p4) ++ (p5 ++ (p6 ++ (p7))) := by first | simp only [List.append_assoc, List.nil_append, List.append_nil] | rfl
    have hl := hlen
    rw [e] at hl ⊢
    rw [show 12 = 8 + 4 from rfl, cut_cat (i := 8) (m := 4) (by simp only [List.length_append]; omega) l5]
    exact num_run p5 b5 (by omega) 10 (by decide)
  · have e : ([] ++ p1 ++ p2 ++ p3 ++ p4 ++ p5 ++ p6 ++ p7) = (p1 ++ p2 ++ p3 ++ p4 ++ p5) ++ (p6 ++ (p7)) := by first | simp only [List.append_assoc, List.nil_append, List.append_nil] | rfl
    have hl := hlen
    rw [e] at hl ⊢
    rw [show 16 = 12 + 4 from rfl, cut_cat (i := 12) (m := 4) (by simp only [List.length_append]; omega) l6]
    exact num_run p6 b6 (by omega) 10 (by decide)
end Go.Proofs.Ytpmiofjhgmdghaa.Fld
