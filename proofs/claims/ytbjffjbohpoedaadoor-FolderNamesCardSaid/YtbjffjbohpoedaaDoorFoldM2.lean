/- folder.Clean, walked; what is a path is clean. -/
import Derived.Test.YtbjffjbohpoedaaDoorFoldM1
import Derived.Laws.CopyOwn
import Derived.Test.YtbjffjbohpoedaaDoorFLx1
import Derived.Deep.Slices
namespace Go.Proofs.YtbjffjbohpoedaaDoor.Fd
open Go.Proofs.YtbjffjbohpoedaaDoor.Wd
open Go.RowKit Go.Proofs.YtbjffjbohpoedaaDoorW.PrintWords Go.Proofs.YtbjffjbohpoedaaDoorW.PrintLast Go.Proofs.YtbjffjbohpoedaaDoorW.PrintMore
open Go.Proofs.YtbjffjbohpoedaaDoor.MyCut
set_option linter.unusedVariables false
set_option linter.unusedSimpArgs false
def repl1 (x : Int) : Int := if x = 92 then 47 else x
def replL (L : List Int) : List Int := L.map repl1
def cnt (F : List Int) : Nat := (Lib.bytesOf F).count 92
theorem cnt_cons (x : Int) (F : List Int) (hx : 0 ≤ x ∧ x ≤ 255) : cnt (x :: F) = cnt F + (if x = 92 then 1 else 0) := by
  unfold cnt
  show (UInt8.ofNat x.toNat :: Lib.bytesOf F).count 92 = _
  rw [List.count_cons]
  by_cases e : x = 92
  · subst e; rfl
  · have : ¬ UInt8.ofNat x.toNat = 92 := fun h => e (byte_inj x 92 (by omega) (by decide) (h.trans rfl))
    rw [if_neg e, if_neg (by simpa using this)]
theorem index_cons (x : Int) (F : List Int) (hx : 0 ≤ x ∧ x ≤ 255) : Lib.indexByte (Lib.bytesOf (x :: F)) 92 = if x = 92 then 0 else if Lib.indexByte (Lib.bytesOf F) 92 = -1 then -1 else Lib.indexByte (Lib.bytesOf F) 92 + 1 := by
  show Lib.indexByte (UInt8.ofNat x.toNat :: Lib.bytesOf F) 92 = _
  rw [Lib.indexByte]
  by_cases e : x = 92
  · subst e; rfl
  · have : ¬ UInt8.ofNat x.toNat = 92 := fun h => e (byte_inj x 92 (by omega) (by decide) (h.trans rfl))
    rw [if_neg e, if_neg (by simpa using this)]
    by_cases h : Lib.indexByte (Lib.bytesOf F) 92 = -1
    · rw [if_pos h, if_pos (by simpa using h)]
    · rw [if_neg h, if_neg (by simpa using h)]
theorem first_92 : ∀ (F : List Int) (k : Nat), (∀ x ∈ F, 0 ≤ x ∧ x ≤ 255) → cnt F = k + 1 → ∃ p r, F = p ++ 92 :: r ∧ (92 : Int) ∉ p ∧ Lib.indexByte (Lib.bytesOf F) 92 = (p.length : Int) ∧ cnt r = k
  | [], k, _, h => by simp [cnt, Lib.bytesOf] at h
  | x :: F, k, hr, h => by
    have hx := hr x (by simp)
    rw [cnt_cons x F hx] at h
    by_cases e : x = 92
    · subst e
      exact ⟨[], F, rfl, by simp, by rw [index_cons _ _ hx, if_pos rfl]; rfl, by simpa using h⟩
    · rw [if_neg e] at h
      obtain ⟨p, r, rfl, h1, h2, h3⟩ := first_92 F k (fun y hy => hr y (by simp [hy])) (by omega)
      refine ⟨x :: p, r, rfl, fun hm => ?_, ?_, h3⟩
      · rcases List.mem_cons.1 hm with hm | hm
        · exact e hm.symm
        · exact h1 hm
      · rw [index_cons _ _ hx, if_neg e, h2, if_neg (by omega)]; simp
theorem no_92 : ∀ (F : List Int), (∀ x ∈ F, 0 ≤ x ∧ x ≤ 255) → cnt F = 0 → (92 : Int) ∉ F
  | [], _, _ => by simp
  | x :: F, hr, h => by
    rw [cnt_cons x F (hr x (by simp))] at h
    intro hm
    rcases List.mem_cons.1 hm with hm | hm
    · subst hm; simp at h
    · exact no_92 F (fun y hy => hr y (by simp [hy])) (by omega) hm
theorem repl_no (p : List Int) (h : (92 : Int) ∉ p) : replL p = p := by
  unfold replL
  conv => rhs; rw [← List.map_id p]
  refine List.map_congr_left fun x hx => ?_
  unfold repl1
  have hne : ¬ x = 92 := fun e => h (by rw [← e]; exact hx)
  rw [if_neg hne]; rfl
theorem repl_append (p q : List Int) : replL (p ++ q) = replL p ++ replL q := List.map_append
theorem nums_append' (a b : List Int) : nums .u8 (a ++ b) = nums .u8 a ++ nums .u8 b := nums_append ..
theorem take_splice (cur cs : List Value) (m : Nat) (hm : m + cs.length ≤ cur.length) : (splice cur m cs).take (m + cs.length) = cur.take m ++ cs := by
  unfold splice
  rw [← List.append_assoc, List.take_append_of_le_length (by rw [List.length_append, List.length_take]; omega), List.take_of_length_le (by rw [List.length_append, List.length_take]; omega)]
theorem splice_len {cur cs : List Value} {m : Nat} (h : m + cs.length ≤ cur.length) : (splice cur m cs).length = cur.length := by
  unfold splice
  simp only [List.length_append, List.length_take, List.length_drop]
  omega
theorem dst_any (g n i : Nat) (hi : i ≤ n) : ∃ dp, (∀ W : World, (Instr.slice 22 (.slice (some ⟨g, 0, Option.none⟩) n n) (some (.int .i64 (i : Int))) Option.none Option.none).run Tryd.prog W = .ok (.slice dp (n - i) (n - i)) W) ∧ (i < n → dp = some ⟨g, i, Option.none⟩) := by
  obtain ⟨i0, hi0, _, hs, _⟩ := info_parts infoE
  have hel : Tryd.prog.elem 22 = 5 := by kernel_rfl
  have hu : Tryd.prog.underlying 22 = some (.slice (Tryd.prog.elem 22)) := by rw [hel]; exact Tryd.underlying22
  have hsz : ∀ W, (sizeOf (Tryd.prog.elem 22)).run Tryd.prog W = .ok 1 W := fun W => by rw [hel]; simp [sizeOf, typeInfo, hi0, hs]
  by_cases h : i < n
  · refine ⟨_, fun W => ?_, fun _ => rfl⟩
    have h2 := run_slice_l (P := Tryd.prog) (t := 22) (w := W) (a := some ⟨g, 0, Option.none⟩) (len := n) (cap := n) hu .i64 (i : Int) (by omega) (by omega)
    rw [h2, hsz W]
    simp only [Result.andThen_ok, sliced, Int.toNat_natCast, Nat.mul_one]
    rw [if_neg (by omega)]
    simp [add_plain]
  · obtain rfl : i = n := by omega
    refine ⟨some ⟨g, 0, Option.none⟩, fun W => ?_, fun h => absurd h (by omega)⟩
    have h2 := run_slice_l (P := Tryd.prog) (t := 22) (w := W) (a := some ⟨g, 0, Option.none⟩) (len := i) (cap := i) hu .i64 (i : Int) (by omega) (by omega)
    rw [h2, hsz W]
    simp only [Result.andThen_ok, sliced, Int.toNat_natCast, Nat.mul_one]
    simp
theorem src_nums {W : World} {A : Option Addr} {p : List Int} (h : Kd.C (Kd.int .u8) W A p.length p) : 0 < (nums .u8 p).length → ∃ ad, A = some ad ∧ ∀ j v, (nums .u8 p)[j]? = some v → W.cell? (ad.add j) = some v := by
  intro h0
  have hl : (nums .u8 p).length = p.length := by simp [nums]
  obtain ⟨ad, e, hc⟩ := (Kd.reads_of_C (d := (0 : Int)) h).2.2 (by omega)
  refine ⟨ad, e, fun j v hj => ?_⟩
  have hjl : j < p.length := by have := (List.getElem?_eq_some_iff.1 hj).1; omega
  rw [hc j hjl, List.getD_eq_getElem?_getD, List.getElem?_eq_getElem hjl]
  simp only [nums, List.getElem?_map, List.getElem?_eq_getElem hjl, Option.map_some, Option.some.injEq] at hj
  rw [← hj]; rfl
theorem nums_one' (p : List Int) : ∀ v ∈ nums .u8 p, v.oneCell' = true := by
  intro v hv
  obtain ⟨x, _, rfl⟩ := List.mem_map.1 hv
  rfl
theorem own_C' {w : World} {base : Nat} {A : Option Addr} {n c : Nat} {L : List Int} (h : w.ownsRow base 5 1 (.slice A n c) n (nums .u8 L)) : n = L.length ∧ Kd.C (Kd.int .u8) w A L.length L ∧ n ≤ c ∧ c ≤ 9223372036854775807 := by
  have hl : n = L.length := by have := h.1; simp [nums] at this; omega
  refine ⟨hl, ?_, own_cap h, ?_⟩
  · rw [← hl]
    exact Kd.C_of_reads (d := (0 : Int)) (h1 := fun _ => rfl) (own_reads' h)
  · rcases h.2 with ⟨h1, h2⟩ | ⟨g, cap, cur, h1, _, _, _, h2, _⟩
    · injection h1 with _ h3 h4; omega
    · injection h1 with _ h3 h4; simp [maxLen] at h2; omega
theorem own_post {w w' : World} {v : Value} {l l' : List Int} (h : w'.ownsRow w.heap.size 5 1 v l'.length (nums .u8 l')) (hg : ∀ x ∈ l, 0 ≤ x ∧ x ≤ 255) (hl : l.length ≤ 100000) (hb : Below w.heap.size w w') (e : l' = l := by simp) : RPost w l (.returned v) w' := by
  subst e
  obtain ⟨A, c, rfl⟩ := own_slice h
  obtain ⟨_, h1, h2, h3⟩ := own_C' h
  refine ⟨A, c, rfl, ⟨h1, h2, h3, fun hn => ?_, hg, hl⟩, hb⟩
  rcases h.2 with ⟨h4, _⟩ | ⟨g, cap, cur, h4, _⟩
  · injection h4
  · injection h4 with h5; rw [hn] at h5; cases h5
set_option maxHeartbeats 8000000 in
set_option maxRecDepth 100000 in
/-- no such byte -/
theorem replace_none (A : Option Addr) (c : Nat) (L : List Int) (bo bn : Nat) (w : World) (h : Arg w A c L) (h0 : cnt L = 0) (ho : w.cell? ⟨bo, 0, Option.none⟩ = some (.int .u8 92)) :
    Calls Tryd.prog 60 #[.slice A L.length c, .slice (some ⟨bo, 0, Option.none⟩) 1 1, .slice (some ⟨bn, 0, Option.none⟩) 1 1, .int .i64 (-1)] w (RPost w (replL L)) := by
  have CN : Aside0 (Calls Tryd.prog 71 #[.slice A L.length c, .slice (some ⟨bo, 0, Option.none⟩) 1 1] w fun e w' => e = .returned (.int .i64 0) ∧ w' = w) := ⟨by
    cases A with
    | none =>
      have hc := h.nil rfl
      have hle := h.le
      subst hc
      obtain rfl : L = [] := List.eq_nil_of_length_eq_zero (by omega)
      exact Tryd.bytes_Count_one_nil bo 0 1 92 w ho
    | some ad =>
      have hcs : ∀ i, i < L.length → w.cell? (ad.add i) = some (.int .u8 (L.getD i 0)) := by
        intro i hi
        obtain ⟨ad', e, hc⟩ := (Kd.reads_of_C (d := (0 : Int)) h.C).2.2 (by omega)
        obtain rfl := Option.some.inj e
        exact hc i hi
      refine (Tryd.bytes_Count_one_at ad L.length c bo 0 1 L 92 w rfl hcs ho).mono ?_
      rintro e w' ⟨he, hw⟩
      refine ⟨he.trans ?_, hw⟩
      have e9 : Lib.countByte (Lib.bytesOf L) (92 : Int).toNat.toUInt8 = ((cnt L : Nat) : Int) := rfl
      rw [e9, h0]; rfl⟩
  have RN : Aside0 (replL L = L) := ⟨repl_no L (no_92 L h.rng h0)⟩
  have HR := Aside0.mk (Kd.reads_of_C (d := (0 : Int)) h.C)
  have HL := Aside0.mk h.len
  have HG := Aside0.mk h.rng
  clear h h0 ho
  go_enter Tryd.func60, Tryd.ntmps60
  go_wp2_with (first
    | (go_at_call 71; (with_reducible refine CN.out.mono ?_); rintro e w1 ⟨rfl, hw⟩; have hw2 := hw.symm; clear hw; subst hw2)
    | (at_builtin; refine print_append_row (w0 := w) w.heap.size rfl (.const (.slice Option.none 0 0)) (.tmp 24) 22 5 .u8 1 rfl Tryd.underlying22 infoE (by decide) (.slice Option.none 0 0) [] L A L.length c rfl rfl (own_nil _ _ _ _) HR.out (Below.refl _ _) (Nat.le_refl _) (by have := HL.out; simp; omega) ?_; intro v3 w3 ho3 hb3 _ _; have HO3 := Aside0.mk ho3; have HB3 := Aside0.mk hb3; clear ho3 hb3))
  go_ret
  rw [RN.out]
  exact own_post HO3.out HG.out HL.out HB3.out
theorem mid_any (A : Option Addr) (c : Nat) (L : List Int) (i j : Nat) (hij : i ≤ j) (hj : j ≤ L.length) (hc : L.length ≤ c) : ∃ A' c', (∀ W : World, (Instr.slice 22 (.slice A L.length c) (some (.int .i64 (i : Int))) (some (.int .i64 (j : Int))) Option.none).run Tryd.prog W = .ok (.slice A' (j - i) c') W) ∧ (∀ W : World, Kd.C (Kd.int .u8) W A L.length L → Kd.C (Kd.int .u8) W A' (j - i) ((L.take j).drop i)) := by
  obtain ⟨i0, hi0, _, hs, _⟩ := info_parts infoE
  obtain ⟨A', h1, h2, _⟩ := print_mid_int (P := Tryd.prog) (k := .u8) 22 5 Tryd.underlying22 hi0 hs A c L (i : Int) (j : Int) (by omega) (by omega) (by omega) hc
  have e : ((L.take (j : Int).toNat).drop (i : Int).toNat).length = j - i := by rw [Int.toNat_natCast, Int.toNat_natCast, List.length_drop, List.length_take]; omega
  refine ⟨A', _, fun W => by rw [h1 W, e], fun W h => ?_⟩
  have h3 := Kd.C_of_reads (h1 := fun _ => rfl) (h2 W (Kd.reads_of_C (d := (0 : Int)) h))
  rw [e, Int.toNat_natCast, Int.toNat_natCast] at h3
  exact h3
theorem tail_any (A : Option Addr) (c : Nat) (L : List Int) (i : Nat) (hi : i ≤ L.length) (hc : L.length ≤ c) : ∃ A' c', (∀ W : World, (Instr.slice 22 (.slice A L.length c) (some (.int .i64 (i : Int))) Option.none Option.none).run Tryd.prog W = .ok (.slice A' (L.length - i) c') W) ∧ (∀ W : World, Kd.C (Kd.int .u8) W A L.length L → Kd.C (Kd.int .u8) W A' (L.length - i) (L.drop i)) := by
  obtain ⟨ys, A', c', hy, h1, h2, _⟩ := MyWords.drop_letter (P := Tryd.prog) .u8 22 5 .i64 Tryd.underlying22 (by kernel_rfl) A c L (i : Int) (by omega) (by omega) hc
  have e : ys = L.drop i := by have h : ys = L.drop (i : Int).toNat := hy; rwa [Int.toNat_natCast] at h
  have el : ys.length = L.length - i := by rw [e, List.length_drop]
  rw [el] at h1
  refine ⟨A', c', h1, fun W h => ?_⟩
  have h3 := h2.out W h
  rw [el, e] at h3
  exact h3
theorem step_sum {i g k : Nat} (h : i + (g + 1) = k) : i + 1 + g = k := by omega
theorem round_nums {dl fl n pl r j rl : Nat} (h1 : dl + fl = n) (h2 : fl = pl + 1 + r) (h3 : dl + pl = j) (h4 : n - j = rl) : dl < n ∧ j < n ∧ dl + pl = j ∧ j + 1 ≤ n ∧ 1 ≤ rl ∧ pl ≤ fl ∧ n - dl = fl ∧ dl + fl = n ∧ j + rl = n := by
  refine ⟨?_, ?_, ?_, ?_, ?_, ?_, ?_, ?_, ?_⟩ <;> omega
theorem round_wraps {dl pl j n i k : Nat} (h1 : dl + pl = j) (h2 : j + 1 ≤ n) (h3 : n ≤ 100000) (h4 : i < k) (h5 : k ≤ n) : IntKind.i64.wrap ((dl : Int) + (pl : Int)) = (j : Int) ∧ wrap64 ((dl : Int) + (pl : Int)) = (j : Int) ∧ IntKind.i64.wrap ((j : Int) + 1) = ((j + 1 : Nat) : Int) ∧ wrap64 ((j : Int) + 1) = ((j + 1 : Nat) : Int) ∧ wrap64 ((i : Int) + 1) = ((i + 1 : Nat) : Int) ∧ IntKind.i64.wrap ((i : Int) + 1) = ((i + 1 : Nat) : Int) := by
  refine ⟨?_, ?_, ?_, ?_, ?_, ?_⟩
  · rw [IntKind.wrap_i64]; omega
  · rw [w_in _ (by omega) (by omega)]; omega
  · rw [IntKind.wrap_i64]; omega
  · rw [w_in _ (by omega) (by omega)]; omega
  · rw [w_in _ (by omega) (by omega)]; omega
  · rw [IntKind.wrap_i64]; omega
/-- what the copy holds while it is made -/
def Made (n : Nat) (D : List Int) (cur : List Value) : Prop := cur.length = n ∧ cur.take D.length = nums .u8 (replL D)
theorem made_step {n : Nat} {D p : List Int} {cur : List Value} (q : List Int) (h : Made n D cur) (hq : replL p = q) (hn : D.length + p.length ≤ n) : Made n (D ++ p) (splice cur D.length (nums .u8 q)) := by
  have hl : (nums .u8 q).length = p.length := by rw [← hq]; simp [nums, replL]
  refine ⟨(splice_len (by rw [hl, h.1]; exact hn)).trans h.1, ?_⟩
  rw [List.length_append, ← hl, take_splice _ _ _ (by rw [hl, h.1]; exact hn), h.2, repl_append, nums_append', hq]
theorem made_post {w w4 : World} {n k : Nat} {L : List Int} {cur : List Value} (hg : w4.heap[w.heap.size]? = some (.cells cur.toArray 5 (0, 0))) (hm : Made n L cur) (hn : L.length = n) (hr : ∀ x ∈ L, 0 ≤ x ∧ x ≤ 255) (hl : L.length ≤ 100000) (hb : Below w.heap.size w w4) (k1 : 1 ≤ k) (k2 : k ≤ L.length) :
    RPost w (replL L) (.returned (.slice (some ⟨w.heap.size, 0, Option.none⟩) n n)) w4 := by
  have hc : cur = nums .u8 (replL L) := by
    have h2 := hm.2
    rwa [hn, ← hm.1, List.take_length] at h2
  have hrl : (replL L).length = n := by unfold replL; rw [List.length_map, hn]
  refine ⟨some ⟨w.heap.size, 0, Option.none⟩, n, by rw [hrl], ⟨?_, by omega, by omega, fun h => by (cases h), fun x hx => ?_, by omega⟩, hb⟩
  · refine Kd.C_of_reads (d := (0 : Int)) (h1 := fun _ => rfl) ⟨rfl, by omega, fun hp => ⟨_, rfl, fun i hi => ?_⟩⟩
    rw [add_zero, cell_of_row w4 w.heap.size i _ 5 (0, 0) hg, hc]
    simp only [nums, List.getElem?_toArray, List.getElem?_map, List.getElem?_eq_getElem hi, List.getD_eq_getElem?_getD, Option.map_some, Option.getD_some]
  · obtain ⟨y, hy, rfl⟩ := List.mem_map.1 hx
    have := hr y hy
    unfold repl1
    split <;> omega
set_option maxHeartbeats 16000000 in
set_option maxRecDepth 100000 in
/-- such a byte -/
theorem replace_some (ad : Addr) (c : Nat) (L : List Int) (bo bn : Nat) (k : Nat) (w : World) (h : Arg w (some ad) c L) (h0 : cnt L = k) (h1 : 1 ≤ k) (ho : w.cell? ⟨bo, 0, Option.none⟩ = some (.int .u8 92)) (hnw : w.cell? ⟨bn, 0, Option.none⟩ = some (.int .u8 47)) :
    Calls Tryd.prog 60 #[.slice (some ad) L.length c, .slice (some ⟨bo, 0, Option.none⟩) 1 1, .slice (some ⟨bn, 0, Option.none⟩) 1 1, .int .i64 (-1)] w (RPost w (replL L)) := by
  have hcs : ∀ (W : World), Below w.heap.size w W → ∀ i, i < L.length → W.cell? (ad.add i) = some (.int .u8 (L.getD i 0)) := by
    intro W hb i hi
    obtain ⟨ad', e, hc⟩ := (Kd.reads_of_C (d := (0 : Int)) (h.below hb).C).2.2 (by omega)
    obtain rfl := Option.some.inj e
    exact hc i hi
  have CN : Aside0 (Calls Tryd.prog 71 #[.slice (some ad) L.length c, .slice (some ⟨bo, 0, Option.none⟩) 1 1] w fun e w' => e = .returned (.int .i64 (k : Int)) ∧ w' = w) := ⟨by
    refine (Tryd.bytes_Count_one_at ad L.length c bo 0 1 L 92 w rfl (hcs w (Below.refl _ _)) ho).mono ?_
    rintro e w' ⟨he, hw⟩
    refine ⟨he.trans ?_, hw⟩
    have e9 : Lib.countByte (Lib.bytesOf L) (92 : Int).toNat.toUInt8 = ((cnt L : Nat) : Int) := rfl
    rw [e9, h0]⟩
  have HO : Aside0 (∀ W, Below w.heap.size w W → W.cell? ⟨bo, 0, Option.none⟩ = some (.int .u8 92)) := ⟨fun W hb => (hb.cell (p := ⟨bo, 0, Option.none⟩) (World.block_lt_of_cell? w _ ho)).trans ho⟩
  have HN : Aside0 (∀ W, Below w.heap.size w W → ∀ j v, (nums .u8 [47])[j]? = some v → W.cell? ((⟨bn, 0, Option.none⟩ : Addr).add j) = some v) := ⟨fun W hb j v hj => by
    have hjl := (List.getElem?_eq_some_iff.1 hj).1
    simp [nums] at hjl
    subst hjl
    rw [add_zero, (hb.cell (p := ⟨bn, 0, Option.none⟩) (World.block_lt_of_cell? w _ hnw)).trans hnw]
    exact hj⟩
  have HA := Aside0.mk h
  have H0 := Aside0.mk h0
  have hle := h.le
  have hlen := h.len
  have hk : k ≤ L.length := by
    have := List.count_le_length (a := (92 : UInt8)) (l := Lib.bytesOf L)
    rw [Lib.bytesOf_length] at this
    unfold cnt at h0; omega
  obtain ⟨n, hn⟩ : ∃ n, L.length = n := ⟨_, rfl⟩
  have hmk := print_make (P := Tryd.prog) 22 5 .u8 1 Tryd.underlying22 infoE (by decide) n (by omega)
  have k1 : ((k : Int) == 0) = false := beq_eq_false_iff_ne.mpr (by omega)
  have k2 : (k == 0) = false := beq_eq_false_iff_ne.mpr (by omega)
  have N1 := Aside0.mk hn
  have K1 := Aside0.mk hk
  have KP := Aside0.mk h1
  have NL : Aside0 (n ≤ 100000) := ⟨by omega⟩
  have CLE : Aside0 (n ≤ c) := ⟨by omega⟩
  have hw1 : wrap64 (n : Int) = (n : Int) := w_in _ (by omega) (by omega)
  have hw2 : IntKind.i64.wrap (n : Int) = (n : Int) := by rw [IntKind.wrap_i64]; omega
  have hw3 : IntKind.i64.wrap ((n : Int) + 0) = (n : Int) := by rw [IntKind.wrap_i64]; omega
  have MD : Aside0 (Made n [] (madeCells #[.int .u8 0] n).toList) := ⟨by simp [size_madeCells], rfl⟩
  rw [hn] at CN ⊢
  clear h h0 h1 ho hnw hcs hle hlen hk
  go_enter Tryd.func60, Tryd.ntmps60
  go_wp2_with (go_at_call 71; (with_reducible refine CN.out.mono ?_); rintro e w1 ⟨rfl, hw⟩; have hw9 := hw.symm; clear hw; subst hw9)
  go_loopg [11, 12, 49] k (fun gk v11 v12 v49 wr => ∃ (D F : List Int) (cur : List Value) (i : Nat), v11 = .int .i64 (D.length : Int) ∧ v12 = .int .i64 (D.length : Int) ∧ v49 = .int .i64 (i : Int) ∧ i + gk = k ∧ Aside0 (L = D ++ F ∧ cnt F = gk) ∧ Aside0 (Made n D cur) ∧ Aside0 (wr.heap[w.heap.size]? = some (.cells cur.toArray 5 (0, 0))) ∧ Aside0 (Below w.heap.size w wr))
  case atStart => exact ⟨[], L, _, 0, rfl, rfl, rfl, by omega, ⟨rfl, H0.out⟩, MD, ⟨by simpa using heap_alloc_new w (.cells (madeCells #[.int .u8 0] n) 5)⟩, ⟨below_alloc (Below.refl _ _) _⟩⟩
  case round =>
    obtain ⟨D, F, cur, i, rfl, rfl, rfl, hik, HF, HM, HG, HB⟩ := hrel
    have hnl : D.length + F.length = n := by rw [← N1.out, HF.out.1, List.length_append]
    have hnb := NL.out
    cases gk with
    | zero =>
      obtain rfl : i = k := by omega
      have d0 : decide ((i : Int) < (i : Int)) = false := decide_eq_false (by omega)
      obtain ⟨A1, c1, ht1, hC1⟩ := tail_any (some ad) c L D.length (by rw [N1.out]; omega) (by rw [N1.out]; exact CLE.out)
      obtain ⟨dp, hd1, hd2⟩ := dst_any w.heap.size n D.length (by omega)
      have hF : L.drop D.length = F := by rw [HF.out.1, List.drop_left]
      have hfl : n - D.length = F.length := by omega
      rw [N1.out, hfl] at ht1
      rw [N1.out, hfl, hF] at hC1
      rw [hfl] at hd1
      have C1 := Aside0.mk (fun W (hb : Below w.heap.size w W) => hC1 W (by have := (HA.out.below hb).C; rwa [N1.out] at this))
      have RF : Aside0 (replL F = F) := ⟨repl_no F (no_92 F (fun x hx => HA.out.rng x (by rw [HF.out.1]; exact List.mem_append_right _ hx)) HF.out.2)⟩
      obtain ⟨dl, hdl⟩ : ∃ dl, D.length = dl := ⟨_, rfl⟩
      obtain ⟨fl, hfl2⟩ : ∃ fl, F.length = fl := ⟨_, rfl⟩
      rw [hdl, hfl2] at hnl
      rw [hdl] at hd1 hd2 ht1
      rw [hfl2] at ht1 hd1 C1
      rw [hdl]
      have DL := Aside0.mk hdl
      have FL := Aside0.mk hfl2
      have D2 := Aside0.mk hd2
      have NL2 := Aside0.mk hnl
      have hs1 : IntKind.i64.wrap ((dl : Int) + (fl : Int)) = (n : Int) := by rw [IntKind.wrap_i64]; omega
      have hs2 : wrap64 ((dl : Int) + (fl : Int)) = (n : Int) := by rw [w_in _ (by omega) (by omega)]; omega
      have q1 : (n : Int) ≤ (n : Int) := Int.le_refl _
      clear hdl hfl2 hfl hF hC1 hd2 hnl hnb hik
      have HG5 : Aside0 (wr.drew.heap[w.heap.size]? = some (.cells cur.toArray 5 (0, 0))) := ⟨HG.out⟩
      have HB5 : Aside0 (Below w.heap.size w wr.drew) := ⟨below_drew HB.out⟩
      go_wp2_with fail
      go_region_law (refine step_copy_splice rfl (.tmp 123) (.tmp 126) 22 22 rfl 5 Tryd.underlying22 (by kernel_rfl) dp A1 fl fl fl c1 (by go_simp) (by go_simp) w.heap.size dl cur 5 HG5.out (nums .u8 F) (by rw [nums_length, FL.out]; exact (Nat.min_self _).symm) (fun h => ⟨D2.out (by rw [nums_length, FL.out] at h; have := NL2.out; omega), src_nums (by have := C1.out _ HB5.out; rwa [← FL.out] at this) h⟩) (by rw [nums_length, FL.out, HM.out.1]; have := NL2.out; omega) (nums_one' F) w.heap.size w HB5.out (Nat.le_refl _) ?_; intro w4 hg4 hb4; have HG4 := Aside0.mk hg4.out; have HB4 := Aside0.mk hb4; clear hg4 hb4; rw [nums_length, FL.out])
      all_goals
        go_wp2
        go_ret
        have mm := made_step F HM.out RF.out (by rw [DL.out, FL.out]; have := NL2.out; omega)
        rw [DL.out, ← HF.out.1] at mm
        exact made_post HG4.out mm N1.out HA.out.rng HA.out.len HB4.out KP.out K1.out
    | succ g =>
      have hlk : i < k := by omega
      have d0 : decide ((i : Int) < (k : Int)) = true := decide_eq_true (by omega)
      have d0' : (i : Int) < (k : Int) := by omega
      obtain ⟨p, r, hFp, hp, hidx, hr⟩ := first_92 F g (fun x hx => HA.out.rng x (by rw [HF.out.1]; exact List.mem_append_right _ hx)) HF.out.2
      have hFl : F.length = p.length + 1 + r.length := by rw [hFp, List.length_append, List.length_cons]; omega
      obtain ⟨A1, c1, ht1, hC1⟩ := tail_any (some ad) c L D.length (by rw [N1.out]; omega) (by rw [N1.out]; exact CLE.out)
      obtain ⟨A2, c2, ht2, hC2⟩ := mid_any (some ad) c L D.length (D.length + p.length) (by omega) (by rw [N1.out]; omega) (by rw [N1.out]; exact CLE.out)
      obtain ⟨dp, hd1, hd2⟩ := dst_any w.heap.size n D.length (by omega)
      obtain ⟨dq, he1, he2⟩ := dst_any w.heap.size n (D.length + p.length) (by omega)
      have hF : L.drop D.length = F := by rw [HF.out.1, List.drop_left]
      have hP : (L.take (D.length + p.length)).drop D.length = p := by rw [HF.out.1, hFp, List.take_length_add_append, List.drop_left, List.take_left]
      have hfl : n - D.length = F.length := by omega
      have hpl : D.length + p.length - D.length = p.length := by omega
      rw [N1.out, hfl] at ht1
      rw [N1.out, hfl, hF] at hC1
      rw [N1.out, hpl] at ht2
      rw [N1.out, hpl, hP] at hC2
      have C2 := Aside0.mk (fun W (hb : Below w.heap.size w W) => hC2 W (by have := (HA.out.below hb).C; rwa [N1.out] at this))
      have C1a : ∀ W, Below w.heap.size w W → Kd.C (Kd.int .u8) W A1 F.length F := fun W hb => hC1 W (by have := (HA.out.below hb).C; rwa [N1.out] at this)
      obtain ⟨a1, ea1, _⟩ := (Kd.reads_of_C (d := (0 : Int)) (C1a wr HB.out)).2.2 (by omega)
      subst ea1
      have IX : Aside0 (∀ W, Below w.heap.size w W → Calls Tryd.prog 72 #[.slice (some a1) F.length c1, .slice (some ⟨bo, 0, Option.none⟩) 1 1] W fun e w' => e = .returned (.int .i64 (p.length : Int)) ∧ w' = W) := ⟨fun W hb => by
        refine (Tryd.bytes_Index_one_at a1 F.length c1 bo 0 1 F 92 W rfl (fun j hj => ?_) (HO.out W hb)).mono ?_
        · obtain ⟨ad', e, hc⟩ := (Kd.reads_of_C (d := (0 : Int)) (C1a W hb)).2.2 (by omega)
          obtain rfl := Option.some.inj e
          exact hc j hj
        · rintro e w' ⟨he, hw⟩
          refine ⟨he.trans ?_, hw⟩
          rw [show (92 : Int).toNat.toUInt8 = (92 : UInt8) from rfl, hidx]⟩
      have RP : Aside0 (replL p = p) := ⟨repl_no p hp⟩
      have LS : Aside0 (L = (D ++ p ++ [92]) ++ r ∧ cnt r = g) := ⟨by rw [HF.out.1, hFp]; simp, hr⟩
      obtain ⟨dl, hdl⟩ : ∃ dl, D.length = dl := ⟨_, rfl⟩
      obtain ⟨fl, hfl2⟩ : ∃ fl, F.length = fl := ⟨_, rfl⟩
      obtain ⟨pl, hpl2⟩ : ∃ pl, p.length = pl := ⟨_, rfl⟩
      obtain ⟨j, hj⟩ : ∃ j, dl + pl = j := ⟨_, rfl⟩
      rw [hfl] at hd1
      rw [hdl, hfl2] at hnl
      rw [hpl2, hfl2] at hFl
      rw [hdl] at ht1 ht2 hd1 hd2 he1 he2
      rw [hfl2] at ht1 hd1 IX
      rw [hpl2] at ht2 he1 he2 C2 IX
      rw [hj] at ht2 he1 he2
      rw [hdl]
      have hjn : n - j = r.length + 1 := by omega
      obtain ⟨rl, hrl⟩ : ∃ rl, n - j = rl := ⟨_, rfl⟩
      rw [hrl] at he1
      have hdp : Aside0 (dl < n ∧ j < n ∧ dl + pl = j ∧ j + 1 ≤ n ∧ 1 ≤ rl ∧ pl ≤ fl ∧ n - dl = fl ∧ dl + fl = n ∧ j + rl = n) := ⟨round_nums hnl hFl hj hrl⟩
      have DL := Aside0.mk hdl
      have PL := Aside0.mk hpl2
      have D2 := Aside0.mk (hd2 hdp.out.1)
      have E2 := Aside0.mk (he2 hdp.out.2.1)
      obtain ⟨hs1, hs2, hs3, hs4, hs5, hs6⟩ := round_wraps (i := i) (k := k) hj hdp.out.2.2.2.1 NL.out hlk (by have := K1.out; rwa [N1.out] at this)
      have IK := Aside0.mk hik
      clear hdl hfl2 hfl hpl hpl2 hF hP hC1 hC2 C1a hd2 he2 hnl hnb hik hlk hFp hp hidx hr hFl hj hjn hrl
      have HG5 : Aside0 (wr.drew.heap[w.heap.size]? = some (.cells cur.toArray 5 (0, 0))) := ⟨HG.out⟩
      have HB5 : Aside0 (Below w.heap.size w wr.drew) := ⟨below_drew HB.out⟩
      go_wp2_with (go_at_call 72; (with_reducible refine (IX.out _ HB.out).mono ?_); rintro e w2 ⟨rfl, hw⟩; have hw9 := hw.symm; clear hw; subst hw9)
      go_region_law (refine step_copy_splice rfl (.tmp 61) (.tmp 65) 22 22 rfl 5 Tryd.underlying22 (by kernel_rfl) dp A2 fl fl pl c2 (by go_simp) (by go_simp) w.heap.size dl cur 5 HG5.out (nums .u8 p) (by rw [nums_length, PL.out]; exact (Nat.min_eq_left hdp.out.2.2.2.2.2.1).symm) (fun h => ⟨D2.out, src_nums (by have := C2.out _ HB5.out; rwa [← PL.out] at this) h⟩) (by rw [nums_length, PL.out, HM.out.1, hdp.out.2.2.1]; exact Nat.le_of_lt hdp.out.2.1) (nums_one' p) w.heap.size w HB5.out (Nat.le_refl _) ?_; intro w4 hg4 hb4; have HG4 := Aside0.mk hg4.out; have HB4 := Aside0.mk hb4; clear hg4 hb4; rw [nums_length, PL.out])
      all_goals
        have M4 : Aside0 (Made n (D ++ p) (splice cur dl (nums .u8 p))) := ⟨by have mm := made_step p HM.out RP.out (by rw [DL.out, PL.out, hdp.out.2.2.1]; exact Nat.le_of_lt hdp.out.2.1); rwa [DL.out] at mm⟩
        generalize splice cur dl (nums .u8 p) = cur4 at *
        have JL : Aside0 ((D ++ p).length = j) := ⟨by rw [List.length_append, DL.out, PL.out]; exact hdp.out.2.2.1⟩
        go_wp2_with ((with_reducible refine gate_dst (N := 73) rfl ?_); refine wpList_copy_splice rfl (.tmp 71) (.tmp 72) 22 22 rfl 5 Tryd.underlying22 (by kernel_rfl) dq (some ⟨bn, 0, Option.none⟩) rl rl 1 1 rfl rfl w.heap.size j cur4 5 HG4.out (nums .u8 [47]) (Nat.min_eq_left hdp.out.2.2.2.2.1).symm (fun h => ⟨E2.out, _, rfl, HN.out _ HB4.out⟩) (by rw [M4.out.1]; exact hdp.out.2.2.2.1) (nums_one' [47]) w.heap.size w HB4.out (Nat.le_refl _) ?_; intro w6 hg6 hb6; have HG6 := Aside0.mk hg6.out; have HB6 := Aside0.mk hb6; clear hg6 hb6; rw [show (nums IntKind.u8 [47]).length = 1 from rfl])
        go_roundg g
        case measure => omega
        case rel =>
          have mm := made_step (p := [92]) [47] M4.out rfl (by rw [JL.out]; exact hdp.out.2.2.2.1)
          rw [JL.out] at mm
          have hl3 : (D ++ p ++ [92]).length = j + 1 := by rw [List.length_append, JL.out]; rfl
          exact ⟨D ++ p ++ [92], r, _, i + 1, (by rw [hl3]; first | rfl | (rw [hs3]; rfl) | (rw [hs4]; rfl)), (by rw [hl3]; first | rfl | (rw [hs3]; rfl) | (rw [hs4]; rfl)), (by first | rfl | (rw [hs5]; rfl) | (rw [hs6]; rfl)), step_sum IK.out, LS, ⟨mm⟩, HG6, HB6⟩
end Go.Proofs.YtbjffjbohpoedaaDoor.Fd

namespace Go.Proofs.YtbjffjbohpoedaaDoor.Fd
open Go.Proofs.YtbjffjbohpoedaaDoor.Wd
open Go.RowKit Go.Proofs.YtbjffjbohpoedaaDoorW.PrintWords Go.Proofs.YtbjffjbohpoedaaDoorW.PrintLast Go.Proofs.YtbjffjbohpoedaaDoorW.PrintMore
attribute [local go_sem] max2_int min2_int max_two min_two max_three min_three max_four min_four
set_option linter.unusedVariables false
set_option linter.unusedSimpArgs false
theorem count_le (L : List Int) : cnt L ≤ L.length := by
  have := List.count_le_length (a := (92 : UInt8)) (l := Lib.bytesOf L)
  rwa [Lib.bytesOf_length] at this
theorem replace_any (A : Option Addr) (c : Nat) (L : List Int) (bo bn : Nat) (w : World) (h : Arg w A c L) (ho : w.cell? ⟨bo, 0, Option.none⟩ = some (.int .u8 92)) (hnw : w.cell? ⟨bn, 0, Option.none⟩ = some (.int .u8 47)) :
    Calls Tryd.prog 60 #[.slice A L.length c, .slice (some ⟨bo, 0, Option.none⟩) 1 1, .slice (some ⟨bn, 0, Option.none⟩) 1 1, .int .i64 (-1)] w (RPost w (replL L)) := by
  by_cases h0 : cnt L = 0
  · exact replace_none A c L bo bn w h h0 ho
  · have := count_le L
    cases A with
    | none =>
      have hc := h.nil rfl
      have hle := h.le
      omega
    | some ad => exact replace_some ad c L bo bn (cnt L) w h rfl (by omega) ho hnw
theorem replaceAll_any (A : Option Addr) (c : Nat) (L : List Int) (bo bn : Nat) (w : World) (h : Arg w A c L) (ho : w.cell? ⟨bo, 0, Option.none⟩ = some (.int .u8 92)) (hnw : w.cell? ⟨bn, 0, Option.none⟩ = some (.int .u8 47)) :
    Calls Tryd.prog 38 #[.slice A L.length c, .slice (some ⟨bo, 0, Option.none⟩) 1 1, .slice (some ⟨bn, 0, Option.none⟩) 1 1] w (RPost w (replL L)) := by
  have RA := Aside0.mk (replace_any A c L bo bn w h ho hnw)
  clear h ho hnw
  go_enter Tryd.func38, Tryd.ntmps38
  go_wp2_with (go_at_call 60; (with_reducible refine RA.out.mono ?_); rintro e w1 ⟨A1, c1, rfl, h1, hb⟩; have H1 := Aside0.mk h1; have B1 := Aside0.mk hb; clear h1 hb)
  go_ret
  exact ⟨A1, c1, rfl, H1.out, B1.out⟩
def letB (x : Int) : Bool := decide ((97 ≤ x ∧ x ≤ 122) ∨ (65 ≤ x ∧ x ≤ 90))
theorem letter_nat : ∀ n : Nat, n < 256 → FL.folder_letter.f (n : Int) = some (letB n) := by decide +kernel
theorem letter_any (x : Int) (w : World) (h0 : 0 ≤ x ∧ x ≤ 255) : Calls Tryd.prog 39 #[.int .u8 x] w fun e w' => e = .returned (.bool (letB x)) ∧ Below w.heap.size w w' := by
  obtain ⟨n, rfl⟩ := Int.eq_ofNat_of_zero_le h0.1
  exact (FL.folder_letter.calls _ _ w (letter_nat n (by omega))).mono fun e w' ⟨h1, h2⟩ => ⟨h1, Drawn0.below h2⟩
def stripC (R : List Int) : List Int := if 2 ≤ R.length ∧ R.getD 1 0 = 58 ∧ letB (R.getD 0 0) = true then R.drop 2 else R
def stepC (out : List (List Int)) (p : List Int) : List (List Int) := if p = [] ∨ p = [46] then out else if p = [46, 46] then out.dropLast else out ++ [p]
def outC (B : List Int) : List (List Int) := (splitL B).foldl stepC []
def bodyC (B : List Int) : List Int := if 0 < (joinL (outC B)).length ∧ isFB B = true then joinL (outC B) ++ [47] else joinL (outC B)
def cleanL (L : List Int) : List Int := bodyC (stripC (replL L))
def cleanR (L : List Int) : List Int × Int := if isB (cleanL L) = true then (cleanL L, 0) else ([], 16)
def CPost (w : World) (L : List Int) (e : Ending) (w' : World) : Prop :=
  ∃ A c l z, e = .returned (.tuple #[.slice A l.length c, .int .i64 z]) ∧ Arg w' A c l ∧ Below w.heap.size w w' ∧ cleanR L = (l, z)
/-- slices of bytes in a row of the call's own -/
def OutAt (w0 w : World) (A : Option Addr) (c : Nat) (X : List (List Int)) : Prop :=
  ∃ vs : List Value, w.ownsRow w0.heap.size 22 1 (.slice A X.length c) X.length vs ∧ ∀ (j : Nat) (p : List Int), X[j]? = some p → ∃ A' c', vs[j]? = some (Value.slice A' p.length c') ∧ p.length ≤ c' ∧ Kd.C (Kd.int .u8) w0 A' p.length p
theorem OutAt.nil (w0 w : World) : OutAt w0 w Option.none 0 [] := ⟨[], own_nil _ _ _ _, fun j p h => by simp at h⟩
theorem OutAt.below {w0 w w1 : World} {A : Option Addr} {c : Nat} {X : List (List Int)} (h : OutAt w0 w A c X) (hb : Below w.heap.size w w1) : OutAt w0 w1 A c X := by
  obtain ⟨vs, h1, h2⟩ := h
  exact ⟨vs, own_move h1 (fun k hk => hb.block k (own_lt h1 k hk)), h2⟩
theorem OutAt.take {w0 w : World} {A : Option Addr} {c : Nat} {X : List (List Int)} (h : OutAt w0 w A c X) (m : Nat) (hm : m ≤ X.length) : OutAt w0 w A c (X.take m) := by
  obtain ⟨vs, ⟨h0, h1⟩, h2⟩ := h
  have hl : (X.take m).length = m := by rw [List.length_take]; omega
  rw [Nat.mul_one] at h0
  refine ⟨vs.take m, ⟨by rw [hl, List.length_take]; omega, ?_⟩, fun j p hj => ?_⟩
  · rcases h1 with ⟨hv, hn⟩ | ⟨g, cap, cur, hv, hg, hh, hnc, hcm, hcs, htk⟩
    · left
      injection hv with e1 e2 e3
      subst e1 e3
      have : m = 0 := by omega
      subst this
      exact ⟨by rw [hl], hl⟩
    · right
      injection hv with e1 e2 e3
      subst e1 e3
      refine ⟨g, c, cur, by rw [hl], hg, hh, by omega, hcm, hcs, ?_⟩
      rw [hl, ← htk, Nat.mul_one, Nat.mul_one, List.take_take]
      congr 1; omega
  · have hj2 := (List.getElem?_eq_some_iff.1 hj).1
    rw [hl] at hj2
    rw [List.getElem?_take, if_pos hj2] at hj
    obtain ⟨A', c', h3, h4⟩ := h2 j p hj
    exact ⟨A', c', by rw [List.getElem?_take, if_pos hj2]; exact h3, h4⟩
theorem OutAt.le {w0 w : World} {A : Option Addr} {c : Nat} {X : List (List Int)} (h : OutAt w0 w A c X) : X.length ≤ c := by
  obtain ⟨vs, h1, _⟩ := h
  exact own_cap h1
theorem OutAt.rows {w0 w : World} {A : Option Addr} {c : Nat} {X : List (List Int)} (h : OutAt w0 w A c X) (hb : Below w0.heap.size w0 w) (hx : X.length ≤ 1000) (h0 : 0 < X.length) : ∃ g, A = some ⟨g, 0, Option.none⟩ ∧ X.length ≤ c ∧ Kd.C (Kd.slice 5 (Kd.int .u8)) w (some ⟨g, 0, Option.none⟩) X.length X := by
  have hc := h.le
  obtain ⟨vs, h1, h2⟩ := h
  rcases h1.2 with ⟨hv, hn⟩ | ⟨g, cap, cur, hv, hg, hh, hnc, hcm, hcs, htk⟩
  · omega
  · injection hv with e1 e2 e3
    subst e1 e3
    refine ⟨g, rfl, hc, rfl, by omega, fun hn => ⟨_, rfl, fun j p hj => ?_⟩⟩
    obtain ⟨A', c', h3, h4, h5⟩ := h2 j p hj
    refine ⟨[.slice A' p.length c'], rfl, ⟨A', c', rfl, h4, Kd.C_below h5 hb⟩, fun i u hu => ?_⟩
    cases i with
    | zero =>
      have : u = .slice A' p.length c' := by simpa using hu.symm
      subst this
      show w.cell? ((⟨g, 0, Option.none⟩ : Addr).add (j * 1 + 0)) = _
      rw [Nat.mul_one, Nat.add_zero]
      exact h1.cells (g := g) rfl j _ h3
    | succ i => simp at hu
theorem out_slice (A : Option Addr) (n c m : Nat) (hmc : m ≤ c) (hc : c ≤ 9223372036854775807) : ∀ W : World, (Instr.slice 35 (.slice A n c) Option.none (some (.int .i64 (m : Int))) Option.none).run Tryd.prog W = .ok (.slice A m c) W := by
  intro W
  obtain ⟨i0, hi0, hz0⟩ := Option.map_eq_some_iff.1 infoB
  simp only [Prod.mk.injEq] at hz0
  have hel : Tryd.prog.elem 35 = 22 := by kernel_rfl
  have hu : Tryd.prog.underlying 35 = some (.slice (Tryd.prog.elem 35)) := by rw [hel]; exact Tryd.underlying35
  have hsz : (sizeOf (Tryd.prog.elem 35)).run Tryd.prog W = .ok 1 W := by rw [hel]; simp [sizeOf, typeInfo, hi0, hz0.2.1]
  have h2 := run_slice_h (P := Tryd.prog) (t := 35) (w := W) (a := A) (len := n) (cap := c) hu .i64 (m : Int) (by omega) (by omega)
  rw [h2, hsz]
  simp only [Result.andThen_ok, sliced, Int.toNat_natCast, Nat.mul_one]
  cases A with
  | none => simp
  | some ad =>
    have e : ad.add 0 = ad := by unfold Addr.add; split <;> simp_all
    simp [e]
theorem wpList_append_fresh {ops : Array Oper} {rest : List Oper} {o : Oper} {a : Act} {W : World} {Q : Exit → Act → World → Prop} (hgd : o.guard = Option.none) (s x : Operand)
    (ho : o.op = .call { callee := .builtin .append, args := #[s, x], argTypes := #[22, 22] }) (B : Nat) (v : Value) (l : List Int) (y : Int) (hs : a.eval s = v) (ad : Addr) (hx : a.eval x = .slice (some ad) 1 1)
    (h : Fresh B W v l) (hl : l.length ≤ 1000000) (hB : B ≤ W.heap.size) (hc : W.cell? ad = some (.int .u8 y)) (hK : ∀ v' w', Fresh B w' v' (l ++ [y]) → Below B W w' → wpList Tryd.prog ops Q rest (a.put o.dst v') w') :
    wpList Tryd.prog ops Q (o :: rest) a W :=
  wpList_plain hgd fun _ hKK => by
    obtain ⟨v2, w2, hrun, h1, h2⟩ := append_fresh y o.type h hl hB ad hc
    unfold Oper.wp execOp
    simp only [ho, resolve, invoke, builtin, Sem.run_bind, Sem.run_pure, Result.andThen_ok, List.map_toArray, List.map_cons, List.map_nil, hs, hx, hrun]
    exact hKK _ _ (hK v2 w2 h1 h2)
end Go.Proofs.YtbjffjbohpoedaaDoor.Fd

namespace Go.Proofs.YtbjffjbohpoedaaDoor.Fd
open Go.Proofs.YtbjffjbohpoedaaDoor.Wd
open Go.RowKit Go.Proofs.YtbjffjbohpoedaaDoorW.PrintWords Go.Proofs.YtbjffjbohpoedaaDoorW.PrintLast Go.Proofs.YtbjffjbohpoedaaDoorW.PrintMore
attribute [local go_sem] max2_int min2_int max_two min_two max_three min_three max_four min_four
set_option linter.unusedVariables false
set_option linter.unusedSimpArgs false
theorem repl_rng {L : List Int} (h : ∀ x ∈ L, 0 ≤ x ∧ x ≤ 255) : ∀ x ∈ replL L, 0 ≤ x ∧ x ≤ 255 := by
  intro x hx
  obtain ⟨y, hy, rfl⟩ := List.mem_map.1 hx
  have := h y hy
  unfold repl1
  split <;> omega
def condB (R : List Int) : Bool := decide (2 ≤ R.length ∧ R.getD 1 0 = 58 ∧ letB (R.getD 0 0) = true)
theorem strip_cond (R : List Int) : stripC R = if condB R = true then R.drop 2 else R := by
  unfold stripC condB
  by_cases h : 2 ≤ R.length ∧ R.getD 1 0 = 58 ∧ letB (R.getD 0 0) = true
  · rw [if_pos h, if_pos (decide_eq_true h)]
  · rw [if_neg h, if_neg (fun hh => h (of_decide_eq_true hh))]
theorem addr_zero (a : Addr) : a.add 0 = a := by unfold Addr.add; split <;> simp_all
theorem addr_one {w : World} {a : Addr} {v : Option Value} (h : w.cell? (a.add 1) = v) : w.cell? ⟨a.block, a.off + 1, Option.none⟩ = v := by
  rw [← h]; rfl
theorem strip_arg {w : World} {ad : Addr} {c : Nat} {R : List Int} (h : Arg w (some ad) c R) (h2 : 2 ≤ R.length) : ∃ A' c', (∀ W : World, (Instr.slice 22 (.slice (some ad) R.length c) (some (.int .i64 2)) Option.none Option.none).run Tryd.prog W = .ok (.slice A' (R.length - 2) c') W) ∧ Arg w A' c' (R.drop 2) := by
  obtain ⟨i0, hi0, _, hs, _⟩ := info_parts MyCut.infoE
  have hel : Tryd.prog.elem 22 = 5 := by kernel_rfl
  have hu : Tryd.prog.underlying 22 = some (.slice (Tryd.prog.elem 22)) := by rw [hel]; exact Tryd.underlying22
  have hsz : ∀ W, (sizeOf (Tryd.prog.elem 22)).run Tryd.prog W = .ok 1 W := fun W => by rw [hel]; simp [sizeOf, typeInfo, hi0, hs]
  have hle := h.le
  have hcap := h.cap
  have hlen := h.len
  have hrun := fun W => run_slice_l (P := Tryd.prog) (t := 22) (w := W) (a := some ad) (len := R.length) (cap := c) hu .i64 (2 : Int) (by omega) (by omega)
  have hdl : (R.drop 2).length = R.length - 2 := List.length_drop
  obtain ⟨ad', e, hcs⟩ := (Kd.reads_of_C (d := (0 : Int)) h.C).2.2 (by omega)
  obtain rfl := Option.some.inj e
  have hrng : ∀ x ∈ R.drop 2, 0 ≤ x ∧ x ≤ 255 := fun x hx => h.rng x (List.mem_of_mem_drop hx)
  by_cases hc : 2 < c
  · refine ⟨some (ad.add 2), c - 2, fun W => ?_, ⟨?_, by omega, by omega, fun h => by (cases h), hrng, by omega⟩⟩
    · rw [hrun W, hsz W]
      simp only [Result.andThen_ok, sliced, Nat.mul_one]
      rw [if_neg (by omega)]
      rfl
    · refine Kd.C_of_reads (d := (0 : Int)) (h1 := fun _ => rfl) ⟨rfl, by omega, fun _ => ⟨_, rfl, fun i hi => ?_⟩⟩
      rw [Go.Deep.add_add, hcs (2 + i) (by omega)]
      simp only [List.getD_eq_getElem?_getD, List.getElem?_drop]
  · have e2 : R.length = 2 := by omega
    have ec : c = 2 := by omega
    have ed : R.drop 2 = [] := List.drop_eq_nil_of_le (by omega)
    subst ec
    refine ⟨some ad, 0, fun W => ?_, ?_⟩
    · rw [hrun W, hsz W]
      simp only [Result.andThen_ok, sliced, Nat.mul_one]
      simp
    · rw [ed]
      exact ⟨Kd.C_of_reads (d := (0 : Int)) (h1 := fun _ => rfl) ⟨rfl, by simp, fun h => absurd h (by simp)⟩, Nat.le_refl _, by omega, fun _ => rfl, by simp, by simp⟩
/-- what of the pieces is kept, how much memory -/
theorem stepC_len (out : List (List Int)) (p : List Int) : (stepC out p).length ≤ out.length + 1 := by
  unfold stepC; split
  · omega
  · split
    · rw [List.length_dropLast]; omega
    · rw [List.length_append]; exact Nat.le_refl _
theorem outC_facts (X : List (List Int)) : ∀ (out : List (List Int)) (P : List Int → Prop), (∀ p ∈ out, P p ∧ p ≠ []) → (∀ p ∈ X, P p) → (X.foldl stepC out).length ≤ out.length + X.length ∧ ∀ p ∈ X.foldl stepC out, P p ∧ p ≠ [] := by
  induction X with
  | nil => intro out P h _; exact ⟨by simp, h⟩
  | cons x xs ih =>
    intro out P h hX
    have hs : ∀ p ∈ stepC out x, P p ∧ p ≠ [] := by
      intro p hp
      unfold stepC at hp
      split at hp
      · exact h p hp
      · rename_i hn
        split at hp
        · exact h p (List.dropLast_subset _ hp)
        · rcases List.mem_append.1 hp with hp | hp
          · exact h p hp
          · rw [List.mem_singleton.1 hp]
            exact ⟨hX x (by simp), fun e => hn (.inl e)⟩
    obtain ⟨h1, h2⟩ := ih (stepC out x) P hs (fun p hp => hX p (List.mem_cons_of_mem _ hp))
    have := stepC_len out x
    exact ⟨by rw [List.foldl_cons, List.length_cons]; omega, h2⟩
theorem sum_dropLast (X : List (List Int)) : (X.dropLast.map List.length).sum ≤ (X.map List.length).sum := by
  rw [List.dropLast_eq_take]
  have e := List.take_append_drop (X.length - 1) X
  conv => rhs; rw [← e, List.map_append, List.sum_append]
  omega
theorem outC_sum (X : List (List Int)) : ∀ (out : List (List Int)), ((X.foldl stepC out).map List.length).sum ≤ (out.map List.length).sum + (X.map List.length).sum := by
  induction X with
  | nil => intro out; simp
  | cons x xs ih =>
    intro out
    have h1 := ih (stepC out x)
    have h2 : ((stepC out x).map List.length).sum ≤ (out.map List.length).sum + x.length := by
      unfold stepC
      split
      · omega
      · split
        · have := sum_dropLast out; omega
        · simp
    rw [List.foldl_cons, List.map_cons, List.sum_cons]
    omega
theorem foldl_step (X : List (List Int)) (i : Nat) (h : i < X.length) : (X.take (i + 1)).foldl stepC [] = stepC ((X.take i).foldl stepC []) X[i] := by
  rw [List.take_add_one, List.getElem?_eq_getElem h, List.foldl_append]; rfl
theorem drop_last {X : List (List Int)} {n : Nat} (h : X.length = n) : X.dropLast = X.take (n - 1) := by rw [List.dropLast_eq_take, h]
theorem Arg.empty (w : World) (g : Nat) : Arg w (some ⟨g, 0, Option.none⟩) 0 [] := ⟨Kd.C_of_reads (d := (0 : Int)) (h1 := fun _ => rfl) ⟨rfl, by simp, fun h => absurd h (by simp)⟩, Nat.le_refl _, by omega, fun _ => rfl, by simp, by simp⟩
theorem empty_bad : isB [] = false := by decide +kernel
theorem snoc_arg {s : List Int} (hr : ∀ x ∈ s, 0 ≤ x ∧ x ≤ 255) (hl : s.length ≤ 900) : (∀ x ∈ s ++ [47], 0 ≤ x ∧ x ≤ 255) ∧ (s ++ [47]).length ≤ 100000 := by
  refine ⟨fun x hx => ?_, by rw [List.length_append]; simp; omega⟩
  rcases List.mem_append.1 hx with hx | hx
  · exact hr x hx
  · rw [List.mem_singleton.1 hx]; omega
theorem fresh_form {B : Nat} {w : World} {v : Value} {l : List Int} (h : Fresh B w v l) : ∃ g c, v = .slice (some ⟨g, 0, Option.none⟩) l.length c := by
  obtain ⟨g, cap, e, _⟩ := h
  exact ⟨g, cap, e⟩
theorem OutAt.cap {w0 w : World} {A : Option Addr} {c : Nat} {X : List (List Int)} (h : OutAt w0 w A c X) : c ≤ 9223372036854775807 := by
  obtain ⟨vs, h1, _⟩ := h
  rcases h1.2 with ⟨hv, _⟩ | ⟨g, cap, cur, hv, _, _, _, h2, _⟩
  · injection hv with _ _ h4; omega
  · injection hv with _ _ h4; simp [maxLen] at h2; omega
theorem out_snoc {w0 w8 : World} {A8 A7 : Option Addr} {c8 c7 : Nat} {Y : List (List Int)} {p : List Int} {vs : List Value}
    (hel : ∀ (j : Nat) (q : List Int), Y[j]? = some q → ∃ A' c', vs[j]? = some (Value.slice A' q.length c') ∧ q.length ≤ c' ∧ Kd.C (Kd.int .u8) w0 A' q.length q) (hl : vs.length = Y.length * 1)
    (hC : Kd.C (Kd.int .u8) w0 A7 p.length p) (hc : p.length ≤ c7) (ho : w8.ownsRow w0.heap.size 22 1 (.slice A8 (Y.length + 1) c8) (Y.length + 1) (vs ++ [.slice A7 p.length c7])) : OutAt w0 w8 A8 c8 (Y ++ [p]) := by
  rw [Nat.mul_one] at hl
  refine ⟨vs ++ [.slice A7 p.length c7], by rw [List.length_append]; exact ho, fun j q hj => ?_⟩
  by_cases e : j < Y.length
  · rw [List.getElem?_append_left e] at hj
    obtain ⟨A', c', h1, h2⟩ := hel j q hj
    exact ⟨A', c', by rw [List.getElem?_append_left (by omega)]; exact h1, h2⟩
  · rw [List.getElem?_append_right (by omega)] at hj
    have hj0 : j - Y.length = 0 := by have := (List.getElem?_eq_some_iff.1 hj).1; simp at this; omega
    rw [hj0] at hj
    obtain rfl : p = q := by simpa using hj
    exact ⟨A7, c7, by rw [List.getElem?_append_right (by omega), hl, hj0]; rfl, hc, hC⟩
set_option maxHeartbeats 16000000 in
set_option maxRecDepth 100000 in
theorem clean_any (A : Option Addr) (c : Nat) (L : List Int) (w : World) (h : Arg w A c L) (hl : L.length ≤ 400) : Calls Tryd.prog 14 #[.slice A L.length c] w (CPost w L) := by
  have HA := Aside0.mk h
  have RA : Aside0 (∀ (b1 b2 : Nat) W, Below w.heap.size w W → W.cell? ⟨b1, 0, Option.none⟩ = some (.int .u8 92) → W.cell? ⟨b2, 0, Option.none⟩ = some (.int .u8 47) → Calls Tryd.prog 38 #[.slice A L.length c, .slice (some ⟨b1, 0, Option.none⟩) 1 1, .slice (some ⟨b2, 0, Option.none⟩) 1 1] W (RPost W (replL L))) := ⟨fun b1 b2 W hb h1 h2 => replaceAll_any A c L b1 b2 W (h.below hb) h1 h2⟩
  have SL := Aside0.mk slash_any
  have RL : Aside0 ((replL L).length = L.length) := ⟨by unfold replL; rw [List.length_map]⟩
  have HL := Aside0.mk hl
  have SPL := Aside0.mk split_any
  clear h hl
  go_enter Tryd.func14, Tryd.ntmps14
  go_upto_region 2 with (first
    | (go_at_call 37; (with_reducible refine (SL.out _).mono ?_); rintro e w2 ⟨b2, rfl, hc, hC, hb⟩; have HS := Aside0.mk hc; have HS92 := Aside0.mk (cell_kept (cell_lit w 92) hb); have B2 := Aside0.mk (below_step (below_alloc (Below.refl w.heap.size w) _) hb); clear hc hC hb)
    | (go_at_call 38; refine (RA.out w.heap.size b2 _ B2.out HS92.out HS.out).mono ?_; rintro e w3 ⟨A3, c3, rfl, h3, hb⟩; have H3 := Aside0.mk h3; have B3 := Aside0.mk (below_step B2.out hb); clear h3 hb))
  obtain ⟨R, hR⟩ : ∃ R, replL L = R := ⟨_, rfl⟩
  rw [hR] at RL H3
  have HR := Aside0.mk hR
  try rw [hR]
  clear hR
  go_cut [28] (fun v28 wc => v28 = .bool (condB R) ∧ Aside0 (Below w3.heap.size w3 wc))
  case first =>
    by_cases h2 : R.length < 2
    · have es : condB R = false := decide_eq_false (fun h => by omega)
      have ES := Aside0.mk es
      have d1 : decide ((R.length : Int) ≥ 2) = false := decide_eq_false (by omega)
      have d2 : decide ((2 : Int) ≤ (R.length : Int)) = false := decide_eq_false (by omega)
      have d3 : decide (2 ≤ R.length) = false := decide_eq_false (by omega)
      clear h2 es
      go_wp2
      go_meet
      case rel => exact ⟨by rw [ES.out], ⟨Below.refl _ _⟩⟩
    · have d1 : decide ((R.length : Int) ≥ 2) = true := decide_eq_true (by omega)
      have d2 : decide ((2 : Int) ≤ (R.length : Int)) = true := decide_eq_true (by omega)
      have d3 : decide (2 ≤ R.length) = true := decide_eq_true (by omega)
      have q1 : (1 : Int) < (R.length : Int) := by omega
      have q0 : (0 : Int) < (R.length : Int) := by omega
      have q1n : 1 < R.length := by omega
      have q0n : 0 < R.length := by omega
      have q2 : (2 : Int) ≤ (R.length : Int) := by omega
      obtain ⟨ad, e3, hcs⟩ := (Kd.reads_of_C (d := (0 : Int)) H3.out.C).2.2 (by omega)
      subst e3
      have hc1 := hcs 1 (by omega)
      have hc0 := hcs 0 (by omega)
      have hc00 : w3.cell? ad = some (.int .u8 (R.getD 0 0)) := by rw [← addr_zero ad]; exact hc0
      have hc11 : w3.cell? ⟨ad.block, ad.off + 1, Option.none⟩ = some (.int .u8 (R.getD 1 0)) := addr_one hc1
      have SD : Aside0 (condB R = decide (2 ≤ R.length ∧ R.getD 1 0 = 58 ∧ letB (R.getD 0 0) = true)) := ⟨rfl⟩
      have H2 := Aside0.mk (show 2 ≤ R.length by omega)
      have x0r : 0 ≤ R.getD 0 0 ∧ R.getD 0 0 ≤ 255 := H3.out.rng _ (by rw [List.getD_eq_getElem?_getD, List.getElem?_eq_getElem (by omega)]; exact List.getElem_mem _)
      have LE := Aside0.mk (fun W => letter_any (R.getD 0 0) W x0r)
      generalize R.getD 1 0 = x1 at *
      generalize R.getD 0 0 = x0 at *
      clear h2 hcs x0r
      by_cases e1 : x1 = 58
      · have k1 : (x1 == 58) = true := beq_iff_eq.mpr e1
        have es : condB R = letB x0 := by
          rw [SD.out]
          cases hb : letB x0 with
          | true => exact decide_eq_true ⟨H2.out, e1, rfl⟩
          | false => exact decide_eq_false (fun h => Bool.noConfusion h.2.2)
        have ES := Aside0.mk es
        clear e1 es
        generalize letB x0 = lb at *
        go_wp2_with (go_at_call 39; (with_reducible refine (LE.out _).mono ?_); rintro e w4 ⟨rfl, hb⟩; have HB4 := Aside0.mk hb; clear hb)
        go_meet
        case rel => exact ⟨by rw [ES.out], HB4⟩
      · have k1 : (x1 == 58) = false := beq_eq_false_iff_ne.mpr e1
        have es : condB R = false := by rw [SD.out]; exact decide_eq_false (fun h => e1 h.2.1)
        have ES := Aside0.mk es
        clear e1 es
        go_wp2
        go_meet
        case rel => exact ⟨by rw [ES.out], ⟨Below.refl _ _⟩⟩
  case rest =>
    obtain ⟨rfl, BC⟩ := hcut
    go_upto_if 28 with fail
    go_cut [4] (fun v4 wx => ∃ A4 c4, v4 = .slice A4 (stripC R).length c4 ∧ Aside0 (Arg wx A4 c4 (stripC R)) ∧ Aside0 (Below w.heap.size w wx))
    case first =>
      have es : stripC R = if condB R = true then R.drop 2 else R := strip_cond R
      cases hb : condB R with
      | true =>
        rw [hb, if_pos rfl] at es
        have h2 : 2 ≤ R.length := (of_decide_eq_true hb).1
        obtain ⟨ad, e3, _⟩ := (Kd.reads_of_C (d := (0 : Int)) H3.out.C).2.2 (by omega)
        subst e3
        obtain ⟨A5, c5, hsl, h5⟩ := strip_arg H3.out h2
        have H5 := Aside0.mk h5
        have ES := Aside0.mk es
        have EL : Aside0 ((R.drop 2).length = R.length - 2) := ⟨List.length_drop⟩
        clear hb es h2 h5
        go_wp2
        go_meet
        case rel => exact ⟨A5, c5, by rw [ES.out, EL.out], ⟨by rw [ES.out]; exact H5.out.below BC.out⟩, ⟨below_step B3.out BC.out⟩⟩
      | false =>
        rw [hb, if_neg (by decide)] at es
        have ES := Aside0.mk es
        clear hb es
        go_wp2
        go_meet
        case rel => exact ⟨A3, c3, by rw [ES.out], ⟨by rw [ES.out]; exact H3.out.below BC.out⟩, ⟨below_step B3.out BC.out⟩⟩
    case rest =>
      obtain ⟨A4, c4, rfl, H4, B4⟩ := hcut
      have hbl : (stripC R).length ≤ 400 := by
        have h1 : (stripC R).length ≤ R.length := by
          unfold stripC; split
          · rw [List.length_drop]; omega
          · exact Nat.le_refl _
        have := RL.out; have := HL.out; omega
      obtain ⟨B, hB⟩ : ∃ B, stripC R = B := ⟨_, rfl⟩
      have CL : Aside0 (cleanR L = if isB (bodyC B) = true then (bodyC B, 0) else ([], 16)) := ⟨by unfold cleanR cleanL; rw [HR.out, hB]⟩
      rw [hB] at H4 hbl ⊢
      have NB := Aside0.mk hbl
      have PLN : Aside0 ((splitL B).length ≤ 401) := ⟨by have := splitL_length B; omega⟩
      have PEA : Aside0 (∀ p ∈ splitL B, p.length ≤ 400) := ⟨fun p hp => by have := splitL_each B p hp; omega⟩
      have PRN : Aside0 (∀ p ∈ splitL B, ∀ x ∈ p, 0 ≤ x ∧ x ≤ 255) := ⟨fun p hp x hx => H4.out.rng x (splitL_mem B p hp x hx)⟩
      have XSUM : Aside0 (((splitL B).map List.length).sum ≤ 400) := ⟨by have := splitL_sum B; omega⟩
      have OC : Aside0 (outC B = (splitL B).foldl stepC []) := ⟨rfl⟩
      have SPA : Aside0 (∀ (b : Nat) W, Below wc.heap.size wc W → W.cell? ⟨b, 0, Option.none⟩ = some (.int .u8 47) → Calls Tryd.prog 40 #[.slice A4 B.length c4, .slice (some ⟨b, 0, Option.none⟩) 1 1] W (RowsPost W (splitL B))) := ⟨fun b W hb h1 => SPL.out A4 c4 B b W (H4.out.below hb) h1⟩
      have ISF : Aside0 (∀ W, Below wc.heap.size wc W → Calls Tryd.prog 24 #[.slice A4 B.length c4] W fun e w' => e = .returned (.bool (isFB B)) ∧ Below W.heap.size W w') := ⟨fun W hb => isFolder_any A4 c4 B W (H4.out.below hb)⟩
      obtain ⟨X, hX⟩ : ∃ X, splitL B = X := ⟨_, rfl⟩
      rw [hX] at PLN PEA PRN OC SPA XSUM
      clear hB hbl hX SPL
      go_wp2_with (first
        | (go_at_call 37; (with_reducible refine (SL.out _).mono ?_); rintro e w5 ⟨b5, rfl, hc, hC, hb⟩; have HS5 := Aside0.mk hc; have B5 := Aside0.mk hb; clear hc hC hb)
        | (go_at_call 40; (with_reducible refine (SPA.out _ _ B5.out HS5.out).mono ?_); rintro e w6 ⟨A6, c6, rfl, hle, hC, hb⟩; have HC := Aside0.mk hC; have B6 := Aside0.mk (below_step B5.out hb); clear hle hC hb))
      go_loopg [5, 35] X.length (fun gk v5 v35 wr => ∃ (i : Nat) (A5 : Option Addr) (c5 : Nat), v5 = .slice A5 ((X.take i).foldl stepC []).length c5 ∧ v35 = .int .i64 (i : Int) ∧ i + gk = X.length ∧ Aside0 (OutAt w6 wr A5 c5 ((X.take i).foldl stepC [])) ∧ Aside0 (Below w6.heap.size w6 wr))
      case atStart => exact ⟨0, Option.none, 0, rfl, rfl, by omega, ⟨OutAt.nil _ _⟩, ⟨Below.refl _ _⟩⟩
      case round =>
        obtain ⟨i, A5, c5, rfl, rfl, hig, HO, HBW⟩ := hrel
        cases gk with
        | zero =>
          obtain rfl : i = X.length := by omega
          have dd2 : decide ((X.length : Int) < (X.length : Int)) = false := decide_eq_false (by omega)
          rw [List.take_length, ← OC.out] at HO ⊢
          have hfac := outC_facts X [] (fun p => p.length ≤ 400 ∧ ∀ x ∈ p, 0 ≤ x ∧ x ≤ 255) (fun p hp => by cases hp) (fun p hp => ⟨PEA.out p hp, PRN.out p hp⟩)
          rw [← OC.out] at hfac
          have OSUM : Aside0 (((outC B).map List.length).sum ≤ 400) := ⟨by have h1 := outC_sum X []; rw [← OC.out] at h1; have := XSUM.out; simp only [List.map_nil, List.sum_nil] at h1; omega⟩
          have hol : (outC B).length ≤ 401 := by have h1 := hfac.1; have h2 := PLN.out; simp only [List.length_nil] at h1; omega
          have BD : Aside0 (bodyC B = if 0 < (joinL (outC B)).length ∧ isFB B = true then joinL (outC B) ++ [47] else joinL (outC B)) := ⟨rfl⟩
          have BW : Aside0 (Below wc.heap.size wc wr) := ⟨B6.out.trans (HBW.out.mono B6.out.size)⟩
          generalize outC B = O at *
          rcases Nat.eq_zero_or_pos O.length with hy | hy
          · obtain rfl := List.eq_nil_of_length_eq_zero hy
            have eb : bodyC B = [] := by rw [BD.out]; rfl
            have CK : Aside0 (∀ (W : World) (g : Nat), Calls Tryd.prog 15 #[.slice (some ⟨g, 0, Option.none⟩) 0 0] W fun e w' => e = .returned (.int .i64 16) ∧ Below W.heap.size W w') := ⟨fun W g => by
              have h := check_any (some ⟨g, 0, Option.none⟩) 0 [] W (Arg.empty W g)
              rw [depth_ab.2] at h
              exact h⟩
            have CR : Aside0 (cleanR L = ([], 16)) := ⟨by rw [CL.out, eb, if_neg (by rw [empty_bad]; decide)]⟩
            have JN : Aside0 (∀ (W : World) (b : Nat), Calls Tryd.prog 36 #[.slice A5 0 c5, .slice (some ⟨b, 0, Option.none⟩) 1 1] W fun e w' => ∃ g : Nat, e = .returned (.slice (some ⟨g, 0, Option.none⟩) 0 0) ∧ Below W.heap.size W w') := ⟨fun W b =>
              (Tryd.bytes_Join_none A5 c5 (.slice (some ⟨b, 0, Option.none⟩) 1 1) W).mono fun e w' ⟨h1, h2⟩ => ⟨W.heap.size, h1, by rw [h2]; exact below_alloc (Below.refl _ _) _⟩⟩
            clear hy hfac hol eb
            go_wp2_with (first
              | (go_at_call 37; (with_reducible refine (SL.out _).mono ?_); rintro e w7 ⟨b7, rfl, hc, hC, hb⟩; have B7 := Aside0.mk (below_step BW.out hb); clear hc hC hb)
              | (go_at_call 36; (with_reducible refine (JN.out _ _).mono ?_); rintro e w8 ⟨g8, rfl, hb⟩; have B8 := Aside0.mk (below_step B7.out hb); clear hb)
              | (go_at_call 15; (with_reducible refine (CK.out _ _).mono ?_); rintro e w9 ⟨rfl, hb⟩; have B9 := Aside0.mk (below_step B8.out hb); clear hb))
            go_ret2
            exact ⟨Option.none, 0, [], 16, rfl, Arg.none _, B4.out.trans (B9.out.mono B4.out.size), CR.out⟩
          · obtain ⟨g, rfl, hgc, hrows⟩ := HO.out.rows HBW.out (by omega) hy
            have hjl := joinL_len O
            have hjp : 0 < (joinL O).length := by
              cases O with
              | nil => simp at hy
              | cons p r =>
                have := (hfac.2 p (by simp)).2
                unfold joinL
                rw [List.length_append]
                have := List.length_pos_iff.2 this
                omega
            have hjs : (O.map List.length).sum ≤ 400 := OSUM.out
            have hjr : ∀ x ∈ joinL O, 0 ≤ x ∧ x ≤ 255 := by
              intro x hx
              rcases joinL_mem O x hx with rfl | ⟨p, hp, hx⟩
              · omega
              · exact (hfac.2 p hp).1.2 x hx
            have hjb : (joinL O).length ≤ 900 := by omega
            have JA : Aside0 (∀ (b : Nat) W, Below wr.heap.size wr W → Kd.C (Kd.int .u8) W (some ⟨b, 0, Option.none⟩) 1 [47] → Calls Tryd.prog 36 #[.slice (some ⟨g, 0, Option.none⟩) O.length c5, .slice (some ⟨b, 0, Option.none⟩) 1 1] W fun e w' => ∃ v, e = .returned v ∧ Fresh W.heap.size w' v (joinL O) ∧ Below W.heap.size W w') := ⟨fun b W hb h1 => join_any g c5 b O W (Kd.C_below hrows hb) hgc hy (by omega) (fun p hp => (hfac.2 p hp).2) (fun p hp => by have := (hfac.2 p hp).1.1; omega) (fun p hp => (hfac.2 p hp).1.2) h1⟩
            have CK : Aside0 (∀ (s : List Int) A9 c9 (W : World), Arg W A9 c9 s → Calls Tryd.prog 15 #[.slice A9 s.length c9] W fun e w' => e = .returned (.int .i64 (errZ (isB s))) ∧ Below W.heap.size W w') := ⟨fun s A9 c9 W h9 => check_any A9 c9 s W h9⟩
            have JL : Aside0 ((joinL O).length ≤ 900) := ⟨hjb⟩
            have JR := Aside0.mk hjr
            have JP := Aside0.mk hjp
            clear hy hfac hol hjl hjs hjr hjb hrows hgc
            obtain ⟨s, hs⟩ : ∃ s, joinL O = s := ⟨_, rfl⟩
            rw [hs] at BD JA JL JR JP
            clear hs hjp
            have p1 : decide ((s.length : Int) > 0) = true := decide_eq_true (by have := JP.out; omega)
            have p2 : decide ((0 : Int) < (s.length : Int)) = true := decide_eq_true (by have := JP.out; omega)
            have p3 : decide (0 < s.length) = true := decide_eq_true JP.out
            cases hf : isFB B with
            | false =>
              rw [hf] at ISF
              have EB : Aside0 (bodyC B = s) := ⟨by rw [BD.out, if_neg (fun h => by rw [hf] at h; exact Bool.noConfusion h.2)]⟩
              clear hf
              rw [EB.out] at CL
              cases hb : isB s with
              | true =>
                have CR : Aside0 (cleanR L = (s, 0)) := ⟨by rw [CL.out, if_pos hb]⟩
                have CKs : Aside0 (∀ A9 c9 (W : World), Arg W A9 c9 s → Calls Tryd.prog 15 #[.slice A9 s.length c9] W fun e w' => e = .returned (.int .i64 0) ∧ Below W.heap.size W w') := ⟨fun A9 c9 W h9 => by have := CK.out s A9 c9 W h9; rw [hb] at this; exact this⟩
                clear hb CK
                go_wp2_with (first
                  | (go_at_call 37; (with_reducible refine (SL.out _).mono ?_); rintro e w7 ⟨b7, rfl, hc, hC, hb⟩; have HC7 := Aside0.mk hC; have B7 := Aside0.mk hb; clear hc hC hb)
                  | (go_at_call 36; (with_reducible refine (JA.out _ _ B7.out HC7.out).mono ?_); rintro e w8 ⟨v8, rfl, hF, hb⟩; obtain ⟨A9, c9, rfl, h9⟩ := hF.arg JR.out (by have := JL.out; omega); have H9 := Aside0.mk h9; have B8 := Aside0.mk (below_step B7.out hb); clear hF hb)
                  | (go_at_call 24; (with_reducible refine (ISF.out _ (BW.out.trans (B8.out.mono BW.out.size))).mono ?_); rintro e w9 ⟨rfl, hb⟩; have H9 := Aside0.mk (H9.out.below hb); have B8 := Aside0.mk (below_step B8.out hb); clear hb)
                  | (go_at_call 15; (with_reducible refine (CKs.out _ _ _ H9.out).mono ?_); rintro e w10 ⟨rfl, hb⟩; have B10 := Aside0.mk hb; have B9 := Aside0.mk (BW.out.trans ((below_step B8.out hb).mono BW.out.size)); clear hb))
                go_ret2
                exact ⟨A9, c9, s, 0, rfl, H9.out.below B10.out, B4.out.trans (B9.out.mono B4.out.size), CR.out⟩
              | false =>
                have CR : Aside0 (cleanR L = ([], 16)) := ⟨by rw [CL.out, if_neg (by rw [hb]; decide)]⟩
                have CKs : Aside0 (∀ A9 c9 (W : World), Arg W A9 c9 s → Calls Tryd.prog 15 #[.slice A9 s.length c9] W fun e w' => e = .returned (.int .i64 16) ∧ Below W.heap.size W w') := ⟨fun A9 c9 W h9 => by have := CK.out s A9 c9 W h9; rw [hb] at this; exact this⟩
                clear hb CK
                go_wp2_with (first
                  | (go_at_call 37; (with_reducible refine (SL.out _).mono ?_); rintro e w7 ⟨b7, rfl, hc, hC, hb⟩; have HC7 := Aside0.mk hC; have B7 := Aside0.mk hb; clear hc hC hb)
                  | (go_at_call 36; (with_reducible refine (JA.out _ _ B7.out HC7.out).mono ?_); rintro e w8 ⟨v8, rfl, hF, hb⟩; obtain ⟨A9, c9, rfl, h9⟩ := hF.arg JR.out (by have := JL.out; omega); have H9 := Aside0.mk h9; have B8 := Aside0.mk (below_step B7.out hb); clear hF hb)
                  | (go_at_call 24; (with_reducible refine (ISF.out _ (BW.out.trans (B8.out.mono BW.out.size))).mono ?_); rintro e w9 ⟨rfl, hb⟩; have H9 := Aside0.mk (H9.out.below hb); have B8 := Aside0.mk (below_step B8.out hb); clear hb)
                  | (go_at_call 15; (with_reducible refine (CKs.out _ _ _ H9.out).mono ?_); rintro e w10 ⟨rfl, hb⟩; have B10 := Aside0.mk hb; have B9 := Aside0.mk (BW.out.trans ((below_step B8.out hb).mono BW.out.size)); clear hb))
                go_ret2
                exact ⟨Option.none, 0, [], 16, rfl, Arg.none _, B4.out.trans (B9.out.mono B4.out.size), CR.out⟩
            | true =>
              rw [hf] at ISF
              have EB : Aside0 (bodyC B = s ++ [47]) := ⟨by rw [BD.out, if_pos ⟨JP.out, hf⟩]⟩
              clear hf
              rw [EB.out] at CL
              have SB := Aside0.mk (snoc_arg JR.out JL.out)
              obtain ⟨s2, hs2⟩ : ∃ s2, s ++ [47] = s2 := ⟨_, rfl⟩
              have S2 := Aside0.mk hs2
              rw [hs2] at CL SB
              clear hs2 EB
              cases hb : isB s2 with
              | true =>
                have CR : Aside0 (cleanR L = (s2, 0)) := ⟨by rw [CL.out, if_pos hb]⟩
                have CKs : Aside0 (∀ A9 c9 (W : World), Arg W A9 c9 s2 → Calls Tryd.prog 15 #[.slice A9 s2.length c9] W fun e w' => e = .returned (.int .i64 0) ∧ Below W.heap.size W w') := ⟨fun A9 c9 W h9 => by have := CK.out s2 A9 c9 W h9; rw [hb] at this; exact this⟩
                clear hb CK
                go_wp2_with (first
                  | (go_at_call 37; (with_reducible refine (SL.out _).mono ?_); rintro e w7 ⟨b7, rfl, hc, hC, hb⟩; have HC7 := Aside0.mk hC; have B7 := Aside0.mk hb; clear hc hC hb)
                  | (go_at_call 36; (with_reducible refine (JA.out _ _ B7.out HC7.out).mono ?_); rintro e w8 ⟨v8, rfl, hF, hb⟩; obtain ⟨g8, c8, rfl⟩ := fresh_form hF; have HF := Aside0.mk hF; have HW7 := Aside0.mk hb.size; have B8 := Aside0.mk (below_step B7.out hb); clear hF hb)
                  | (go_at_call 24; (with_reducible refine (ISF.out _ (BW.out.trans (B8.out.mono BW.out.size))).mono ?_); rintro e w9 ⟨rfl, hb⟩; have HF := Aside0.mk (HF.out.below hb); have HW7 := Aside0.mk (Nat.le_trans HW7.out hb.size); have B8 := Aside0.mk (below_step B8.out hb); clear hb)
                  | ((with_reducible refine gate_dst (N := 69) rfl ?_); refine wpList_append_fresh rfl (.tmp 67) (.tmp 68) rfl w7.heap.size (.slice (some ⟨g8, 0, Option.none⟩) s.length c8) s 47 rfl ⟨w9.heap.size, 0, Option.none⟩ rfl (HF.out.below (below_alloc (Below.refl _ _) _)) (by have := JL.out; omega) (Nat.le_trans HW7.out (below_alloc (Below.refl _ _) _).size) (cell_lit w9 47) ?_; intro v11 w11 hF2 hb2; rw [S2.out] at hF2; obtain ⟨A9, c9, rfl, h9⟩ := hF2.arg SB.out.1 SB.out.2; have H9 := Aside0.mk h9; have B8 := Aside0.mk ((below_alloc B8.out _).trans (hb2.mono B7.out.size)); clear hF2 hb2 h9)
                  | (go_at_call 15; (with_reducible refine (CKs.out _ _ _ H9.out).mono ?_); rintro e w10 ⟨rfl, hb⟩; have B10 := Aside0.mk hb; have B9 := Aside0.mk (BW.out.trans ((below_step B8.out hb).mono BW.out.size)); clear hb))
                go_ret2
                exact ⟨A9, c9, s2, 0, rfl, H9.out.below B10.out, B4.out.trans (B9.out.mono B4.out.size), CR.out⟩
              | false =>
                have CR : Aside0 (cleanR L = ([], 16)) := ⟨by rw [CL.out, if_neg (by rw [hb]; decide)]⟩
                have CKs : Aside0 (∀ A9 c9 (W : World), Arg W A9 c9 s2 → Calls Tryd.prog 15 #[.slice A9 s2.length c9] W fun e w' => e = .returned (.int .i64 16) ∧ Below W.heap.size W w') := ⟨fun A9 c9 W h9 => by have := CK.out s2 A9 c9 W h9; rw [hb] at this; exact this⟩
                clear hb CK
                go_wp2_with (first
                  | (go_at_call 37; (with_reducible refine (SL.out _).mono ?_); rintro e w7 ⟨b7, rfl, hc, hC, hb⟩; have HC7 := Aside0.mk hC; have B7 := Aside0.mk hb; clear hc hC hb)
                  | (go_at_call 36; (with_reducible refine (JA.out _ _ B7.out HC7.out).mono ?_); rintro e w8 ⟨v8, rfl, hF, hb⟩; obtain ⟨g8, c8, rfl⟩ := fresh_form hF; have HF := Aside0.mk hF; have HW7 := Aside0.mk hb.size; have B8 := Aside0.mk (below_step B7.out hb); clear hF hb)
                  | (go_at_call 24; (with_reducible refine (ISF.out _ (BW.out.trans (B8.out.mono BW.out.size))).mono ?_); rintro e w9 ⟨rfl, hb⟩; have HF := Aside0.mk (HF.out.below hb); have HW7 := Aside0.mk (Nat.le_trans HW7.out hb.size); have B8 := Aside0.mk (below_step B8.out hb); clear hb)
                  | ((with_reducible refine gate_dst (N := 69) rfl ?_); refine wpList_append_fresh rfl (.tmp 67) (.tmp 68) rfl w7.heap.size (.slice (some ⟨g8, 0, Option.none⟩) s.length c8) s 47 rfl ⟨w9.heap.size, 0, Option.none⟩ rfl (HF.out.below (below_alloc (Below.refl _ _) _)) (by have := JL.out; omega) (Nat.le_trans HW7.out (below_alloc (Below.refl _ _) _).size) (cell_lit w9 47) ?_; intro v11 w11 hF2 hb2; rw [S2.out] at hF2; obtain ⟨A9, c9, rfl, h9⟩ := hF2.arg SB.out.1 SB.out.2; have H9 := Aside0.mk h9; have B8 := Aside0.mk ((below_alloc B8.out _).trans (hb2.mono B7.out.size)); clear hF2 hb2 h9)
                  | (go_at_call 15; (with_reducible refine (CKs.out _ _ _ H9.out).mono ?_); rintro e w10 ⟨rfl, hb⟩; have B10 := Aside0.mk hb; have B9 := Aside0.mk (BW.out.trans ((below_step B8.out hb).mono BW.out.size)); clear hb))
                go_ret2
                exact ⟨Option.none, 0, [], 16, rfl, Arg.none _, B4.out.trans (B9.out.mono B4.out.size), CR.out⟩
        | succ g =>
          have hlt : i < X.length := by omega
          have d3 : decide ((i : Int) < (X.length : Int)) = true := decide_eq_true (by omega)
          have q3 : (i : Int) < (X.length : Int) := by omega
          obtain ⟨ad, A7, c7, rfl, hx0, hl0, hC0⟩ := el_at (Kd.C_below HC.out HBW.out) i hlt
          obtain ⟨ad', A7', c7', ee, hx0', hl0', hC0'⟩ := el_at HC.out i hlt
          obtain rfl := Option.some.inj ee
          have lt0 : (ad.add i).block < w6.heap.size := block_lt_of_cell hx0'
          have hsame := (HBW.out.cell (p := ad.add i) lt0).trans hx0'
          rw [hx0] at hsame
          injection hsame with hsame
          injection hsame with e1 e2 e3
          subst e1 e3
          have hst := foldl_step X i hlt
          have hpr := PRN.out X[i] (List.getElem_mem hlt)
          have hpl := PEA.out X[i] (List.getElem_mem hlt)
          have hYl : ((X.take i).foldl stepC []).length ≤ 401 := by
            have := (outC_facts (X.take i) [] (fun _ => True) (fun p hp => by cases hp) (fun _ _ => trivial)).1
            have := PLN.out
            simp only [List.length_nil, List.length_take] at *
            omega
          generalize X[i] = p at *
          obtain ⟨t1, t2, t3⟩ := bad_tests p hpr
          have hcv := Kd.C_string (P := Tryd.prog) (A := A7) (c := c7) Tryd.underlying22 Tryd.underlying5 Tryd.underlying9 hC0
          have hwk : wrap64 ((i : Int) + 1) = ((i + 1 : Nat) : Int) := w_in _ (by omega) (by have := PLN.out; omega)
          have ST := Aside0.mk hst
          have IG := Aside0.mk hig
          have HC0 := Aside0.mk hC0'
          have HL0 := Aside0.mk hl0'
          have YL := Aside0.mk hYl
          clear hst hpr hpl hl0 hC0 hl0' hC0' hx0' lt0 e2 hYl hlt ee
          generalize (X.take i).foldl stepC [] = Y at *
          generalize strOfNums p = s at *
          by_cases e1 : p = []
          · rw [decide_eq_true e1] at t1
            have SY : Aside0 (stepC Y p = Y) := ⟨if_pos (.inl e1)⟩
            clear t2 t3 e1
            go_wp2_with fail
            go_roundg g
            case measure => omega
            case rel => exact ⟨i + 1, A5, c5, by rw [ST.out, SY.out], (by first | rfl | rw [hwk] | go_num), step_sum IG.out, ⟨by rw [ST.out, SY.out]; exact HO.out⟩, HBW⟩
          · rw [decide_eq_false e1] at t1
            by_cases e2 : p = [46]
            · rw [decide_eq_true e2] at t2
              have SY : Aside0 (stepC Y p = Y) := ⟨if_pos (.inr e2)⟩
              clear t3 e1 e2
              go_wp2_with fail
              go_roundg g
              case measure => omega
              case rel => exact ⟨i + 1, A5, c5, by rw [ST.out, SY.out], (by first | rfl | rw [hwk] | go_num), step_sum IG.out, ⟨by rw [ST.out, SY.out]; exact HO.out⟩, HBW⟩
            · rw [decide_eq_false e2] at t2
              by_cases e3 : p = [46, 46]
              · rw [decide_eq_true e3] at t3
                have SY : Aside0 (stepC Y p = Y.dropLast) := ⟨by unfold stepC; rw [if_neg (fun h => h.elim e1 e2), if_pos e3]⟩
                clear e1 e2 e3
                have hc5 := HO.out.cap
                rcases Nat.eq_zero_or_pos Y.length with hy | hy
                · obtain rfl := List.eq_nil_of_length_eq_zero hy
                  have hs0 := out_slice A5 0 c5 0 (Nat.zero_le _) hc5
                  have q0 : (0 : Int) ≤ (c5 : Int) := by omega
                  clear hy hc5
                  go_wp2_with fail
                  go_roundg g
                  case measure => omega
                  case rel => exact ⟨i + 1, A5, c5, by rw [ST.out, SY.out]; rfl, (by first | rfl | rw [hwk] | go_num), step_sum IG.out, ⟨by rw [ST.out, SY.out]; exact HO.out⟩, HBW⟩
                · obtain ⟨m, hm⟩ : ∃ m, Y.length = m + 1 := ⟨Y.length - 1, by omega⟩
                  have hle5 := HO.out.le
                  have hs0 := out_slice A5 (m + 1) c5 m (by omega) hc5
                  have hsub : IntKind.i64.wrap ((m : Int) + 1 - 1) = (m : Int) := by rw [IntKind.wrap_i64]; have := YL.out; omega
                  have hw1 : IntKind.i64.wrap (m : Int) = (m : Int) := by rw [IntKind.wrap_i64]; have := YL.out; omega
                  have hw2 : wrap64 (m : Int) = (m : Int) := w_in _ (by omega) (by have := YL.out; omega)
                  have hmx : ¬ ((m : Int) < 0) := by omega
                  have qm : (m : Int) ≤ (c5 : Int) := by omega
                  have q0m : (0 : Int) ≤ (m : Int) := by omega
                  have HM := Aside0.mk hm
                  have HT : Aside0 (OutAt w6 wr A5 c5 Y.dropLast) := ⟨by rw [drop_last hm]; exact HO.out.take _ (by omega)⟩
                  have HTL : Aside0 (Y.dropLast.length = m) := ⟨by rw [List.length_dropLast, hm]; rfl⟩
                  clear hy hc5 hle5
                  rw [hm]
                  clear hm
                  go_wp2_with fail
                  go_roundg g
                  case measure => omega
                  case rel => exact ⟨i + 1, A5, c5, by rw [ST.out, SY.out, HTL.out], (by first | rfl | rw [hwk] | go_num), step_sum IG.out, ⟨by rw [ST.out, SY.out]; exact HT.out⟩, HBW⟩
              · rw [decide_eq_false e3] at t3
                have SY : Aside0 (stepC Y p = Y ++ [p]) := ⟨by unfold stepC; rw [if_neg (fun h => h.elim e1 e2), if_neg e3]⟩
                clear e1 e2 e3
                obtain ⟨vs, hown, hel⟩ := HO.out
                have OW := Aside0.mk hown
                have EL := Aside0.mk hel
                clear hown hel
                go_wp2_with (at_builtin; refine print_append_cells (w0 := w6) w6.heap.size rfl (.tmp 41) (.tmp 43) 35 22 (.slice Option.none 0 0) 1 24 rfl Tryd.underlying35 infoB rfl (by decide) (by decide) (.slice A5 Y.length c5) Y.length vs [.slice A7 p.length c7] rfl rfl rfl (by simp [Value.oneCell']) OW.out HBW.out HBW.out.size (by have := YL.out; omega) ?_; intro v8 w8 ho8 hb8 _ _; obtain ⟨A8, c8, rfl⟩ := own_slice ho8; have O8 := Aside0.mk (out_snoc EL.out OW.out.1 HC0.out HL0.out ho8); have B8 := Aside0.mk hb8; clear ho8 hb8)
                go_roundg g
                case measure => omega
                case rel => exact ⟨i + 1, A8, c8, by rw [ST.out, SY.out, List.length_append]; rfl, (by first | rfl | rw [hwk] | go_num), step_sum IG.out, ⟨by rw [ST.out, SY.out]; exact O8.out⟩, B8⟩
end Go.Proofs.YtbjffjbohpoedaaDoor.Fd

namespace Go.Proofs.YtbjffjbohpoedaaDoor.Fd
open Go.Proofs.YtbjffjbohpoedaaDoor.Wd
set_option linter.unusedVariables false
set_option linter.unusedSimpArgs false
theorem join_cons (x : Int) (p : List Int) (r : List (List Int)) : joinL ((x :: p) :: r) = x :: joinL (p :: r) := rfl
theorem join_split (l : List Int) : joinL (splitL l) = l := by
  induction l with
  | nil => rfl
  | cons x xs ih =>
    unfold splitL
    by_cases h : x = 47
    · rw [if_pos h, h]
      show joinT (splitL xs) = _
      cases hs : splitL xs with
      | nil => exact absurd hs (splitL_ne xs)
      | cons q qs =>
        rw [hs] at ih
        show 47 :: q ++ joinT qs = _
        have : q ++ joinT qs = xs := ih
        rw [List.cons_append, this]
    · rw [if_neg h]
      cases hs : splitL xs with
      | nil => exact absurd hs (splitL_ne xs)
      | cons q qs =>
        rw [hs] at ih
        simp only
        rw [join_cons, ih]
theorem split_snoc (l : List Int) : splitL (l ++ [47]) = splitL l ++ [[]] := by
  induction l with
  | nil => rfl
  | cons x xs ih =>
    show splitL (x :: (xs ++ [47])) = _
    rw [splitL, ih]
    conv => rhs; rw [splitL]
    by_cases h : x = 47
    · rw [if_pos h, if_pos h]; rfl
    · rw [if_neg h, if_neg h]
      cases hs : splitL xs with
      | nil => exact absurd hs (splitL_ne xs)
      | cons q qs => rfl
theorem fold_keep : ∀ (X out : List (List Int)), (∀ p ∈ X, badB p = false) → X.foldl stepC out = out ++ X
  | [], out, _ => by simp
  | x :: xs, out, h => by
    have hx : ¬ (x = [] ∨ x = [46] ∨ x = [46, 46]) := of_decide_eq_false (h x (by simp))
    have e : stepC out x = out ++ [x] := by
      unfold stepC
      rw [if_neg (fun hh => hx (hh.elim .inl (fun hh => .inr (.inl hh)))), if_neg (fun hh => hx (.inr (.inr hh)))]
    rw [List.foldl_cons, e, fold_keep xs _ (fun p hp => h p (by simp [hp]))]
    simp
theorem cutEnd_of (b : List Int) (h : isFB b = true) : ∃ l, b = l ++ [47] ∧ cutEnd b = l := by
  have hd := of_decide_eq_true h
  have hl : b.length - 1 < b.length := by omega
  have e : b = b.take (b.length - 1) ++ [47] := by
    conv => lhs; rw [← List.take_append_drop (b.length - 1) b]
    congr 1
    rw [List.drop_eq_getElem_cons hl, List.drop_eq_nil_of_le (by omega)]
    have := hd.2
    rw [List.getD_eq_getElem?_getD, List.getElem?_eq_getElem hl] at this
    congr 1
  exact ⟨_, e, by unfold cutEnd; rw [if_pos hd]⟩
theorem path_clean (b : List Int) (h : isB b = true) : cleanL b = b := by
  unfold isB at h
  rw [Bool.and_eq_true] at h
  have h1 : b.any oddB = false := by simpa using h.1
  have h2 : ∀ p ∈ piecesL b, badB p = false := by
    have := h.2
    intro p hp
    cases hb : badB p with
    | false => rfl
    | true => rw [List.any_eq_true.2 ⟨p, hp, hb⟩] at this; exact absurd this (by decide)
  have h92 : (92 : Int) ∉ b := fun hm => by
    rw [List.any_eq_true.2 ⟨92, hm, by decide⟩] at h1; cases h1
  have h58 : (58 : Int) ∉ b := fun hm => by
    rw [List.any_eq_true.2 ⟨58, hm, by decide⟩] at h1; cases h1
  unfold cleanL
  rw [repl_no b h92]
  have es : stripC b = b := by
    unfold stripC
    rw [if_neg]
    rintro ⟨hl, hx, _⟩
    refine h58 ?_
    rw [List.getD_eq_getElem?_getD, List.getElem?_eq_getElem (by omega)] at hx
    exact hx ▸ List.getElem_mem (by omega : 1 < b.length)
  rw [es]
  unfold bodyC
  cases hf : isFB b with
  | true =>
    obtain ⟨l, hl, hc⟩ := cutEnd_of b hf
    have ep : piecesL b = splitL l := by unfold piecesL; rw [hc]
    have eo : outC b = splitL l := by
      unfold outC
      have e1 := fold_keep (splitL l) [] (fun p hp => h2 p (by rw [ep]; exact hp))
      rw [hl, split_snoc, List.foldl_append, e1]
      have e2 : ∀ Y : List (List Int), stepC Y [] = Y := fun Y => if_pos (Or.inl rfl)
      exact (e2 _).trans (List.nil_append _)
    have ej : joinL (outC b) = l := by rw [eo, join_split]
    have hln : 0 < l.length := by
      rcases Nat.eq_zero_or_pos l.length with h0 | h0
      · obtain rfl := List.eq_nil_of_length_eq_zero h0
        have := h2 [] (by rw [ep]; simp [splitL])
        exact absurd this (by decide)
      · exact h0
    rw [ej, if_pos ⟨hln, rfl⟩, ← hl]
  | false =>
    have hc : cutEnd b = b := if_neg (of_decide_eq_false hf)
    have ep : piecesL b = splitL b := by unfold piecesL; rw [hc]
    have eo : outC b = splitL b := by
      unfold outC
      have e1 := fold_keep (splitL b) [] (fun p hp => h2 p (by rw [ep]; exact hp))
      rw [e1]; rfl
    rw [if_neg (fun hh => Bool.noConfusion hh.2), eo, join_split]
theorem clean_len (L : List Int) : (cleanL L).length ≤ 2 * L.length + 2 := by
  have h1 : (stripC (replL L)).length ≤ L.length := by
    have : (replL L).length = L.length := by unfold replL; rw [List.length_map]
    unfold stripC; split
    · rw [List.length_drop]; omega
    · omega
  unfold cleanL
  generalize stripC (replL L) = B at *
  have h2 := (outC_facts (splitL B) [] (fun _ => True) (fun p hp => by cases hp) (fun _ _ => trivial)).1
  have h3 := outC_sum (splitL B) []
  have h4 := joinL_len (outC B)
  have h5 := splitL_sum B
  have h6 := splitL_length B
  have e : outC B = (splitL B).foldl stepC [] := rfl
  rw [← e] at h2 h3
  simp only [List.length_nil, List.map_nil, List.sum_nil] at h2 h3
  unfold bodyC
  split
  · rw [List.length_append]; simp; omega
  · omega
end Go.Proofs.YtbjffjbohpoedaaDoor.Fd
