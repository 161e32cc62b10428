/- bytes.Repeat of one blank, one to eight times, walked. -/
import Derived.Test.YtlliomkjnhbbbaaDoorMyCut
import Derived.Outline
import Derived.Test.YtlliomkjnhbbbaaDoorMyWords
import Derived.Test.YtlliomkjnhbbbaaDoorShelf
import Derived.Laws.Externs
import Derived.Laws.CopyOwn
import Derived.Lib.MakeNoZero
import Derived.Deep.LoopGhost
import Derived.Deep.RegionLaw
namespace Go.Proofs.YtlliomkjnhbbbaaDoor.Tx
open Go.RowKit Go.Proofs.YtlliomkjnhbbbaaDoorW.PrintWords Go.Proofs.YtlliomkjnhbbbaaDoorW.PrintLast Go.Proofs.YtlliomkjnhbbbaaDoorW.PrintMore
open Go.Proofs.YtlliomkjnhbbbaaDoor.MyCut
attribute [local go_sem] max2_int min2_int max_two min_two max_three min_three max_four min_four
set_option linter.unusedVariables false
set_option linter.unusedSimpArgs false
theorem make_any (n : Nat) (hn : n ≤ 1000) (w : World) : ∃ (cs : Array Value) (c : Nat), cs.size = c ∧ n ≤ c ∧ (callFunc 35 #[.int .i64 n]).run Tryd.prog w = .ok (.value (.slice (some ⟨w.heap.size, 0, none⟩) n c)) (w.drew.drew.alloc (.cells cs 5)) := by
  obtain ⟨cs, h, h1, h2⟩ := Lib.run_makeNoZero (P := Tryd.prog) w #[3] 22 5 Tryd.underlying22 n (by omega)
  refine ⟨cs, cs.size, rfl, h1, ?_⟩
  rw [run_callFunc_extern Tryd.func35 (by kernel_rfl) (by kernel_rfl) (by kernel_rfl) (e := Extern.BytealgMakeNoZero.makeNoZero #[3] #[22]) (by kernel_rfl), h]
  rfl
/-- the first m are blanks -/
def Blank (cur : List Value) (m : Nat) : Prop := ∀ j, j < m → cur[j]? = some (.int .u8 32)
theorem drop_own (g n c i : Nat) (hi : i ≤ n) (hc : n ≤ c) (hi2 : i < c) (W : World) : (Instr.slice 22 (.slice (some ⟨g, 0, none⟩) n c) (some (.int .i64 (i : Int))) none none).run Tryd.prog W = .ok (.slice (some ⟨g, i, none⟩) (n - i) (c - i)) W := by
  obtain ⟨i0, hi0, _, hs, _⟩ := info_parts infoE
  have hel : Tryd.prog.elem 22 = 5 := by kernel_rfl
  have hu : Tryd.prog.underlying 22 = some (.slice (Tryd.prog.elem 22)) := by rw [hel]; exact Tryd.underlying22
  have hsz : (sizeOf (Tryd.prog.elem 22)).run Tryd.prog W = .ok 1 W := by rw [hel]; simp [sizeOf, typeInfo, hi0, hs]
  have h2 := run_slice_l (P := Tryd.prog) (t := 22) (w := W) (a := some ⟨g, 0, none⟩) (len := n) (cap := c) hu .i64 (i : Int) (by omega) (by omega)
  rw [h2, hsz]
  simp only [Result.andThen_ok, sliced, Int.toNat_natCast, Nat.mul_one]
  rw [if_neg (by omega)]
  simp [add_plain]
theorem slice_parts (W : World) : Tryd.prog.underlying 22 = some (.slice (Tryd.prog.elem 22)) ∧ (sizeOf (Tryd.prog.elem 22)).run Tryd.prog W = .ok 1 W := by
  obtain ⟨i0, hi0, _, hs, _⟩ := info_parts infoE
  have hel : Tryd.prog.elem 22 = 5 := by kernel_rfl
  exact ⟨by rw [hel]; exact Tryd.underlying22, by rw [hel]; simp [sizeOf, typeInfo, hi0, hs]⟩
theorem take_own (g n c i : Nat) (h0 : 0 < c) (hc : i ≤ c) (W : World) : (Instr.slice 22 (.slice (some ⟨g, 0, none⟩) n c) none (some (.int .i64 (i : Int))) none).run Tryd.prog W = .ok (.slice (some ⟨g, 0, none⟩) i c) W := by
  have h2 := run_slice_h (P := Tryd.prog) (t := 22) (w := W) (a := some ⟨g, 0, none⟩) (len := n) (cap := c) (slice_parts W).1 .i64 (i : Int) (by omega) (by omega)
  rw [h2, (slice_parts W).2]
  simp only [Result.andThen_ok, sliced, Int.toNat_natCast, Nat.mul_one]
  rw [if_neg (by omega)]
  simp [add_plain]
theorem full_own (g n c i : Nat) (h0 : 0 < i) (hc : i ≤ c) (W : World) : (Instr.slice 22 (.slice (some ⟨g, 0, none⟩) n c) none (some (.int .i64 (i : Int))) (some (.int .i64 (i : Int)))).run Tryd.prog W = .ok (.slice (some ⟨g, 0, none⟩) i i) W := by
  have h2 := run_slice_hm (P := Tryd.prog) (t := 22) (w := W) (a := some ⟨g, 0, none⟩) (len := n) (cap := c) (slice_parts W).1 .i64 .i64 (i : Int) (i : Int) (by omega) (by omega) (by omega)
  rw [h2, (slice_parts W).2]
  simp only [Result.andThen_ok, sliced, Int.toNat_natCast, Nat.mul_one]
  rw [if_neg (by omega)]
  simp [add_plain]
theorem add_zero (g j : Nat) : (⟨g, 0, none⟩ : Addr).add j = ⟨g, j, none⟩ := by unfold Addr.add; split <;> simp_all
theorem blank_splice {cur : List Value} {m k : Nat} (h : Blank cur m) (hm : m ≤ cur.length) : Blank (splice cur m (List.replicate k (.int .u8 32))) (m + k) := by
  intro j hj
  unfold splice
  by_cases c : j < m
  · rw [List.getElem?_append_left (by rw [List.length_take]; omega), List.getElem?_take, if_pos c]
    exact h j c
  · rw [List.getElem?_append_right (by rw [List.length_take]; omega), List.length_take, Nat.min_eq_left hm, List.getElem?_append_left (by rw [List.length_replicate]; omega), List.getElem?_replicate, if_pos (by omega)]
theorem splice_length {cur cs : List Value} {m : Nat} (h : m + cs.length ≤ cur.length) : (splice cur m cs).length = cur.length := by
  unfold splice
  simp only [List.length_append, List.length_take, List.length_drop]
  omega
theorem blank_cell {w : World} {g : Nat} {cur : List Value} {m j : Nat} (h : w.heap[g]? = some (.cells cur.toArray 5 (0, 0))) (hb : Blank cur m) (hj : j < m) : w.cell? ⟨g, j, none⟩ = some (.int .u8 32) := by
  rw [cell_of_row w g j _ 5 (0, 0) h]
  simpa using hb j hj
theorem one_blank (k : Nat) : ∀ v ∈ List.replicate k (Value.int .u8 32), v.oneCell' = true := fun v hv => by
  rw [List.eq_of_mem_replicate hv]; rfl
theorem new_below (w : World) (cs : Array Value) : Below w.heap.size w (w.alloc (.cells cs 5)).drew.drew := below_drew (below_drew (below_alloc (Below.refl _ _) _))
theorem src_one {w W : World} {ad : Addr} (hB : Below w.heap.size w W) (h : w.cell? ad = some (.int .u8 32)) {j : Nat} {v : Value} (hj : [Value.int .u8 32][j]? = some v) : W.cell? (ad.add j) = some v := by
  cases j with
  | succ j => simp at hj
  | zero =>
    have e : v = .int .u8 32 := by simpa using hj.symm
    have e0 : ad.add 0 = ad := by unfold Addr.add; split <;> simp_all
    rw [e, e0]
    exact (hB.cell (p := ad) (World.block_lt_of_cell? w ad h)).trans h
theorem min_one {n : Nat} (h : 1 ≤ n) : [Value.int .u8 32].length = Nat.min 1 n := (Nat.min_eq_left h).symm
theorem fit_one {n c : Nat} {cs : Array Value} (h : 1 ≤ n) (h1 : n ≤ c) (h2 : cs.size = c) : 0 + [Value.int .u8 32].length ≤ cs.toList.length := by simp; omega
theorem one_cell : ∀ v ∈ [Value.int .u8 32], v.oneCell' = true := by intro v hv; rw [List.mem_singleton.1 hv]; rfl
theorem new_heap (w : World) (cs : Array Value) : (w.alloc (.cells cs 5)).drew.drew.heap[w.heap.size]? = some (.cells cs.toList.toArray 5 (0, 0)) := by
  rw [show cs.toList.toArray = cs from by simp]
  exact heap_alloc_new w _
theorem rep_len {k m n : Nat} (h : Nat.min m (n - m) = k) : (List.replicate k (Value.int .u8 32)).length = Nat.min m (n - m) := by rw [List.length_replicate, h]
theorem rep_src {W : World} {g m k : Nat} {cur : List Value} (hG : W.heap[g]? = some (.cells cur.toArray 5 (0, 0))) (hK : Blank cur m) (hk : k ≤ m) {j : Nat} {v : Value} (hj : (List.replicate k (Value.int .u8 32))[j]? = some v) : W.cell? ((⟨g, 0, none⟩ : Addr).add j) = some v := by
  rw [List.getElem?_replicate] at hj
  by_cases c : j < k
  · rw [if_pos c] at hj
    rw [add_zero, blank_cell hG hK (by omega)]
    exact hj
  · rw [if_neg c] at hj; cases hj
theorem rep_fit {k m n c : Nat} {cur : List Value} (h : m + k ≤ n) (h1 : cur.length = c) (h2 : n ≤ c) : m + (List.replicate k (Value.int .u8 32)).length ≤ cur.length := by rw [List.length_replicate]; omega
set_option maxHeartbeats 8000000 in
set_option maxRecDepth 100000 in
theorem repeat_any (A : Option Addr) (c0 n : Nat) (h1 : 1 ≤ n) (h8 : n ≤ 8) (w : World) (hb : Kd.C (Kd.int .u8) w A 1 [32]) :
    Calls Tryd.prog 29 #[.slice A 1 c0, .int .i64 (n : Int)] w fun e w' => ∃ A', e = .returned (.slice A' n n) ∧ ReadsInt w' .u8 A' n (List.replicate n 32) ∧ Below w.heap.size w w' := by
  obtain ⟨ad, rfl, hcell⟩ := (Kd.reads_of_C (d := (0 : Int)) hb).2.2 (by decide)
  have hc0 : w.cell? ad = some (.int .u8 32) := by
    have q := hcell 0 (by decide)
    first | (simpa using q) | (simpa [Addr.add] using q)
  obtain ⟨cs, c, hcs, hnc, hmk⟩ := make_any n (by omega) w
  have H1 := Aside0.mk h1
  have H8 := Aside0.mk h8
  have HCS := Aside0.mk hcs
  have HNC := Aside0.mk hnc
  have HC0 := Aside0.mk hc0
  have hfull := fun W => full_own w.heap.size n c n h1 hnc W
  have n0 : ((n : Int) == 0) = false := beq_eq_false_iff_ne.2 (by omega)
  have n1 : decide ((n : Int) < 0) = false := decide_eq_false (by omega)
  have n2 : decide ((n : Int) > 8192) = false := decide_eq_false (by omega)
  have cw1 : IntKind.u64.wrap (n : Int) = (n : Int) := IntWalk.u64_in _ ⟨by omega, by omega⟩
  have cw2 : IntKind.i64.wrap (n : Int) = (n : Int) := by rw [IntKind.wrap_i64]; omega
  have hmul : ((1 * n / 18446744073709551616 : Nat) : Int) = 0 := by omega
  have hmul2 : ((1 * n % 18446744073709551616 : Nat) : Int) = (n : Int) := by omega
  have HM := Aside0.mk hmul
  have HM2 := Aside0.mk hmul2
  have n3 : decide ((n : Int) > 9223372036854775807) = false := decide_eq_false (by omega)
  clear h1 h8 hcs hnc hb hcell hmul hmul2
  go_enter Tryd.func29, Tryd.ntmps29
  go_wp2_with (first
    | (go_at_call 34; refine (Tryd.bits_Mul 1 n (by decide) (by have := H8.out; omega) _).mono ?_; rintro e w1 ⟨rfl, hw⟩; have hw2 := hw.symm; clear hw; subst hw2; rw [HM.out, HM2.out])
    | (with_reducible refine gate_dst (N := 60) rfl ?_; refine wpList_copy_splice rfl (.tmp 58) (.tmp 59) 22 22 rfl 5 Tryd.underlying22 (by kernel_rfl) (some ⟨w.heap.size, 0, none⟩) (some ad) n n 1 c0 rfl rfl w.heap.size 0 cs.toList 5 (new_heap w cs) [.int .u8 32] (min_one H1.out) (fun _ => ⟨rfl, ad, rfl, fun j v hj => src_one (new_below w cs) HC0.out hj⟩) (fit_one H1.out HNC.out HCS.out) one_cell w.heap.size w (new_below w cs) (Nat.le_refl _) ?_; intro w3 hg3 hb3; have HG3 := Aside0.mk hg3.out; have HB3 := Aside0.mk hb3; clear hg3 hb3))
  go_loopg [10] n (fun gk v w' => ∃ (m : Nat) (cur : List Value), v = .int .i64 (m : Int) ∧ 1 ≤ m ∧ m ≤ n ∧ n ≤ m + gk ∧ cur.length = c ∧ Aside0 (w'.heap[w.heap.size]? = some (.cells cur.toArray 5 (0, 0))) ∧ Aside0 (Blank cur m) ∧ Aside0 (Below w.heap.size w w'))
  case atStart => exact ⟨1, _, rfl, Nat.le_refl _, H1.out, by omega, (splice_length (fit_one H1.out HNC.out HCS.out)).trans (by simpa using HCS.out), HG3, ⟨by simpa using blank_splice (cur := cs.toList) (m := 0) (k := 1) (fun j hj => by omega) (by omega)⟩, HB3⟩
  case round =>
    clear HC0 hmk HG3 HB3 HCS
    obtain ⟨m, cur, rfl, m1, m2, m3, hcl, HG, HK, HB⟩ := hrel
    by_cases hlt : m < n
    · cases gk with
      | zero => omega
      | succ gk =>
      have q1 : decide ((m : Int) < (n : Int)) = true := decide_eq_true (by omega)
      have q1' : (m : Int) < (n : Int) := by omega
      have hmn : ¬ ((n : Int) < (m : Int)) := by omega
      obtain ⟨k, hk⟩ : ∃ k : Nat, Nat.min m (n - m) = k := ⟨_, rfl⟩
      have hk1 : 1 ≤ k ∧ k ≤ m ∧ m + k ≤ n := by
        have : k = min m (n - m) := hk.symm
        omega
      have hs1 := fun W => drop_own w.heap.size n n m m2 (Nat.le_refl _) hlt W
      have hs2 := fun W => take_own w.heap.size n n m (by omega) m2 W
      have hsum : IntKind.i64.wrap ((m : Int) + (k : Int)) = ((m + k : Nat) : Int) := by rw [IntKind.wrap_i64]; have := H8.out; omega
      have HK1 := Aside0.mk hk1
      have HKE := Aside0.mk hk
      have M1 := Aside0.mk m1
      have M2 := Aside0.mk m2
      have M3 := Aside0.mk m3
      have HCL := Aside0.mk hcl
      have HLT := Aside0.mk hlt
      clear hk hk1 m1 m2 m3 hcl hlt
      go_wp2_with (fail)
      have hG5 : wr.drew.heap[w.heap.size]? = some (.cells cur.toArray 5 (0, 0)) := HG.out
      have hB5 : Below w.heap.size w wr.drew := below_drew HB.out
      have HG5 := Aside0.mk hG5
      have HB5 := Aside0.mk hB5
      clear hG5 hB5
      go_region_law (refine step_copy_splice rfl (.tmp 70) (.tmp 73) 22 22 rfl 5 Tryd.underlying22 (by kernel_rfl) (some ⟨w.heap.size, m, none⟩) (some ⟨w.heap.size, 0, none⟩) (n - m) (n - m) m n (by go_simp) (by go_simp) w.heap.size m cur 5 HG5.out (List.replicate k (.int .u8 32)) (rep_len HKE.out) (fun _ => ⟨rfl, _, rfl, fun j v hj => rep_src HG5.out HK.out HK1.out.2.1 hj⟩) (rep_fit HK1.out.2.2 HCL.out HNC.out) (one_blank k) w.heap.size w HB5.out (Nat.le_refl _) ?_; intro w4 hg4 hb4; have HG4 := Aside0.mk hg4.out; have HB4 := Aside0.mk hb4; clear hg4 hb4; rw [List.length_replicate])
      all_goals
        go_wp2
        go_roundg gk
        case measure => omega
        case rel => exact ⟨m + k, _, by first | rfl | (simp; done) | (simp [*]; done), by have := M1.out; omega, HK1.out.2.2, by have := HK1.out; have := M3.out; omega, (splice_length (rep_fit HK1.out.2.2 HCL.out HNC.out)).trans HCL.out, HG4, ⟨blank_splice HK.out (by have := HCL.out; have := HNC.out; have := M2.out; omega)⟩, HB4⟩
    · obtain rfl : m = n := by omega
      have q1 : decide ((m : Int) < (m : Int)) = false := decide_eq_false (by omega)
      go_wp2
      go_ret
      refine ⟨some ⟨w.heap.size, 0, none⟩, rfl, ⟨by simp, by have := H8.out; omega, fun _ => ⟨_, rfl, fun j hj => ?_⟩⟩, HB.out⟩
      rw [add_zero, blank_cell HG.out HK.out hj]
      simp [List.getD, List.getElem?_replicate, hj]
end Go.Proofs.YtlliomkjnhbbbaaDoor.Tx
