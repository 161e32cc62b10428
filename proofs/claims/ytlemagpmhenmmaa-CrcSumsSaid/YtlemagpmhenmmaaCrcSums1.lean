/- The law CrcSums, walked: which sum any text has, with any table. No conditions. -/
import Derived.Test.YtlemagpmhenmmaaCrcLives0
import Derived.Test.YtlemagpmhenmmaaCrcPure
import Derived.Test.YtlemagpmhenmmaaMyCut
import Derived.Test.YtlemagpmhenmmaaPCrcSumsx1
import Derived.Test.YtlemagpmhenmmaaCrcTables1
import Derived.Test.YtlemagpmhenmmaaWTab
import Derived.Test.YtlemagpmhenmmaaWFour
import Derived.OrdersHeld
namespace Go.Proofs.Ytlemagpmhenmmaa.CrcSums
open Go.RowKit Go.Proofs.YtlemagpmhenmmaaW.PrintWords Go.Proofs.YtlemagpmhenmmaaW.PrintLast Go.Proofs.YtlemagpmhenmmaaW.PrintMore Go.Proofs.Ytlemagpmhenmmaa.CrcPure Go.Proofs.Ytlemagpmhenmmaa.CrcWalk Go.Proofs.Ytlemagpmhenmmaa.PCrcSums
attribute [local go_sem] max2_int min2_int max_two min_two max_three min_three max_four min_four
set_option linter.unusedVariables false
set_option linter.unusedSimpArgs false
theorem info_arr : (Try.prog.info? 23).map (·.size) = some 256 := by kernel_rfl
theorem tab_size (tl : List Int) (ht : tl.length = 256) : (Try.prog.info? 23).map (·.size) = some (tabV tl).size := by
  rw [info_arr]; simp [tabV, ht]
theorem exec_load_tab (ρ : Operand → Value) (d : Option Tmp) (ty : TypeId) (ps : String) (af : Array Edge) (gd : Option (Nat × Bool)) (x : Operand) (g : Nat) (w : World) (tl : List Int) (ht : tl.length = 256) (hx : ρ x = .pointer (some ⟨g, 0, none⟩)) (hg : w.heap[g]? = some (.cells (tabV tl) 23 (0, 0))) :
    (execOp ρ { dst := d, op := .load 23 x, type := ty, pos := ps, after := af, guard := gd }).run Try.prog w = .ok (.value (.agg (tabV tl))) w := by
  unfold execOp
  simp only [hx, Instr.loadAt, Instr.sureAddr, Sem.run_bind, Sem.run_pure, Result.andThen_ok, run_loadVar_row w g 23 23 (tabV tl) (0, 0) _ hg Try.underlying23 rfl (tab_size tl ht)]
theorem table_any2 (w : World) : Calls Try.prog 8 #[] w fun e w' => e = .returned (.agg (tabV tabL)) ∧ Below w.heap.size w w' := by
  have h := table_any w
  rw [tabTo_tabL] at h
  exact h
theorem u32_rng (a b : Int) : 0 ≤ Go.bits .xor .u32 a b ∧ Go.bits .xor .u32 a b < 4294967296 := by
  have := bounds_u32 (wf_bits .xor .u32 a b); omega
theorem bits_comm (a b : Int) : Go.bits .xor .u32 a b = Go.bits .xor .u32 b a := by
  simp only [Go.bits]; rw [BitVec.xor_comm]
theorem same_idx (x c : Int) (h0 : 0 ≤ c) (h1 : c < 256) : Go.bits .xor .u32 (x % 256) (c % 4294967296) = Go.bits .xor .u8 (x % 256) c := by
  obtain ⟨n, rfl⟩ := Int.eq_ofNat_of_zero_le h0
  obtain ⟨m, hm⟩ := Int.eq_ofNat_of_zero_le (show 0 ≤ x % 256 by omega)
  have e : (n : Int) % 4294967296 = (n : Int) := by omega
  rw [e, hm, CrcWalk.u32_xor m n (by omega) (by omega), CrcPure.u8_xor m n (by omega) (by omega)]
theorem byte_at {l : List Int} (hb : Bytes l) (k : Nat) (hk : k < l.length) : 0 ≤ rd l k ∧ rd l k < 256 := by
  have := hb l[k] (List.getElem_mem hk)
  simpa [rd, List.getD, hk] using this
set_option maxHeartbeats 1000000 in
set_option maxRecDepth 100000 in
theorem with_any (tl : List Int) (ht : tl.length = 256) (s : Int) (A : Option Addr) (c : Nat) (l : List Int) (w : World) (hr : Kd.C (Kd.int .u8) w A l.length l) (hc : l.length ≤ c) (hsz : l.length ≤ 140737488355328) (hb : Bytes l) :
    Calls Try.prog 16 #[.agg (tabV tl), .int .u32 s, .slice A l.length c] w fun e w' => e = .returned (.int .u32 (addF tl s l)) ∧ Below w.heap.size w w' := by
  have HR := Aside0.mk hr
  have HT := Aside0.mk ht
  have HBY := Aside0.mk hb
  clear hr ht hb
  go_enter Try.func16, Try.ntmps16
  go_wp2
  go_loop [7, 8] (fun v7 v8 => ∃ (k : Nat) (x : Int), k ≤ l.length ∧ v8 = .int .i64 k ∧ v7 = .int .u32 x ∧ 0 ≤ x ∧ x < 4294967296 ∧ Hid (addL tl x (l.drop k) = addL tl (Go.bits .xor .u32 IntKind.u32.max s) l)) (fun _ v8 => l.length - (intOf v8).toNat)
  case atStart => exact ⟨0, _, by omega, rfl, rfl, (u32_rng _ _).1, (u32_rng _ _).2, by rw [bits_comm]; rfl⟩
  case round =>
    obtain ⟨k, x, hk, rfl, rfl, hx0, hx1, hx⟩ := hrel
    by_cases hlt : k < l.length
    · obtain ⟨ad, e, hcell⟩ := Kd.at_int (Kd.C_alloc HR.out (.cells (tabV tl) 23)) k (by omega) (by omega)
      cases e
      rw [Int.toNat_natCast] at hcell
      obtain ⟨y0, y1⟩ := byte_at HBY.out k hlt
      have he := same_idx x (rd l k) y0 y1
      have b1 : 0 ≤ Go.bits .xor .u32 (x % 256) (rd l k % 4294967296) := by rw [he]; exact (idx_bd x (rd l k)).1
      have b2 : Go.bits .xor .u32 (x % 256) (rd l k % 4294967296) < 256 := by rw [he]; exact (idx_bd x (rd l k)).2
      have hcell2 := (cell_of_row _ w.heap.size (Go.bits .xor .u32 (x % 256) (rd l k % 4294967296)).toNat _ _ _ (heap_alloc_new w (.cells (tabV tl) 23))).trans (tabV_at tl _ (by have := HT.out; omega))
      rw [Int.toNat_of_nonneg b1] at hcell2
      have HE := Aside0.mk he
      clear he y0 y1
      go_wp2
      go_round
      case rel =>
        refine ⟨k + 1, _, by omega, by go_num, rfl, (u32_rng _ _).1, (u32_rng _ _).2, ?_⟩
        have h := hx.out
        rw [drop_rd l k hlt, addL_cons, ← HE.out] at h
        exact h
      case measure => simp [intOf]; omega
    · obtain rfl : k = l.length := by omega
      have hfin : x = addL tl (Go.bits .xor .u32 IntKind.u32.max s) l := by
        have h := hx.out
        rw [List.drop_length, addL_nil] at h
        exact h
      have HF := Aside0.mk hfin
      clear hfin
      go_wp2
      go_ret
      exact ⟨by rw [bits_comm, HF.out]; rfl, (Below.refl _ _).alloc (Nat.le_refl _) _⟩
def Sg.T : Bool × List (List Nat × List Nat) := (true, [([], []), ([0], [0]), ([], []), ([2, 1], [2]), ([1, 3], [1, 3]), ([4, 3], [4]), ([5, 5], [5]), ([5], [5]), ([5], [5]), ([6, 7, 8, 6, 5], [5, 6, 7, 8]), ([5], [5]), ([5], [5]), ([10, 11, 9, 5], [5, 10, 11]), ([9, 12, 5], [5, 9, 12]), ([5, 13], [5, 13]), ([14, 12], [14]), ([15], [15]), ([15], [15]), ([15], [15]), ([16, 17, 18, 15, 15], [15, 16, 17, 18]), ([15], [15]), ([15], [15]), ([15], [15]), ([20, 21, 22, 19, 15], [15, 20, 21, 22]), ([19, 23, 15], [15, 19, 23]), ([15, 24], [15, 24]), ([25, 23], [25]), ([26], [26]), ([26], [26]), ([27, 28, 26, 26], [26, 27, 28]), ([26, 29], [26, 29]), ([30, 29], [30]), ([31, 31], [31]), ([31, 32], [31, 32]), ([33, 32, 0, 1, 2, 3, 4, 5, 6, 7, 8, 9, 10, 11, 12, 13, 14, 15, 16, 17, 18, 19, 20, 21, 22, 23, 24, 25, 26, 27, 28, 29, 30, 31, 32, 33], [33])])
def Sg.B : List Nat := [0, 1, 0, 7, 15, 31, 63, 63, 63, 511, 63, 63, 4095, 8191, 16383, 32767, 65535, 65535, 65535, 524287, 65535, 65535, 65535, 8388607, 16777215, 33554431, 67108863, 134217727, 134217727, 536870911, 1073741823, 2147483647, 4294967295, 8589934591, 17179869183]
theorem Sg.tab : rtab .any (opsOf Try.f4 3) = Sg.T := by kernel_rfl
theorem Sg.bits : waitsOk Sg.T.2 Sg.B = true := by kernel_rfl

set_option maxHeartbeats 4000000 in
set_option maxRecDepth 100000 in
theorem sums_any (tl : List Int) (ht : tl.length = 256) (s : Int) (A2 : Option Addr) (c0 c2 : Nat) (l0 b : List Int) (k : Nat) (w : World) (hr0 : Kd.C (Kd.int .u8) w A2 l0.length l0) (hc0 : l0.length ≤ c2) (hcut : MyCut.cut_u8.f l0 300 = some b)
    (hb : Bytes b) (hls : b.length ≤ 140737488355328) (hcp : duffelref01_Copy.f b = some b) (h1 : duffelref03_Sum.f k 0 b = some (addF tabL 0 b)) (h2 : duffelref03_Sum.f k s b = some (addF tabL s b)) (h3 : duffelref01_Same.f k b b = some true) :
    Calls Try.prog 4 #[.agg (tabV tl), .int .u32 s, .slice A2 l0.length c2] w fun e w' => e = .returned (.bool true) ∧ Below w.heap.size w w' := by
  have hlt := MyCut.le_cut_u8 hc0 hcut
  have LB := Aside0.mk hlt
  have CB0 := Aside0.mk (MyCut.C_cut_u8 hr0 hcut)
  have HT := Aside0.mk ht
  have HC0 := Aside0.mk hc0
  have HCUT := Aside0.mk hcut
  have HBY := Aside0.mk hb
  have LS := Aside0.mk hls
  have HCP := Aside0.mk hcp
  have H1 := Aside0.mk h1
  have H2 := Aside0.mk h2
  have H3 := Aside0.mk h3
  clear hlt ht hr0 hc0 hcut hb hls hcp h1 h2 h3
  go_enter Try.func4, Try.ntmps4
  go_wp2_with (first
    | (go_at_call 11; refine (MyCut.cut_u8.calls A2 c2 l0 _ b _ HC0.out HCUT.out).mono ?_; rintro e w' ⟨rfl, ⟨nd, rfl⟩⟩)
    | (go_at_call 12; refine (duffelref01_Copy.calls A2 c2 b b _ (Kd.C_drewN (Kd.C_alloc CB0.out _) _) LB.out HCP.out).mono ?_; rintro e w1 ⟨v1, rfl, ho, hb1⟩; obtain ⟨Am, cm, rfl⟩ := Kd.R_slice ho; have CMx := Aside0.mk (Kd.R_reads' ho).2.2; have LM := Aside0.mk (Kd.R_reads' ho).2.1; have HB1 := Aside0.mk hb1; clear ho hb1))
  have hbx : Below w.heap.size w w1 := below_step (pw_below_drewN ((Below.refl _ _).alloc (Nat.le_refl _) _) nd) HB1.out
  have hgx : w1.heap[w.heap.size]? = some (.cells (tabV tl) 23 (0, 0)) := (HB1.out.block w.heap.size (by show w.heap.size < (w.heap.push _).size; simp)).trans (heap_alloc_new w _)
  have G : Aside0 (w1.drew.heap[w.heap.size]? = some (.cells (tabV tl) 23 (0, 0))) := ⟨hgx⟩
  have GL : Aside0 (w.heap.size < w1.drew.heap.size) := ⟨Nat.lt_of_lt_of_le (by show w.heap.size < (w.heap.push _).size; simp) HB1.out.size⟩
  have B : Aside0 (Below w.heap.size w w1.drew) := ⟨below_drew hbx⟩
  have CM : Aside0 (Kd.C (Kd.int .u8) w1.drew Am b.length b) := ⟨Kd.C_drew CMx.out⟩
  have CB : Aside0 (Kd.C (Kd.int .u8) w1.drew A2 b.length b) := ⟨Kd.C_drew (Kd.C_below CB0.out hbx)⟩
  clear CMx CB0 HB1 hbx hgx
  obtain ⟨gt, hgt⟩ : ∃ gt, gt = w.heap.size := ⟨_, rfl⟩
  rw [← hgt] at G GL ⊢
  have HGT := Aside0.mk hgt
  clear hgt
  refine start_ (n := 35) (S := fun w' => w'.heap[gt]? = some (.cells (tabV tl) 23 (0, 0))) (ds := []) #[false, false, false, false, false, false, false, false, false, false, false, false, false, false, false, false, false, false, false, false, false, false, false, false, false, false, false, false, false, false, false, false, false, false, false] (by kernel_rfl) rfl rfl G.out (fun hHeld => ?_); refine with_tabW Sg.tab Sg.bits (fun HT_ HW_ => ?_)
  generalize w1.drew = w9 at G GL B CM CB hHeld ⊢
  refine pure_ (i := 0) (N := (some 12)) (v := ?_) (a' := ?_) #[true, false, false, false, false, false, false, false, false, false, false, false, false, false, false, false, false, false, false, false, false, false, false, false, false, false, false, false, false, false, false, false, false, false, false] rfl rfl (any_of HT_.out (by kernel_rfl)) (fun _ _ _ h => h) (Or.inl ⟨by rfl, ?_⟩) ?_ ?_
  rotate_left
  · intro w'
    go_simp
    with_reducible rfl
  rotate_left
  · simp only [Act.put, List.setIfInBounds_toArray, List.set_cons_zero, List.set_cons_succ, i64_w, i32_w]
    rfl
  refine pure_ (i := 2) (N := (some 14)) (v := ?_) (a' := ?_) #[true, false, true, false, false, false, false, false, false, false, false, false, false, false, false, false, false, false, false, false, false, false, false, false, false, false, false, false, false, false, false, false, false, false, false] rfl rfl (any_of HT_.out (by kernel_rfl)) (fun _ _ _ h => h) (Or.inl ⟨by rfl, ?_⟩) ?_ ?_
  rotate_left
  · intro w'
    go_simp
    with_reducible rfl
  rotate_left
  · simp only [Act.put, List.setIfInBounds_toArray, List.set_cons_zero, List.set_cons_succ, i64_w, i32_w]
    rfl
  refine one_ (i := 1) (N := (some 13)) #[true, true, true, false, false, false, false, false, false, false, false, false, false, false, false, false, false, false, false, false, false, false, false, false, false, false, false, false, false, false, false, false, false, false, false] rfl rfl (one_of HT_.out (by kernel_rfl)) (by decide) (fun K hK => ?_)
  refine goes_ Try.func13 (by kernel_rfl) rfl #[.slice Am b.length cm] (by rfl) rfl rfl (by (try simp only [List.map_toArray, List.map_cons, List.map_nil]); first | done | rfl) ?_
  refine (sum_any Am cm b _ CM.out LM.out LS.out).mono ?_
  rintro e w21 ⟨rfl, hb⟩
  have g0_ := Aside0.mk ((hb.block gt GL.out).trans G.out)
  have l0_ := Aside0.mk (Nat.lt_of_lt_of_le GL.out hb.size)
  have b0_ := Aside0.mk (below_step B.out hb)
  have c0_ := Aside0.mk (Kd.C_below CM.out hb)
  have d0_ := Aside0.mk (Kd.C_below CB.out hb)
  clear G GL B CM CB hb
  have G := g0_
  have GL := l0_
  have B := b0_
  have CM := c0_
  have CB := d0_
  clear g0_ l0_ b0_ c0_ d0_
  refine ⟨_, rfl, ?_⟩
  refine hK.out _ _ G.out (fun hHeld => ?_)
  clear hK K
  refine norm_ (a' := ?_) ?_ ?_
  rotate_left
  · show Act.put _ (some 13) _ = _
    simp only [Act.put, List.setIfInBounds_toArray, List.set_cons_zero, List.set_cons_succ, i64_w, i32_w]
    rfl
  refine one_ (i := 3) (N := (some 15)) #[true, true, true, true, false, false, false, false, false, false, false, false, false, false, false, false, false, false, false, false, false, false, false, false, false, false, false, false, false, false, false, false, false, false, false] rfl rfl (one_of HT_.out (by kernel_rfl)) (by decide) (fun K hK => ?_)
  refine goes_ Try.func14 (by kernel_rfl) rfl #[.int .u32 0, .slice A2 b.length c2] (by rfl) rfl rfl (by (try simp only [List.map_toArray, List.map_cons, List.map_nil]); first | done | rfl) ?_
  with_reducible refine (duffelref03_Sum.calls k 0 A2 c2 b _ _ CB.out LB.out H1.out).mono ?_
  rintro e w22 ⟨rfl, ⟨nd, hnd⟩⟩
  have hb : Below w21.heap.size w21 w22 := by rw [hnd]; exact pw_below_drewN (Below.refl _ _) nd
  clear hnd nd
  have g0_ := Aside0.mk ((hb.block gt GL.out).trans G.out)
  have l0_ := Aside0.mk (Nat.lt_of_lt_of_le GL.out hb.size)
  have b0_ := Aside0.mk (below_step B.out hb)
  have c0_ := Aside0.mk (Kd.C_below CM.out hb)
  have d0_ := Aside0.mk (Kd.C_below CB.out hb)
  clear G GL B CM CB hb
  have G := g0_
  have GL := l0_
  have B := b0_
  have CM := c0_
  have CB := d0_
  clear g0_ l0_ b0_ c0_ d0_
  refine ⟨_, rfl, ?_⟩
  refine hK.out _ _ G.out (fun hHeld => ?_)
  clear hK K
  refine norm_ (a' := ?_) ?_ ?_
  rotate_left
  · show Act.put _ (some 15) _ = _
    simp only [Act.put, List.setIfInBounds_toArray, List.set_cons_zero, List.set_cons_succ, i64_w, i32_w]
    rfl
  refine pure_ (i := 4) (N := (some 16)) (v := ?_) (a' := ?_) #[true, true, true, true, true, false, false, false, false, false, false, false, false, false, false, false, false, false, false, false, false, false, false, false, false, false, false, false, false, false, false, false, false, false, false] rfl rfl (any_of HT_.out (by kernel_rfl)) (fun _ _ _ h => h) (Or.inl ⟨by rfl, ?_⟩) ?_ ?_
  rotate_left
  · intro w'
    go_simp
    with_reducible rfl
  rotate_left
  · simp only [Act.put, List.setIfInBounds_toArray, List.set_cons_zero, List.set_cons_succ, i64_w, i32_w]
    rfl
  refine pure_ (i := 5) (N := (some 17)) (v := ?_) (a' := ?_) #[true, true, true, true, true, true, false, false, false, false, false, false, false, false, false, false, false, false, false, false, false, false, false, false, false, false, false, false, false, false, false, false, false, false, false] rfl rfl (any_of HT_.out (by kernel_rfl)) (fun _ _ _ h => h) (Or.inl ⟨by rfl, ?_⟩) ?_ ?_
  rotate_left
  · intro w'
    go_simp
    with_reducible rfl
  rotate_left
  · simp only [Act.put, List.setIfInBounds_toArray, List.set_cons_zero, List.set_cons_succ, i64_w, i32_w]
    rfl
  refine pure_ (i := 7) (N := (some 19)) (v := ?_) (a' := ?_) #[true, true, true, true, true, true, false, true, false, false, false, false, false, false, false, false, false, false, false, false, false, false, false, false, false, false, false, false, false, false, false, false, false, false, false] rfl rfl (any_of HT_.out (by kernel_rfl)) (fun _ _ _ h => h) (Or.inl ⟨by rfl, ?_⟩) ?_ ?_
  rotate_left
  · intro w'
    go_simp
    with_reducible rfl
  rotate_left
  · simp only [Act.put, List.setIfInBounds_toArray, List.set_cons_zero, List.set_cons_succ, i64_w, i32_w]
    rfl
  refine pure_ (i := 8) (N := (some 20)) (v := ?_) (a' := ?_) #[true, true, true, true, true, true, false, true, true, false, false, false, false, false, false, false, false, false, false, false, false, false, false, false, false, false, false, false, false, false, false, false, false, false, false] rfl rfl (any_of HT_.out (by kernel_rfl)) (fun _ _ _ h => h) (Or.inl ⟨by rfl, ?_⟩) ?_ ?_
  rotate_left
  · intro w'
    go_simp
    with_reducible rfl
  rotate_left
  · simp only [Act.put, List.setIfInBounds_toArray, List.set_cons_zero, List.set_cons_succ, i64_w, i32_w]
    rfl
  refine pure_ (i := 10) (N := (some 22)) (v := ?_) (a' := ?_) #[true, true, true, true, true, true, false, true, true, false, true, false, false, false, false, false, false, false, false, false, false, false, false, false, false, false, false, false, false, false, false, false, false, false, false] rfl rfl (any_of HT_.out (by kernel_rfl)) (fun _ _ _ h => h) (Or.inl ⟨by rfl, ?_⟩) ?_ ?_
  rotate_left
  · intro w'
    go_simp
    with_reducible rfl
  rotate_left
  · simp only [Act.put, List.setIfInBounds_toArray, List.set_cons_zero, List.set_cons_succ, i64_w, i32_w]
    rfl
  refine pure_ (i := 11) (N := (some 23)) (v := ?_) (a' := ?_) #[true, true, true, true, true, true, false, true, true, false, true, true, false, false, false, false, false, false, false, false, false, false, false, false, false, false, false, false, false, false, false, false, false, false, false] rfl rfl (any_of HT_.out (by kernel_rfl)) (fun _ _ _ h => h) (Or.inl ⟨by rfl, ?_⟩) ?_ ?_
  rotate_left
  · intro w'
    go_simp
    with_reducible rfl
  rotate_left
  · simp only [Act.put, List.setIfInBounds_toArray, List.set_cons_zero, List.set_cons_succ, i64_w, i32_w]
    rfl
  refine one_ (i := 6) (N := (some 18)) #[true, true, true, true, true, true, true, true, true, false, true, true, false, false, false, false, false, false, false, false, false, false, false, false, false, false, false, false, false, false, false, false, false, false, false] rfl rfl (one_of HT_.out (by kernel_rfl)) (by decide) (fun K hK => ?_)
  refine goes_ Try.func8 (by kernel_rfl) rfl #[] (by rfl) rfl rfl (by (try simp only [List.map_toArray, List.map_cons, List.map_nil]); first | done | rfl) ?_
  refine (table_any2 _).mono ?_
  rintro e w24 ⟨rfl, hb⟩
  have g0_ := Aside0.mk ((hb.block gt GL.out).trans G.out)
  have l0_ := Aside0.mk (Nat.lt_of_lt_of_le GL.out hb.size)
  have b0_ := Aside0.mk (below_step B.out hb)
  have c0_ := Aside0.mk (Kd.C_below CM.out hb)
  have d0_ := Aside0.mk (Kd.C_below CB.out hb)
  clear G GL B CM CB hb
  have G := g0_
  have GL := l0_
  have B := b0_
  have CM := c0_
  have CB := d0_
  clear g0_ l0_ b0_ c0_ d0_
  refine ⟨_, rfl, ?_⟩
  refine hK.out _ _ G.out (fun hHeld => ?_)
  clear hK K
  refine norm_ (a' := ?_) ?_ ?_
  rotate_left
  · show Act.put _ (some 18) _ = _
    simp only [Act.put, List.setIfInBounds_toArray, List.set_cons_zero, List.set_cons_succ, i64_w, i32_w]
    rfl
  refine one_ (i := 9) (N := (some 21)) #[true, true, true, true, true, true, true, true, true, true, true, true, false, false, false, false, false, false, false, false, false, false, false, false, false, false, false, false, false, false, false, false, false, false, false] rfl rfl (one_of HT_.out (by kernel_rfl)) (by decide) (fun K hK => ?_)
  refine goes_ Try.func15 (by kernel_rfl) rfl #[.agg (tabV tabL), .int .u32 s, .slice Am b.length cm] (by rfl) rfl rfl (by (try simp only [List.map_toArray, List.map_cons, List.map_nil]); first | done | rfl) ?_
  refine (add_any tabL tabL_len s Am cm b _ CM.out LM.out LS.out).mono ?_
  rintro e w25 ⟨rfl, hb⟩
  have g0_ := Aside0.mk ((hb.block gt GL.out).trans G.out)
  have l0_ := Aside0.mk (Nat.lt_of_lt_of_le GL.out hb.size)
  have b0_ := Aside0.mk (below_step B.out hb)
  have c0_ := Aside0.mk (Kd.C_below CM.out hb)
  have d0_ := Aside0.mk (Kd.C_below CB.out hb)
  clear G GL B CM CB hb
  have G := g0_
  have GL := l0_
  have B := b0_
  have CM := c0_
  have CB := d0_
  clear g0_ l0_ b0_ c0_ d0_
  refine ⟨_, rfl, ?_⟩
  refine hK.out _ _ G.out (fun hHeld => ?_)
  clear hK K
  refine norm_ (a' := ?_) ?_ ?_
  rotate_left
  · show Act.put _ (some 21) _ = _
    simp only [Act.put, List.setIfInBounds_toArray, List.set_cons_zero, List.set_cons_succ, i64_w, i32_w]
    rfl
  refine one_ (i := 12) (N := (some 24)) #[true, true, true, true, true, true, true, true, true, true, true, true, true, false, false, false, false, false, false, false, false, false, false, false, false, false, false, false, false, false, false, false, false, false, false] rfl rfl (one_of HT_.out (by kernel_rfl)) (by decide) (fun K hK => ?_)
  refine goes_ Try.func14 (by kernel_rfl) rfl #[.int .u32 s, .slice A2 b.length c2] (by rfl) rfl rfl (by (try simp only [List.map_toArray, List.map_cons, List.map_nil]); first | done | rfl) ?_
  with_reducible refine (duffelref03_Sum.calls k s A2 c2 b _ _ CB.out LB.out H2.out).mono ?_
  rintro e w26 ⟨rfl, ⟨nd, hnd⟩⟩
  have hb : Below w25.heap.size w25 w26 := by rw [hnd]; exact pw_below_drewN (Below.refl _ _) nd
  clear hnd nd
  have g0_ := Aside0.mk ((hb.block gt GL.out).trans G.out)
  have l0_ := Aside0.mk (Nat.lt_of_lt_of_le GL.out hb.size)
  have b0_ := Aside0.mk (below_step B.out hb)
  have c0_ := Aside0.mk (Kd.C_below CM.out hb)
  have d0_ := Aside0.mk (Kd.C_below CB.out hb)
  clear G GL B CM CB hb
  have G := g0_
  have GL := l0_
  have B := b0_
  have CM := c0_
  have CB := d0_
  clear g0_ l0_ b0_ c0_ d0_
  refine ⟨_, rfl, ?_⟩
  refine hK.out _ _ G.out (fun hHeld => ?_)
  clear hK K
  refine norm_ (a' := ?_) ?_ ?_
  rotate_left
  · show Act.put _ (some 24) _ = _
    simp only [Act.put, List.setIfInBounds_toArray, List.set_cons_zero, List.set_cons_succ, i64_w, i32_w]
    rfl
  refine pure_ (i := 13) (N := (some 25)) (v := ?_) (a' := ?_) #[true, true, true, true, true, true, true, true, true, true, true, true, true, true, false, false, false, false, false, false, false, false, false, false, false, false, false, false, false, false, false, false, false, false, false] rfl rfl (any_of HT_.out (by kernel_rfl)) (fun _ _ _ h => h) (Or.inl ⟨by rfl, ?_⟩) ?_ ?_
  rotate_left
  · intro w'
    go_simp
    with_reducible rfl
  rotate_left
  · simp only [Act.put, List.setIfInBounds_toArray, List.set_cons_zero, List.set_cons_succ, i64_w, i32_w]
    rfl
  refine pure_ (i := 14) (N := (some 26)) (v := ?_) (a' := ?_) #[true, true, true, true, true, true, true, true, true, true, true, true, true, true, true, false, false, false, false, false, false, false, false, false, false, false, false, false, false, false, false, false, false, false, false] rfl rfl (any_of HT_.out (by kernel_rfl)) (fun _ _ _ h => h) (Or.inl ⟨by rfl, ?_⟩) ?_ ?_
  rotate_left
  · intro w'
    go_simp
    with_reducible rfl
  rotate_left
  · simp only [Act.put, List.setIfInBounds_toArray, List.set_cons_zero, List.set_cons_succ, i64_w, i32_w]
    rfl
  refine pure_ (i := 15) (N := (some 27)) (v := ?_) (a' := ?_) #[true, true, true, true, true, true, true, true, true, true, true, true, true, true, true, true, false, false, false, false, false, false, false, false, false, false, false, false, false, false, false, false, false, false, false] rfl rfl (any_of HT_.out (by kernel_rfl)) (fun _ _ _ h => h) (Or.inl ⟨by rfl, ?_⟩) ?_ ?_
  rotate_left
  · intro w'
    go_simp
    with_reducible rfl
  rotate_left
  · simp only [Act.put, List.setIfInBounds_toArray, List.set_cons_zero, List.set_cons_succ, i64_w, i32_w]
    rfl
  refine pure_ (i := 17) (N := (some 29)) (v := ?_) (a' := ?_) #[true, true, true, true, true, true, true, true, true, true, true, true, true, true, true, true, false, true, false, false, false, false, false, false, false, false, false, false, false, false, false, false, false, false, false] rfl rfl (any_of HT_.out (by kernel_rfl)) (fun _ _ _ h => h) (Or.inl ⟨by rfl, ?_⟩) ?_ ?_
  rotate_left
  · intro w'
    go_simp
    with_reducible rfl
  rotate_left
  · simp only [Act.put, List.setIfInBounds_toArray, List.set_cons_zero, List.set_cons_succ, i64_w, i32_w]
    rfl
  refine pure_ (i := 18) (N := (some 30)) (v := ?_) (a' := ?_) #[true, true, true, true, true, true, true, true, true, true, true, true, true, true, true, true, false, true, true, false, false, false, false, false, false, false, false, false, false, false, false, false, false, false, false] rfl rfl (any_of HT_.out (by kernel_rfl)) (fun _ _ _ h => h) (Or.inl ⟨by rfl, ?_⟩) ?_ ?_
  rotate_left
  · intro w'
    go_simp
    with_reducible rfl
  rotate_left
  · simp only [Act.put, List.setIfInBounds_toArray, List.set_cons_zero, List.set_cons_succ, i64_w, i32_w]
    rfl
  refine pure_ (i := 21) (N := (some 33)) (v := ?_) (a' := ?_) #[true, true, true, true, true, true, true, true, true, true, true, true, true, true, true, true, false, true, true, false, false, true, false, false, false, false, false, false, false, false, false, false, false, false, false] rfl rfl (any_of HT_.out (by kernel_rfl)) (fun _ _ _ h => h) (Or.inl ⟨by rfl, ?_⟩) ?_ ?_
  rotate_left
  · intro w'
    go_simp
    with_reducible rfl
  rotate_left
  · simp only [Act.put, List.setIfInBounds_toArray, List.set_cons_zero, List.set_cons_succ, i64_w, i32_w]
    rfl
  refine pure_ (i := 22) (N := (some 34)) (v := ?_) (a' := ?_) #[true, true, true, true, true, true, true, true, true, true, true, true, true, true, true, true, false, true, true, false, false, true, true, false, false, false, false, false, false, false, false, false, false, false, false] rfl rfl (any_of HT_.out (by kernel_rfl)) (fun _ _ _ h => h) (Or.inl ⟨by rfl, ?_⟩) ?_ ?_
  rotate_left
  · intro w'
    go_simp
    with_reducible rfl
  rotate_left
  · simp only [Act.put, List.setIfInBounds_toArray, List.set_cons_zero, List.set_cons_succ, i64_w, i32_w]
    rfl
  refine take_ (i := 16) (N := (some 28)) (v := ?_) (a' := ?_) #[true, true, true, true, true, true, true, true, true, true, true, true, true, true, true, true, true, true, true, false, false, true, true, false, false, false, false, false, false, false, false, false, false, false, false] rfl rfl (take_ofW HT_.out HW_.out (by kernel_rfl)) (fun _ _ _ h => h) (Or.inl ⟨by rfl, ?_⟩) hHeld ?_ ?_
  rotate_left
  · intro w' hs
    refine exec_load_tab _ _ _ _ _ _ _ gt _ tl HT.out ?_ hs
    rfl
  rotate_left
  · simp only [Act.put, List.setIfInBounds_toArray, List.set_cons_zero, List.set_cons_succ, i64_w, i32_w]
    rfl
  refine take_ (i := 20) (N := (some 32)) (v := ?_) (a' := ?_) #[true, true, true, true, true, true, true, true, true, true, true, true, true, true, true, true, true, true, true, false, true, true, true, false, false, false, false, false, false, false, false, false, false, false, false] rfl rfl (take_ofW HT_.out HW_.out (by kernel_rfl)) (fun _ _ _ h => h) (Or.inl ⟨by rfl, ?_⟩) hHeld ?_ ?_
  rotate_left
  · intro w' hs
    refine exec_load_tab _ _ _ _ _ _ _ gt _ tl HT.out ?_ hs
    rfl
  rotate_left
  · simp only [Act.put, List.setIfInBounds_toArray, List.set_cons_zero, List.set_cons_succ, i64_w, i32_w]
    rfl
  refine one_ (i := 19) (N := (some 31)) #[true, true, true, true, true, true, true, true, true, true, true, true, true, true, true, true, true, true, true, true, true, true, true, false, false, false, false, false, false, false, false, false, false, false, false] rfl rfl (one_of HT_.out (by kernel_rfl)) (by decide) (fun K hK => ?_)
  refine goes_ Try.func15 (by kernel_rfl) rfl #[.agg (tabV tl), .int .u32 s, .slice Am b.length cm] (by rfl) rfl rfl (by (try simp only [List.map_toArray, List.map_cons, List.map_nil]); first | done | rfl) ?_
  refine (add_any tl HT.out s Am cm b _ CM.out LM.out LS.out).mono ?_
  rintro e w27 ⟨rfl, hb⟩
  have g0_ := Aside0.mk ((hb.block gt GL.out).trans G.out)
  have l0_ := Aside0.mk (Nat.lt_of_lt_of_le GL.out hb.size)
  have b0_ := Aside0.mk (below_step B.out hb)
  have c0_ := Aside0.mk (Kd.C_below CM.out hb)
  have d0_ := Aside0.mk (Kd.C_below CB.out hb)
  clear G GL B CM CB hb
  have G := g0_
  have GL := l0_
  have B := b0_
  have CM := c0_
  have CB := d0_
  clear g0_ l0_ b0_ c0_ d0_
  refine ⟨_, rfl, ?_⟩
  refine hK.out _ _ G.out (fun hHeld => ?_)
  clear hK K
  refine norm_ (a' := ?_) ?_ ?_
  rotate_left
  · show Act.put _ (some 31) _ = _
    simp only [Act.put, List.setIfInBounds_toArray, List.set_cons_zero, List.set_cons_succ, i64_w, i32_w]
    rfl
  refine one_ (i := 23) (N := (some 35)) #[true, true, true, true, true, true, true, true, true, true, true, true, true, true, true, true, true, true, true, true, true, true, true, true, false, false, false, false, false, false, false, false, false, false, false] rfl rfl (one_of HT_.out (by kernel_rfl)) (by decide) (fun K hK => ?_)
  refine goes_ Try.func16 (by kernel_rfl) rfl #[.agg (tabV tl), .int .u32 s, .slice A2 b.length c2] (by rfl) rfl rfl (by (try simp only [List.map_toArray, List.map_cons, List.map_nil]); first | done | rfl) ?_
  refine (with_any tl HT.out s A2 c2 b _ CB.out LB.out LS.out HBY.out).mono ?_
  rintro e w28 ⟨rfl, hb⟩
  have g0_ := Aside0.mk ((hb.block gt GL.out).trans G.out)
  have l0_ := Aside0.mk (Nat.lt_of_lt_of_le GL.out hb.size)
  have b0_ := Aside0.mk (below_step B.out hb)
  have c0_ := Aside0.mk (Kd.C_below CM.out hb)
  have d0_ := Aside0.mk (Kd.C_below CB.out hb)
  clear G GL B CM CB hb
  have G := g0_
  have GL := l0_
  have B := b0_
  have CM := c0_
  have CB := d0_
  clear g0_ l0_ b0_ c0_ d0_
  refine ⟨_, rfl, ?_⟩
  refine hK.out _ _ G.out (fun hHeld => ?_)
  clear hK K
  refine norm_ (a' := ?_) ?_ ?_
  rotate_left
  · show Act.put _ (some 35) _ = _
    simp only [Act.put, List.setIfInBounds_toArray, List.set_cons_zero, List.set_cons_succ, i64_w, i32_w]
    rfl
  refine pure_ (i := 24) (N := (some 36)) (v := ?_) (a' := ?_) #[true, true, true, true, true, true, true, true, true, true, true, true, true, true, true, true, true, true, true, true, true, true, true, true, true, false, false, false, false, false, false, false, false, false, false] rfl rfl (any_of HT_.out (by kernel_rfl)) (fun _ _ _ h => h) (Or.inl ⟨by rfl, ?_⟩) ?_ ?_
  rotate_left
  · intro w'
    go_simp
    with_reducible rfl
  rotate_left
  · simp only [Act.put, List.setIfInBounds_toArray, List.set_cons_zero, List.set_cons_succ, i64_w, i32_w]
    rfl
  refine pure_ (i := 25) (N := (some 37)) (v := ?_) (a' := ?_) #[true, true, true, true, true, true, true, true, true, true, true, true, true, true, true, true, true, true, true, true, true, true, true, true, true, true, false, false, false, false, false, false, false, false, false] rfl rfl (any_of HT_.out (by kernel_rfl)) (fun _ _ _ h => h) (Or.inl ⟨by rfl, ?_⟩) ?_ ?_
  rotate_left
  · intro w'
    go_simp
    with_reducible rfl
  rotate_left
  · simp only [Act.put, List.setIfInBounds_toArray, List.set_cons_zero, List.set_cons_succ, i64_w, i32_w]
    rfl
  refine pure_ (i := 26) (N := (some 38)) (v := ?_) (a' := ?_) #[true, true, true, true, true, true, true, true, true, true, true, true, true, true, true, true, true, true, true, true, true, true, true, true, true, true, true, false, false, false, false, false, false, false, false] rfl rfl (any_of HT_.out (by kernel_rfl)) (fun _ _ _ h => h) (Or.inl ⟨by rfl, ?_⟩) ?_ ?_
  rotate_left
  · intro w'
    go_simp
    with_reducible rfl
  rotate_left
  · simp only [Act.put, List.setIfInBounds_toArray, List.set_cons_zero, List.set_cons_succ, i64_w, i32_w]
    rfl
  refine pure_ (i := 27) (N := (some 39)) (v := ?_) (a' := ?_) #[true, true, true, true, true, true, true, true, true, true, true, true, true, true, true, true, true, true, true, true, true, true, true, true, true, true, true, true, false, false, false, false, false, false, false] rfl rfl (any_of HT_.out (by kernel_rfl)) (fun _ _ _ h => h) (Or.inl ⟨by rfl, ?_⟩) ?_ ?_
  rotate_left
  · intro w'
    go_simp
    with_reducible rfl
  rotate_left
  · simp only [Act.put, List.setIfInBounds_toArray, List.set_cons_zero, List.set_cons_succ, i64_w, i32_w]
    rfl
  refine pure_ (i := 28) (N := (some 40)) (v := ?_) (a' := ?_) #[true, true, true, true, true, true, true, true, true, true, true, true, true, true, true, true, true, true, true, true, true, true, true, true, true, true, true, true, true, false, false, false, false, false, false] rfl rfl (any_of HT_.out (by kernel_rfl)) (fun _ _ _ h => h) (Or.inl ⟨by rfl, ?_⟩) ?_ ?_
  rotate_left
  · intro w'
    go_simp
    with_reducible rfl
  rotate_left
  · simp only [Act.put, List.setIfInBounds_toArray, List.set_cons_zero, List.set_cons_succ, i64_w, i32_w]
    rfl
  refine one_ (i := 29) (N := (some 41)) #[true, true, true, true, true, true, true, true, true, true, true, true, true, true, true, true, true, true, true, true, true, true, true, true, true, true, true, true, true, true, false, false, false, false, false] rfl rfl (one_of HT_.out (by kernel_rfl)) (by decide) (fun K hK => ?_)
  refine goes_ Try.func17 (by kernel_rfl) rfl #[.slice Am b.length cm, .slice A2 b.length c2] (by rfl) rfl rfl (by (try simp only [List.map_toArray, List.map_cons, List.map_nil]); first | done | rfl) ?_
  with_reducible refine (duffelref01_Same.calls k Am cm b A2 c2 b true _ CM.out LM.out CB.out LB.out H3.out).mono ?_
  rintro e w29 ⟨rfl, ⟨nd, hnd⟩⟩
  have hb : Below w28.heap.size w28 w29 := by rw [hnd]; exact pw_below_drewN (Below.refl _ _) nd
  clear hnd nd
  have g0_ := Aside0.mk ((hb.block gt GL.out).trans G.out)
  have l0_ := Aside0.mk (Nat.lt_of_lt_of_le GL.out hb.size)
  have b0_ := Aside0.mk (below_step B.out hb)
  have c0_ := Aside0.mk (Kd.C_below CM.out hb)
  have d0_ := Aside0.mk (Kd.C_below CB.out hb)
  clear G GL B CM CB hb
  have G := g0_
  have GL := l0_
  have B := b0_
  have CM := c0_
  have CB := d0_
  clear g0_ l0_ b0_ c0_ d0_
  refine ⟨_, rfl, ?_⟩
  refine hK.out _ _ G.out (fun hHeld => ?_)
  clear hK K
  refine norm_ (a' := ?_) ?_ ?_
  rotate_left
  · show Act.put _ (some 41) _ = _
    simp only [Act.put, List.setIfInBounds_toArray, List.set_cons_zero, List.set_cons_succ, i64_w, i32_w]
    rfl
  refine pure_ (i := 30) (N := (some 42)) (v := ?_) (a' := ?_) #[true, true, true, true, true, true, true, true, true, true, true, true, true, true, true, true, true, true, true, true, true, true, true, true, true, true, true, true, true, true, true, false, false, false, false] rfl rfl (any_of HT_.out (by kernel_rfl)) (fun _ _ _ h => h) (Or.inl ⟨by rfl, ?_⟩) ?_ ?_
  rotate_left
  · intro w'
    go_simp
    with_reducible rfl
  rotate_left
  · simp only [Act.put, List.setIfInBounds_toArray, List.set_cons_zero, List.set_cons_succ, i64_w, i32_w]
    rfl
  refine pure_ (i := 31) (N := (some 43)) (v := ?_) (a' := ?_) #[true, true, true, true, true, true, true, true, true, true, true, true, true, true, true, true, true, true, true, true, true, true, true, true, true, true, true, true, true, true, true, true, false, false, false] rfl rfl (any_of HT_.out (by kernel_rfl)) (fun _ _ _ h => h) (Or.inl ⟨by rfl, ?_⟩) ?_ ?_
  rotate_left
  · intro w'
    go_simp
    with_reducible rfl
  rotate_left
  · simp only [Act.put, List.setIfInBounds_toArray, List.set_cons_zero, List.set_cons_succ, i64_w, i32_w]
    rfl
  refine one_ (i := 32) (N := (some 44)) #[true, true, true, true, true, true, true, true, true, true, true, true, true, true, true, true, true, true, true, true, true, true, true, true, true, true, true, true, true, true, true, true, true, false, false] rfl rfl (one_of HT_.out (by kernel_rfl)) (by decide) (fun K hK => ?_)
  refine goes_ Try.func10 (by kernel_rfl) rfl #[] (by rfl) rfl rfl (by (try simp only [List.map_toArray, List.map_cons, List.map_nil]); first | done | rfl) ?_
  refine (lives_any _).mono ?_
  rintro e w30 ⟨rfl, hb⟩
  have g0_ := Aside0.mk ((hb.block gt GL.out).trans G.out)
  have l0_ := Aside0.mk (Nat.lt_of_lt_of_le GL.out hb.size)
  have b0_ := Aside0.mk (below_step B.out hb)
  have c0_ := Aside0.mk (Kd.C_below CM.out hb)
  have d0_ := Aside0.mk (Kd.C_below CB.out hb)
  clear G GL B CM CB hb
  have G := g0_
  have GL := l0_
  have B := b0_
  have CM := c0_
  have CB := d0_
  clear g0_ l0_ b0_ c0_ d0_
  refine ⟨_, rfl, ?_⟩
  refine hK.out _ _ G.out (fun hHeld => ?_)
  clear hK K
  refine norm_ (a' := ?_) ?_ ?_
  rotate_left
  · show Act.put _ (some 44) _ = _
    simp only [Act.put, List.setIfInBounds_toArray, List.set_cons_zero, List.set_cons_succ, i64_w, i32_w]
    rfl
  refine pure_ (i := 33) (N := (some 45)) (v := ?_) (a' := ?_) #[true, true, true, true, true, true, true, true, true, true, true, true, true, true, true, true, true, true, true, true, true, true, true, true, true, true, true, true, true, true, true, true, true, true, false] rfl rfl (any_of HT_.out (by kernel_rfl)) (fun _ _ _ h => h) (Or.inl ⟨by rfl, ?_⟩) ?_ ?_
  rotate_left
  · intro w'
    go_simp
    with_reducible rfl
  rotate_left
  · simp only [Act.put, List.setIfInBounds_toArray, List.set_cons_zero, List.set_cons_succ, i64_w, i32_w]
    rfl
  refine pure_ (i := 34) (N := (some 6)) (v := ?_) (a' := ?_) #[true, true, true, true, true, true, true, true, true, true, true, true, true, true, true, true, true, true, true, true, true, true, true, true, true, true, true, true, true, true, true, true, true, true, true] rfl rfl (any_of HT_.out (by kernel_rfl)) (fun _ _ _ h => h) (Or.inl ⟨by rfl, ?_⟩) ?_ ?_
  rotate_left
  · intro w'
    go_simp
    with_reducible rfl
  rotate_left
  · simp only [Act.put, List.setIfInBounds_toArray, List.set_cons_zero, List.set_cons_succ, i64_w, i32_w]
    rfl
  refine done_ (done_of HT_.out (by kernel_rfl)) ?_
  try go_wp2
  go_ret
  exact ⟨rfl, by have := B.out; exact this⟩
end Go.Proofs.Ytlemagpmhenmmaa.CrcSums
