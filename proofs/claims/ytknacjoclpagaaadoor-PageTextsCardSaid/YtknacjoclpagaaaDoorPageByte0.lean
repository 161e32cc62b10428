/- page.Byte, walked. -/
import Derived.Test.YtknacjoclpagaaaDoorPageUp0
import Derived.Test.YtknacjoclpagaaaDoorPBx1
namespace Go.Proofs.YtknacjoclpagaaaDoor.Pg
open Go.RowKit Go.Proofs.YtknacjoclpagaaaDoorW.PrintWords Go.Proofs.YtknacjoclpagaaaDoorW.PrintLast Go.Proofs.YtknacjoclpagaaaDoorW.PrintMore
set_option linter.unusedVariables false
set_option linter.unusedSimpArgs false
/-- where a character stands in a list, counted from i; -1: nowhere -/
def scan : List Int → Int → Int → Int
  | [], _, _ => -1
  | x :: xs, r, i => if r = x then i else scan xs r (i + 1)
theorem drop_cons (l : List Int) (i : Nat) (h : i < l.length) : l.drop i = l.getD i 0 :: l.drop (i + 1) := by
  rw [List.drop_eq_getElem_cons h, List.getD_eq_getElem?_getD, List.getElem?_eq_getElem h]; rfl
theorem scan_range : ∀ (l : List Int) (r i : Int), 0 ≤ i → (scan l r i = -1 ∧ r ∉ l) ∨ (i ≤ scan l r i ∧ scan l r i < i + l.length)
  | [], r, i, _ => Or.inl ⟨rfl, by simp⟩
  | x :: xs, r, i, h => by
    unfold scan
    by_cases e : r = x
    · rw [if_pos e]; right; simp; omega
    · rw [if_neg e]
      rcases scan_range xs r (i + 1) (by omega) with ⟨h1, h2⟩ | ⟨h1, h2⟩
      · left; exact ⟨h1, by simp [e, h2]⟩
      · right; simp; omega
theorem wr_inc (i : Nat) (h : i < 1000000) : wrap64 ((i : Int) + 1) = ((i + 1 : Nat) : Int) := by unfold wrap64; omega
theorem index_scan (l : List Int) (r : Int) (hl : l.length < 1000000) : ∀ (n i k : Nat), l.length - i = n → i ≤ l.length → n < k → PB.slices_Index_rune_rune.l0 k l r (l.length : Int) i = some (scan (l.drop i) r i)
  | n, i, 0, _, _, h => by omega
  | 0, i, k + 1, h1, h2, h3 => by
    have e : i = l.length := by omega
    unfold PB.slices_Index_rune_rune.l0
    rw [if_neg (by omega), e, List.drop_length]; rfl
  | n + 1, i, k + 1, h1, h2, h3 => by
    have hi : i < l.length := by omega
    unfold PB.slices_Index_rune_rune.l0
    rw [if_pos (by omega), if_pos (by omega), if_pos (by omega), drop_cons l i hi]
    unfold scan
    have e : rd l (i : Int) = l.getD i 0 := by unfold rd; simp
    rw [e]
    by_cases c : r = l.getD i 0
    · rw [if_pos c, if_pos c]
    · rw [if_neg c, if_neg c, wr_inc i (by omega), index_scan l r hl n (i + 1) k (by omega) (by omega) (by omega)]; rfl
def pos (r : Int) : Int := scan upL r 0
theorem upL_len : upL.length = 128 := by decide +kernel
theorem index_any (A : Option Addr) (r : Int) (w : World) (h : Kd.C (Kd.int .i32) w A 128 upL) : Calls Tryd.prog 27 #[.slice A 128 128, .int .i32 r] w fun e w' => e = .returned (.int .i64 (pos r)) ∧ Drawn0 w w' := by
  have hf : PB.slices_Index_rune_rune.f 200 upL r = some (pos r) := by
    have := index_scan upL r (by rw [upL_len]; omega) 128 0 200 (by rw [upL_len]) (by omega) (by omega)
    exact this
  have := PB.slices_Index_rune_rune.calls 200 A 128 upL r (pos r) w (by rw [upL_len]; exact h) (by rw [upL_len]; omega) hf
  rw [upL_len] at this
  exact this
theorem pos_range (r : Int) : pos r = -1 ∨ (0 ≤ pos r ∧ pos r < 128) := by
  rcases scan_range upL r 0 (by omega) with h | h
  · exact Or.inl h.1
  · rw [upL_len] at h; exact Or.inr ⟨h.1, by have := h.2; unfold pos; omega⟩
theorem slice_up (b : Nat) (w : World) : (Instr.sliceAt 60 (.pointer (some ⟨b, 0, none⟩)) none none none).run Tryd.prog w = .ok (.slice (some ⟨b, 0, none⟩) 128 128) w := by
  have hi : (Tryd.prog.info? 21).map (·.size) = some 1 := by kernel_rfl
  obtain ⟨i0, hi0, hs⟩ := Option.map_eq_some_iff.1 hi
  have e1 : Tryd.prog.arrayLen 60 = 128 := by kernel_rfl
  have e2 : Tryd.prog.elem 60 = 21 := by kernel_rfl
  have ht : Tryd.prog.underlying 60 = some (.array (Tryd.prog.arrayLen 60) (Tryd.prog.elem 60)) := by rw [e1, e2]; exact Tryd.underlying60
  rw [run_sliceAt_array_all w _ _ ht, e1, e2]
  simp [sizeOf, typeInfo, hi0, hs, slicedAt, Addr.add]
theorem row_reads (b : Nat) (w : World) (h : w.heap[b]? = some (.cells upV 60 (0, 0))) : Kd.C (Kd.int .i32) w (some ⟨b, 0, none⟩) 128 upL := by
  refine Kd.C_of_reads (d := (0 : Int)) (h1 := fun _ => rfl) ⟨upL_len, by decide, fun _ => ⟨_, rfl, fun j hj => ?_⟩⟩
  have := blk_cell h j
  rw [show (⟨b, 0, none⟩ : Addr).add j = ⟨b, j, none⟩ by (simp [Addr.add]; try omega), this]
  exact upV_at j hj
/-- which byte a character is -/
def byteZ (r : Int) : Int := if 0 ≤ r ∧ r < 128 then r else if pos r < 0 then 0 else pos r + 128
def byteOk (r : Int) : Bool := decide (0 ≤ r ∧ r < 128) || decide (0 ≤ pos r)
set_option maxHeartbeats 4000000 in
set_option maxRecDepth 100000 in
theorem byte_low (r : Int) (w : World) (h0 : 0 ≤ r) (h1 : r < 128) : Calls Tryd.prog 16 #[.int .i32 r] w fun e w' => e = .returned (.tuple #[.int .u8 r, .bool true]) ∧ Below w.heap.size w w' := by
  have c1 : decide (r ≥ 0) = true := decide_eq_true h0
  have c1' : decide (0 ≤ r) = true := decide_eq_true h0
  have c2 : decide (r < 128) = true := decide_eq_true h1
  have hw : IntKind.u8.wrap r = r := by rw [IntKind.wrap_u8]; omega
  clear h0 h1
  go_enter Tryd.func16, Tryd.ntmps16
  go_wp2
  go_ret2
  exact ⟨rfl, Below.refl _ _⟩
set_option maxHeartbeats 4000000 in
set_option maxRecDepth 100000 in
theorem byte_none (r : Int) (w : World) (h0 : ¬ (0 ≤ r ∧ r < 128)) (h1 : pos r = -1) : Calls Tryd.prog 16 #[.int .i32 r] w fun e w' => e = .returned (.tuple #[.int .u8 0, .bool false]) ∧ Below w.heap.size w w' := by
  have IX := Aside0.mk (fun A w h => h1 ▸ index_any A r w h)
  have UV := Aside0.mk upper_any
  have RR := Aside0.mk row_reads
  have SU := slice_up
  have c2 : (decide (r ≥ 0) && decide (r < 128)) = false := by
    rw [← Bool.decide_and]; exact decide_eq_false (by omega)
  have VZ : upV.size = 128 := by kernel_rfl
  have Va : upV.all (·.oneCell') = true := by kernel_rfl
  generalize upV = V at *
  have VZ' := Aside0.mk VZ
  have Va' := Aside0.mk Va
  clear VZ Va h1
  by_cases c : r ≥ 0
  · have c1 : decide (r ≥ 0) = true := decide_eq_true c
    have c1' : decide (0 ≤ r) = true := decide_eq_true c
    have c3 : decide (r < 128) = false := decide_eq_false (by omega)
    clear h0 c c2
    go_enter Tryd.func16, Tryd.ntmps16
    go_wp2_with (first
      | (go_at_call 26; refine (UV.out _).mono ?_; rintro e w1 ⟨rfl, hb⟩; have HB := Aside0.mk hb; clear hb)
      | (refine wpList_alloc_as rfl 60 rfl _ Z zInfo rfl ?_)
      | (refine wpList_store_row rfl 60 _ _ rfl w1.heap.size V rfl rfl 60 Z (heap_alloc_new w1 _) ((show (Tryd.prog.info? 60).map (·.size) = some 128 from by kernel_rfl).trans (congrArg some VZ'.out.symm)) ((show Z.size = 128 from by kernel_rfl).trans VZ'.out.symm) Va'.out ?_)
      | (go_at_call 27; refine (IX.out _ _ (RR.out _ _ (setRow_heap _ _ _ _ _ _ (heap_alloc_new w1 _)))).mono ?_; rintro e w2 ⟨rfl, hd⟩; have HB2 := Aside0.mk ((below_setRow (below_alloc HB.out _) (HB.out.size) V).trans ((Drawn0.below hd).mono (by have := HB.out.size; simp; omega))); clear hd HB))
    go_ret2
    exact ⟨rfl, HB2.out⟩
  · have c1 : decide (r ≥ 0) = false := decide_eq_false c
    have c1' : decide (0 ≤ r) = false := decide_eq_false c
    clear h0 c c2
    go_enter Tryd.func16, Tryd.ntmps16
    go_wp2_with (first
      | (go_at_call 26; refine (UV.out _).mono ?_; rintro e w1 ⟨rfl, hb⟩; have HB := Aside0.mk hb; clear hb)
      | (refine wpList_alloc_as rfl 60 rfl _ Z zInfo rfl ?_)
      | (refine wpList_store_row rfl 60 _ _ rfl w1.heap.size V rfl rfl 60 Z (heap_alloc_new w1 _) ((show (Tryd.prog.info? 60).map (·.size) = some 128 from by kernel_rfl).trans (congrArg some VZ'.out.symm)) ((show Z.size = 128 from by kernel_rfl).trans VZ'.out.symm) Va'.out ?_)
      | (go_at_call 27; refine (IX.out _ _ (RR.out _ _ (setRow_heap _ _ _ _ _ _ (heap_alloc_new w1 _)))).mono ?_; rintro e w2 ⟨rfl, hd⟩; have HB2 := Aside0.mk ((below_setRow (below_alloc HB.out _) (HB.out.size) V).trans ((Drawn0.below hd).mono (by have := HB.out.size; simp; omega))); clear hd HB))
    go_ret2
    exact ⟨rfl, HB2.out⟩
set_option maxHeartbeats 4000000 in
set_option maxRecDepth 100000 in
theorem byte_up (r p : Int) (w : World) (h0 : ¬ (0 ≤ r ∧ r < 128)) (h1 : pos r = p) (h2 : 0 ≤ p) (h3 : p < 128) : Calls Tryd.prog 16 #[.int .i32 r] w fun e w' => e = .returned (.tuple #[.int .u8 (p + 128), .bool true]) ∧ Below w.heap.size w w' := by
  have IX := Aside0.mk (fun A w h => h1 ▸ index_any A r w h)
  have UV := Aside0.mk upper_any
  have RR := Aside0.mk row_reads
  have SU := slice_up
  have d1 : decide (p < 0) = false := decide_eq_false (by omega)
  have d2 : IntKind.i64.wrap (p + 128) = p + 128 := by rw [IntKind.wrap_i64]; omega
  have d3 : IntKind.u8.wrap (p + 128) = p + 128 := by rw [IntKind.wrap_u8]; omega
  have VZ : upV.size = 128 := by kernel_rfl
  have Va : upV.all (·.oneCell') = true := by kernel_rfl
  generalize upV = V at *
  have VZ' := Aside0.mk VZ
  have Va' := Aside0.mk Va
  clear VZ Va h1 h2 h3
  by_cases c : r ≥ 0
  · have c1 : decide (r ≥ 0) = true := decide_eq_true c
    have c1' : decide (0 ≤ r) = true := decide_eq_true c
    have c3 : decide (r < 128) = false := decide_eq_false (by omega)
    clear h0 c
    go_enter Tryd.func16, Tryd.ntmps16
    go_wp2_with (first
      | (go_at_call 26; refine (UV.out _).mono ?_; rintro e w1 ⟨rfl, hb⟩; have HB := Aside0.mk hb; clear hb)
      | (refine wpList_alloc_as rfl 60 rfl _ Z zInfo rfl ?_)
      | (refine wpList_store_row rfl 60 _ _ rfl w1.heap.size V rfl rfl 60 Z (heap_alloc_new w1 _) ((show (Tryd.prog.info? 60).map (·.size) = some 128 from by kernel_rfl).trans (congrArg some VZ'.out.symm)) ((show Z.size = 128 from by kernel_rfl).trans VZ'.out.symm) Va'.out ?_)
      | (go_at_call 27; refine (IX.out _ _ (RR.out _ _ (setRow_heap _ _ _ _ _ _ (heap_alloc_new w1 _)))).mono ?_; rintro e w2 ⟨rfl, hd⟩; have HB2 := Aside0.mk ((below_setRow (below_alloc HB.out _) (HB.out.size) V).trans ((Drawn0.below hd).mono (by have := HB.out.size; simp; omega))); clear hd HB))
    go_ret2
    exact ⟨rfl, HB2.out⟩
  · have c1 : decide (r ≥ 0) = false := decide_eq_false c
    have c1' : decide (0 ≤ r) = false := decide_eq_false c
    clear h0 c
    go_enter Tryd.func16, Tryd.ntmps16
    go_wp2_with (first
      | (go_at_call 26; refine (UV.out _).mono ?_; rintro e w1 ⟨rfl, hb⟩; have HB := Aside0.mk hb; clear hb)
      | (refine wpList_alloc_as rfl 60 rfl _ Z zInfo rfl ?_)
      | (refine wpList_store_row rfl 60 _ _ rfl w1.heap.size V rfl rfl 60 Z (heap_alloc_new w1 _) ((show (Tryd.prog.info? 60).map (·.size) = some 128 from by kernel_rfl).trans (congrArg some VZ'.out.symm)) ((show Z.size = 128 from by kernel_rfl).trans VZ'.out.symm) Va'.out ?_)
      | (go_at_call 27; refine (IX.out _ _ (RR.out _ _ (setRow_heap _ _ _ _ _ _ (heap_alloc_new w1 _)))).mono ?_; rintro e w2 ⟨rfl, hd⟩; have HB2 := Aside0.mk ((below_setRow (below_alloc HB.out _) (HB.out.size) V).trans ((Drawn0.below hd).mono (by have := HB.out.size; simp; omega))); clear hd HB))
    go_ret2
    exact ⟨rfl, HB2.out⟩
theorem byte_any (r : Int) (w : World) : Calls Tryd.prog 16 #[.int .i32 r] w fun e w' => e = .returned (.tuple #[.int .u8 (byteZ r), .bool (byteOk r)]) ∧ Below w.heap.size w w' := by
  unfold byteZ byteOk
  by_cases c : 0 ≤ r ∧ r < 128
  · rw [if_pos c, decide_eq_true c]
    exact byte_low r w c.1 c.2
  · rw [if_neg c, decide_eq_false c]
    rcases pos_range r with h | ⟨h1, h2⟩
    · rw [if_pos (by omega), decide_eq_false (by omega)]
      exact byte_none r w c h
    · rw [if_neg (by omega), decide_eq_true h1]
      exact byte_up r (pos r) w c rfl h1 h2
end Go.Proofs.YtknacjoclpagaaaDoor.Pg
