/- strings.Builder: copyCheck, WriteRune, walked at this program; page.Text. -/
import Derived.Test.YtknacjoclpagaaaDoorPageRune0
import Derived.Test.YtknacjoclpagaaaDoorShelf
import Derived.Lib.Builder
import Derived.Laws.Externs
namespace Go.Proofs.YtknacjoclpagaaaDoor.Pg
open Go.RowKit Go.Proofs.YtknacjoclpagaaaDoorW.PrintWords Go.Proofs.YtknacjoclpagaaaDoorW.PrintLast Go.Proofs.YtknacjoclpagaaaDoorW.PrintMore
set_option linter.unusedVariables false
set_option linter.unusedSimpArgs false
theorem bsize : (Tryd.prog.info? 41).map (·.size) = some 2 := by kernel_rfl
theorem blies : liesAt Tryd.prog Tryd.prog.depth 41 (2 / Tryd.prog.cellsOf 41) 0 41 1 = true := by kernel_rfl
set_option maxHeartbeats 1000000 in
set_option maxRecDepth 100000 in
theorem check_fresh (b : Nat) (w : World) (h0 : w.cell? ⟨b, 0, none⟩ = some (.pointer none)) (hsh : w.shape? b = some (41, 2)) (hfz : w.frozen? ⟨b, 0, none⟩ = false) :
    Calls Tryd.prog 28 #[.pointer (some ⟨b, 0, none⟩)] w fun e w' => e = .returned (.tuple #[]) ∧ w' = w.setCell ⟨b, 0, none⟩ (.pointer (some ⟨b, 0, none⟩)) := by
  obtain ⟨j, hj, hjs⟩ := Option.map_eq_some_iff.1 bsize
  go_enter Tryd.func28, Tryd.ntmps28
  go_wp2
  rw [Lib.run_to_unsafe w ⟨b, 0, none⟩ Tryd.underlying39 Tryd.underlying70 hj (by rw [hjs]; decide) hsh (Nat.zero_lt_succ 1)]
  simp only [Result.andThen]
  rw [Oper.upon_value]
  go_wp2
  rw [run_callFunc_extern Tryd.func32 (by kernel_rfl) (by kernel_rfl) (by kernel_rfl) (e := Extern.AbiNoEscape.same) (by kernel_rfl)]
  rw [Lib.run_noEscape]
  simp only [Result.andThen]
  rw [Oper.upon_value]
  go_wp2
  rw [Lib.run_from_unsafe w ⟨b, 0, none⟩ Tryd.underlying70 Tryd.underlying39 hj hsh blies]
  simp only [Result.andThen]
  rw [Oper.upon_value]
  go_wp2
  go_end0
  exact ⟨rfl, rfl⟩
set_option maxHeartbeats 1000000 in
set_option maxRecDepth 100000 in
theorem check_used (b : Nat) (w : World) (h0 : w.cell? ⟨b, 0, none⟩ = some (.pointer (some ⟨b, 0, none⟩))) :
    Calls Tryd.prog 28 #[.pointer (some ⟨b, 0, none⟩)] w fun e w' => e = .returned (.tuple #[]) ∧ w' = w := by
  obtain ⟨j, hj, hjs⟩ := Option.map_eq_some_iff.1 bsize
  have hne := fun W : World => Lib.run_neq_ptr_same (P := Tryd.prog) W ⟨b, 0, none⟩ Tryd.underlying39 hj
  go_enter Tryd.func28, Tryd.ntmps28
  go_wp2
  go_end0
  exact ⟨rfl, rfl⟩
theorem check_any (B b : Nat) (bs : List Value) (w : World) (h : Lib.IsBuilder 41 5 B b bs w) :
    Calls Tryd.prog 28 #[.pointer (some ⟨b, 0, none⟩)] w fun e w' => e = .returned (.tuple #[]) ∧ (Lib.BuilderAt 41 5 B b (.pointer (some ⟨b, 0, none⟩)) bs w' ∧ Below B w w') := by
  rcases h with h | h
  · refine (check_fresh b w h.cell0 h.shape h.frozen0).mono ?_
    rintro e w' ⟨rfl, rfl⟩
    exact ⟨rfl, h.used _, (Below.refl B w).setCell (p := ⟨b, 0, none⟩) h.1 _⟩
  · refine (check_used b w h.cell0).mono ?_
    rintro e w' ⟨rfl, rfl⟩
    exact ⟨rfl, h, Below.refl B _⟩
theorem builder_below {B b : Nat} {bs : List Value} {w w' : World} (h : Lib.IsBuilder 41 5 B b bs w) (hb : Below w.heap.size w w') : Lib.IsBuilder 41 5 B b bs w' := by
  rcases h with ⟨h1, v, h2, h3, h4⟩ | ⟨h1, v, h2, h3, h4⟩
  · exact Or.inl ⟨h1, v, blk_below h2 hb, pw_own_below h3 hb, h4⟩
  · exact Or.inr ⟨h1, v, blk_below h2 hb, pw_own_below h3 hb, h4⟩
def WPost (B b : Nat) (bs : List Value) (w : World) (e : Ending) (w' : World) : Prop :=
  ∃ n : Int, e = .returned (.tuple #[.int .i64 n, .nilIface]) ∧ Lib.IsBuilder 41 5 B b bs w' ∧ Below B w w'
theorem neB : 41 ≠ 5 := by decide
set_option maxHeartbeats 4000000 in
set_option maxRecDepth 100000 in
theorem write_rune (B b : Nat) (bs : List Value) (r : Int) (hr0 : -2147483648 ≤ r) (hr1 : r ≤ 2147483647) (w : World) (h : Lib.IsBuilder 41 5 B b bs w) (hlen : bs.length + 4 ≤ 1000000000) (hB : B ≤ w.heap.size) :
    Calls Tryd.prog 17 #[.pointer (some ⟨b, 0, none⟩), .int .i32 r] w (WPost B b (bs ++ Lib.runeCells r) w) := by
  have H := Aside0.mk h
  have HL := Aside0.mk hlen
  have R0 := Aside0.mk hr0
  have R1 := Aside0.mk hr1
  have HB := Aside0.mk hB
  clear h hlen hr0 hr1 hB
  go_enter Tryd.func17, Tryd.ntmps17
  go_wp2_with (first
    | (go_at_call 28; refine (check_any B b bs _ H.out).mono ?_; rintro e w1 ⟨rfl, ⟨hBb, v, hb, ho, hne⟩, hbel⟩; obtain ⟨A, c, rfl⟩ := own_slice ho; have c1 : w1.cell? ⟨b, 1, none⟩ = some (.slice A bs.length c) := (blk_cell hb 1).trans rfl; have GB := Aside0.mk hBb; have BK := Aside0.mk hb; have HO := Aside0.mk ho; have BE := Aside0.mk hbel; clear hb ho hne hbel)
    | (go_at_call 29; refine (Tryd.utf8_AppendRune_plain B _ bs.length bs r R0.out R1.out _ HO.out (by have := HL.out; omega) (Nat.le_trans HB.out BE.out.size)).mono ?_; rintro e w2 ⟨v2, rfl, ho2, o, hg⟩; obtain ⟨m, hm⟩ : ∃ m, bs.length + (Lib.runeCells r).length = m := ⟨_, rfl⟩; rw [hm] at ho2; obtain ⟨A2, c2, rfl⟩ := own_slice ho2; have hb2 := blk_grown (blk_alloc BK.out o) hg (own_ne HO.out BK.out (Ne.symm neB)); have c2' : w2.cell? ⟨b, 1, none⟩ = some (.slice A bs.length c) := (blk_cell hb2 1).trans rfl; have f2 := blk_frozen hb2 1; have HO2 := Aside0.mk ho2; have HM := Aside0.mk hm; have BK2 := Aside0.mk hb2; have BE2 : Aside0 (Below B w w2) := ⟨(BE.out.alloc (Nat.le_trans HB.out BE.out.size) o).grown hg (Nat.le_trans (Nat.le_trans HB.out BE.out.size) (by simp)) (own_base HO.out)⟩; clear ho2 hb2 hg hm))
  go_ret2
  exact ⟨_, rfl, Or.inr (Lib.BuilderAt.put GB.out BK2.out (by rw [List.length_append, HM.out]; exact HO2.out) neB), BE2.out.setCell GB.out _⟩
/-- the text of bytes -/
def textL (l : List Int) : List UInt8 := l.flatMap fun c => Lib.encodeRune (char c.toNat)
def textB (l : List Int) : ByteArray := ⟨(textL l).toArray⟩
theorem textL_snoc (l : List Int) (c : Int) : textL (l ++ [c]) = textL l ++ Lib.encodeRune (char c.toNat) := by simp [textL]
theorem textL_length (l : List Int) : (textL l).length ≤ 4 * l.length := by
  induction l with
  | nil => simp [textL]
  | cons c l ih =>
    have h := (Lib.runeCells_le (char c.toNat)).2
    rw [Lib.runeCells_length] at h
    show (Lib.encodeRune (char c.toNat) ++ textL l).length ≤ 4 * (l.length + 1)
    rw [List.length_append]
    omega
set_option maxRecDepth 100000 in
theorem char_range (c : Nat) (hc : c < 256) : 0 ≤ char c ∧ char c ≤ 65535 := by
  unfold char
  split
  · omega
  · have h : ∀ x ∈ upL, (0 : Int) ≤ x ∧ x ≤ 65535 := by decide +kernel
    have hl : upL.length = 128 := by decide +kernel
    have hk : c - 128 < upL.length := by omega
    rw [List.getD_eq_getElem?_getD, List.getElem?_eq_getElem hk]
    exact h _ (List.getElem_mem hk)
def XRel (w : World) (l : List Int) (g : Nat) (v8 : Value) (wr : World) : Prop :=
  ∃ k : Nat, v8 = .int .i64 k ∧ k ≤ l.length ∧ Lib.IsBuilder 41 5 w.heap.size g (Lib.byteCells (textL (l.take k))) wr ∧ Below w.heap.size w wr
set_option maxHeartbeats 4000000 in
set_option maxRecDepth 100000 in
theorem text_any (A0 : Option Addr) (c0 : Nat) (l : List Int) (w : World) (hr : Kd.C (Kd.int .u8) w A0 l.length l) (hl : l.length ≤ 1000000) (hb : ∀ x ∈ l, 0 ≤ x ∧ x ≤ 255) :
    Calls Tryd.prog 8 #[.slice A0 l.length c0] w fun e w' => e = .returned (.string (textB l)) ∧ Below w.heap.size w w' := by
  have HR := Aside0.mk hr
  have HL := Aside0.mk hl
  have HBY := Aside0.mk hb
  clear hr hl hb
  go_enter Tryd.func8, Tryd.ntmps8
  go_wp2
  go_loopw [8] (fun v8 wr => XRel w l w.heap.size v8 wr) (fun v8 _ => l.length - (intOf v8).toNat)
  case atStart =>
    refine ⟨0, rfl, Nat.zero_le _, Or.inl ⟨Nat.le_refl _, .slice none 0 0, heap_alloc_new w _, own_nil _ _ _ _, by simp [Value.ownBlock]⟩, below_alloc (Below.refl _ _) _⟩
  case round =>
    obtain ⟨k, rfl, hk, hbu, hbel⟩ := hrel
    have BU := Aside0.mk hbu
    have BE := Aside0.mk hbel
    clear hbu hbel
    have hll : l.length ≤ 1000000 := HL.out
    by_cases hlt : k < l.length
    · obtain ⟨ad, e, hx⟩ := Kd.at_int (Kd.C_below HR.out BE.out) (k : Nat) (by omega) (by omega)
      subst e
      rw [Int.toNat_natCast] at hx
      have hrd : rd l (k : Int) = l[k] := by simp [rd, List.getD, hlt]
      have hbk := HBY.out l[k] (List.getElem_mem hlt)
      obtain ⟨c, hc⟩ : ∃ c : Nat, l[k] = (c : Int) := Int.eq_ofNat_of_zero_le hbk.1
      rw [hrd, hc] at hx
      have hc2 : c < 256 := by omega
      have C2 := Aside0.mk hc2
      have CR := Aside0.mk (char_range c hc2)
      have CE := Aside0.mk hc
      have LT := Aside0.mk (textL_length (l.take k))
      clear hrd hbk hc hc2
      generalize hz : char c = z at *
      have HZ := Aside0.mk hz
      have RU : Aside0 (∀ W : World, Calls Tryd.prog 18 #[.int .u8 c] W fun e w' => e = .returned (.int .i32 z) ∧ Below W.heap.size W w') := ⟨fun W => hz ▸ rune_any c C2.out W⟩
      clear hz
      go_wp2_with (first
        | (go_at_call 18; refine (RU.out _).mono ?_; rintro e w1 ⟨rfl, hb⟩; have B1 := Aside0.mk hb; clear hb)
        | (go_at_call 17; refine (write_rune w.heap.size w.heap.size _ z (by have := CR.out; omega) (by have := CR.out; omega) _ (builder_below BU.out B1.out) (by rw [Lib.byteCells_length]; have := LT.out; rw [List.length_take] at this; have := HL.out; omega) (Nat.le_trans BE.out.size B1.out.size)).mono ?_; rintro e w2 ⟨n, rfl, hbu, hb⟩; have BU2 := Aside0.mk hbu; have B2 := Aside0.mk ((below_step BE.out B1.out).trans hb); clear hbu hb))
      go_roundw
      case rel =>
        refine ⟨k + 1, by go_num, by omega, ?_, B2.out⟩
        have e : l.take (k + 1) = l.take k ++ [(c : Int)] := by rw [← CE.out, List.take_append_getElem]
        rw [e, textL_snoc, Lib.byteCells_append, Int.toNat_natCast, HZ.out, Lib.byteCells_encodeRune]
        exact BU2.out
      case measure => simp [intOf]; omega
    · obtain rfl : k = l.length := by omega
      have hfin : l.take l.length = l := List.take_length
      rw [hfin] at BU
      clear hfin
      go_wp2_with (go_at_call 19; refine (Tryd.Builder_String_any w.heap.size w.heap.size (textL l) _ BU.out BE.out.size).mono ?_; rintro e w1 ⟨rfl, hb⟩; have B1 := Aside0.mk hb; clear hb)
      go_ret
      exact ⟨rfl, BE.out.trans B1.out⟩
theorem char129 : char 129 = 252 := by decide
theorem text_a : textB [97] = ⟨#[97]⟩ := by decide +kernel
set_option maxHeartbeats 4000000 in
set_option maxRecDepth 100000 in
theorem page_lives (w : World) : Calls Tryd.prog 10 #[] w fun e w' => e = .returned (.bool true) ∧ Below w.heap.size w w' := by
  have R129 : Aside0 (∀ W : World, Calls Tryd.prog 18 #[.int .u8 129] W fun e w' => e = .returned (.int .i32 252) ∧ Below W.heap.size W w') := ⟨fun W => char129 ▸ rune_any 129 (by decide) W⟩
  have TA := Aside0.mk text_a
  have kc := fun (w : World) (C : Array Value) (n c : Nat) => Lib.run_convert_bytes_const (P := Tryd.prog) w 22 5 C n c Tryd.underlying22 Tryd.underlying5
  go_enter Tryd.func10, Tryd.ntmps10
  go_wp2_with (first
    | (go_at_call 18; refine (R129.out _).mono ?_; rintro e w1 ⟨rfl, hb⟩; have B1 := Aside0.mk hb; clear hb)
    | (go_at_call 8; refine (text_any (some ⟨w1.heap.size, 0, none⟩) _ [97] _ (MyWords.C_new .u8 w1 [97] 5 _ (by decide)) (by decide) (by decide)).mono ?_; rintro e w2 ⟨rfl, hb⟩; rw [TA.out]; have B2 := Aside0.mk ((below_alloc B1.out _).trans (hb.mono (by have := B1.out.size; simp; omega))); clear hb))
  go_ret
  exact ⟨rfl, B2.out⟩
end Go.Proofs.YtknacjoclpagaaaDoor.Pg
