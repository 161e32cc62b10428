/- bytes.IndexAny(b, "\r\n") of any bytes, walked. -/
import Derived.Test.YtlliomkjnhbbbaaDoorTextUtf0
import Derived.Laws.RangeString
import Derived.Lib.OthersKept
import Derived.LoopTactic
namespace Go.Proofs.YtlliomkjnhbbbaaDoor.Tx
open Go.RowKit Go.Proofs.YtlliomkjnhbbbaaDoorW.PrintWords Go.Proofs.YtlliomkjnhbbbaaDoorW.PrintLast Go.Proofs.YtlliomkjnhbbbaaDoorW.PrintMore
open Go.Proofs.YtlliomkjnhbbbaaDoor.MyCut
set_option linter.unusedVariables false
set_option linter.unusedSimpArgs false
theorem drop_at (b o n c i : Nat) (hi : i < n) (hc : n ≤ c) (W : World) : (Instr.slice 22 (.slice (some ⟨b, o, none⟩) n c) (some (.int .i64 (i : Int))) none none).run Tryd.prog W = .ok (.slice (some ⟨b, o + i, none⟩) (n - i) (c - i)) W := by
  obtain ⟨i0, hi0, _, hs, _⟩ := info_parts infoE
  have hel : Tryd.prog.elem 22 = 5 := by kernel_rfl
  have hu : Tryd.prog.underlying 22 = some (.slice (Tryd.prog.elem 22)) := by rw [hel]; exact Tryd.underlying22
  have hsz : (sizeOf (Tryd.prog.elem 22)).run Tryd.prog W = .ok 1 W := by rw [hel]; simp [sizeOf, typeInfo, hi0, hs]
  have h2 := run_slice_l (P := Tryd.prog) (t := 22) (w := W) (a := some ⟨b, o, none⟩) (len := n) (cap := c) hu .i64 (i : Int) (by omega) (by omega)
  rw [h2, hsz]
  simp only [Result.andThen_ok, sliced, Int.toNat_natCast, Nat.mul_one]
  rw [if_neg (by omega)]
  have e : (⟨b, o, none⟩ : Addr).add i = ⟨b, o + i, none⟩ := by unfold Addr.add; split <;> simp_all
  simp [e]
theorem index_two (m : Int) (L : ByteArray) (W : World) (hm : W.cell? ⟨0, 0, none⟩ = some (.int .i64 m)) (h2 : 2 < L.size) (hb : (L.size : Int) ≤ m) : (callFunc 43 #[.string ⟨#[13, 10]⟩, .string L]).run Tryd.prog W = .ok (.value (.int .i64 (-1))) W := by
  rw [run_callFunc_extern Tryd.func43 (by kernel_rfl) (by kernel_rfl) (by kernel_rfl) (e := Extern.BytealgIndex.index) (by kernel_rfl), Lib.run_indexString _ _ W 0 m (by kernel_rfl) hm (by omega) hb (by decide)]
  rw [show (⟨#[13, 10]⟩ : ByteArray).data.toList = [13, 10] from rfl, index_long _ (by rw [← Lib.size_eq]; exact h2)]
  rfl
/-- the bytes lie at b, o -/
def LiesAt (w : World) (b o : Nat) (l : List Int) : Prop := ∀ j, j < l.length → w.cell? ⟨b, o + j, none⟩ = some (.int .u8 (l.getD j 0))
theorem lies_of (A : Option Addr) (l : List Int) (w : World) (h : Kd.C (Kd.int .u8) w A l.length l) (hp : 0 < l.length) : ∃ b o, A = some ⟨b, o, none⟩ ∧ b < w.heap.size ∧ LiesAt w b o l := by
  obtain ⟨⟨b, o, sp⟩, rfl, hc⟩ := reads A l w h hp
  have h0 := hc 0 hp
  have hsp : sp = none := by
    cases sp with
    | none => rfl
    | some q =>
      have e : (⟨b, o, some q⟩ : Addr).add 0 = ⟨b, o, some q⟩ := by unfold Addr.add; split <;> simp_all
      rw [e] at h0
      exact Go.Proofs.cell_spot h0
  subst hsp
  have e : ∀ j, (⟨b, o, none⟩ : Addr).add j = ⟨b, o + j, none⟩ := fun j => by unfold Addr.add; split <;> simp_all
  refine ⟨b, o, rfl, ?_, fun j hj => ?_⟩
  · rw [e] at h0
    exact World.block_lt_of_cell? w _ h0
  · rw [← e]; exact hc j hj
theorem lies_below {w w' : World} {b o : Nat} {l : List Int} (h : LiesAt w b o l) (hb : b < w.heap.size) (hB : Below w.heap.size w w') : LiesAt w' b o l := fun j hj => (hB.cell (p := ⟨b, o + j, none⟩) hb).trans (h j hj)
theorem dec_any (b o c i r k : Nat) (l : List Int) (w : World) (hT : Tabs w) (hL : LiesAt w b o l) (hb : ∀ x ∈ l, 0 ≤ x ∧ x ≤ 255) (hi : i < l.length) (hd : Lib.decodeGo (sfxB l i) = (r, k)) :
    Calls Tryd.prog 42 #[.slice (some ⟨b, o + i, none⟩) (l.length - i) (c - i)] w fun e w' => e = .returned (.tuple #[.int .i32 r, .int .i64 k]) ∧ Below w.heap.size w w' := by
  have h := Any7.utf8_DecodeRune layDec (sfxB l i) b (o + i) (c - i) w hT.1 (fun j hj => by
    rw [sfx_size] at hj
    rw [Nat.add_assoc, hL (i + j) (by omega), sfx_get l i j (by omega) hb]
    have := hb _ (List.getElem_mem (show i + j < l.length by omega))
    rw [List.getD_eq_getElem?_getD, List.getElem?_eq_getElem (show i + j < l.length by omega)]
    show some (Value.int .u8 l[i + j]) = some (Value.int .u8 ((l[i + j]).toNat : Int))
    rw [Int.toNat_of_nonneg this.1])
  rw [sfx_size, hd] at h
  exact h
set_option maxHeartbeats 8000000 in
set_option maxRecDepth 100000 in
/-- at most 8 bytes, whatever bytes -/
theorem any_short_all (A : Option Addr) (c : Nat) (l : List Int) (w : World) (hT : Tabs w) (h : Kd.C (Kd.int .u8) w A l.length l) (hcc : l.length ≤ c) (hr : ∀ x ∈ l, 0 ≤ x ∧ x ≤ 255) (hl : l.length ≤ 8) (hl1 : l.length ≠ 1) :
    Calls Tryd.prog 31 #[.slice A l.length c, .string ⟨#[13, 10]⟩] w fun e w' => e = .returned (.int .i64 (idxP isEnd l)) ∧ Below w.heap.size w w' := by
  have HC := Aside0.mk (lies_of A l w h)
  have HR := Aside0.mk hr
  have HL := Aside0.mk hl
  have HCC := Aside0.mk hcc
  have HT := Aside0.mk hT
  have n1 : ((l.length : Int) == 1) = false := beq_eq_false_iff_ne.2 (by omega)
  have n8 : decide ((l.length : Int) > 8) = false := decide_eq_false (by omega)
  clear h hr hl hl1 hcc hT
  have hix := fun (x : Int) (h0 : 0 ≤ x) (h1 : x ≤ 255) => index_str x h0 h1
  have HIX := Aside0.mk hix
  clear hix
  go_enter Tryd.func31, Tryd.ntmps31
  go_wp2_with (go_at_call 39; refine (should_any l.length _).mono ?_; rintro e w1 ⟨rfl, rfl⟩; rw [n8])
  go_loopg [12] l.length (fun g v w' => ∃ i : Nat, l.length ≤ i + g ∧ i ≤ l.length ∧ v = .int .i64 (i : Int) ∧ Aside0 (Below w.heap.size w w') ∧ Aside0 (∀ j, j < i → isEnd (l.getD j 0) = false))
  case atStart => exact ⟨0, by omega, by omega, rfl, ⟨Below.refl _ _⟩, ⟨fun j hj => by omega⟩⟩
  case round =>
    obtain ⟨i, hig, hil, rfl, HB, HN⟩ := hrel
    by_cases hi : i < l.length
    · cases gk with
      | zero => omega
      | succ g =>
      have HI := Aside0.mk hi
      have HG := Aside0.mk hig
      have c1 : decide ((i : Int) < (l.length : Int)) = true := decide_eq_true (by omega)
      obtain ⟨b, o, rfl, hbw, hlw⟩ := HC.out (by omega)
      have hlies := lies_below hlw hbw HB.out
      have HLI := Aside0.mk hlies
      have hcell := hlies i hi
      have q1 : (i : Int) < (l.length : Int) := by omega
      have hmem : l.getD i 0 ∈ l := by rw [List.getD_eq_getElem?_getD, List.getElem?_eq_getElem hi]; exact List.getElem_mem hi
      have hb := HR.out _ hmem
      obtain ⟨x, hx⟩ : ∃ x : Int, l.getD i 0 = x := ⟨_, rfl⟩
      have HX := Aside0.mk hx
      rw [hx] at hcell hb
      clear hlies hmem hx hlw hbw hil hig
      have cw : IntKind.i32.wrap x = x := by simp [IntKind.wrap, IntKind.bits, IntKind.signed]; omega
      by_cases h128 : x < 128
      · have c2 : decide (x < 128) = true := decide_eq_true h128
        have hstr := HIX.out x hb.1 hb.2
        clear hi
        obtain ⟨y, hy⟩ : ∃ y : Int, (if x = 13 then (0 : Int) else if x = 10 then 1 else -1) = y := ⟨_, rfl⟩
        rw [hy] at hstr
        by_cases e13 : x = 13 ∨ x = 10
        · have c3 : decide (y ≥ 0) = true := by
            rw [← hy]
            rcases e13 with rfl | rfl <;> decide
          have E13 := Aside0.mk e13
          clear e13 hy h128
          go_wp2
          go_ret
          exact ⟨by rw [idxP_at isEnd l i HI.out HN.out (by rw [HX.out]; exact decide_eq_true E13.out)]; rfl, HB.out⟩
        · have c3 : decide (y ≥ 0) = false := by
            rw [← hy, if_neg (fun h => e13 (.inl h)), if_neg (fun h => e13 (.inr h))]; decide
          have E13 := Aside0.mk e13
          have hwi : IntKind.i64.wrap ((i : Int) + 1) = ((i + 1 : Nat) : Int) := by rw [IntKind.wrap_i64]; have := HL.out; omega
          clear e13 hy h128
          go_wp2
          go_roundg g
          case measure => omega
          case rel => exact ⟨i + 1, by have := HG.out; omega, by have := HI.out; omega, by first | rfl | (simp; done) | (simp [*]; done), HB, ⟨fun j hj => by
            rcases Nat.lt_or_eq_of_le (Nat.le_of_lt_succ hj) with h | rfl
            · exact HN.out j h
            · rw [HX.out]; exact decide_eq_false E13.out⟩⟩
      · have c2 : decide (x < 128) = false := decide_eq_false h128
        obtain ⟨r, k, hrk, r0, r1, k1, k2, k4, hne, hr9⟩ := dec_sfx l i hi HR.out (by rw [HX.out]; omega)
        have HD := Aside0.mk hrk
        have HNE := Aside0.mk hne
        have HR0 := Aside0.mk r0
        have HR1 := Aside0.mk r1
        have HK1 := Aside0.mk k1
        have HK2 := Aside0.mk k2
        have HK4 := Aside0.mk k4
        have H9 := Aside0.mk hr9
        have hsl := fun W => drop_at b o l.length c i hi HCC.out W
        have hwi : IntKind.i64.wrap ((i : Int) + (k : Int)) = ((i + k : Nat) : Int) := by rw [IntKind.wrap_i64]; have := HL.out; omega
        have HNX : Aside0 (∀ j, j < i + k → isEnd (l.getD j 0) = false) := ⟨fun j hj => by
          by_cases hji : j < i
          · exact HN.out j hji
          · exact hne j (by omega) hj⟩
        have HDA := Aside0.mk (dec_any b o c i r k l wr (tabs_below HT.out HB.out) HLI.out HR.out hi hrk)
        clear hrk hne r0 r1 k1 k2 k4 hr9 hi h128
        have r13 : ((r : Int) == 13) = false := beq_eq_false_iff_ne.2 (by have := HR0.out; omega)
        have r10 : ((r : Int) == 10) = false := beq_eq_false_iff_ne.2 (by have := HR0.out; omega)
        by_cases hfd : r = 65533
        · have c4 : ((r : Int) != 65533) = false := by rw [hfd]; rfl
          clear hfd
          go_wp2_with (go_at_call 42; refine HDA.out.mono ?_; rintro e w2 ⟨rfl, hb2⟩; have HB2 := Aside0.mk (below_step HB.out hb2); clear hb2)
          go_loopg [15] 2 (fun g2 v wx => ∃ p : Nat, p + g2 = 2 ∧ wx = w2.iter ⟨#[13, 10]⟩ p)
          case atStart => exact ⟨0, rfl, rfl⟩
          case round =>
            obtain ⟨p, hp, rfl⟩ := hrel
            obtain rfl | rfl | rfl : p = 0 ∨ p = 1 ∨ p = 2 := by omega
            · obtain rfl : gk = 2 := by omega
              have hnx : ∀ ty, (Instr.next (.pointer (some ⟨w2.heap.size, 0, none⟩)) true ty).run Tryd.prog (w2.iter ⟨#[13, 10]⟩ 0) = .ok (.tuple #[.bool true, .int .i64 0, .int .i32 13]) (w2.iter ⟨#[13, 10]⟩ 1) := fun ty => run_next_ascii (P := Tryd.prog) w2 ⟨#[13, 10]⟩ 0 ty (by decide) (by decide)
              go_wp2
              go_roundg 1
              case measure => omega
              case rel => exact ⟨1, rfl, rfl⟩
            · obtain rfl : gk = 1 := by omega
              have hnx : ∀ ty, (Instr.next (.pointer (some ⟨w2.heap.size, 0, none⟩)) true ty).run Tryd.prog (w2.iter ⟨#[13, 10]⟩ 1) = .ok (.tuple #[.bool true, .int .i64 1, .int .i32 10]) (w2.iter ⟨#[13, 10]⟩ 2) := fun ty => run_next_ascii (P := Tryd.prog) w2 ⟨#[13, 10]⟩ 1 ty (by decide) (by decide)
              go_wp2
              go_roundg 0
              case measure => omega
              case rel => exact ⟨2, rfl, rfl⟩
            · obtain rfl : gk = 0 := by omega
              have hnx := fun ty => run_next_end (P := Tryd.prog) w2 ⟨#[13, 10]⟩ 2 ty (by decide)
              go_wp2
              go_roundg g
              case measure => omega
              case rel => exact ⟨i + k, by have := HG.out; have := HK1.out; omega, HK2.out, by first | rfl | (simp; done) | (simp [*]; done), ⟨below_step HB2.out (below_alloc (Below.refl _ _) _)⟩, HNX⟩
        · have c4 : ((r : Int) != 65533) = true := bne_iff_ne.2 (by omega)
          have hef := enc_facts r k HR0.out HR1.out (H9.out hfd) HK4.out
          obtain ⟨E, hE⟩ : ∃ E, Utf8.encode (r : Int) = E := ⟨_, rfl⟩
          rw [hE] at hef
          have HEF := Aside0.mk hef
          have HFD := Aside0.mk hfd
          have hq0 : ¬ (([13, 10] : List UInt8) = E.toList) := fun e => hef.2 13 (by rw [← Lib.toList_data, ← e]; simp) rfl
          have hq1 : (([13, 10] : List UInt8) == E.toList) = false := beq_eq_false_iff_ne.2 hq0
          clear hfd hef
          by_cases hk2 : k = 2
          · have c5 : ((2 : Int) == (k : Int)) = true := by rw [hk2]; rfl
            have HK := Aside0.mk hk2
            clear hk2
            go_wp2_with (go_at_call 42; refine HDA.out.mono ?_; rintro e w2 ⟨rfl, hb2⟩; have HB2 := Aside0.mk (below_step HB.out hb2); clear hb2)
            go_roundg g
            case measure => omega
            case rel => exact ⟨i + k, by have := HG.out; have := HK1.out; omega, HK2.out, by first | rfl | (simp; done) | (simp [*]; done), HB2, HNX⟩
          · have c5 : ((2 : Int) == (k : Int)) = false := beq_eq_false_iff_ne.2 (by omega)
            obtain ⟨m, hm⟩ := HT.out.2
            have HM := Aside0.mk hm
            have HK3 : Aside0 (3 ≤ k) := ⟨by have := (H9.out HFD.out).1; omega⟩
            clear hm hk2
            by_cases hmk : (k : Int) ≤ m
            · have c6 : decide (m ≥ (k : Int)) = true := decide_eq_true hmk
              have HMK := Aside0.mk hmk
              clear hmk
              go_wp2_with (go_at_call 42; refine HDA.out.mono ?_; rintro e w2 ⟨rfl, hb2⟩; have HB2 := Aside0.mk (below_step HB.out hb2); clear hb2; have hm2 : w2.cell? ⟨0, 0, none⟩ = some (.int .i64 m) := (HB2.out.cell (p := ⟨0, 0, none⟩) (World.block_lt_of_cell? w _ HM.out)).trans HM.out; have hidx := index_two m E w2 hm2 (by have := HEF.out.1; have := HK3.out; omega) (by have := HEF.out.1; have := HMK.out; omega))
              go_roundg g
              case measure => omega
              case rel => exact ⟨i + k, by have := HG.out; have := HK1.out; omega, HK2.out, by first | rfl | (simp; done) | (simp [*]; done), HB2, HNX⟩
            · have c6 : decide (m ≥ (k : Int)) = false := decide_eq_false hmk
              clear hmk
              go_wp2_with (go_at_call 42; refine HDA.out.mono ?_; rintro e w2 ⟨rfl, hb2⟩; have HB2 := Aside0.mk (below_step HB.out hb2); clear hb2; have hm2 : w2.cell? ⟨0, 0, none⟩ = some (.int .i64 m) := (HB2.out.cell (p := ⟨0, 0, none⟩) (World.block_lt_of_cell? w _ HM.out)).trans HM.out)
              go_loopg [15] 2 (fun g2 v wx => ∃ p : Nat, p + g2 = 2 ∧ wx = w2.iter ⟨#[13, 10]⟩ p)
              case atStart => exact ⟨0, rfl, rfl⟩
              case round =>
                obtain ⟨p, hp, rfl⟩ := hrel
                obtain rfl | rfl | rfl : p = 0 ∨ p = 1 ∨ p = 2 := by omega
                · obtain rfl : gk = 2 := by omega
                  have hnx : ∀ ty, (Instr.next (.pointer (some ⟨w2.heap.size, 0, none⟩)) true ty).run Tryd.prog (w2.iter ⟨#[13, 10]⟩ 0) = .ok (.tuple #[.bool true, .int .i64 0, .int .i32 13]) (w2.iter ⟨#[13, 10]⟩ 1) := fun ty => run_next_ascii (P := Tryd.prog) w2 ⟨#[13, 10]⟩ 0 ty (by decide) (by decide)
                  go_wp2
                  go_roundg 1
                  case measure => omega
                  case rel => exact ⟨1, rfl, rfl⟩
                · obtain rfl : gk = 1 := by omega
                  have hnx : ∀ ty, (Instr.next (.pointer (some ⟨w2.heap.size, 0, none⟩)) true ty).run Tryd.prog (w2.iter ⟨#[13, 10]⟩ 1) = .ok (.tuple #[.bool true, .int .i64 1, .int .i32 10]) (w2.iter ⟨#[13, 10]⟩ 2) := fun ty => run_next_ascii (P := Tryd.prog) w2 ⟨#[13, 10]⟩ 1 ty (by decide) (by decide)
                  go_wp2
                  go_roundg 0
                  case measure => omega
                  case rel => exact ⟨2, rfl, rfl⟩
                · obtain rfl : gk = 0 := by omega
                  have hnx := fun ty => run_next_end (P := Tryd.prog) w2 ⟨#[13, 10]⟩ 2 ty (by decide)
                  go_wp2
                  go_roundg g
                  case measure => omega
                  case rel => exact ⟨i + k, by have := HG.out; have := HK1.out; omega, HK2.out, by first | rfl | (simp; done) | (simp [*]; done), ⟨below_step HB2.out (below_alloc (Below.refl _ _) _)⟩, HNX⟩
    · have e : i = l.length := by omega
      subst e
      have c1 : decide ((l.length : Int) < (l.length : Int)) = false := decide_eq_false (by omega)
      go_wp2
      go_ret
      exact ⟨by rw [idxP_none isEnd l HN.out]; rfl, HB.out⟩
set_option maxHeartbeats 8000000 in
set_option maxRecDepth 100000 in
/-- one byte from 128 on -/
theorem any_high (A : Option Addr) (c : Nat) (x : Int) (w : World) (h : Kd.C (Kd.int .u8) w A 1 [x]) (h0 : 128 ≤ x) (h1 : x ≤ 255) :
    Calls Tryd.prog 31 #[.slice A 1 c, .string ⟨#[13, 10]⟩] w fun e w' => e = .returned (.int .i64 (idxP isEnd [x])) ∧ Below w.heap.size w w' := by
  obtain ⟨ad, rfl, hcs⟩ := reads A [x] w h (by simp)
  have hcell : w.cell? ad = some (.int .u8 x) := by
    have q := hcs 0 (by simp)
    first | (simpa using q) | (simp [Addr.add] at q; simpa using q) | (simpa [Addr.add] using q)
  have cw : IntKind.i32.wrap x = x := by simp [IntKind.wrap, IntKind.bits, IntKind.signed]; omega
  have c2 : decide (x ≥ 128) = true := decide_eq_true (by omega)
  have E13 : Aside0 (idxP isEnd [x] = -1) := ⟨idxP_none isEnd [x] (fun j hj => by
    obtain rfl : j = 0 := by simp at hj; omega
    exact decide_eq_false (by show ¬ (x = 13 ∨ x = 10); omega))⟩
  clear hcs h h0 h1
  go_enter Tryd.func31, Tryd.ntmps31
  go_wp2_with (fail)
  go_loopg [5] 2 (fun g2 v wx => ∃ p : Nat, p + g2 = 2 ∧ wx = w.iter ⟨#[13, 10]⟩ p)
  case atStart => exact ⟨0, rfl, rfl⟩
  case round =>
    obtain ⟨p, hp, rfl⟩ := hrel
    obtain rfl | rfl | rfl : p = 0 ∨ p = 1 ∨ p = 2 := by omega
    · obtain rfl : gk = 2 := by omega
      have hnx : ∀ ty, (Instr.next (.pointer (some ⟨w.heap.size, 0, none⟩)) true ty).run Tryd.prog (w.iter ⟨#[13, 10]⟩ 0) = .ok (.tuple #[.bool true, .int .i64 0, .int .i32 13]) (w.iter ⟨#[13, 10]⟩ 1) := fun ty => run_next_ascii (P := Tryd.prog) w ⟨#[13, 10]⟩ 0 ty (by decide) (by decide)
      go_wp2
      go_roundg 1
      case measure => omega
      case rel => exact ⟨1, rfl, rfl⟩
    · obtain rfl : gk = 1 := by omega
      have hnx : ∀ ty, (Instr.next (.pointer (some ⟨w.heap.size, 0, none⟩)) true ty).run Tryd.prog (w.iter ⟨#[13, 10]⟩ 1) = .ok (.tuple #[.bool true, .int .i64 1, .int .i32 10]) (w.iter ⟨#[13, 10]⟩ 2) := fun ty => run_next_ascii (P := Tryd.prog) w ⟨#[13, 10]⟩ 1 ty (by decide) (by decide)
      go_wp2
      go_roundg 0
      case measure => omega
      case rel => exact ⟨2, rfl, rfl⟩
    · obtain rfl : gk = 0 := by omega
      have hnx := fun ty => run_next_end (P := Tryd.prog) w ⟨#[13, 10]⟩ 2 ty (by decide)
      go_wp2
      go_ret
      exact ⟨by rw [E13.out]; rfl, below_alloc (Below.refl _ _) _⟩
theorem set_at (x : Int) (h0 : 0 ≤ x) (h1 : x ≤ 255) : (Lib.setCells [13, 10])[x.toNat]? = some (.bool (isEnd x)) := by
  obtain ⟨n, rfl⟩ := Int.eq_ofNat_of_zero_le h0
  have e := Lib.setCells_at [13, 10] (UInt8.ofNat n)
  have hn : (UInt8.ofNat n).toNat = n := by rw [UInt8.toNat_ofNat']; omega
  rw [hn] at e
  rw [Int.toNat_natCast, e]
  have : ∀ m : Fin 256, ([13, 10] : List UInt8).contains (UInt8.ofNat m.val) = isEnd (m.val : Int) := by decide +kernel
  rw [this ⟨n, by omega⟩]
theorem set_info : (Tryd.prog.info? 50).map (fun i => (i.zero, i.size)) = some (some (.agg (Array.replicate 256 (.bool false))), 256) := by kernel_rfl
set_option maxHeartbeats 8000000 in
set_option maxRecDepth 1000000 in
/-- more than 8 bytes: by the set -/
theorem any_long (A : Option Addr) (c : Nat) (l : List Int) (w : World) (h : Kd.C (Kd.int .u8) w A l.length l) (hr : ∀ x ∈ l, 0 ≤ x ∧ x ≤ 255) (h8 : 8 < l.length) (hl : l.length ≤ 1000000) :
    Calls Tryd.prog 31 #[.slice A l.length c, .string ⟨#[13, 10]⟩] w fun e w' => e = .returned (.int .i64 (idxP isEnd l)) ∧ Below w.heap.size w w' := by
  have hM : Calls Tryd.prog 40 #[.string ⟨#[13, 10]⟩] w fun e w' => e = .returned (.tuple #[.agg (Lib.setCells [13, 10]), .bool true]) ∧ w' = w.alloc (.cells (Lib.setCells [13, 10]) 50) := Any.bytes_makeASCIISet laySet (zero_of_info set_info).1 (zero_of_info set_info).2 ⟨#[13, 10]⟩ w (by decide) (fun j b hb => by
    have : b ∈ [(13 : UInt8), 10] := List.mem_of_getElem? hb
    rcases List.mem_cons.1 this with rfl | h
    · decide
    · rw [List.mem_singleton.1 h]; decide)
  obtain ⟨S, hS⟩ : ∃ S, Lib.setCells [13, 10] = S := ⟨_, rfl⟩
  rw [hS] at hM
  have hsz : S.size = 256 := by rw [← hS]; exact Lib.setCells_size _
  have hone := Lib.setCells_one [13, 10]
  rw [hS] at hone
  have HSET : Aside0 (∀ x : Int, 0 ≤ x → x ≤ 255 → S[x.toNat]? = some (.bool (isEnd x))) := ⟨fun x h0 h1 => by rw [← hS]; exact set_at x h0 h1⟩
  have hsc : (storeCells ⟨w.heap.size + 1, 0, none⟩ S.toList 0).run Tryd.prog ((w.alloc (.cells S 50)).alloc (.cells (Array.replicate 256 (.bool false)) 50)) = .ok () ((w.alloc (.cells S 50)).alloc (.cells S 50)) := by
    have := run_storeCells_new (P := Tryd.prog) (w.alloc (.cells S 50)) 50 (Array.replicate 256 (.bool false)) S (by rw [hsz]; exact (zero_of_info set_info).2) (by rw [hsz, Array.size_replicate]) hone
    simpa using this
  have HC := Aside0.mk (lies_of A l w h)
  have HR := Aside0.mk hr
  have HL := Aside0.mk hl
  have H8 := Aside0.mk h8
  have n1 : ((l.length : Int) == 1) = false := beq_eq_false_iff_ne.2 (by omega)
  have n8 : decide ((l.length : Int) > 8) = true := decide_eq_true (by omega)
  have hzv := (zero_of_info set_info).1
  have HM := Aside0.mk hM
  have HSC := Aside0.mk hsc
  have HSZ := Aside0.mk hsz
  clear h hr hl h8 hM hone hS hsc
  go_enter Tryd.func31, Tryd.ntmps31
  go_wp2_with (first
    | (go_at_call 39; refine (should_any l.length _).mono ?_; rintro e w1 ⟨rfl, rfl⟩; rw [n8])
    | (go_at_call 40; refine HM.out.mono ?_; rintro e w1 ⟨rfl, hw⟩; rw [hw]; clear hw))
  simp only [Tryd.sizeOf50, Result.andThen, HSZ.out, ↓reduceIte, HSC.out]
  rw [Oper.upon_skip]
  go_wp2
  clear HM HSC hzv hsz
  go_loopg [62] l.length (fun g v wx => ∃ i : Nat, i + g = l.length ∧ v = .int .i64 (i : Int) ∧ wx = ((w.alloc (.cells S 50)).alloc (.cells S 50)) ∧ Aside0 (∀ j, j < i → isEnd (l.getD j 0) = false))
  case atStart => exact ⟨0, by omega, rfl, rfl, ⟨fun j hj => by omega⟩⟩
  case round =>
    obtain ⟨i, hig, rfl, rfl, HN⟩ := hrel
    cases gk with
    | zero =>
      obtain rfl : i = l.length := by omega
      have c1 : decide ((l.length : Int) < (l.length : Int)) = false := decide_eq_false (by omega)
      go_wp2
      go_ret
      exact ⟨by rw [idxP_none isEnd l HN.out]; rfl, below_alloc (below_alloc (Below.refl _ _) _) _⟩
    | succ g =>
      have hi : i < l.length := by omega
      have HI := Aside0.mk hi
      have c1 : decide ((i : Int) < (l.length : Int)) = true := decide_eq_true (by omega)
      obtain ⟨b, o, rfl, hbw, hlw⟩ := HC.out (by omega)
      have hlies := lies_below hlw hbw (below_alloc (below_alloc (Below.refl _ w) (.cells S 50)) (.cells S 50))
      have hcell := hlies i hi
      have q1 : (i : Int) < (l.length : Int) := by omega
      have hmem : l.getD i 0 ∈ l := by rw [List.getD_eq_getElem?_getD, List.getElem?_eq_getElem hi]; exact List.getElem_mem hi
      have hb := HR.out _ hmem
      obtain ⟨x, hx⟩ : ∃ x : Int, l.getD i 0 = x := ⟨_, rfl⟩
      have HX := Aside0.mk hx
      rw [hx] at hcell hb
      have hwi : IntKind.i64.wrap ((i : Int) + 1) = ((i + 1 : Nat) : Int) := by rw [IntKind.wrap_i64]; have := HL.out; omega
      have hset : ((w.alloc (.cells S 50)).alloc (.cells S 50)).cell? ⟨w.heap.size + 1, x.toNat, none⟩ = some (.bool (isEnd x)) := by
        have e := MyWords.cell_new (w.alloc (.cells S 50)) S 50 (0, 0) x.toNat
        rw [show (w.alloc (.cells S 50)).heap.size = w.heap.size + 1 from by simp, HSET.out x hb.1 hb.2] at e
        exact e
      have hh : Aside0 (Calls Tryd.prog 41 #[.pointer (some ⟨w.heap.size + 1, 0, none⟩), .int .u8 x] ((w.alloc (.cells S 50)).alloc (.cells S 50)) fun e w' => e = .returned (.bool (isEnd x)) ∧ w' = ((w.alloc (.cells S 50)).alloc (.cells S 50))) := ⟨by
        obtain ⟨m, rfl⟩ := Int.eq_ofNat_of_zero_le hb.1
        have hm : (UInt8.ofNat m).toNat = m := by rw [UInt8.toNat_ofNat']; omega
        have := Any.bytes_asciiSet_contains layHas (w.heap.size + 1) (UInt8.ofNat m) (isEnd m) ((w.alloc (.cells S 50)).alloc (.cells S 50)) (by rw [hm]; rw [Int.toNat_natCast] at hset; exact hset)
        rw [hm] at this
        exact this⟩
      clear hlies hmem hx hlw hbw hset hi
      cases he : isEnd x with
      | true =>
        rw [he] at hh
        have HE := Aside0.mk he
        clear he
        go_wp2_with (go_at_call 41; refine hh.out.mono ?_; rintro e w1 ⟨rfl, hw⟩; rw [hw]; clear hw)
        go_ret
        exact ⟨by rw [idxP_at isEnd l i HI.out HN.out (by rw [HX.out]; exact HE.out)]; rfl, below_alloc (below_alloc (Below.refl _ _) _) _⟩
      | false =>
        rw [he] at hh
        have HE := Aside0.mk he
        clear he
        go_wp2_with (go_at_call 41; refine hh.out.mono ?_; rintro e w1 ⟨rfl, hw⟩; rw [hw]; clear hw)
        go_roundg g
        case measure => omega
        case rel => exact ⟨i + 1, by omega, by first | rfl | (simp; done) | (simp [*]; done), rfl, ⟨fun j hj => by
          rcases Nat.lt_or_eq_of_le (Nat.le_of_lt_succ hj) with h | rfl
          · exact HN.out j h
          · rw [HX.out]; exact HE.out⟩⟩
/-- bytes, not too many -/
def fineB (l : List Int) : Bool := decide (l.length ≤ 100000) && l.all (fun x => decide (0 ≤ x ∧ x ≤ 255))
theorem any_all (A : Option Addr) (c : Nat) (l : List Int) (w : World) (hT : Tabs w) (h : Kd.C (Kd.int .u8) w A l.length l) (hc : l.length ≤ c) (hp : fineB l = true) :
    Calls Tryd.prog 31 #[.slice A l.length c, .string ⟨#[13, 10]⟩] w fun e w' => e = .returned (.int .i64 (idxP isEnd l)) ∧ Below w.heap.size w w' := by
  simp only [fineB, Bool.and_eq_true, decide_eq_true_eq, List.all_eq_true] at hp
  by_cases h8 : 8 < l.length
  · exact any_long A c l w h hp.2 h8 (by omega)
  by_cases h1 : l.length = 1
  · obtain ⟨x, rfl⟩ : ∃ x, l = [x] := List.length_eq_one_iff.1 h1
    have hx := hp.2 x (by simp)
    by_cases g : x < 128
    · exact any_one A c x w h hx.1 g
    · exact any_high A c x w h (by omega) hx.2
  · exact any_short_all A c l w hT h hc hp.2 (by omega) h1
theorem Tabs_below {w w' : World} (h : Tabs w) (hb : Below w.heap.size w w') : Tabs w' := tabs_below h hb
end Go.Proofs.YtlliomkjnhbbbaaDoor.Tx
