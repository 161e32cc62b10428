/- page.Bytes, page.Plain, walked. -/
import Derived.Test.YtknacjoclpagaaaDoorPageDec0
import Derived.Test.YtknacjoclpagaaaDoorPageLays0
import Derived.Test.YtknacjoclpagaaaDoorMyCut
import Derived.Test.YtknacjoclpagaaaDoorWRepsOne
import Derived.Shelf.Strings.FieldsFuncAny
import Derived.Lib.OthersKept
namespace Go.Proofs.YtknacjoclpagaaaDoor.Pg
open Go.RowKit Go.Proofs.YtknacjoclpagaaaDoorW.PrintWords Go.Proofs.YtknacjoclpagaaaDoorW.PrintLast Go.Proofs.YtknacjoclpagaaaDoorW.PrintMore
open Go.Proofs.YtknacjoclpagaaaDoor.MyCut
set_option linter.unusedVariables false
set_option linter.unusedSimpArgs false
def bytesR : Option (List Int) → List Int × Int
  | some l => (l, 0)
  | none => ([], 16)
theorem mine_R {w w' : World} {v : Value} {L : List Int} (h : w'.ownsRow w.heap.size 5 1 v L.length (nums .u8 L)) : Kd.R (Kd.int .u8) 5 w' w.heap.size (fun _ => True) v L := by
  refine ⟨fun k hk => trivial, nums .u8 L, h, ?_⟩
  have hr : ∀ zs : List Int, Reps (Kd.M (Kd.int .u8) w' w.heap.size (fun k => True ∧ some k ≠ v.ownBlock)) 1 zs (nums .u8 zs) := by
    intro zs
    induction zs with
    | nil => exact Reps.none _ _
    | cons z zs ih => exact Reps.one (show Kd.M (Kd.int .u8) _ _ _ z [.int .u8 z] from rfl) ih
  exact hr L
def BPost (w : World) (o : Option (List Int)) (e : Ending) (w' : World) : Prop :=
  ∃ v l z, e = .returned (.tuple #[v, .int .i64 z]) ∧ w'.ownsRow w.heap.size 5 1 v l.length (nums .u8 l) ∧ Below w.heap.size w w' ∧ bytesR o = (l, z)
theorem iter_pos {w : World} {k : Nat} {s : ByteArray} {pos : Nat} (hk : w.heap[k]? = some (.stringIter s pos)) : w.iterPos k = pos := by
  unfold World.iterPos; rw [hk]
theorem one_reads (W : World) (x : Int) : ReadsInt (W.alloc (.cells #[.int .u8 x] 5)) .u8 (some ⟨W.heap.size, 0, none⟩) 1 [x] :=
  own_reads' (own_lit W W.heap.size 5 .u8 [x] (Nat.le_refl _) (by simp))
theorem own_bel {w w1 : World} {base : Nat} {e : TypeId} {size n : Nat} {v : Value} {xs : List Value} (h : w.ownsRow base e size v n xs) (hb : Below w.heap.size w w1) : w1.ownsRow base e size v n xs :=
  own_move h (fun k hk => hb.block k (own_lt h k hk))
theorem iter_kept {w2 w3 : World} {o : Obj} {k : Nat} {s : ByteArray} {p B e n : Nat} {v : Value} {xs : List Value} (hk : w2.heap[k]? = some (.stringIter s p)) (hg : (w2.alloc o).grownBy w3 v.ownBlock) (ho : w2.ownsRow B e 1 v n xs) : w3.heap[k]? = some (.stringIter s p) := by
  have hlt : k < w2.heap.size := (Array.getElem?_eq_some_iff.1 hk).1
  have h2 : (w2.alloc o).heap[k]? = some (.stringIter s p) := (Lib.alloc_old w2 o k hlt).trans hk
  exact (hg.block k (Array.getElem?_eq_some_iff.1 h2).1 (own_ne_iter ho hk)).trans h2
def BRel (w : World) (s : ByteArray) (k : Nat) (v3 : Value) (wr : World) : Prop :=
  ∃ (pos : Nat) (acc : List Int) (A : Option Addr) (c : Nat), v3 = .slice A acc.length c ∧ wr.heap[k]? = some (.stringIter s pos) ∧ wr.ownsRow w.heap.size 5 1 (.slice A acc.length c) acc.length (nums .u8 acc) ∧ Below w.heap.size w wr ∧
    pos ≤ s.size ∧ acc.length ≤ pos ∧ (dec (s.data.toList.drop pos)).map (acc ++ ·) = dec s.data.toList
set_option maxHeartbeats 8000000 in
set_option maxRecDepth 100000 in
theorem bytes_any (s : ByteArray) (w : World) (hs : s.size ≤ 1000000) (hT : Tabs w) : Calls Tryd.prog 7 #[.string s] w (BPost w (dec s.data.toList)) := by
  have V := Aside0.mk (valid_any s w (by omega) hT)
  have HS := Aside0.mk hs
  have BY := Aside0.mk byte_any
  clear hs hT
  cases hv : Lib.validD s.data.toList with
  | false =>
    have D := Aside0.mk (dec_bad _ _ (Nat.le_refl _) hv)
    rw [hv] at V
    clear hv
    go_enter Tryd.func7, Tryd.ntmps7
    go_wp2_with (go_at_call 15; (with_reducible refine V.out.mono ?_); rintro e w1 ⟨rfl, hb⟩; have HB := Aside0.mk hb; clear hb)
    go_ret2
    exact ⟨_, [], 16, rfl, own_nil _ _ _ _, HB.out, by rw [D.out]; rfl⟩
  | true =>
    rw [hv] at V
    clear hv
    go_enter Tryd.func7, Tryd.ntmps7
    go_wp2_with (go_at_call 15; (with_reducible refine V.out.mono ?_); rintro e w1 ⟨rfl, hb⟩; have HB := Aside0.mk hb; clear hb)
    go_loopw [4] (fun v3 wr => BRel w s w1.heap.size v3 wr) (fun _ wr => s.size - wr.iterPos w1.heap.size)
    case atStart => exact ⟨0, [], none, 0, rfl, World.iter_heap _ _ _, own_nil _ _ _ _, below_alloc HB.out _, Nat.zero_le _, Nat.le_refl _, by rw [List.drop_zero]; cases dec s.data.toList <;> rfl⟩
    case round =>
      obtain ⟨pos, acc, A, c, rfl, hk, ho, hb, hp, hl, hd⟩ := hrel
      have HO := Aside0.mk ho
      have HK := Aside0.mk hk
      have HL := Aside0.mk hl
      have HBR := Aside0.mk hb
      have HP := Aside0.mk hp
      have HD := Aside0.mk hd
      have HW : Aside0 (w.heap.size ≤ w1.heap.size) := ⟨HB.out.size⟩
      clear ho hl hb hd
      by_cases hlt : pos < s.size
      · have hnx : ∀ ty, (Instr.next (.pointer (some ⟨w1.heap.size, 0, none⟩)) true ty).run Tryd.prog wr = _ := fun ty => Lib.run_next_any_at wr w1.heap.size s pos ty hk hlt
        obtain ⟨r, hr⟩ : ∃ r, (Utf8.decode s pos).1 = r := ⟨_, rfl⟩
        obtain ⟨n, hn⟩ : ∃ n, (Utf8.decode s pos).2 = n := ⟨_, rfl⟩
        rw [hr, hn] at hnx
        have hne : s.data.toList.drop pos ≠ [] := by
          intro e
          have := congrArg List.length e
          rw [List.length_drop, ← Lib.size_eq] at this
          simp at this
          omega
        have hw := Lib.decodeL_width (s.data.toList.drop pos)
        have hle := Lib.decodeL_le (s.data.toList.drop pos) hne
        rw [List.length_drop, ← Lib.size_eq] at hle
        have hst := dec_step (s.data.toList.drop pos) hne
        rw [Lib.decodeL_drop, hn] at hw hle
        rw [Lib.decodeL_drop, hr, hn, List.drop_drop] at hst
        have W1 := Aside0.mk hw
        have W2 := Aside0.mk hle
        have ST := Aside0.mk hst
        have LT := Aside0.mk hlt
        obtain ⟨wi, hwi⟩ : ∃ wi, wr.iterAt w1.heap.size s (pos + n) = wi := ⟨_, rfl⟩
        have hki : wi.heap[w1.heap.size]? = some (.stringIter s (pos + n)) := by rw [← hwi]; exact Lib.iterAt_heap wr _ s pos _ hk
        have hoi : wi.ownsRow w.heap.size 5 1 (.slice A acc.length c) acc.length (nums .u8 acc) := by rw [← hwi]; exact own_iterAt HO.out hk _
        have hbi : Below w.heap.size w wi := by rw [← hwi]; exact Lib.below_iterAt HBR.out HW.out s _
        rw [hwi] at hnx
        have KI := Aside0.mk hki
        have OI := Aside0.mk hoi
        have BI := Aside0.mk hbi
        clear hst hw hle hne hki hoi hbi hwi hr hn hk hp
        cases hok : byteOk (r : Int) with
        | false =>
          have D : Aside0 (dec s.data.toList = none) := ⟨by rw [← HD.out, ST.out, if_neg (by rw [hok]; decide)]; rfl⟩
          have BC : Aside0 (∀ W : World, Calls Tryd.prog 16 #[.int .i32 (r : Int)] W fun e w' => e = .returned (.tuple #[.int .u8 (byteZ r), .bool false]) ∧ Below W.heap.size W w') := ⟨fun W => hok ▸ BY.out (r : Int) W⟩
          clear hok
          generalize byteZ (r : Int) = b at *
          go_wp2_with (go_at_call 16; (with_reducible refine (BC.out _).mono ?_); rintro e w2 ⟨rfl, hb⟩; have B2 := Aside0.mk (below_step BI.out hb); clear hb)
          go_ret2
          exact ⟨_, [], 16, rfl, own_nil _ _ _ _, B2.out, by rw [D.out]; rfl⟩
        | true =>
          have D : Aside0 ((dec (s.data.toList.drop (pos + n))).map ((acc ++ [byteZ r]) ++ ·) = dec s.data.toList) := ⟨by rw [← HD.out, ST.out, if_pos hok]; cases dec (s.data.toList.drop (pos + n)) <;> simp⟩
          have BC : Aside0 (∀ W : World, Calls Tryd.prog 16 #[.int .i32 (r : Int)] W fun e w' => e = .returned (.tuple #[.int .u8 (byteZ r), .bool true]) ∧ Below W.heap.size W w') := ⟨fun W => hok ▸ BY.out (r : Int) W⟩
          clear hok
          generalize byteZ (r : Int) = b at *
          go_wp2_with (first
            | (go_at_call 16; (with_reducible refine (BC.out _).mono ?_); rintro e w2 ⟨rfl, hb⟩; have B2 := Aside0.mk (below_step BI.out hb); have O2 := Aside0.mk (own_bel OI.out hb); have K2 : Aside0 (w2.heap[w1.heap.size]? = some (.stringIter s (pos + n))) := ⟨(hb.block _ (Array.getElem?_eq_some_iff.1 KI.out).1).trans KI.out⟩; clear hb)
            | (at_builtin; refine print_append_row (w0 := w) w.heap.size rfl (.tmp 24) (.tmp 26) 22 5 .u8 1 rfl Tryd.underlying22 infoE (by decide) _ acc [b] (some ⟨w2.heap.size, 0, none⟩) 1 1 rfl rfl (own_alloc O2.out _) (one_reads w2 b) (below_alloc B2.out _) (below_size (below_alloc B2.out _)) (by have := HL.out; have := HP.out; have := HS.out; omega) ?_; intro v3 w3 ho3 hb3 hg3 _; obtain ⟨B3, c3, rfl⟩ := own_slice ho3; have HO3 := Aside0.mk ho3; have HB3 := Aside0.mk hb3; have K3 : Aside0 (w3.heap[w1.heap.size]? = some (.stringIter s (pos + n))) := ⟨iter_kept K2.out hg3 O2.out⟩; clear ho3 hb3 hg3))
          go_roundw
          case rel => exact ⟨pos + n, acc ++ [b], B3, c3, (by rw [List.length_append]; rfl), K3.out, HO3.out, HB3.out, by have := W2.out; have := LT.out; omega, by have := HL.out; have := W1.out; rw [List.length_append]; simp; omega, D.out⟩
          case measure => have := W1.out; have := LT.out; rw [iter_pos K3.out, iter_pos HK.out]; omega
      · obtain rfl : pos = s.size := by omega
        have hnx : ∀ ty, (Instr.next (.pointer (some ⟨w1.heap.size, 0, none⟩)) true ty).run Tryd.prog wr = _ := fun ty => Lib.run_next_end_at wr w1.heap.size s s.size ty hk (by omega)
        have D : Aside0 (dec s.data.toList = some acc) := ⟨by rw [← HD.out, List.drop_eq_nil_of_le (by rw [← Lib.size_eq]; omega), dec_nil]; simp⟩
        clear hk hlt hp
        go_wp2_with fail
        go_ret2
        exact ⟨_, acc, 0, rfl, HO.out, HBR.out, by rw [D.out]; rfl⟩
end Go.Proofs.YtknacjoclpagaaaDoor.Pg
