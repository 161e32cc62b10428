/- extra.Find, walked. -/
import Derived.Test.YtfnihlndaenkhaaExtraF0
import Derived.Test.YtfnihlndaenkhaaPureExtraB
namespace Go.Proofs.Ytfnihlndaenkhaa.Fld
open Go.Proofs.Ytfnihlndaenkhaa.EX
open Go.RowKit Go.Proofs.YtfnihlndaenkhaaW.PrintWords Go.Proofs.YtfnihlndaenkhaaW.PrintLast Go.Proofs.YtfnihlndaenkhaaW.PrintMore
set_option linter.unusedVariables false
set_option linter.unusedSimpArgs false
theorem find_one (x id : Int) (v : Value) (bx : Nat) (w : World) (hv : v.oneCell' = true) (hid : w.cell? ⟨bx, 0, none⟩ = some (.int .i64 id)) (hbx : bx < w.heap.size) :
    Calls Try.prog 33 #[.agg #[.int .i64 x, v], .pointer (some ⟨bx, 0, none⟩)] w fun e w' => e = .returned (.bool (decide (x = id))) ∧ Below w.heap.size w w' := by
  have h2 : (w.alloc (.cells #[.int .i64 x, v] 27)).cell? ⟨bx, 0, none⟩ = some (.int .i64 id) := (World.cell?_alloc_lt _ _ _ hbx).trans hid
  have h3 : (w.alloc (.cells #[.int .i64 x, v] 27)).cell? ⟨w.heap.size, 0, none⟩ = some (.int .i64 x) := (blk_cell (heap_alloc_new w _) 0).trans rfl
  go_enter Try.func33, Try.ntmps33
  go_wp2
  go_ret
  exact ⟨rfl, below_alloc (Below.refl _ _) _⟩
/-- the first field with this ID -/
def Fst (X : List FT) (id : Int) (i : Nat) : Prop := ∃ h : i < X.length, X[i].f0 = id ∧ ∀ j (hj : j < i), X[j].f0 ≠ id
def Non (X : List FT) (id : Int) (i : Nat) : Prop := ∀ j (hj : j < i) (h : j < X.length), X[j].f0 ≠ id
def IxRel (w0 : World) (X : List FT) (id : Int) (vi : Value) (wr : World) : Prop :=
  ∃ i : Nat, vi = .int .i64 i ∧ i ≤ X.length ∧ Non X id i ∧ Below w0.heap.size w0 wr
def IxPost (w : World) (X : List FT) (id : Int) (r : Ending) (w' : World) : Prop :=
  ∃ z : Int, r = .returned (.int .i64 z) ∧ Below w.heap.size w w' ∧ ((∃ i : Nat, z = (i : Int) ∧ Fst X id i) ∨ (z = -1 ∧ Non X id X.length))
set_option maxHeartbeats 4000000 in
theorem index_fn (A0 : Option Addr) (c0 : Nat) (X : List FT) (id : Int) (bx : Nat) (w : World) (h0 : Kd.C k27 w A0 X.length X) (hid : w.cell? ⟨bx, 0, none⟩ = some (.int .i64 id)) (hbx : bx < w.heap.size) :
    Calls Try.prog 32 #[.slice A0 X.length c0, .func (.func 33) #[] #[.pointer (some ⟨bx, 0, none⟩)]] w (IxPost w X id) := by
  have HX := Aside0.mk h0
  have HXM : Aside0 (X.length ≤ 9223372036854775807) := ⟨Kd.C_max h0⟩
  have HID := Aside0.mk hid
  have HBX := Aside0.mk hbx
  clear h0 hid hbx
  go_enter Try.func32, Try.ntmps32
  go_wp2_with fail
  go_loopw [8] (fun v8 wr => IxRel w X id v8 wr) (fun v8 _ => X.length - (intOf v8).toNat)
  case atStart => exact ⟨0, rfl, Nat.zero_le _, fun j hj => by omega, Below.refl _ _⟩
  case round =>
    rename World => wr
    obtain ⟨i, rfl, hi, hnon, hbel⟩ := hrel
    have HB := Aside0.mk hbel
    have HNON := Aside0.mk hnon
    clear hbel hnon
    by_cases hlt : i < X.length
    · obtain ⟨ad, A1, c1, e1, hcs, hlc, hC1⟩ := fld_at HX.out i hlt
      subst e1
      have d2 : decide (i < X.length) = true := decide_eq_true hlt
      have d3 : decide ((i : Int) < (X.length : Int)) = true := decide_eq_true (by omega)
      have hb3 : (ad.add (i * 2)).block < w.heap.size := block_lt_of_cell (by have := hcs 0 _ rfl; rwa [Go.Deep.add_add] at this)
      obtain ⟨x0, hx0⟩ : ∃ x0, X[i].f0 = x0 := ⟨_, rfl⟩
      obtain ⟨b, hb⟩ : ∃ b, X[i].f1 = b := ⟨_, rfl⟩
      rw [hx0, hb] at hcs
      have HX0 := Aside0.mk hx0
      have HCS : Aside0 (∀ j v, ([.int .i64 x0, .slice A1 b.length c1] : List Value)[j]? = some v → wr.cell? ((ad.add (i * 2)).add j) = some v) := ⟨fun j v hj => (HB.out.cell (p := (ad.add (i * 2)).add j) (by rw [show ((ad.add (i * 2)).add j).block = (ad.add (i * 2)).block from add_block _ _]; exact hb3)).trans (hcs j v hj)⟩
      have HF : Aside0 (Calls Try.prog 33 #[.agg #[.int .i64 x0, .slice A1 b.length c1], .pointer (some ⟨bx, 0, none⟩)] wr fun e w' => e = .returned (.bool (decide (x0 = id))) ∧ Below wr.heap.size wr w') := ⟨find_one x0 id _ bx wr rfl ((HB.out.cell (p := ⟨bx, 0, none⟩) HBX.out).trans HID.out) (Nat.lt_of_lt_of_le HBX.out HB.out.size)⟩
      clear hx0 hb hcs hlc hC1
      by_cases hid : x0 = id
      · have d4 : decide (x0 = id) = true := decide_eq_true hid
        have HID2 := Aside0.mk hid
        rw [d4] at HF
        clear hid d4
        go_wp2_with (first
          | ((with_reducible refine gate_dst (N := 15) rfl ?_); refine wpList_load_any rfl 27 (.tmp 14) rfl (ad.add (i * 2)) rfl [.int .i64 x0, .slice A1 b.length c1] _ HCS.out Try.underlying27 rfl (by kernel_rfl) ?_)
          | (go_at_call 33; (with_reducible refine HF.out.mono ?_); rintro r w9 ⟨rfl, hb⟩; have HB := Aside0.mk (HB.out.trans (hb.mono HB.out.size)); clear hb))
        go_ret
        exact ⟨_, rfl, HB.out, .inl ⟨i, rfl, hlt, HX0.out.trans HID2.out, fun j hj => HNON.out j hj (by omega)⟩⟩
      · have d4 : decide (x0 = id) = false := decide_eq_false hid
        have HID2 := Aside0.mk hid
        rw [d4] at HF
        clear hid d4
        go_wp2_with (first
          | ((with_reducible refine gate_dst (N := 15) rfl ?_); refine wpList_load_any rfl 27 (.tmp 14) rfl (ad.add (i * 2)) rfl [.int .i64 x0, .slice A1 b.length c1] _ HCS.out Try.underlying27 rfl (by kernel_rfl) ?_)
          | (go_at_call 33; (with_reducible refine HF.out.mono ?_); rintro r w9 ⟨rfl, hb⟩; have HB := Aside0.mk (HB.out.trans (hb.mono HB.out.size)); clear hb))
        go_roundw
        all_goals
          have hxm := HXM.out
          have hwk : wrap64 ((i : Int) + 1) = ((i + 1 : Nat) : Int) := by rw [IntWalk.wrap64_in _ ⟨by omega, by omega⟩]; omega
        case rel =>
          refine ⟨i + 1, (by first | rw [hwk] | go_num), by omega, fun j hj h => ?_, HB.out⟩
          by_cases hji : j = i
          · subst hji; rw [HX0.out]; exact HID2.out
          · exact HNON.out j (by omega) h
        case measure => (try rw [hwk]); simp [intOf]; omega
    · obtain rfl : i = X.length := by omega
      have dd : decide (X.length < X.length) = false := decide_eq_false (by omega)
      have dd2 : decide ((X.length : Int) < (X.length : Int)) = false := decide_eq_false (by omega)
      clear hlt hi
      go_wp2_with fail
      go_ret
      exact ⟨_, rfl, HB.out, .inr ⟨rfl, HNON.out⟩⟩
def fnd (X : List FT) (id : Int) : Option FT := X.find? fun x => decide (x.f0 = id)
theorem fnd_some {X : List FT} {id : Int} {i : Nat} (h : Fst X id i) : ∃ hi : i < X.length, fnd X id = some X[i] := by
  obtain ⟨hi, h1, h2⟩ := h
  refine ⟨hi, List.find?_eq_some_iff_getElem.2 ⟨decide_eq_true h1, i, hi, rfl, fun j hj => ?_⟩⟩
  rw [decide_eq_false (h2 j hj)]; rfl
theorem fnd_none {X : List FT} {id : Int} (h : Non X id X.length) : fnd X id = none := by
  refine List.find?_eq_none.2 fun x hx => ?_
  obtain ⟨j, hj, rfl⟩ := List.mem_iff_getElem.1 hx
  simpa using h j hj hj
def fdD (X : List FT) (id : Int) : List Int := match fnd X id with | some x => x.f1 | none => []
def FdPost (w : World) (D : List Int) (ok : Bool) (r : Ending) (w' : World) : Prop :=
  ∃ A c, r = .returned (.tuple #[.slice A D.length c, .bool ok]) ∧ Kd.C (Kd.int .u8) w' A D.length D ∧ D.length ≤ c ∧ Below w.heap.size w w'
theorem Fst_uniq {X : List FT} {id : Int} {i j : Nat} (h : Fst X id i) (k : Fst X id j) : i = j := by
  obtain ⟨h1, h2, h3⟩ := h
  obtain ⟨k1, k2, k3⟩ := k
  rcases Nat.lt_trichotomy i j with h | h | h
  · exact absurd h2 (k3 i h)
  · exact h
  · exact absurd k2 (h3 j h)
theorem Fst_or (X : List FT) (id : Int) : (∃ i, Fst X id i) ∨ Non X id X.length := by
  induction hn : X.length generalizing X with
  | zero => exact .inr (fun j hj => by omega)
  | succ n ih =>
    by_cases hA : ∃ i, Fst X id i
    · exact .inl hA
    · refine .inr ?_
      have key : ∀ m, Non X id m := by
        intro m
        induction m with
        | zero => intro j hj; omega
        | succ m ihm =>
          intro j hj h
          by_cases hjm : j = m
          · subst hjm
            intro he
            exact hA ⟨j, h, he, fun k hk => ihm k hk (by omega)⟩
          · exact ihm j (by omega) h
      exact key (n + 1)
theorem index_at (A0 : Option Addr) (c0 : Nat) (X : List FT) (id : Int) (bx i : Nat) (w : World) (h0 : Kd.C k27 w A0 X.length X) (hid : w.cell? ⟨bx, 0, none⟩ = some (.int .i64 id)) (hbx : bx < w.heap.size) (h : Fst X id i) :
    Calls Try.prog 32 #[.slice A0 X.length c0, .func (.func 33) #[] #[.pointer (some ⟨bx, 0, none⟩)]] w fun r w' => r = .returned (.int .i64 (i : Int)) ∧ Below w.heap.size w w' :=
  (index_fn A0 c0 X id bx w h0 hid hbx).mono fun r w' ⟨z, hr, hb, hz⟩ => by
    rcases hz with ⟨j, rfl, hj⟩ | ⟨_, hn⟩
    · rw [Fst_uniq h hj]; exact ⟨hr, hb⟩
    · obtain ⟨h1, h2, _⟩ := h
      exact absurd h2 (hn i h1 h1)
theorem index_no (A0 : Option Addr) (c0 : Nat) (X : List FT) (id : Int) (bx : Nat) (w : World) (h0 : Kd.C k27 w A0 X.length X) (hid : w.cell? ⟨bx, 0, none⟩ = some (.int .i64 id)) (hbx : bx < w.heap.size) (h : Non X id X.length) :
    Calls Try.prog 32 #[.slice A0 X.length c0, .func (.func 33) #[] #[.pointer (some ⟨bx, 0, none⟩)]] w fun r w' => r = .returned (.int .i64 (-1)) ∧ Below w.heap.size w w' :=
  (index_fn A0 c0 X id bx w h0 hid hbx).mono fun r w' ⟨z, hr, hb, hz⟩ => by
    rcases hz with ⟨j, rfl, hj⟩ | ⟨rfl, _⟩
    · obtain ⟨h1, h2, _⟩ := hj
      exact absurd h2 (h j h1 h1)
    · exact ⟨hr, hb⟩
set_option maxHeartbeats 4000000 in
theorem ex_find (A0 : Option Addr) (c0 : Nat) (b : List Int) (id : Int) (w : World) (h0 : Kd.C (Kd.int .u8) w A0 b.length b) (hc : A0 = none → c0 = 0) (hby : ∀ x ∈ b, 0 ≤ x ∧ x ≤ 255) (hl : b.length ≤ 1000000) :
    Calls Try.prog 18 #[.slice A0 b.length c0, .int .i64 id] w (FdPost w (fdD (rdA b).1 id) (fnd (rdA b).1 id).isSome) := by
  have hmf : ∀ (fn : Fn) (first cap : Array Value) (w : World), (Instr.makeFunc fn first cap).run Try.prog w = .ok (.func fn first cap) w := fun _ _ _ _ => rfl
  obtain ⟨X, E, hrd⟩ : ∃ X E, rdA b = (X, E) := ⟨_, _, rfl⟩
  obtain ⟨_, _, _, hE⟩ := rdA_size b hby
  have HRD : Aside0 (∀ W, Kd.C (Kd.int .u8) W A0 b.length b → Calls Try.prog 16 #[.slice A0 b.length c0] W (RdPost W X E)) := ⟨fun W h => by have := ex_read A0 c0 b W h hc hby hl; rwa [hrd] at this⟩
  rw [hrd] at hE
  rw [hrd]
  have hE' : E = 0 ∨ (X = [] ∧ E = 3) := hE
  have HC : Aside0 (Kd.C (Kd.int .u8) (w.alloc (.cells #[.int .i64 id] 3)) A0 b.length b) := ⟨Kd.C_alloc h0 _⟩
  have hid : (w.alloc (.cells #[.int .i64 id] 3)).cell? ⟨w.heap.size, 0, none⟩ = some (.int .i64 id) := (blk_cell (heap_alloc_new w _) 0).trans rfl
  have HID := Aside0.mk hid
  have HB0 : Aside0 (Below w.heap.size w (w.alloc (.cells #[.int .i64 id] 3))) := ⟨below_alloc (Below.refl _ _) _⟩
  have HSZ : Aside0 (w.heap.size < (w.alloc (.cells #[.int .i64 id] 3)).heap.size) := ⟨by simp⟩
  show Calls Try.prog 18 #[.slice A0 b.length c0, .int .i64 id] w (FdPost w (fdD X id) (fnd X id).isSome)
  clear h0 hc hby hl hrd hE hid
  rcases hE' with rfl | ⟨hX, rfl⟩
  · rcases Fst_or X id with ⟨i, hi⟩ | hn
    · obtain ⟨hil, hf⟩ := fnd_some hi
      have HF := Aside0.mk hi
      have HI := Aside0.mk hil
      obtain ⟨D, hD⟩ : ∃ D, X[i].f1 = D := ⟨_, rfl⟩
      have HD := Aside0.mk hD
      have EE : Aside0 (fdD X id = D ∧ (fnd X id).isSome = true) := ⟨by unfold fdD; rw [hf]; exact ⟨hD, rfl⟩⟩
      have d1 : decide ((i : Int) < 0) = false := decide_eq_false (by omega)
      have d2 : decide (i < X.length) = true := decide_eq_true hil
      clear hi hf hD
      go_enter Try.func18, Try.ntmps18
      go_wp2_with (first
        | (go_at_call 16; (with_reducible refine (HRD.out _ HC.out).mono ?_); rintro r w1 ⟨v1, rfl, hR, hb⟩; obtain ⟨A1, c1, rfl⟩ := Kd.R_slice hR; have HR := Aside0.mk hR; have HID := Aside0.mk ((hb.cell (p := ⟨w.heap.size, 0, none⟩) HSZ.out).trans HID.out); have HSZ := Aside0.mk (Nat.lt_of_lt_of_le HSZ.out hb.size); have HB := Aside0.mk (HB0.out.trans (hb.mono HB0.out.size)); clear hR hb)
        | (go_at_call 32; (with_reducible refine (index_at A1 c1 X id w.heap.size i _ (Kd.R_reads' HR.out).2.2 HID.out HSZ.out HF.out).mono ?_); rintro r w2 ⟨rfl, hb⟩; have HR := Aside0.mk (Kd.R_below HR.out hb); have HB := Aside0.mk (HB.out.trans (hb.mono HB.out.size)); obtain ⟨ad, A9, c9, e9, hcs, hlc, hC9⟩ := fld_at (Kd.R_reads' HR.out).2.2 i HI.out; subst e9; rw [HD.out] at hcs hlc hC9; have hx1 := hcs 1 _ rfl; rw [Go.Deep.add_add, add_field _ _ 1 (by omega)] at hx1; have HLC := Aside0.mk hlc; have HC9 := Aside0.mk hC9; clear hb hcs hlc hC9))
      go_ret2
      show FdPost w (fdD X id) (fnd X id).isSome _ _
      rw [EE.out.1, EE.out.2]
      exact ⟨_, _, rfl, HC9.out, HLC.out, HB.out⟩
    · have EE : Aside0 (fdD X id = [] ∧ (fnd X id).isSome = false) := ⟨by unfold fdD; rw [fnd_none hn]; exact ⟨rfl, rfl⟩⟩
      have HN := Aside0.mk hn
      clear hn
      go_enter Try.func18, Try.ntmps18
      go_wp2_with (first
        | (go_at_call 16; (with_reducible refine (HRD.out _ HC.out).mono ?_); rintro r w1 ⟨v1, rfl, hR, hb⟩; obtain ⟨A1, c1, rfl⟩ := Kd.R_slice hR; have HR := Aside0.mk hR; have HID := Aside0.mk ((hb.cell (p := ⟨w.heap.size, 0, none⟩) HSZ.out).trans HID.out); have HSZ := Aside0.mk (Nat.lt_of_lt_of_le HSZ.out hb.size); have HB := Aside0.mk (HB0.out.trans (hb.mono HB0.out.size)); clear hR hb)
        | (go_at_call 32; (with_reducible refine (index_no A1 c1 X id w.heap.size _ (Kd.R_reads' HR.out).2.2 HID.out HSZ.out HN.out).mono ?_); rintro r w2 ⟨rfl, hb⟩; have HB := Aside0.mk (HB.out.trans (hb.mono HB.out.size)); clear hb))
      go_ret2
      show FdPost w (fdD X id) (fnd X id).isSome _ _
      rw [EE.out.1, EE.out.2]
      exact ⟨none, 0, rfl, Kd.C_nil _ _, Nat.le_refl _, HB.out⟩
  · have hn : Non X id X.length := fun j hj h => by rw [hX] at h; cases h
    have EE : Aside0 (fdD X id = [] ∧ (fnd X id).isSome = false) := ⟨by unfold fdD; rw [fnd_none hn]; exact ⟨rfl, rfl⟩⟩
    have HN := Aside0.mk hn
    clear hn hX
    go_enter Try.func18, Try.ntmps18
    go_wp2_with (first
      | (go_at_call 16; (with_reducible refine (HRD.out _ HC.out).mono ?_); rintro r w1 ⟨v1, rfl, hR, hb⟩; obtain ⟨A1, c1, rfl⟩ := Kd.R_slice hR; have HR := Aside0.mk hR; have HID := Aside0.mk ((hb.cell (p := ⟨w.heap.size, 0, none⟩) HSZ.out).trans HID.out); have HSZ := Aside0.mk (Nat.lt_of_lt_of_le HSZ.out hb.size); have HB := Aside0.mk (HB0.out.trans (hb.mono HB0.out.size)); clear hR hb)
      | (go_at_call 32; (with_reducible refine (index_no A1 c1 X id w.heap.size _ (Kd.R_reads' HR.out).2.2 HID.out HSZ.out HN.out).mono ?_); rintro r w2 ⟨rfl, hb⟩; have HB := Aside0.mk (HB.out.trans (hb.mono HB.out.size)); clear hb))
    go_ret2
    show FdPost w (fdD X id) (fnd X id).isSome _ _
    rw [EE.out.1, EE.out.2]
    exact ⟨none, 0, rfl, Kd.C_nil _ _, Nat.le_refl _, HB.out⟩
end Go.Proofs.Ytfnihlndaenkhaa.Fld
