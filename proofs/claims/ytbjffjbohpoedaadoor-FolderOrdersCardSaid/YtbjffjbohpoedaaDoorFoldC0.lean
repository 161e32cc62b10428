/- folder.Parts, Depth, lives, walked. -/
import Derived.Test.YtbjffjbohpoedaaDoorFoldB0
import Derived.Test.YtbjffjbohpoedaaDoorWApart
import Derived.Lib.SlBytesConst
namespace Go.Proofs.YtbjffjbohpoedaaDoor.Fd
open Go.Proofs.YtbjffjbohpoedaaDoor.Wd
open Go.RowKit Go.Proofs.YtbjffjbohpoedaaDoorW.PrintWords Go.Proofs.YtbjffjbohpoedaaDoorW.PrintLast Go.Proofs.YtbjffjbohpoedaaDoorW.PrintMore
set_option linter.unusedVariables false
set_option linter.unusedSimpArgs false
theorem infoB : (Tryd.prog.info? 22).map (fun i => (i.zero, i.size, i.bytes)) = some (some (.slice none 0 0), 1, 24) := by kernel_rfl
theorem splitL_each (l : List Int) : ∀ p ∈ splitL l, p.length ≤ l.length := by
  induction l with
  | nil => intro p hp; simp [splitL] at hp; subst hp; exact Nat.le_refl _
  | cons x xs ih =>
    intro p hp
    unfold splitL at hp
    split at hp
    · rcases List.mem_cons.1 hp with rfl | hp
      · simp
      · have := ih p hp; simp; omega
    · split at hp
      · rename_i q qs hs
        rw [hs] at ih
        rcases List.mem_cons.1 hp with rfl | hp
        · have := ih q (by simp); simp; omega
        · have := ih p (by simp [hp]); simp; omega
      · rw [List.mem_singleton.1 hp]; simp
def partsF (L : List Int) : List (List Int) := if isB L = true then piecesL L else []
/-- rows of the call's own -/
def OwnRows (w : World) (X : List (List Int)) (e : Ending) (w' : World) : Prop :=
  ∃ v, e = .returned v ∧ Kd.R (Kd.slice 5 (Kd.int .u8)) 22 w' w.heap.size (fun _ => True) v X ∧ Below w.heap.size w w'
theorem own_M {w' : World} {base : Nat} {v : Value} {p : List Int} (h : w'.ownsRow base 5 1 v p.length (nums .u8 p)) : (Kd.slice 5 (Kd.int .u8)).M w' base (fun k => some k = v.ownBlock) p [v] := by
  refine ⟨v, rfl, fun k hk => hk.symm, nums .u8 p, h, ?_⟩
  have hr : ∀ zs : List Int, Reps (Kd.M (Kd.int .u8) w' base (fun k => some k = v.ownBlock ∧ some k ≠ v.ownBlock)) 1 zs (nums .u8 zs) := by
    intro zs
    induction zs with
    | nil => exact Reps.none _ _
    | cons z zs ih => exact Reps.one (show Kd.M (Kd.int .u8) _ _ _ z [.int .u8 z] from rfl) ih
  exact hr p
theorem fresh_ne {w wr w2 : World} {X : List (List Int)} {A : Option Addr} {c n : Nat} {v : Value} {p : List Int} (h : Kd.R (Kd.slice 5 (Kd.int .u8)) 22 wr w.heap.size (fun _ => True) (.slice A n c) X) (hv : w2.ownsRow wr.heap.size 5 1 v p.length (nums .u8 p)) :
    ∀ k, some k = v.ownBlock → True ∧ some k ≠ (Value.slice A n c).ownBlock := by
  intro k hk
  refine ⟨trivial, fun he => ?_⟩
  obtain ⟨_, inner, ho, _⟩ := h
  have h1 := own_lt ho k he.symm
  have h2 := own_base hv k hk.symm
  omega
set_option maxHeartbeats 8000000 in
set_option maxRecDepth 100000 in
theorem parts_any (A : Option Addr) (c : Nat) (L : List Int) (w : World) (h : Arg w A c L) : Calls Tryd.prog 21 #[.slice A L.length c] w (OwnRows w (partsF L)) := by
  have CH := Aside0.mk (check_any A c L w h)
  have PA := Aside0.mk (fun W (hb : Below w.heap.size w W) => pieces_any A c L W (h.below hb))
  have PL : Aside0 ((piecesL L).length ≤ 100001) := ⟨by have := pieces_len L; have := h.len; omega⟩
  have PQ : Aside0 (∀ p ∈ piecesL L, p.length ≤ 1000000000) := ⟨fun p hp => by
    have := splitL_each (cutEnd L) p hp
    have := cutEnd_len L
    have := h.len
    omega⟩
  clear h
  unfold partsF
  cases hq : isB L with
  | false =>
    rw [hq] at CH
    have e16 : errZ false = 16 := rfl
    rw [e16] at CH
    rw [if_neg (by decide)]
    clear hq e16 PA PL PQ
    go_enter Tryd.func21, Tryd.ntmps21
    go_wp2_with (go_at_call 15; (with_reducible refine CH.out.mono ?_); rintro e w1 ⟨rfl, hb⟩; have B1 := Aside0.mk hb; clear hb)
    go_ret
    exact ⟨_, rfl, Kd.R_nil _ _ _ _ _, B1.out⟩
  | true =>
    rw [hq] at CH
    have e0 : errZ true = 0 := rfl
    rw [e0] at CH
    rw [if_pos rfl]
    obtain ⟨X, hX⟩ : ∃ X, piecesL L = X := ⟨_, rfl⟩
    rw [hX] at PA PL PQ ⊢
    clear hX hq e0
    go_enter Tryd.func21, Tryd.ntmps21
    go_wp2_with (first
      | (go_at_call 15; (with_reducible refine CH.out.mono ?_); rintro e w1 ⟨rfl, hb⟩; have B1 := Aside0.mk hb; clear hb)
      | (go_at_call 43; (with_reducible refine (PA.out _ B1.out).mono ?_); rintro e w2 ⟨A2, c2, rfl, hle, hC, hb⟩; have HC := Aside0.mk hC; have HB := Aside0.mk (below_step B1.out hb); clear hle hC hb))
    go_loopg [3, 12] X.length (fun gk v3 v12 wr => ∃ (i : Nat) (A3 : Option Addr) (c3 : Nat), v3 = .slice A3 (X.take i).length c3 ∧ v12 = .int .i64 (i : Int) ∧ i + gk = X.length ∧ Aside0 (Kd.R (Kd.slice 5 (Kd.int .u8)) 22 wr w2.heap.size (fun _ => True) (.slice A3 (X.take i).length c3) (X.take i)) ∧ Aside0 (Below w2.heap.size w2 wr))
    case atStart => exact ⟨0, none, 0, rfl, rfl, by omega, ⟨Kd.R_nil _ _ _ _ _⟩, ⟨Below.refl _ _⟩⟩
    case round =>
      obtain ⟨i, A3, c3, rfl, rfl, hig, HR, HBW⟩ := hrel
      cases gk with
      | zero =>
        obtain rfl : i = X.length := by omega
        have dd2 : decide ((X.length : Int) < (X.length : Int)) = false := decide_eq_false (by omega)
        rw [List.take_length] at HR ⊢
        go_wp2_with fail
        go_ret
        exact ⟨_, rfl, Kd.R_lower HR.out HB.out.size, HB.out.trans (HBW.out.mono HB.out.size)⟩
      | succ g =>
        have hlt : i < X.length := by omega
        have d3 : decide ((i : Int) < (X.length : Int)) = true := decide_eq_true (by omega)
        have q3 : (i : Int) < (X.length : Int) := by omega
        obtain ⟨ad, A4, c4, rfl, hx0, hl0, hC0⟩ := FR.at_L1 (Kd.C_below HC.out HBW.out) (i : Int) (by omega) q3
        obtain ⟨p, hp⟩ : ∃ p, FR.rd_L1 X (i : Int) = p := ⟨_, rfl⟩
        rw [hp] at hx0 hl0 hC0
        rw [Int.toNat_natCast] at hx0
        have hp2 : X[i] = p := by rw [← hp]; unfold FR.rd_L1; rw [Int.toNat_natCast, List.getD_eq_getElem?_getD, List.getElem?_eq_getElem hlt]; rfl
        have hpl : p.length ≤ 1000000000 := PQ.out p (hp2 ▸ List.getElem_mem hlt)
        have hsnoc : X.take (i + 1) = X.take i ++ [p] := by rw [List.take_add_one, List.getElem?_eq_getElem hlt, hp2]; rfl
        have hlen1 : (X.take i).length = i := by rw [List.length_take]; omega
        have CL := Aside0.mk (clone_mine A4 c4 p wr hC0 hpl)
        have SN := Aside0.mk hsnoc
        have LN := Aside0.mk hlen1
        have IG := Aside0.mk hig
        have hwk : wrap64 ((i : Int) + 1) = ((i + 1 : Nat) : Int) := by unfold wrap64; have := PL.out; omega
        clear hp hp2 hl0 hC0 hpl hsnoc hlen1
        generalize X.take i = Y at *
        go_wp2_with (first
          | (go_at_call 46; (with_reducible refine CL.out.mono ?_); rintro e w5 ⟨v5, rfl, ho5, hb5⟩; obtain ⟨A5, c5, rfl⟩ := own_slice ho5; have O5 := Aside0.mk ho5; have B5 := Aside0.mk hb5; have NE := Aside0.mk (fresh_ne HR.out ho5); have M5 := Aside0.mk ((Kd.slice 5 (Kd.int .u8)).M_lower HBW.out.size (own_M ho5)); clear ho5 hb5)
          | (at_builtin; refine Kd.R_append (Kd.slice 5 (Kd.int .u8)) (w0 := w2) w2.heap.size rfl (.tmp 16) (.tmp 19) 35 22 (.slice none 0 0) 24 rfl Tryd.underlying35 infoB rfl (by decide) (by decide) (.slice A3 Y.length c3) Y p [.slice A5 p.length c5] (fun _ => True) (fun k => some k = (Value.slice A5 p.length c5).ownBlock) rfl rfl M5.out NE.out (fun _ _ => trivial) (Kd.R_below HR.out B5.out) (below_step HBW.out B5.out) (below_size (below_step HBW.out B5.out)) (by have := LN.out; have := PL.out; have := IG.out; omega) ?_; intro v6 w6 hR6 hb6 hg6 _; obtain ⟨A6, c6, rfl⟩ := Kd.R_slice hR6; have R6 := Aside0.mk hR6; have B6 := Aside0.mk hb6; have G6 := Aside0.mk hg6; clear hR6 hb6 hg6))
        go_roundg g
        case measure => omega
        case rel =>
          refine ⟨i + 1, A6, c6, (by rw [SN.out]; first | rfl | (simp; done) | (rw [List.length_append]; rfl)), (by first | rfl | rw [hwk] | go_num), by have := IG.out; omega, ⟨by rw [SN.out]; exact R6.out⟩, B6⟩
theorem depth_any (A : Option Addr) (c : Nat) (L : List Int) (w : World) (h : Arg w A c L) : Calls Tryd.prog 22 #[.slice A L.length c] w fun e w' => e = .returned (.int .i64 ((partsF L).length : Int)) ∧ Below w.heap.size w w' := by
  have PA := Aside0.mk (parts_any A c L w h)
  clear h
  go_enter Tryd.func22, Tryd.ntmps22
  go_wp2_with (go_at_call 21; (with_reducible refine PA.out.mono ?_); rintro e w1 ⟨v, rfl, hR, hb⟩; obtain ⟨A1, c1, rfl⟩ := Kd.R_slice hR; have B1 := Aside0.mk hb; clear hb hR)
  go_ret
  exact ⟨rfl, B1.out⟩
end Go.Proofs.YtbjffjbohpoedaaDoor.Fd
