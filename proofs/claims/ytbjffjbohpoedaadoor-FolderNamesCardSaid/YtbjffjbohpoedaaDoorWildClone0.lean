/- bytes.Clone, walked: a nil slice stays nil, whatever its length cell says of room. -/
import Derived.Test.YtbjffjbohpoedaaDoorProg
import Derived.Test.YtbjffjbohpoedaaDoorMyCut
import Derived.Deep.QuietTactic
import Derived.BigQuiet
import Derived.Laws.Cover3
import Derived.Laws.MakeOwn
import Derived.Laws.OwnMore
import Derived.Test.YtbjffjbohpoedaaDoorWRepsOne
namespace Go.Proofs.YtbjffjbohpoedaaDoor.Wd
open Go.RowKit Go.Proofs.YtbjffjbohpoedaaDoorW.PrintWords Go.Proofs.YtbjffjbohpoedaaDoorW.PrintLast Go.Proofs.YtbjffjbohpoedaaDoorW.PrintMore Go.Proofs.YtbjffjbohpoedaaDoor.MyCut
set_option linter.unusedVariables false
set_option linter.unusedSimpArgs false
/-- new bytes L -/
def Mine (w : World) (L : List Int) (r : Ending) (w' : World) : Prop :=
  ∃ v, r = .returned v ∧ w'.ownsRow w.heap.size 5 1 v L.length (nums .u8 L) ∧ Below w.heap.size w w'
theorem eql_slice_nil {P : Program} (w : World) (t e : TypeId) (a : Option Addr) (l c : Nat) (h : P.underlying t = some (.slice e)) : (binOp .eql t (.slice a l c) (.slice none 0 0)).run P w = .ok (.bool a.isNone) w := by
  simp only [binOp]
  simp [run_equal_slice_nil w t e a l c h]
set_option maxHeartbeats 4000000 in
theorem clone_nil (w : World) (n c : Nat) : Calls Tryd.prog 46 #[.slice none n c] w (Mine w []) := by
  have he := fun W : World => eql_slice_nil (P := Tryd.prog) W 22 5 none n c Tryd.underlying22
  go_enter Tryd.func46, Tryd.ntmps46
  go_wp2
  go_ret
  exact ⟨_, rfl, own_nil _ _ _ _, Below.refl _ _⟩
set_option maxHeartbeats 4000000 in
theorem clone_some (w : World) (ad : Addr) (c : Nat) (b : List Int) (hb : Kd.C (Kd.int .u8) w (some ad) b.length b) (hl : b.length ≤ 1000000000) :
    Calls Tryd.prog 46 #[.slice (some ad) b.length c] w (Mine w b) := by
  have h1 : Aside0 (∀ o, ReadsInt (w.alloc o) .u8 (some ad) b.length b) := ⟨fun o => Kd.reads_of_C (Kd.C_alloc hb o)⟩
  have h2 := Aside0.mk hl
  have he : ∀ W : World, (binOp .eql 22 (.slice (some ad) b.length c) (.slice none 0 0)).run Tryd.prog W = .ok (.bool false) W := fun W => eql_slice_nil (P := Tryd.prog) W 22 5 (some ad) b.length c Tryd.underlying22
  clear hb hl
  go_enter Tryd.func46, Tryd.ntmps46
  go_wp2_with (at_builtin; refine print_append_row (w0 := w) w.heap.size rfl (.tmp 5) (.tmp 6) 22 5 .u8 1 rfl Tryd.underlying22 infoE (by decide) _ [] b (some ad) b.length c rfl rfl (own_lit w w.heap.size 5 .u8 [] (Nat.le_refl _) (by decide)) (h1.out _) (below_alloc (Below.refl _ _) _) (by simp) (by have := h2.out; simp; omega) ?_; intro v2 w1 hown hbel hgr hat; have OW := Aside0.mk hown; have BE := Aside0.mk hbel; clear hown hbel hgr hat)
  go_ret
  exact ⟨_, rfl, OW.out, BE.out⟩
theorem mine_R {w w' : World} {v : Value} {L : List Int} (h : w'.ownsRow w.heap.size 5 1 v L.length (nums .u8 L)) : Kd.R (Kd.int .u8) 5 w' w.heap.size (fun _ => True) v L := by
  refine ⟨fun k hk => trivial, nums .u8 L, h, ?_⟩
  have hr : ∀ zs : List Int, Reps (Kd.M (Kd.int .u8) w' w.heap.size (fun k => True ∧ some k ≠ v.ownBlock)) 1 zs (nums .u8 zs) := by
    intro zs
    induction zs with
    | nil => exact Reps.none _ _
    | cons z zs ih => exact Reps.one (show Kd.M (Kd.int .u8) _ _ _ z [.int .u8 z] from rfl) ih
  exact hr L
theorem clone_mine (A : Option Addr) (c : Nat) (b : List Int) (w : World) (hb : Kd.C (Kd.int .u8) w A b.length b) (hl : b.length ≤ 1000000000) : Calls Tryd.prog 46 #[.slice A b.length c] w (Mine w b) := by
  cases A with
  | none =>
    have e : b = [] := by
      have h := Kd.reads_of_C (d := (0 : Int)) hb
      rcases Nat.eq_zero_or_pos b.length with h0 | h0
      · exact List.eq_nil_of_length_eq_zero h0
      · obtain ⟨ad, h, _⟩ := h.2.2 h0; cases h
    subst e
    exact clone_nil w _ c
  | some ad => exact clone_some w ad c b hb hl
theorem clone_R (A : Option Addr) (c : Nat) (b : List Int) (w : World) (hb : Kd.C (Kd.int .u8) w A b.length b) (hl : b.length ≤ 1000000000) :
    Calls Tryd.prog 46 #[.slice A b.length c] w fun e w' => ∃ v0_ : Value, e = .returned (v0_) ∧ Kd.R (Kd.int .u8) 5 w' w.heap.size (fun _ => True) v0_ b ∧ Below w.heap.size w w' :=
  (clone_mine A c b w hb hl).mono fun e w' ⟨v, he, ho, hbl⟩ => ⟨v, he, mine_R ho, hbl⟩
end Go.Proofs.YtbjffjbohpoedaaDoor.Wd
