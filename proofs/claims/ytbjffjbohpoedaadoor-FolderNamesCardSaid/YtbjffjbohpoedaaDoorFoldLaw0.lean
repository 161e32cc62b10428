/- r01.Same of the same bytes; a slice cut short. -/
import Derived.Test.YtbjffjbohpoedaaDoorFoldM1
import Derived.Test.YtbjffjbohpoedaaDoorFSx1
namespace Go.Proofs.YtbjffjbohpoedaaDoor.Fd
open Go.Proofs.YtbjffjbohpoedaaDoor.Wd
open Go.RowKit Go.Proofs.YtbjffjbohpoedaaDoorW.PrintWords Go.Proofs.YtbjffjbohpoedaaDoorW.PrintLast Go.Proofs.YtbjffjbohpoedaaDoorW.PrintMore
set_option linter.unusedVariables false
set_option linter.unusedSimpArgs false
theorem same_loop (L : List Int) (hl : L.length ≤ 1000000) : ∀ (K i : Nat), i ≤ L.length → L.length - i + 1 ≤ K → FS.duffelref01_Same.l0 K L L (i : Int) = some true
  | 0, i, _, h => by omega
  | K + 1, i, hi, hK => by
    rw [FS.duffelref01_Same.l0]
    by_cases g : i < L.length
    · have e2 : wrap64 ((i : Int) + 1) = ((i + 1 : Nat) : Int) := by rw [w_in _ (by omega) (by omega)]; omega
      rw [if_pos (by omega), if_pos (by omega), if_pos (by omega), if_pos rfl, e2]
      exact same_loop L hl K (i + 1) (by omega) (by omega)
    · rw [if_neg (by omega)]
theorem same_any (A : Option Addr) (c : Nat) (A' : Option Addr) (c' : Nat) (a b : List Int) (w : World) (e : a = b) (ha : Arg w A c a) (hb : Arg w A' c' b) :
    Calls Tryd.prog 11 #[.slice A a.length c, .slice A' b.length c'] w fun e w' => e = .returned (.bool true) ∧ Below w.heap.size w w' := by
  subst e
  have hK : FS.duffelref01_Same.f (a.length + 1) a a = some true := by
    unfold FS.duffelref01_Same.f
    rw [if_pos rfl]
    exact same_loop a (by have := ha.len; omega) _ 0 (by omega) (by omega)
  exact (FS.duffelref01_Same.calls (a.length + 1) A c a A' c' a true w ha.C ha.le hb.C hb.le hK).mono fun e w' ⟨h1, h2⟩ => ⟨h1, Drawn0.below h2⟩
theorem cut_arg {w : World} {A : Option Addr} {c : Nat} {l : List Int} (n : Nat) (hC : Kd.C (Kd.int .u8) w A l.length l) (hc : l.length ≤ c) (hk : c ≤ 9223372036854775807) (hn : A = Option.none → c = 0) (hr : ∀ x ∈ l, 0 ≤ x ∧ x ≤ 255) (h100 : n ≤ 100000) : Arg w A c (l.take n) :=
  ⟨MyCut.C_cut_u8 hC (MyCut.cut_u8.nat l n), MyCut.le_cut_u8 hc (MyCut.cut_u8.nat l n), hk, hn, fun x hx => hr x (List.mem_of_mem_take hx), by rw [List.length_take]; omega⟩
end Go.Proofs.YtbjffjbohpoedaaDoor.Fd
