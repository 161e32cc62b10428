/- The reference's Same of a text with itself, as printed (namespace EX). -/
import Derived.Test.YtfnihlndaenkhaaEXPut
namespace Go.Proofs.Ytfnihlndaenkhaa.EXR
open Go.RowKit Go.Proofs.Ytfnihlndaenkhaa.EX Go.Proofs.YtfnihlndaenkhaaW.PrintWords Go.Proofs.YtfnihlndaenkhaaW.PrintLast Go.Proofs.YtfnihlndaenkhaaW.PrintMore Go.Proofs.Ytfnihlndaenkhaa.Fld
theorem same_loop (L : List Int) (hl : L.length ≤ 1000000000) : ∀ (K i : Nat), i ≤ L.length → L.length - i + 1 ≤ K → duffelref01_Same.l0 K L L (i : Int) = some true
  | 0, i, h, hK => by omega
  | K + 1, i, h, hK => by
    rw [duffelref01_Same.l0]
    by_cases c : i < L.length
    · have e2 : wrap64 ((i : Int) + 1) = ((i + 1 : Nat) : Int) := by rw [w64i _ (by omega) (by omega)]; omega
      rw [if_pos (by omega), if_pos (by omega), if_pos (by omega), if_pos rfl, e2]
      exact same_loop L hl K (i + 1) (by omega) (by omega)
    · rw [if_neg (by omega)]
theorem same_ok (L : List Int) (hl : L.length ≤ 1000000000) (K : Nat) (hK : L.length + 1 ≤ K) : duffelref01_Same.f K L L = some true := by
  unfold duffelref01_Same.f
  rw [if_pos rfl]
  exact same_loop L hl K 0 (by omega) (by omega)
theorem copy_ok (L : List Int) (hl : L.length ≤ 1000000000) : duffelref01_Copy.f L = some L := if_pos (by simp; omega)
end Go.Proofs.Ytfnihlndaenkhaa.EXR
