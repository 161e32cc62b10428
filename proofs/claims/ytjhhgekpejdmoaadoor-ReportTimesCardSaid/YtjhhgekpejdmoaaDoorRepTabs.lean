/- The table of powers of ten, from a row's own condition. -/
import Derived.Test.YtjhhgekpejdmoaaDoorRows
import Derived.Test.YtjhhgekpejdmoaaDoorRepExt0
import Derived.Lib.LaidU8
import Derived.MakeChecks
namespace Go.Proofs.YtjhhgekpejdmoaaDoor.RepTab
open Go Go.Lib
theorem tabIs_of_reads {P : Program} {W : World} {name : String} {k : IntKind} {zs : List Int} {g : Nat} {t e : TypeId} {n : Nat}
    (hg : P.globalNamed name = some g) (hty : (P.globals[g]?).map (·.type) = some t) (ht : P.underlying t = some (.array n e)) (he : P.underlying e = some (.int k)) (hce : P.cellsOf e = 1) (hct : P.cellsOf t = n)
    (h : VarReads P W name (tabData k zs)) : TabIs P W name k zs := by
  obtain ⟨g', t', cs, fuel, p, hg', ht', hvar, hd⟩ := h
  obtain rfl := Option.some.inj (hg.symm.trans hg')
  obtain rfl := Option.some.inj (hty.symm.trans ht')
  unfold TabIs
  rw [hvar, ← cells_of_tab ht he hce hct hd]
theorem tabs_of {l : List (String × DataW Unit)} {W : World} (hm : ("internal/strconv.uint64pow10", tabData .u64 pow10Tab) ∈ l) (h : laidMet Tryd.prog l W) : Rp.Tabs W :=
  tabIs_of_reads (g := 0) (t := 108) (e := 62) (n := 20) (by kernel_rfl) (by kernel_rfl) (by kernel_rfl) (by kernel_rfl) (by kernel_rfl) (by kernel_rfl) (laidMet.reads h hm)
theorem ratios {W : World} (h : laidMetH Tryd.prog Rows.reportRatiosRow.laid W) : Rp.Tabs W := by
  rw [MakeChecks.laidMetH_plain _ _ _ (by kernel_rfl)] at h
  exact tabs_of (.tail _ (.tail _ (.head _))) h
theorem words {W : World} (h : laidMetH Tryd.prog Rows.reportWordsRow.laid W) : Rp.Tabs W := by
  rw [MakeChecks.laidMetH_plain _ _ _ (by kernel_rfl)] at h
  exact tabs_of (.tail _ (.tail _ (.head _))) h
theorem times {W : World} (h : laidMetH Tryd.prog Rows.reportTimesRow.laid W) : Rp.Tabs W := by
  rw [MakeChecks.laidMetH_plain _ _ _ (by kernel_rfl)] at h
  exact tabs_of (.tail _ (.tail _ (.head _))) h
end Go.Proofs.YtjhhgekpejdmoaaDoor.RepTab
