/- WildMatches, of what the printed functions compute: which names any pattern matches. -/
import Derived.Test.YtegfcemedkajkaaDoorPureWild0
namespace Go.Proofs.YtegfcemedkajkaaDoor.Pure
open Go.RowKit Go.Proofs.YtegfcemedkajkaaDoor.WC Go.Proofs.YtegfcemedkajkaaDoor.Wd Go.Proofs.YtegfcemedkajkaaDoorW.PrintWords Go.Proofs.YtegfcemedkajkaaDoorW.PrintLast Go.Proofs.YtegfcemedkajkaaDoorW.PrintMore
theorem WildMatches : duffellaw29_WildMatches.Pure := by
  intro l0 l1 _ _ hw0 _ _ hw1
  have f0 := fine_take 60 (by omega) hw0
  have f1 := fine_take 80 (by omega) hw1
  unfold duffellaw29_WildMatches.f
  rw [show MyCut.cut_u8.f l0 60 = some (l0.take 60) from cut_nat l0 60, Option.bind_some, show MyCut.cut_u8.f l1 80 = some (l1.take 80) from cut_nat l1 80, Option.bind_some]
  rw [match_eq f0 f1, Option.bind_some, rmatch_eq f0 f1, Option.bind_some]
  exact (if_pos (by simp)).trans lives_eq
end Go.Proofs.YtegfcemedkajkaaDoor.Pure
