/- WildCase, of what the printed functions compute: case plays no part. -/
import Derived.Test.YtegfcemedkajkaaDoorPureWild0
namespace Go.Proofs.YtegfcemedkajkaaDoor.Pure
open Go.RowKit Go.Proofs.YtegfcemedkajkaaDoor.WC Go.Proofs.YtegfcemedkajkaaDoor.Wd Go.Proofs.YtegfcemedkajkaaDoorW.PrintWords Go.Proofs.YtegfcemedkajkaaDoorW.PrintLast Go.Proofs.YtegfcemedkajkaaDoorW.PrintMore
theorem WildCase : duffellaw29_WildCase.Pure := by
  intro l0 l1 _ _ hw0 _ _ hw1
  have f0 := fine_take 60 (by omega) hw0
  have f1 := fine_take 80 (by omega) hw1
  unfold duffellaw29_WildCase.f
  rw [show MyCut.cut_u8.f l0 60 = some (l0.take 60) from cut_nat l0 60, Option.bind_some, show MyCut.cut_u8.f l1 80 = some (l1.take 80) from cut_nat l1 80, Option.bind_some]
  generalize l0.take 60 = p at *
  generalize l1.take 80 = s at *
  have e1 : matchB (p.map fold1) s = matchB p s := by unfold matchB; rw [parts_fold f0]
  have e2 : matchB p (s.map fold1) = matchB p s := by unfold matchB; rw [parts_fold f1]
  rw [match_eq f0 f1, Option.bind_some, foldall_eq f0, Option.bind_some, match_eq (fine_fold f0) f1, Option.bind_some, e1]
  refine (if_pos (by simp)).trans ?_
  rw [foldall_eq f1, Option.bind_some, match_eq f0 (fine_fold f1), Option.bind_some, e2]
  refine (if_pos (by simp)).trans ?_
  rw [Option.bind_some, wsame_eq f1 (fine_fold f1), Option.bind_some]
  exact (if_pos (by rw [fold_fold f1]; simp)).trans lives_eq
end Go.Proofs.YtegfcemedkajkaaDoor.Pure
