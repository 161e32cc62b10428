/- WildFolds, of what the printed functions compute: what any byte is without its case. -/
import Derived.Test.YtegfcemedkajkaaDoorPureWild0
namespace Go.Proofs.YtegfcemedkajkaaDoor.Pure
open Go.RowKit Go.Proofs.YtegfcemedkajkaaDoor.WC Go.Proofs.YtegfcemedkajkaaDoor.Wd Go.Proofs.YtegfcemedkajkaaDoorW.PrintWords Go.Proofs.YtegfcemedkajkaaDoorW.PrintLast Go.Proofs.YtegfcemedkajkaaDoorW.PrintMore
theorem WildFolds : duffellaw29_WildFolds.Pure := by
  intro a0 l0 l1 hw _ _ hw0 _ _ hw1
  have f0 := fine_take 100 (by omega) hw0
  have f1 := fine_take 100 (by omega) hw1
  have ha := byte_wf hw
  have e1 : wild_Fold.f a0 = some (fold1 a0) := if_pos ha
  have e2 : duffelref29_Fold.f a0 = some (fold1 a0) := if_pos ha
  obtain ⟨k1, h1⟩ := same_at ((l0.take 100).map fold1) ((l0.take 100).map fold1) (fine_fold f0).1
  obtain ⟨k2, h2⟩ := same_at ((l0.take 100).map fold1) ((l1.take 100).map fold1) (fine_fold f0).1
  obtain ⟨k3, h3⟩ := same_at (l0.take 100) (l0.take 100) f0.1
  refine ⟨k1 + k2 + k3, ?_⟩
  have g1 := h1 (k1 + k2 + k3) (by omega)
  have g2 := h2 (k1 + k2 + k3) (by omega)
  have g3 := h3 (k1 + k2 + k3) (by omega)
  generalize k1 + k2 + k3 = K at *
  unfold duffellaw29_WildFolds.f
  rw [show MyCut.cut_u8.f l0 100 = some (l0.take 100) from cut_nat l0 100, Option.bind_some, show MyCut.cut_u8.f l1 100 = some (l1.take 100) from cut_nat l1 100, Option.bind_some]
  generalize l0.take 100 = p at *
  generalize l1.take 100 = s at *
  rw [copy_eq f0, Option.bind_some, e1, Option.bind_some, e2, Option.bind_some, if_pos rfl, foldall_eq f0, Option.bind_some, rall_eq f0, Option.bind_some, g1, Option.bind_some]
  refine (if_pos (by simp)).trans ?_
  rw [wsame_eq f0 f1, Option.bind_some, Option.bind_some, rall_eq f1, Option.bind_some, g2, Option.bind_some]
  refine (if_pos (by simp)).trans ?_
  rw [g3, Option.bind_some]
  exact (if_pos (by simp)).trans lives_eq
end Go.Proofs.YtegfcemedkajkaaDoor.Pure
