/- the closed facts of SpaceAll's row. -/
import Derived.Test.YtllhgbanbelmaaaGreatRows
import Derived.JoinedOf
import Derived.KernelRfl
namespace Go.Proofs.YtllhgbanbelmaaaGreat.spaceAll
theorem and_of {a b : Bool} (ha : a = true) (hb : b = true) : (a && b) = true := by rw [ha, hb]; rfl
set_option maxRecDepth 100000 in
set_option maxHeartbeats 8000000 in
theorem closed : joinedFacts Tryz.prog 3 Tryz.f3 Rows.spaceAllSpec Rows.spaceAllRow = true := by
  unfold joinedFacts
  repeat' with_reducible refine and_of ?_ ?_
  all_goals as_aux_lemma => kernel_rfl
end Go.Proofs.YtllhgbanbelmaaaGreat.spaceAll
