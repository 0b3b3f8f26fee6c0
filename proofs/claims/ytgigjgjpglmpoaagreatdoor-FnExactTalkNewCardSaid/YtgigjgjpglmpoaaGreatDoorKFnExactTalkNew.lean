/- The closed facts of the row of laws.FnExactTalkNew, by the kernel, one by one. -/
import Derived.Test.YtgigjgjpglmpoaaGreatDoorRows
import Derived.JoinedOf
namespace Go.Proofs.YtgigjgjpglmpoaaGreatDoor.fnExactTalkNew
set_option maxRecDepth 100000 in
set_option maxHeartbeats 8000000 in
theorem facts : joinedFacts Tryz.pinned.checked.prog 3 Tryz.f3 Rows.fnExactTalkNewSpec Rows.fnExactTalkNewRow = true := by
  rw [joinedFacts]
  simp only [Bool.and_eq_true]
  repeat' apply And.intro
  all_goals as_aux_lemma => kernel_rfl
end Go.Proofs.YtgigjgjpglmpoaaGreatDoor.fnExactTalkNew
