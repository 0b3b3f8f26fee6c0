/- The closed facts of the row of laws.FnExactTalkValid, by the kernel, one by one. -/
import Derived.Test.YtpdjibfcbjknhaaGreatDoorRows
import Derived.JoinedOf
namespace Go.Proofs.YtpdjibfcbjknhaaGreatDoor.fnExactTalkValid
set_option maxRecDepth 100000 in
set_option maxHeartbeats 8000000 in
theorem facts : joinedFacts Tryz.pinned.checked.prog 5 Tryz.f5 Rows.fnExactTalkValidSpec Rows.fnExactTalkValidRow = true := by
  rw [joinedFacts]
  simp only [Bool.and_eq_true]
  repeat' apply And.intro
  all_goals as_aux_lemma => kernel_rfl
end Go.Proofs.YtpdjibfcbjknhaaGreatDoor.fnExactTalkValid
