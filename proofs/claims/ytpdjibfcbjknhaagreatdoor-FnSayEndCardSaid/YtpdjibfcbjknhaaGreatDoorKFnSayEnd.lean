/- The closed facts of the row of laws.FnSayEnd, by the kernel, one by one. -/
import Derived.Test.YtpdjibfcbjknhaaGreatDoorRows
import Derived.JoinedOf
namespace Go.Proofs.YtpdjibfcbjknhaaGreatDoor.fnSayEnd
set_option maxRecDepth 100000 in
set_option maxHeartbeats 8000000 in
theorem facts : joinedFacts Tryz.pinned.checked.prog 9 Tryz.f9 Rows.fnSayEndSpec Rows.fnSayEndRow = true := by
  rw [joinedFacts]
  simp only [Bool.and_eq_true]
  repeat' apply And.intro
  all_goals as_aux_lemma => kernel_rfl
end Go.Proofs.YtpdjibfcbjknhaaGreatDoor.fnSayEnd
