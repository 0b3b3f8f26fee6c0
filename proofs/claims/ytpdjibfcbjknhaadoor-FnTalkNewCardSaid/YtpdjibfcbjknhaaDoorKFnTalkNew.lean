/- The closed facts of the row of laws.FnTalkNew, by the kernel, one by one. -/
import Derived.Test.YtpdjibfcbjknhaaDoorRows
import Derived.JoinedOf
namespace Go.Proofs.YtpdjibfcbjknhaaDoor.fnTalkNew
set_option maxRecDepth 100000 in
set_option maxHeartbeats 8000000 in
theorem facts : joinedFacts Tryd.pinned.checked.prog 3 Tryd.f3 Rows.fnTalkNewSpec Rows.fnTalkNewRow = true := by
  rw [joinedFacts]
  simp only [Bool.and_eq_true]
  repeat' apply And.intro
  all_goals as_aux_lemma => kernel_rfl
end Go.Proofs.YtpdjibfcbjknhaaDoor.fnTalkNew
