/- The walk of laws.FnExactTalkValid. -/
import Derived.Test.YtgigjgjpglmpoaaGreatDoorTvC
import Derived.Test.YtgigjgjpglmpoaaGreatDoorLgD
import Derived.Test.YtgigjgjpglmpoaaGreatDoorTkB
import Derived.Deep.RegionHeld3
namespace Go.Proofs.YtgigjgjpglmpoaaGreatDoor
open Go.RowKit
theorem LgSm.of {ls : List Lg} (h : cntL ls ≤ 1048576) : LgSm ls := by
  intro k hk
  have h1 := cntL_step hk
  have h2 := cntL_app (ls.take (k+1)) (ls.drop (k+1))
  rw [List.take_append_drop] at h2
  omega
end Go.Proofs.YtgigjgjpglmpoaaGreatDoor
