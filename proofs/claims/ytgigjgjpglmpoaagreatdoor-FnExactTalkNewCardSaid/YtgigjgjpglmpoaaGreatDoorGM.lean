/- laws.eqAddress, eqPair, markAddress, markPair, heldAddress, heldPair. -/
import Derived.Test.YtgigjgjpglmpoaaGreatDoorGG
import Derived.Test.YtgigjgjpglmpoaaGreatDoorGH
namespace Go.Proofs.YtgigjgjpglmpoaaGreatDoor
open Go.RowKit
end Go.Proofs.YtgigjgjpglmpoaaGreatDoor
