/- laws.eqAddress, eqPair, markAddress, markPair, heldAddress, heldPair. -/
import Derived.Test.YtdbepkcpdglppaaGreatDoorGG
import Derived.Test.YtdbepkcpdglppaaGreatDoorGH
namespace Go.Proofs.YtdbepkcpdglppaaGreatDoor
open Go.RowKit
end Go.Proofs.YtdbepkcpdglppaaGreatDoor
