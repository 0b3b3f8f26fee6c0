/- Draws of bytes with frames. -/
import Derived.Test.YtdbepkcpdglppaaGreatDoorGJ
namespace Go.Proofs.YtdbepkcpdglppaaGreatDoor
open Go.RowKit
end Go.Proofs.YtdbepkcpdglppaaGreatDoor
