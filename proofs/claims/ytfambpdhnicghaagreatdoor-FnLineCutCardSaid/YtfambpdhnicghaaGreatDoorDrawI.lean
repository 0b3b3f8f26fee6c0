/- Draws of pairs and heads: two more. -/
import Derived.Test.YtfambpdhnicghaaGreatDoorDrawH
namespace Go.Proofs.YtfambpdhnicghaaGreatDoor
open Go.RowKit
end Go.Proofs.YtfambpdhnicghaaGreatDoor
