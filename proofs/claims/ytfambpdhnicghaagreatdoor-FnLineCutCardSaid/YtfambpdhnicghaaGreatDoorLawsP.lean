/- The walks of laws.FnPairTurn, FnLineTurn, FnLineBegin. -/
import Derived.Test.YtfambpdhnicghaaGreatDoorDrawI
import Derived.Test.YtfambpdhnicghaaGreatDoorLineI
import Derived.Test.YtfambpdhnicghaaGreatDoorLineQ
namespace Go.Proofs.YtfambpdhnicghaaGreatDoor
open Go.RowKit
end Go.Proofs.YtfambpdhnicghaaGreatDoor
