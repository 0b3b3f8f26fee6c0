/- laws.eqAddress, eqPair, markAddress, markPair, heldAddress, heldPair. -/
import Derived.Test.YtpdjibfcbjknhaaGreatDoorGG
import Derived.Test.YtpdjibfcbjknhaaGreatDoorGH
namespace Go.Proofs.YtpdjibfcbjknhaaGreatDoor
open Go.RowKit
end Go.Proofs.YtpdjibfcbjknhaaGreatDoor
