/- laws.eqAddress, eqPair, markAddress, markPair, heldAddress, heldPair. -/
import Derived.Test.YtpdjibfcbjknhaaDoorGG
import Derived.Test.YtpdjibfcbjknhaaDoorGH
namespace Go.Proofs.YtpdjibfcbjknhaaDoor
open Go.RowKit
end Go.Proofs.YtpdjibfcbjknhaaDoor
