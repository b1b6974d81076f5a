/- What is proved here: the reference's factor.Worth and factor. Their condition: words below 2^64; a divisor that is not nought. the reference's factor.Grow and factor.Move. Their condition: words below 2^64. -/
import Derived.Test.YtpojljieakdgiaaGreatERFacA
set_option maxRecDepth 100000
set_option maxHeartbeats 16000000
namespace Go.Proofs.YtpojljieakdgiaaGreat
open Go.RowKit
end Go.Proofs.YtpojljieakdgiaaGreat
