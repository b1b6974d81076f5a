/- What is proved here: the reference's holdings: Put. Its conditions: sizes. the reference's holdings: Take. Its conditions: sizes. the reference's holdings: Cut. Its conditions: sizes. the reference's holdings: Shift. Its conditions: sizes. -/
import Derived.Test.YtpojljieakdgiaaGreatERHoldA
import Derived.Test.YtpojljieakdgiaaGreatEHoldD
set_option maxRecDepth 100000
set_option maxHeartbeats 16000000
namespace Go.Proofs.YtpojljieakdgiaaGreat
open Go.RowKit
end Go.Proofs.YtpojljieakdgiaaGreat
namespace Go.Proofs.YtpojljieakdgiaaGreat
open Go.RowKit
end Go.Proofs.YtpojljieakdgiaaGreat
