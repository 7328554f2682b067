/- Texts Ra9 Rb1 of this claim. -/
import Derived.Test.YtpjaodcimomaiaaGreatX38
set_option maxHeartbeats 4000000
namespace Go.Proofs.YtpjaodcimomaiaaGreat
open Go.RowKit
end Go.Proofs.YtpjaodcimomaiaaGreat
