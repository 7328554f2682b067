/- Texts Ra9 Rb1 of this claim. -/
import Derived.Test.YtbpngececjihlaaGreatB38
set_option maxHeartbeats 4000000
namespace Go.Proofs.YtbpngececjihlaaGreat
open Go.RowKit
end Go.Proofs.YtbpngececjihlaaGreat
