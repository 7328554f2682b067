/- Texts SeqV Head of this claim. -/
import Derived.Test.YtbpngececjihlaaGreatB04
set_option maxHeartbeats 4000000
namespace Go.Proofs.YtbpngececjihlaaGreat
open Go.RowKit
open Go.RowKit Go.Shelf
end Go.Proofs.YtbpngececjihlaaGreat
