/- Texts BnJ of this claim. -/
import Derived.Test.YtbpngececjihlaaGreatY36
set_option maxHeartbeats 4000000
namespace Go.Proofs.YtbpngececjihlaaGreat
open Go.RowKit Go.Shelf
end Go.Proofs.YtbpngececjihlaaGreat
