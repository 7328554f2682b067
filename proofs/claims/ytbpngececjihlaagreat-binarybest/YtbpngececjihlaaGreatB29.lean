/- Texts Pr3 of this claim. -/
import Derived.Test.YtbpngececjihlaaGreatB28
import Derived.Deep.CutRange
set_option maxHeartbeats 4000000
namespace Go.Proofs.YtbpngececjihlaaGreat
open Go.RowKit Go.Shelf
end Go.Proofs.YtbpngececjihlaaGreat
