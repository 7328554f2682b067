/- Texts Long2 of this claim. -/
import Derived.Test.YtbpngececjihlaaGreatX07
import Derived.Test.YtbpngececjihlaaGreatX08
import Derived.Deep.Cut
set_option maxHeartbeats 4000000
namespace Go.Proofs.YtbpngececjihlaaGreat
open Go.RowKit Go.Shelf
end Go.Proofs.YtbpngececjihlaaGreat
