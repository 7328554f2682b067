/- Texts Ra8 Rb0 of this claim. -/
import Derived.Test.YtbpngececjihlaaGreatB38
import Derived.Laws.AppendOwnNone
import Derived.Deep.DeepCutAuto
set_option maxHeartbeats 4000000
namespace Go.Proofs.YtbpngececjihlaaGreat
open Go.RowKit
end Go.Proofs.YtbpngececjihlaaGreat
