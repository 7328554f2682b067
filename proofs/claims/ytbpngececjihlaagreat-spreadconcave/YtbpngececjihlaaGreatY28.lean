/- Texts Cons PrJ of this claim. -/
import Derived.Test.YtbpngececjihlaaGreatY26
import Derived.Test.YtbpngececjihlaaGreatY27
set_option maxHeartbeats 4000000
namespace Go.Proofs.YtbpngececjihlaaGreat
open Go.RowKit Go.Shelf
attribute [local go_sem] Oper.semAt_some
instance:Inhabited SV:=⟨⟨none,0,0⟩⟩
end Go.Proofs.YtbpngececjihlaaGreat
namespace Go.Proofs.YtbpngececjihlaaGreat
open Go.RowKit Go.Shelf
attribute [local go_sem] Oper.semAt_some
end Go.Proofs.YtbpngececjihlaaGreat
