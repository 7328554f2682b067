/- Texts Hal Ra1 Ra2 Ra3 Ra4 Ra5 Ra6 Ra7 of this claim. -/
import Derived.Test.YtbpngececjihlaaGreatB08
import Derived.Test.YtbpngececjihlaaGreatB10
set_option maxHeartbeats 4000000
namespace Go.Proofs.YtbpngececjihlaaGreat.Hal
end Go.Proofs.YtbpngececjihlaaGreat.Hal
namespace Go.Proofs.YtbpngececjihlaaGreat
open Go.RowKit
section
variable {w w':World} {X Y:Nat->Prop} {A:Option Addr} {n c:Nat} {l:List Nat}
end
end Go.Proofs.YtbpngececjihlaaGreat
