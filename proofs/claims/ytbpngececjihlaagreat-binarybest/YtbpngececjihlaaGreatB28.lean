/- Texts PrM PrN PrO Pr1 Pr2 Pr5 of this claim. -/
import Derived.Test.YtbpngececjihlaaGreatB16
set_option maxHeartbeats 4000000
namespace Go.Proofs.YtbpngececjihlaaGreat.Lin
end Go.Proofs.YtbpngececjihlaaGreat.Lin
namespace Go.Proofs.YtbpngececjihlaaGreat.Lin
end Go.Proofs.YtbpngececjihlaaGreat.Lin
namespace Go.Proofs.YtbpngececjihlaaGreat.Lin
section
variable {P:Prob} {D:Dict}
end
end Go.Proofs.YtbpngececjihlaaGreat.Lin
namespace Go.Proofs.YtbpngececjihlaaGreat
open Go.RowKit Go.Shelf
structure PV where
 d:Nat
 bas:SV
 fre:SV
 row:SV
 rb:Nat->Nat
 rc:Nat->Nat
 cb:Nat
 cc:Nat
section
variable {W W':World} {G:Nat->Prop} {x:PV} {V M E:Nat} {D D':Lin.Dict}
end
end Go.Proofs.YtbpngececjihlaaGreat
