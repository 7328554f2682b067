/- Texts BnK BnL BnM of this claim. -/
import Derived.Test.YtbpngececjihlaaGreatY36
set_option maxHeartbeats 4000000
namespace Go.Proofs.YtbpngececjihlaaGreat.Lin
section
variable {p:Nat->Bool} {k j:Nat}
end
structure BP where
 V:Nat
 K:Nat
 M:Nat
 nb:Nat
 A:Nat->Nat->Rat
 O:Nat->Nat->Rat
 b:Nat->Rat
 bin:Nat->Nat
namespace BP
section
variable {B:BP} {av:Nat->Int}
end
section
variable {B:BP} {av:Nat->Int} {x y z:Nat->Rat}
end
end BP
end Go.Proofs.YtbpngececjihlaaGreat.Lin
namespace Go.Proofs.YtbpngececjihlaaGreat.Lin.BP
section
variable {B:BP} {av a:Nat->Int} {o:List (Nat->Int)} {st:Option (Option (Nat->Rat))} {r s:Option (Nat->Rat)} {x:Nat->Rat}
end
end Go.Proofs.YtbpngececjihlaaGreat.Lin.BP
namespace Go.Proofs.YtbpngececjihlaaGreat.Lin
section
variable {P:Prob} {D:Dict}
end
end Go.Proofs.YtbpngececjihlaaGreat.Lin
