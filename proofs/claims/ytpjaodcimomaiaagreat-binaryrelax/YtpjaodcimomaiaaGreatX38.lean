/- Texts Hal Ra1 Ra2 Ra3 Ra4 Ra5 Ra6 Ra7 of this claim. -/
import Derived.Test.YtpjaodcimomaiaaGreatX08
import Derived.Test.YtpjaodcimomaiaaGreatX10
set_option maxHeartbeats 4000000
namespace Go.Proofs.YtpjaodcimomaiaaGreat.Hal
end Go.Proofs.YtpjaodcimomaiaaGreat.Hal
namespace Go.Proofs.YtpjaodcimomaiaaGreat
open Go.RowKit
section
variable {w w':World} {X Y:Nat->Prop} {A:Option Addr} {n c:Nat} {l:List Nat}
end
end Go.Proofs.YtpjaodcimomaiaaGreat
