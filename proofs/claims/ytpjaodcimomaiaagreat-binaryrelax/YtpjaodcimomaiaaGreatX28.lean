/- Texts PrM PrN PrO Pr1 Pr2 Pr5 of this claim. -/
import Derived.Test.YtpjaodcimomaiaaGreatX16
set_option maxHeartbeats 4000000
namespace Go.Proofs.YtpjaodcimomaiaaGreat.Lin
end Go.Proofs.YtpjaodcimomaiaaGreat.Lin
namespace Go.Proofs.YtpjaodcimomaiaaGreat.Lin
end Go.Proofs.YtpjaodcimomaiaaGreat.Lin
namespace Go.Proofs.YtpjaodcimomaiaaGreat.Lin
section
variable {P:Prob} {D:Dict}
end
end Go.Proofs.YtpjaodcimomaiaaGreat.Lin
namespace Go.Proofs.YtpjaodcimomaiaaGreat
open Go.RowKit Go.Shelf
structure PV where
 d:Nat
 bas:SV
 fre:SV
 row:SV
 rb:Nat->Nat
 rc:Nat->Nat
 cb:Nat
 cc:Nat
section
variable {W W':World} {G:Nat->Prop} {x:PV} {V M E:Nat} {D D':Lin.Dict}
end
end Go.Proofs.YtpjaodcimomaiaaGreat
