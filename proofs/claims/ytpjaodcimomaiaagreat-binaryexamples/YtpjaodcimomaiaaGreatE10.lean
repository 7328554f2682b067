/- Texts Long2 of this claim. -/
import Derived.Test.YtpjaodcimomaiaaGreatEA0
import Derived.Test.YtpjaodcimomaiaaGreatE08
import Derived.Test.YtpjaodcimomaiaaGreatE09
import Derived.Deep.Cut
set_option maxHeartbeats 4000000
namespace Go.Proofs.YtpjaodcimomaiaaGreat
open Go.RowKit Go.Shelf
structure LPRaw (w:World) (X:Nat->Prop) (R:QV->Rat->Prop) (p:LPV) (os rs:List (List Rat)) (bs:List Rat):Prop where
 obj:MatAt w X R p.O os
 rows:MatAt w X R p.R rs
 bounds:VecAt w X R p.B bs
end Go.Proofs.YtpjaodcimomaiaaGreat
