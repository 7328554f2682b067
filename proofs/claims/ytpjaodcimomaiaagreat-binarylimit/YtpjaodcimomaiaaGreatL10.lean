/- Texts Long2 of this claim. -/
import Derived.Test.YtpjaodcimomaiaaGreatL08
import Derived.Test.YtpjaodcimomaiaaGreatL09
import Derived.Deep.Cut
set_option maxHeartbeats 4000000
namespace Go.Proofs.YtpjaodcimomaiaaGreat
open Go.RowKit Go.Shelf
end Go.Proofs.YtpjaodcimomaiaaGreat
