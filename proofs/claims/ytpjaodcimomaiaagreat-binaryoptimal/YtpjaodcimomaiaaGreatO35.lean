/- Texts PrQ PrR of this claim. -/
import Derived.Test.YtpjaodcimomaiaaGreatOA0
import Derived.Test.YtpjaodcimomaiaaGreatO33
import Derived.Test.YtpjaodcimomaiaaGreatO34
import Derived.Test.YtpjaodcimomaiaaGreatO32
set_option maxHeartbeats 4000000
namespace Go.Proofs.YtpjaodcimomaiaaGreat
open Go.RowKit Go.Shelf
attribute [local go_sem] Oper.semAt_some
end Go.Proofs.YtpjaodcimomaiaaGreat
