/- Texts SeqV Head of this claim. -/
import Derived.Test.YtpjaodcimomaiaaGreatOA0
import Derived.Test.YtpjaodcimomaiaaGreatO05
import Derived.RangeFuncNested
set_option maxHeartbeats 4000000
namespace Go.Proofs.YtpjaodcimomaiaaGreat
open Go.RowKit
open Go.RowKit Go.Shelf
end Go.Proofs.YtpjaodcimomaiaaGreat
