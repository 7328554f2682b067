/- Texts Acc PrP of this claim. -/
import Derived.Test.YtpjaodcimomaiaaGreatX33
set_option maxHeartbeats 4000000
namespace Go.Proofs.YtpjaodcimomaiaaGreat
open Go.RowKit Go.Shelf
attribute [local go_sem] Oper.semAt_some
end Go.Proofs.YtpjaodcimomaiaaGreat
