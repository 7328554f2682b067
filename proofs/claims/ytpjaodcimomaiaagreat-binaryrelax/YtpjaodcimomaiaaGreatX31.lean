/- Texts SeqV Head of this claim. -/
import Derived.Test.YtpjaodcimomaiaaGreatX04
set_option maxHeartbeats 4000000
namespace Go.Proofs.YtpjaodcimomaiaaGreat
open Go.RowKit
open Go.RowKit Go.Shelf
end Go.Proofs.YtpjaodcimomaiaaGreat
