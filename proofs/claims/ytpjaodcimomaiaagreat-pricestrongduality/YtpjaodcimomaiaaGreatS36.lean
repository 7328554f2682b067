/- Texts BnG BnO of this claim. -/
import Derived.Test.YtpjaodcimomaiaaGreatS35
set_option maxHeartbeats 4000000
namespace Go.Proofs.YtpjaodcimomaiaaGreat
open Go.RowKit Go.Shelf
end Go.Proofs.YtpjaodcimomaiaaGreat
