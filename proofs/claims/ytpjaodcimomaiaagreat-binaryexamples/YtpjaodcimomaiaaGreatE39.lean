/- Texts Ra8 Rb0 of this claim. -/
import Derived.Test.YtpjaodcimomaiaaGreatEA0
import Derived.Test.YtpjaodcimomaiaaGreatE38
import Derived.Laws.AppendOwnNone
import Derived.Deep.DeepCutAuto
set_option maxHeartbeats 4000000
namespace Go.Proofs.YtpjaodcimomaiaaGreat
open Go.RowKit
theorem HArr.below {W W':World} {g n:Nat} {ql:List Nat} (h:HArr W g n ql) (hb:Below W.heap.size W W'):HArr W' g n ql:=h.keep (hb.block _ (zAa h.blk))
end Go.Proofs.YtpjaodcimomaiaaGreat
