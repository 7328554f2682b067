/- Texts SeqV Head of this claim. -/
import Derived.Test.YtpjaodcimomaiaaGreatEA0
import Derived.Test.YtpjaodcimomaiaaGreatE05
import Derived.RangeFuncNested
set_option maxHeartbeats 4000000
namespace Go.Proofs.YtpjaodcimomaiaaGreat
open Go.RowKit
structure Book (L:Nat) (r:Loop) (W:World):Prop where
 loop:W.heap[L+1]?=some (.loop r)
 late:W.heap[L]?=some (.deferred (some []))
theorem Book.keep {L:Nat} {r:Loop} {W V:World} (h:Book L r W) (k:KeepsFrom L W V):Book L r V:=⟨k.same _ _ (by omega) h.loop rfl,k.same _ _ (nlr _) h.late rfl⟩
open Go.RowKit Go.Shelf
end Go.Proofs.YtpjaodcimomaiaaGreat
