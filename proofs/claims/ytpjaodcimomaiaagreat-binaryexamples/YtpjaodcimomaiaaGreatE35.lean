/- Texts PrQ PrR of this claim. -/
import Derived.Test.YtpjaodcimomaiaaGreatEA0
import Derived.Test.YtpjaodcimomaiaaGreatE33
import Derived.Test.YtpjaodcimomaiaaGreatE34
import Derived.Test.YtpjaodcimomaiaaGreatE32
set_option maxHeartbeats 4000000
namespace Go.Proofs.YtpjaodcimomaiaaGreat
open Go.RowKit Go.Shelf
attribute [local go_sem] Oper.semAt_some
def CmI (w W0:World) (e B:Nat) (f:Nat->Rat) (k:Nat) (W:World):Prop:=
 AccI w B e f k W/\Below w.heap.size w W/\Carry (fun y=>y<W0.heap.size/\y ≠ e) W0 W
theorem CmI.own {w W0:World} {e B b:Nat} {f:Nat->Rat} (hB:w.heap.size<=b):OwnFrom b (CmI w W0 e B f):=fun s W W' row hs hg hr=>
 ⟨AccI.own _ W W' row hs.1 hg (fun r e=>(hr r e).2),ownFrom_below (nlr _) hB s W W' row hs.2.1 hg hr,hs.2.2.trans (Carry.grown hg (fun r e=>(hr r e).2))⟩
end Go.Proofs.YtpjaodcimomaiaaGreat
