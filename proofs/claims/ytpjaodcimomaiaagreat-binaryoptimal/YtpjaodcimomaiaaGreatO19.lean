/- Texts Restore of this claim. -/
import Derived.Test.YtpjaodcimomaiaaGreatOA0
import Derived.Test.YtpjaodcimomaiaaGreatO15
import Derived.Test.YtpjaodcimomaiaaGreatO09
import Derived.Test.YtpjaodcimomaiaaGreatO12
import Derived.Deep.LoopGhost
import Derived.Deep.Cut
set_option maxHeartbeats 4000000
namespace Go.Proofs.YtpjaodcimomaiaaGreat
open Go.RowKit Go.Shelf
theorem zDe {q:Rat} (h:q<0):qsign q=-1:=if_pos h
theorem zD0 {q:Rat} (h:¬ q<0):¬ (qsign q<0):=by unfold qsign; rw [if_neg h]; split <;> omega
section
variable {p:Nat->Prop} {key:Nat->Nat} {i:Nat} {v:Value}
end
end Go.Proofs.YtpjaodcimomaiaaGreat
