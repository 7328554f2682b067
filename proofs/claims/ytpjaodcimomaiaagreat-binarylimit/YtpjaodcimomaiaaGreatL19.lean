/- Texts Restore of this claim. -/
import Derived.Test.YtpjaodcimomaiaaGreatL15
set_option maxHeartbeats 4000000
namespace Go.Proofs.YtpjaodcimomaiaaGreat
open Go.RowKit Go.Shelf
variable {q:Rat}
theorem zDe (h:q<0):qsign q=-1:=if_pos h
theorem zD0 (h:¬ q<0):¬ (qsign q<0):=by unfold qsign; rw [if_neg h]; split <;> omega
section
variable {p:Nat->Prop} {key:Nat->Nat} {i:Nat} {v:Value}
end
end Go.Proofs.YtpjaodcimomaiaaGreat
