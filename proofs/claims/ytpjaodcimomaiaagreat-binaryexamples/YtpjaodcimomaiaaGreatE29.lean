/- Texts Pr3 of this claim. -/
import Derived.Test.YtpjaodcimomaiaaGreatEA0
import Derived.Test.YtpjaodcimomaiaaGreatE28
import Derived.Deep.CutRange
set_option maxHeartbeats 4000000
namespace Go.Proofs.YtpjaodcimomaiaaGreat
open Go.RowKit Go.Shelf
theorem zCS {N:Nat} {f:Nat->Rat} (h:∀ j,j<N->f j=0):¬ Lin.LexNeg N f:=fun ⟨j,hj,h1,_⟩=>by have:=h j hj; grind
end Go.Proofs.YtpjaodcimomaiaaGreat
