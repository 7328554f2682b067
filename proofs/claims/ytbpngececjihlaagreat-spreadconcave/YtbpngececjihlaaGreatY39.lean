/- Texts BnN BnP of this claim. -/
import Derived.Test.YtbpngececjihlaaGreatY37
import Derived.Test.YtbpngececjihlaaGreatY38
set_option maxHeartbeats 4000000
namespace Go.Proofs.YtbpngececjihlaaGreat
open Go.RowKit Go.Shelf
theorem More.refl (w:World) (G:Nat->Prop):More w G G:=⟨fun _ h=>h,fun _ h=>.inl h⟩
end Go.Proofs.YtbpngececjihlaaGreat
