/- Texts BnS BnT BnU BnV BnW of this claim. -/
import Derived.Test.YtbpngececjihlaaGreatY44
set_option maxHeartbeats 4000000
namespace Go.Proofs.YtbpngececjihlaaGreat
open Go.RowKit Go.Shelf
section
variable {w W W':World} {B d:Nat} {n:Int} {bv va vb vc vd:Value} {al:Nat->List Value} {cnt:Nat->Nat} {G:Nat->Prop}
end
section
variable {W W':World} {G G':Nat->Prop} {L:Nat}
end
section
variable {w W W1 W2:World} {B d V:Nat} {bs:SV} {base:List Rat} {sr bl cl:List Nat} {ll n L:Nat} {rf:Nat->Nat->Rat} {va vb vc vd v':Value} {G:Nat->Prop} {o:Obj}
end
namespace Lin.BP
variable {B:BP} {av:Nat->Int} {i k:Nat}
end Lin.BP
namespace Lin
end Lin
end Go.Proofs.YtbpngececjihlaaGreat
