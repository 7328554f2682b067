/- Texts Pr4 Pr6 Pr7 Pr8 Pr9 PrA PrB PrC PrD PrE PrF PrG PrI of this claim. -/
import Derived.Test.YtbpngececjihlaaGreatB29
import Derived.Test.YtbpngececjihlaaGreatB24
set_option maxHeartbeats 4000000
namespace Go.Proofs.YtbpngececjihlaaGreat
open Go.RowKit Go.Shelf
section
variable {W:World} {G:Nat->Prop} {x:PV} {V M E:Nat} {D D':Lin.Dict}
end
section
variable {N:Nat} {f a':Nat->Nat->Rat} {s i:Nat} {v:Value}
end
section
variable {w W W':World} {B d:Nat} {n:Int} {va vb vc vd:Value} {al:Nat->List Value} {cnt:Nat->Nat} {G:Nat->Prop}
end
section
variable {W W':World} {G G':Nat->Prop}
end
section
variable {w W W1 W2:World} {d:Nat} {V:Int} {lb lf:List Nat} {sr:List SV} {qs:List QV} {E:Nat} {rf:Nat->Nat->Rat} {cf:Nat->Rat} {va vb vc vd v':Value} {G:Nat->Prop} {o:Obj}
end
end Go.Proofs.YtbpngececjihlaaGreat
