/- Texts BnA BnB BnD BnE BnF BnH BnI BnI2 BnI3 of this claim. -/
import Derived.Test.YtbpngececjihlaaGreatY26
set_option maxHeartbeats 4000000
namespace Go.Proofs.YtbpngececjihlaaGreat.Lin
end Go.Proofs.YtbpngececjihlaaGreat.Lin
namespace Go.Proofs.YtbpngececjihlaaGreat.Lin
section
variable {P:Prob} {N:Nat} {live:Nat->Bool} {D:Dict} {r s:Nat}
end
end Go.Proofs.YtbpngececjihlaaGreat.Lin
namespace Go.Proofs.YtbpngececjihlaaGreat
open Go.RowKit Go.Shelf
variable {q:Rat} {L K:Nat}
section
variable {w w':World} {G G':Nat->Prop} {L b:Nat} {l:List Rat}
end
structure TV where
 d:Nat
 bs:SV
 row:SV
 bas:SV
 cols:SV
 lv:SV
 rb:Nat->Nat
 rc:Nat->Nat
 gb:Nat
 gc:Nat
section
variable {W W':World} {G G':Nat->Prop} {x:TV} {V n m L:Nat} {base:List Rat} {bn cn:Nat->Nat} {a:Nat->Nat->Rat} {lv:Nat->Bool} {g:Option (Nat->Rat)}
end
theorem QFit.up (h:QFit L q) (hk:L<=K):QFit K q:=
 ⟨ltl h.1 (Nat.pow_le_pow_right (by decide) hk),ltl h.2 (Nat.pow_le_pow_right (by decide) hk)⟩
section
variable {W W' W'':World} {G G':Nat->Prop} {x:TV} {V n m L:Nat} {base:List Rat} {bn cn:Nat->Nat} {a:Nat->Nat->Rat} {lv:Nat->Bool} {g:Option (Nat->Rat)}
end
section
variable {W W' W'':World} {G G':Nat->Prop} {x:TV} {V n m L:Nat} {base:List Rat} {bn cn:Nat->Nat} {a:Nat->Nat->Rat} {lv:Nat->Bool} {g:Option (Nat->Rat)}
end
structure More (w:World) (G G':Nat->Prop):Prop where
 old:∀ y,G y->G' y
 new:∀ y,G' y->G y\/w.heap.size<=y
end Go.Proofs.YtbpngececjihlaaGreat
