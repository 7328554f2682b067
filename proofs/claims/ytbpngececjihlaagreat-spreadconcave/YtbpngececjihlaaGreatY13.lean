/- Texts Pivot Last Comp1 Infeas Unb of this claim. -/
import Derived.Test.YtbpngececjihlaaGreatY12
set_option maxHeartbeats 4000000
namespace Go.Proofs.YtbpngececjihlaaGreat
open Go.RowKit Go.Shelf
variable {g n k r i j V:Nat} {T:TypeId} {s:SV}
section
variable {W:World} {G:Nat->Prop} {x:DV} {V M K:Nat} {D D':Lin.Dict} {pv rw cl:Int}
theorem Arr.block {f:Nat->Value} (h:Arr W s n T f) (e:s.A=some ⟨g,0,none⟩):∃ cs,W.heap[g]?=some (.cells cs T (0,0)):=by
 rcases h.blk with ⟨h0,_⟩ | ⟨g',cs,e',hb,_⟩
 ·rw [h0] at e; cases e
 ·rw [e] at e'; cases e'; exact ⟨cs,hb⟩
end
def scaleTo (s:Nat) (r:Nat->Rat) (k:Nat):Nat->Rat:=fun j=>if j<k then Lin.scaled s r j else if j=s then 1 else r j
theorem zF8 (s:Nat) (r:Nat->Rat):scaleTo s r 0=Lin.turn r s 1:=by funext j; simp [scaleTo,Lin.turn]
theorem zDO {s:Nat} {r:Nat->Rat} :Lin.turn (scaleTo s r k) k ((r s)⁻¹*(if k=s then 1 else r k))=scaleTo s r (k+1):=by
 funext j;unfold Lin.turn scaleTo Lin.scaled;grind
theorem zF7 {s:Nat} {r:Nat->Rat} (h0:(if k=s then 1 else r k)=0):scaleTo s r k=scaleTo s r (k+1):=by
 rw [<-zDO,h0];funext j;unfold Lin.turn scaleTo;grind
theorem zHX {s:Nat} {r:Nat->Rat} :scaleTo s r k k=if k=s then 1 else r k:=by unfold scaleTo; rw [if_neg (by omega)]
def pivTo (D:Lin.Dict) (r s i l:Nat):Lin.Dict where
 basic:=D.basic
 free:=D.free
 a:=fun j=>if j=r then Lin.scaled s (D.a r) else if j<i then Lin.elim s (Lin.scaled s (D.a r)) (D.a j) else D.a j
 c:=fun j=>if j<l then Lin.elim s (Lin.scaled s (D.a r)) (D.c j) else D.c j
theorem zEW {D:Lin.Dict} {s l:Nat} (h:j ≠ i):(pivTo D r s (i+1) l).a j=(pivTo D r s i l).a j:=by
 have:j<i+1 ↔ j<i:=by omega
 simp only [pivTo,this]
theorem zEV {D:Lin.Dict} {s l:Nat} (h:i ≠ r):(pivTo D r s (i+1) l).a i=Lin.elim s (Lin.scaled s (D.a r)) (D.a i)/\(pivTo D r s i l).a i=D.a i:=by
 simp [pivTo,h]
theorem zC8 {D:Lin.Dict} {s l:Nat}:(pivTo D r s i l).a r=Lin.scaled s (D.a r):=by simp [pivTo]
theorem zEX {D:Lin.Dict} {s l:Nat}:(pivTo D r s i (l+1)).c l=Lin.elim s (Lin.scaled s (D.a r)) (D.c l)/\(pivTo D r s i l).c l=D.c l:=by
 simp [pivTo]
theorem map_set (f:Nat->Rat) (q:Rat):((List.range V).map f).set k q=(List.range V).map (Lin.turn f k q):=by
 apply List.ext_getElem
 ·simp
 ·intro i h1 h2;simp only [List.getElem_set,List.getElem_map,List.getElem_range,Lin.turn];by_cases e:k=i
  ·subst e; simp
  ·rw [if_neg e,if_neg (Ne.symm e)]
structure RV where
 kind:Nat
 X:SV
 Y:SV
 R:SV
 F:SV
 pv:Int
end Go.Proofs.YtbpngececjihlaaGreat
