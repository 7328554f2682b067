/- Texts Elim RowP Pelim of this claim. -/
import Derived.Test.YtpjaodcimomaiaaGreatL12
set_option maxHeartbeats 4000000
namespace Go.Proofs.YtpjaodcimomaiaaGreat
open Go.RowKit Go.Shelf
variable {q:Rat} {k V b:Nat} {f:Nat->Rat} {G:Nat->Prop} {w:World}
theorem zAv (h:Lin.Fits k q):QFit (k+1) q:=by
 have h1:2 ^ k<Num.base ^ (k+1):=ltl (Nat.pow_lt_pow_right (by omega) (by omega)) (Nat.pow_le_pow_left (show 2<=Num.base by decide) (k+1));exact ⟨Nat.lt_of_le_of_lt h.1 h1,Nat.lt_of_le_of_lt h.2 h1⟩
theorem zIi {col:Nat} {g:Nat->Rat} (h:f col=0):rowL V f=rowL V (Lin.elim col g f):=zBs fun k _=>by
 unfold Lin.elim; rw [h]
 by_cases e:k=col
 ·subst e; rw [if_pos rfl,h]; grind
 ·rw [if_neg e]; grind
structure RowP (w:World) (G:Nat->Prop) (b:Nat) (l:List Rat):Prop where
 mem:G b
 blk:∃ cs,w.heap[b]?=some (.cells cs 37 (0,0))/\4*l.length<=cs.size
 elem:∀ k,k<l.length->∃ v:QV,QCell w ⟨b,k*4,none⟩ v/\QCan w (fun x=>¬ G x) v (l.getD k 0)
section
variable {w w':World} {G G':Nat->Prop} {b:Nat} {l:List Rat}
theorem RowP.lt (h:RowP w G b l):b<w.heap.size:=by
 obtain ⟨cs,e,_⟩:=h.blk; exact zAa e
theorem RowP.keep (h:RowP w G b l) (hb:w'.heap[b]?=w.heap[b]?) (hk:∀ p:Addr,¬ G p.block->p.block<w.heap.size->w'.cell? p=w.cell? p):RowP w' G b l:=
 ⟨h.mem,by rw [hb]; exact h.blk,fun k hkl=>by
  obtain ⟨v,h1,h2⟩:=h.elem k hkl;exact ⟨v,h1.keep (fun a ha _=>cob (by rw [ha]; exact hb)),h2.keep hk⟩⟩
theorem RowP.below (h:RowP w G b l) (hb:Below w.heap.size w w'):RowP w' G b l:=h.keep (hb.block b h.lt) fun _ _ hl=>hb.cell hl
end
theorem RowAt.room {l:List Rat} (h:RowAt w G b l):RowP w G b l:=⟨h.mem,by obtain ⟨cs,e,hs⟩:=h.blk; exact ⟨cs,e,by omega⟩,h.elem⟩
end Go.Proofs.YtpjaodcimomaiaaGreat
