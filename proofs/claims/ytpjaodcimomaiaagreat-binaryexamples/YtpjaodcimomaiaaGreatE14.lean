/- Texts Elim RowP Pelim of this claim. -/
import Derived.Test.YtpjaodcimomaiaaGreatEA0
import Derived.Test.YtpjaodcimomaiaaGreatE12
import Derived.Test.YtpjaodcimomaiaaGreatE07
set_option maxHeartbeats 4000000
namespace Go.Proofs.YtpjaodcimomaiaaGreat
open Go.RowKit Go.Shelf
theorem zAv {k:Nat} {q:Rat} (h:Lin.Fits k q):QFit (k+1) q:=by
 have h1:2 ^ k<Num.base ^ (k+1):=ltl (Nat.pow_lt_pow_right (by omega) (by omega)) (Nat.pow_le_pow_left (show 2<=Num.base by decide) (k+1));exact ⟨Nat.lt_of_le_of_lt h.1 h1,Nat.lt_of_le_of_lt h.2 h1⟩
theorem RowAt.fr {w w':World} {G:Nat->Prop} {b r:Nat} {l:List Rat} (h:RowAt w G b l) (hW:Fr (fun y=>y=r) w w') (hr:G r) (hne:b ≠ r):RowAt w' G b l:=
 h.keep (hW.block b h.lt hne) fun _ hp hl=>hW.cell hl fun e=>hp (by rw [e]; exact hr)
theorem QCan.fr {w w':World} {G:Nat->Prop} {r:Nat} {v:QV} {q:Rat} (h:QCan w (fun x=>¬ G x) v q) (hW:Fr (fun y=>y=r) w w') (hr:G r):QCan w' (fun x=>¬ G x) v q:=
 h.keep fun _ hp hl=>hW.cell hl fun e=>hp (by rw [e]; exact hr)
theorem zIi {V col:Nat} {g f:Nat->Rat} (h:f col=0):rowL V f=rowL V (Lin.elim col g f):=zBs fun k _=>by
 unfold Lin.elim; rw [h]
 by_cases e:k=col
 ·subst e; rw [if_pos rfl,h]; grind
 ·rw [if_neg e]; grind
structure RowP (w:World) (G:Nat->Prop) (b:Nat) (l:List Rat):Prop where
 mem:G b
 blk:∃ cs,w.heap[b]?=some (.cells cs 37 (0,0))/\4*l.length<=cs.size
 elem:∀ k,k<l.length->∃ v:QV,QCell w ⟨b,k*4,none⟩ v/\QCan w (fun x=>¬ G x) v (l.getD k 0)
section
variable {w w':World} {G G':Nat->Prop} {b:Nat} {l:List Rat}
theorem RowP.lt (h:RowP w G b l):b<w.heap.size:=by
 obtain ⟨cs,e,_⟩:=h.blk; exact zAa e
theorem RowP.keep (h:RowP w G b l) (hb:w'.heap[b]?=w.heap[b]?) (hk:∀ p:Addr,¬ G p.block->p.block<w.heap.size->w'.cell? p=w.cell? p):RowP w' G b l:=
 ⟨h.mem,by rw [hb]; exact h.blk,fun k hkl=>by
  obtain ⟨v,h1,h2⟩:=h.elem k hkl;exact ⟨v,h1.keep (fun a ha _=>cob (by rw [ha]; exact hb)),h2.keep hk⟩⟩
theorem RowP.below (h:RowP w G b l) (hb:Below w.heap.size w w'):RowP w' G b l:=h.keep (hb.block b h.lt) fun _ _ hl=>hb.cell hl
theorem RowP.grow (h:RowP w G b l) (hG:∀ x,G x->G' x) (hn:∀ x,x<w.heap.size->G' x->G x):RowP w G' b l:=
 ⟨hG b h.mem,h.blk,fun k hk=>by
  obtain ⟨v,h1,h2⟩:=h.elem k hk;exact ⟨v,h1,h2.imp fun x hx hg hg'=>hg (hn x hx hg')⟩⟩
theorem RowP.put4_other (h:RowP w G b l) {b':Nat} (hb':G b') (hne:b' ≠ b) (k:Nat) (v:QV):RowP (put4 w b' k v) G b l:=
 h.keep (zAx w b' k v (Ne.symm hne)) fun _p hp _=>zCq w b' k v (fun e=>hp (e ▸ hb'))
theorem RowP.put4 (h:RowP w G b l) {k:Nat} (hk:k<l.length) {v:QV} {q:Rat} (hv:QCan w (fun x=>¬ G x) v q):RowP (put4 w b k v) G b (l.set k q):=by
 obtain ⟨cs,e,hsz⟩:=h.blk
 have e4:(Proofs.YtpjaodcimomaiaaGreat.put4 w b k v).heap[b]?=some (.cells ((((cs.setIfInBounds (k*4) (.bool v.num.ng)).setIfInBounds (k*4+1) (.slice v.num.A v.num.n v.num.c)).setIfInBounds (k*4+2) (.bool v.den.ng)).setIfInBounds (k*4+3) (.slice v.den.A v.den.n v.den.c)) 37 (0,0)):=
  zAe _ (zAe _ (zAe _ (zAe _ e)))
 refine ⟨h.mem,⟨_,e4,by simpa using hsz⟩,fun j hj=>?_⟩;rw [List.length_set] at hj
 have get:∀ o,(Proofs.YtpjaodcimomaiaaGreat.put4 w b k v).cell? ⟨b,o,none⟩=((((cs.setIfInBounds (k*4) (.bool v.num.ng)).setIfInBounds (k*4+1) (.slice v.num.A v.num.n v.num.c)).setIfInBounds (k*4+2) (.bool v.den.ng)).setIfInBounds (k*4+3) (.slice v.den.A v.den.n v.den.c))[o]?:=by
  intro o; simp only [World.cell?,e4]; simp
 have get0:∀ o,w.cell? ⟨b,o,none⟩=cs[o]?:=by intro o; simp only [World.cell?,e]; simp
 by_cases hjk:j=k
 ·subst hjk;refine ⟨v,⟨?_,?_,?_,?_⟩,?_⟩
  ·rw [get]; simp [Array.getElem?_setIfInBounds]; omega
  ·rw [get]; simp [Array.getElem?_setIfInBounds]; omega
  ·rw [get]; simp [Array.getElem?_setIfInBounds]; omega
  ·rw [get]; simp [Array.getElem?_setIfInBounds]; omega
  ·have:(l.set j q).getD j 0=q:=(by simp [hk]);rw [this];exact hv.put4 h.mem j
 ·obtain ⟨u,⟨c0,c1,c2,c3⟩,hu⟩:=h.elem j hj;dsimp only at c0 c1 c2 c3
  have far:∀ o,o<4->(Proofs.YtpjaodcimomaiaaGreat.put4 w b k v).cell? ⟨b,j*4+o,none⟩=w.cell? ⟨b,j*4+o,none⟩:=by
   intro o ho;rw [get,get0];simp only [Array.getElem?_setIfInBounds];rw [if_neg (by omega),if_neg (by omega),if_neg (by omega),if_neg (by omega)]
  refine ⟨u,⟨(far 0 (by omega)).trans c0,(far 1 (by omega)).trans c1,(far 2 (by omega)).trans c2,(far 3 (by omega)).trans c3⟩,?_⟩;have:(l.set k q).getD j 0=l.getD j 0:=by simp [Ne.symm hjk]
  rw [this];exact hu.put4 h.mem k
end
theorem RowP.fr {w w':World} {G:Nat->Prop} {b r:Nat} {l:List Rat} (h:RowP w G b l) (hW:Fr (fun y=>y=r) w w') (hr:G r) (hne:b ≠ r):RowP w' G b l:=
 h.keep (hW.block b h.lt hne) fun _ hp hl=>hW.cell hl fun e=>hp (by rw [e]; exact hr)
theorem RowAt.room {w:World} {G:Nat->Prop} {b:Nat} {l:List Rat} (h:RowAt w G b l):RowP w G b l:=⟨h.mem,by obtain ⟨cs,e,hs⟩:=h.blk; exact ⟨cs,e,by omega⟩,h.elem⟩
end Go.Proofs.YtpjaodcimomaiaaGreat
