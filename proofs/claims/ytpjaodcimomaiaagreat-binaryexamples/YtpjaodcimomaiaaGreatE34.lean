/- Texts Acc PrP of this claim. -/
import Derived.Test.YtpjaodcimomaiaaGreatEA0
import Derived.Test.YtpjaodcimomaiaaGreatE22
import Derived.Test.YtpjaodcimomaiaaGreatE31
import Derived.Test.YtpjaodcimomaiaaGreatE33
set_option maxHeartbeats 4000000
namespace Go.Proofs.YtpjaodcimomaiaaGreat
open Go.RowKit Go.Shelf
structure AccS (w:World) (b e:Nat) (g:Nat->Rat) (n:Nat) (v:Value) (G:Nat->Prop) (s:List QV) (W:World):Prop where
 len:s.length=n
 box:Boxed W e 24 v
 own:W.ownsRow b 37 4 v n (s.flatMap cells4q)
 row:∀ j,v.ownBlock=some j->G j
 gb:G e
 gin:∀ x,G x->(x=e\/b<=x)/\x<W.heap.size
 elem:∀ k,k<n->QCan W (fun b=>¬ G b/\w.heap.size<=b) (s.getD k QV.zero) (g k)
def AccI (w:World) (b e:Nat) (g:Nat->Rat) (n:Nat) (W:World):Prop:=∃ v G s,AccS w b e g n v G s W
theorem AccI.own {w:World} {b e:Nat} {g:Nat->Rat}:Own (AccI w b e g):=fun _ W W' _ hs hg hr=>by
 obtain ⟨v,G,s,h⟩:=hs;exact ⟨v,G,s,h.len,zAi hg hr h.box,zEp hg hr h.own,h.row,h.gb,fun x hx=>⟨(h.gin x hx).1,ltl (h.gin x hx).2 hg.size⟩,fun k hk=>(h.elem k hk).carry (Carry.grown hg hr)⟩
theorem AccI.start {w W:World} {b e:Nat} {g:Nat->Rat} (h:Boxed W e 24 (.slice none 0 0)):AccI w b e g 0 W:=
 ⟨.slice none 0 0,fun x=>x=e,[],rfl,h,⟨rfl,.inl ⟨rfl,rfl⟩⟩,fun j hj=>by simp [Value.ownBlock] at hj,rfl,fun x hx=>⟨.inl hx,by rw [hx]; exact zAa h⟩,fun k hk=>absurd hk (Nat.not_lt_zero k)⟩
theorem AccS.step {w W W1 W2:World} {v v':Value} {b e n:Nat} {g:Nat->Rat} {G:Nat->Prop} {s:List QV} {zq:QV} {o:Obj} (h:AccS w b e g n v G s W) (he:e<b) (hwe:w.heap.size<=e) (_hbW:b<=W.heap.size) (hb:Below W.heap.size W W1) (hz:QCan W1 (New W.heap.size) zq (g n))
  (hown:W2.ownsRow b 37 4 v' (n+1) (s.flatMap cells4q++cells4q zq)) (hg:(W1.alloc o).grownBy W2 v.ownBlock) (hat:v'.ownBlock=v.ownBlock\/v'.ownBlock=some (W1.alloc o).heap.size) :
  AccI w b e g (n+1) (W2.setCell ⟨e,0,none⟩ v')/\Carry (fun y=>y<b/\y ≠ e) W (W2.setCell ⟨e,0,none⟩ v')/\
   (∀ (k:Nat) (o:Obj),W.heap[k]?=some o->o.isCells=false->(W2.setCell ⟨e,0,none⟩ v').heap[k]?=some o)/\W.heap.size<=(W2.setCell ⟨e,0,none⟩ v').heap.size/\Below w.heap.size W (W2.setCell ⟨e,0,none⟩ v'):=by
 have hbl:=zAa h.box;have hsz:W1.heap.size+1<=W2.heap.size:=by have:=hg.size; simpa using this
 have hs1:=hb.size;have hss:(W2.setCell ⟨e,0,none⟩ v').heap.size=W2.heap.size:=by simp [World.setCell]
 have hvl:∀ j,v.ownBlock=some j->b<=j/\j<W.heap.size/\j ≠ e/\G j:=fun j hj=>by
  obtain ⟨h1,cs,hh⟩:=zAc h.own hj;exact ⟨h1,zAa hh,zAy hh h.box (by decide),h.row j hj⟩
 have k1:∀ k,k<W1.heap.size->k ≠ e->some k ≠ v.ownBlock->(W2.setCell ⟨e,0,none⟩ v').heap[k]?=W1.heap[k]?:=fun k hk h1 h2=>
  (bhs _ _ _ _ h1).trans ((hg.block k (by simp; omega) h2).trans (Below.heap_alloc _ _ _ hk))
 have keep:∀ k,k<W.heap.size->k ≠ e->some k ≠ v.ownBlock->(W2.setCell ⟨e,0,none⟩ v').heap[k]?=W.heap[k]?:=fun k hk h1 h2=>(k1 k (by omega) h1 h2).trans (hb.block k hk)
 have keepG:∀ k,k<W.heap.size->¬ G k->(W2.setCell ⟨e,0,none⟩ v').heap[k]?=W.heap[k]?:=fun k hk hn=>keep k hk (fun e'=>hn (by rw [e']; exact h.gb)) fun e'=>hn (h.row k e'.symm)
 have hv':∀ j,v'.ownBlock=some j->b<=j/\j<W2.heap.size/\j ≠ e/\(G j\/j=W1.heap.size+1):=fun j hj=>by
  obtain ⟨h1,cs,hh⟩:=zAc hown hj;refine ⟨h1,zAa hh,?_⟩;rcases hat with e' | e'
  ·have:=hvl j (e'.symm.trans hj); exact ⟨this.2.2.1,.inl this.2.2.2⟩
  ·rw [e'] at hj; cases hj; exact ⟨by simp; omega,.inr (by simp)⟩
 have carX:Carry (fun y=>y<b/\y ≠ e) W (W2.setCell ⟨e,0,none⟩ v'):=⟨by omega,fun k cs t f hx hk=>(keepG k (zAa hk) fun hgk=>by have:=(h.gin k hgk).1; omega).trans hk⟩;refine ⟨⟨v',fun y=>G y\/v'.ownBlock=some y,s++[zq],?_,?_,?_,fun j hj=>.inr hj,.inl h.gb,?_,?_⟩,carX,fun k o hk ho=>?_,by omega,?_⟩
 ·rw [List.length_append,h.len]; rfl
 ·have hB:Boxed W2 e 24 v:=(hg.block _ (by simp; omega) (fun e'=>(hvl _ e'.symm).2.2.1 rfl)).trans ((Below.heap_alloc _ _ _ (by omega)).trans ((hb.block _ hbl).trans h.box));exact Boxed.set v' hB
 ·rw [List.flatMap_append];refine zAr (v:=v') (n:=n+1) ?_ fun j hj=>bhs _ _ _ _ (hv' j hj).2.2.1
  simpa using hown
 ·intro y hy;rcases hy with hy | hy
  ·have:=h.gin y hy; omega
  ·have:=hv' y hy; omega
 ·intro k hk
  have e2:(s++[zq]).getD k QV.zero=if k<n then s.getD k QV.zero else zq:=by
   rw [<-h.len];by_cases hkl:k<s.length
   ·rw [if_pos hkl,zAE _ _ _ hkl]
   ·rw [if_neg hkl,show k=s.length by rw [h.len]; rw [h.len] at hkl; omega]; simp
  rw [e2];by_cases hkl:k<n
  ·rw [if_pos hkl];have q1:=(h.elem k hkl).imp (Y:=fun b=>(¬ G b/\¬ v'.ownBlock=some b)/\w.heap.size<=b) fun b hb' hx=>⟨⟨hx.1,fun e'=>(hv' b e').2.2.2.elim hx.1 fun h'=>by omega⟩,hx.2⟩
   exact (q1.keep fun a hx hl=>cob (keepG _ hl hx.1.1)).imp fun b _ hx=>⟨fun hg'=>hg'.elim hx.1.1 hx.1.2,hx.2⟩
  ·rw [if_neg hkl];(obtain rfl:k=n:=by omega);have q1:=hz.imp (Y:=fun b=>W.heap.size<=b/\b<W1.heap.size) fun b hb' hx=>⟨hx,hb'⟩
   (refine (q1.keep fun a hx hl=>cob (k1 _ hx.2 (by omega) fun e'=>by have:=(hvl _ e'.symm).2.1; omega)).imp fun b _ hx=>⟨fun hg'=>?_,by omega⟩);rcases hg' with hg' | hg'
   ·have:=(h.gin b hg').2; omega
   ·rcases (hv' b hg').2.2.2 with h' | h'
    ·have:=(h.gin b h').2; omega
    ·omega
 ·refine (keep k (zAa hk) (fun e'=>?_) fun e'=>?_).trans hk
  ·rw [e',show W.heap[e]?=_ from h.box] at hk; cases hk; cases ho
  ·obtain ⟨_,cs,hh⟩:=zAc h.own e'.symm;rw [hh] at hk; cases hk; cases ho
 ·have hG1:Below w.heap.size W W1:=hb.mono (by omega);have h3:Below w.heap.size (W1.alloc o) W2:=(brf _ _).grown hg (by simp; omega) (fun j hj=>by have:=(hvl j hj).1; omega);exact ((hG1.alloc (by omega) _).trans h3).setCell (p:=⟨e,0,none⟩) (by show w.heap.size<=e; omega) _
attribute [local go_sem] Oper.semAt_some
def SlI (w W0:World) (b e:Nat) (f:Nat->Rat) (pre:List Nat) (W:World):Prop:=
 AccI w b e (fun k=>f (pre.getD k 0)) pre.length W/\Below w.heap.size w W/\Carry (fun y=>y<b/\y ≠ e) W0 W
theorem SlI.own {w W0:World} {b e B:Nat} {f:Nat->Rat} (hB:w.heap.size<=B):OwnFrom B (SlI w W0 b e f):=fun s W W' row hs hg hr=>
 ⟨AccI.own _ W W' row hs.1 hg (fun r e=>(hr r e).2),ownFrom_below (nlr _) hB s W W' row hs.2.1 hg hr,hs.2.2.trans (Carry.grown hg (fun r e=>(hr r e).2))⟩
theorem AccI.congr {w W:World} {b e n:Nat} {g g':Nat->Rat} (h:AccI w b e g n W) (hg:∀ k,k<n->g k=g' k):AccI w b e g' n W:=by
 obtain ⟨v,G,s,h⟩:=h;exact ⟨v,G,s,h.len,h.box,h.own,h.row,h.gb,h.gin,fun k hk=>by rw [<-hg k hk]; exact h.elem k hk⟩
end Go.Proofs.YtpjaodcimomaiaaGreat
