/- Texts Mem of this claim. -/
import Derived.Test.YtjancagcmghfjaaGreatX01
set_option maxHeartbeats 4000000
namespace Go.Proofs.YtjancagcmghfjaaGreat
open Go.RowKit
variable {b k B g o n size base m c:Nat} {v v1 v2:Value} {w W w1 w' w2:World} {gs l:List Nat} {xs:List Value} {e:TypeId} {A:Option Addr} {X:Nat->Prop}
theorem zAj (a:Addr) (n:Nat):(a.add n).block=a.block:=by unfold Addr.add; split <;> rfl
theorem add_zero' (a:Addr):a.add 0=a:=by simp [Addr.add]
theorem zAd (w:World) (o:Obj) (h:b=w.heap.size):(w.alloc o).heap[b]?=some o:=by subst h; exact heap_alloc_new w o
theorem zAb {p:Addr} (h:w.cell? p=some v):p.block<w:=by
 rcases Nat.lt_or_ge p.block w with hlt | hge
 ·exact hlt
 ·unfold World.cell? at h; rw [Array.getElem?_eq_none hge] at h; cases h
structure WordsAt (w:World) (X:Nat->Prop) (A:Option Addr) (n c:Nat) (l:List Nat):Prop where
 len:l.length=n
 le:n<=c
 cap:c<=9223372036854775807
 ok:Num.Ok l
 cell:∀ k,k<n->∃ ad,A=some ad/\X ad.block/\w.cell? (ad.add k)=some (.int .u32 (l.getD k 0))
abbrev Old (B:Nat):Nat->Prop:=fun b=>b<B
abbrev New (B:Nat):Nat->Prop:=fun b=>B<=b
section
variable {w w':World} {X Y:Nat->Prop} {A:Option Addr} {n c:Nat} {l:List Nat}
theorem WordsAt.keep (h:WordsAt w X A n c l) (hk:∀ p:Addr,X p.block->p.block<w->w'.cell? p=w.cell? p):WordsAt w' X A n c l:=
 ⟨h.len,h.le,h.cap,h.ok,fun k hkn=>by
  obtain ⟨ad,e,hx,hc⟩:=h.cell k hkn;exact ⟨ad,e,hx,by rw [hk _ (by rw [zAj]; exact hx) (zAb hc)]; exact hc⟩⟩
theorem WordsAt.below (h:WordsAt w X A n c l) (hb:Below w w w'):WordsAt w' X A n c l:=h.keep fun _ _ hp=>hb.cell hp
theorem WordsAt.imp (h:WordsAt w X A n c l) (hx:∀ b,b<w.heap.size->X b->Y b):WordsAt w Y A n c l:=
 ⟨h.len,h.le,h.cap,h.ok,fun k hk=>by
  obtain ⟨ad,e,hX,hc⟩:=h.cell k hk;exact ⟨ad,e,hx _ (by have:=zAb hc; rwa [zAj] at this) hX,hc⟩⟩
theorem WordsAt.old (h:WordsAt w X A n c l):WordsAt w (Old w) A n c l:=h.imp fun _ hb _=>hb
theorem WordsAt.take (h:WordsAt w X A n c l) (hk:k<=n):WordsAt w X A k c (l.take k):=
 ⟨by rw [List.length_take,h.len]; omega,by have:=h.le; omega,h.cap,h.ok.take k,fun j hj=>by
  obtain ⟨ad,e,hx,hc⟩:=h.cell j (by omega);exact ⟨ad,e,hx,by rw [hc]; simp [hj]⟩⟩
theorem WordsAt.trim (h:WordsAt w X A n c l):WordsAt w X A (Num.trim l).length c (Num.trim l):=by
 have:=h.take (k:=(Num.trim l).length) (by have:=Num.trim_length_le l; have:=h.len; omega)
 rwa [<-Num.trim_take] at this
theorem WordsAt.nil (w:World) (X:Nat->Prop) (A:Option Addr) (c:Nat) (hc:c<=9223372036854775807):WordsAt w X A 0 c []:=
 ⟨rfl,nzl _,hc,Num.Ok.nil,fun _ h=>absurd h (by omega)⟩
end
theorem bcell (hb:Below W W w1):(∀ b o,b<W.heap.size->w1.cell? ⟨b,o,none⟩=W.cell? ⟨b,o,none⟩)/\(∀ b o,b<W.heap.size->w1.frozen? ⟨b,o,none⟩=W.frozen? ⟨b,o,none⟩):=
 ⟨fun b o h=>hb.cell (p:=⟨b,o,none⟩) h,fun b o h=>hb.frozen (p:=⟨b,o,none⟩) h⟩
theorem az {o:Obj} (h:Below B w w') (hs:B<=w'.heap.size:=by simp <;> omega):Below B w (w'.alloc o):=h.alloc hs o
theorem zAB {a:World} (h:Below B a w) (n:Nat):Below B a (w.drewN n):=⟨h.os,h.tape,h.output,h.size,h.block⟩
theorem zAz {k:IntKind} {a b:Int} (h:a=b):Ending.returned (.int k a) = .returned (.int k b):=by rw [h]
theorem zF3 {k:IntKind} {a a':Int} {b b':Bool} (h:a=a') (h':b=b'):Ending.returned (.tuple #[.int k a,.bool b]) = .returned (.tuple #[.int k a',.bool b']):=by rw [h,h']
def peek (w:World) (b o:Nat):Value:=(w.cell? ⟨b,o,none⟩).getD undef
structure Kept (B:Nat) (gs:List Nat) (W w':World):Prop where
 base:∀ g ∈ gs,B<=g
 hB:B<=W.heap.size
 os:w'.os=W.os
 tape:w'.tape=W.tape
 output:w'.output=W.output
 size:W.heap.size<=w'.heap.size
 block:∀ b,b<W.heap.size->b ∉ gs->w'.heap[b]?=W.heap[b]?
 shape:∀ g ∈ gs,∀ cs t f,W.heap[g]?=some (.cells cs t f)->∃ cs',w'.heap[g]?=some (.cells cs' t f)/\cs'.size=cs.size
theorem Kept.start (h:∀ g ∈ gs,B<=g) (hB:B<=W.heap.size):Kept B gs W W.drew:=
 ⟨h,hB,rfl,rfl,rfl,nlr _,fun _ _ _=>rfl,fun _ _ cs _ _ e=>⟨cs,e,rfl⟩⟩
theorem Kept.refl (h:∀ g ∈ gs,B<=g) (hB:B<=W.heap.size):Kept B gs W W:=
 ⟨h,hB,rfl,rfl,rfl,nlr _,fun _ _ _=>rfl,fun _ _ cs _ _ e=>⟨cs,e,rfl⟩⟩
theorem zAa {o:Obj} (h:w.heap[g]?=some o):g<w.heap.size:=by
 rcases Nat.lt_or_ge g w with hlt | hge
 ·exact hlt
 ·rw [Array.getElem?_eq_none hge] at h; cases h
theorem Kept.call (h:Kept B gs W w1) (hb:Below w1 w1 w2):Kept B gs W w2:=
 ⟨h.base,h.hB,hb.os.trans h.os,hb.tape.trans h.tape,hb.output.trans h.output,nlt h.size hb.size,
  fun b hlt hg=>(hb.block b (ltl hlt h.size)).trans (h.block b hlt hg),
  fun g hg cs t f e=>by
   obtain ⟨cs',e',hs⟩:=h.shape g hg cs t f e;exact ⟨cs',(hb.block g (zAa e')).trans e',hs⟩⟩
theorem Kept.alloc (h:Kept B gs W w1) (o:Obj):Kept B gs W (w1.alloc o):=
 h.call ((brf _ _).alloc (nlr _) o)
theorem Kept.drew (h:Kept B gs W w1):Kept B gs W w1.drew:=h.call (brf _ _).drew
theorem Kept.more (h:Kept B [] W w1) (hg:∀ g ∈ gs,B<=g):Kept B gs W w1:=
 ⟨hg,h.hB,h.os,h.tape,h.output,h.size,fun b hb _=>h.block b hb (by simp),fun g _ cs t f e=>⟨cs,(h.block g (zAa e) (by simp)).trans e,rfl⟩⟩
theorem Kept.set (h:Kept B gs W w1) (v:Value) (hg:g ∈ gs\/W.heap.size<=g):Kept B gs W (w1.setCell ⟨g,o,none⟩ v):=
 ⟨h.base,h.hB,h.os,h.tape,h.output,by simpa [World.setCell] using h.size,
  fun b hlt hb=>(bhs w1 ⟨g,o,none⟩ v b (by rintro rfl; rcases hg with hg | hg; exact hb hg; exact absurd hlt (by simp; omega))).trans (h.block b hlt hb),
  fun g' hg' cs t f e=>by
   obtain ⟨cs',e',hs⟩:=h.shape g' hg' cs t f e;by_cases hgg:g'=g
   ·subst hgg;exact ⟨cs'.setIfInBounds o v,by simp [World.setCell,Array.getElem?_modify,e'],by simpa using hs⟩
   ·exact ⟨cs',(bhs w1 ⟨g,o,none⟩ v g' hgg).trans e',hs⟩⟩
theorem Kept.below (h:Kept B gs W w'):Below B W w':=
 ⟨h.os,h.tape,h.output,h.size,fun k hk=>h.block k (ltl hk h.hB) (fun hg=>by have:=h.base k hg; omega)⟩
abbrev Sees (B:Nat) (gs:List Nat) (W w':World):Prop:=
 (∀ b o,b<W.heap.size->b ∉ gs->w'.cell? ⟨b,o,none⟩=W.cell? ⟨b,o,none⟩)/\
 (∀ (ad:Addr) k,ad.block<B->w'.cell? (ad.add k)=W.cell? (ad.add k))/\
 (∀ b o,b ∈ gs->(W.cell? ⟨b,o,none⟩).isSome=true->w'.cell? ⟨b,o,none⟩=some (peek w' b o))/\
 (∀ b o,b<W.heap.size->b ∉ gs->w'.frozen? ⟨b,o,none⟩=W.frozen? ⟨b,o,none⟩)/\
 (∀ b o,b ∈ gs->(W.cell? ⟨b,o,none⟩).isSome=true->w'.frozen? ⟨b,o,none⟩=W.frozen? ⟨b,o,none⟩)/\Kept B gs W w'
theorem Kept.two (h:Kept B gs W w') (hg:b ∈ gs) (hs:(W.cell? ⟨b,o,none⟩).isSome=true) :
  w'.cell? ⟨b,o,none⟩=some (peek w' b o)/\w'.frozen? ⟨b,o,none⟩=W.frozen? ⟨b,o,none⟩:=by
 unfold World.cell? at hs;dsimp only at hs
 split at hs
 ·rename_i cs t f e;obtain ⟨cs',e',hs'⟩:=h.shape b hg cs t f e
  have ho:o<cs.size:=by
   rcases Nat.lt_or_ge o cs.size with h1 | h1
   ·exact h1
   ·simp [Array.getElem?_eq_none h1] at hs
  have:w'.cell? ⟨b,o,none⟩=some (cs'[o]'(by omega)):=by simp [World.cell?,e',hs',ho]
  exact ⟨by rw [peek,this]; rfl,by simp [World.frozen?,e,e']⟩
 ·simp at hs
theorem Kept.sees (h:Kept B gs W w'):Sees B gs W w':=
 ⟨fun b o hlt hg=>cob (h.block b hlt hg),fun ad k hb=>h.below.cell (by rw [zAj]; exact hb),fun b o hg hs=>(h.two hg hs).1,
  fun b o hlt hg=>World.frozen?_of_block (h.block b hlt hg),fun b o hg hs=>(h.two hg hs).2,h⟩
theorem Sees.kept (h:Sees B gs W w'):Kept B gs W w':=h.2.2.2.2.2
theorem Kept.undrew (h:Kept B gs W w1.drew):Kept B gs W w1:=⟨h.base,h.hB,h.os,h.tape,h.output,h.size,h.block,h.shape⟩
theorem Kept.call2 (hb:Below w1 w1 w2) (h:Sees B gs W w1):Sees B gs W w2:=(Kept.call h.2.2.2.2.2 hb).sees
section
variable {B:Nat} {gs:List Nat} {W w1:World} {g o1 o2 o3 o4:Nat} {v1 v2 v3 v4:Value}
theorem Sees.k1 (h:Sees B gs W w1) (hg:g ∈ gs):Sees B gs W (w1.setCell ⟨g,o1,none⟩ v1):=(h.kept.set v1 (.inl hg)).sees
theorem Sees.k2 (h:Sees B gs W w1) (hg:g ∈ gs):Sees B gs W ((w1.setCell ⟨g,o1,none⟩ v1).setCell ⟨g,o2,none⟩ v2):=((h.kept.set v1 (.inl hg)).set v2 (.inl hg)).sees
theorem Sees.k4 (h:Sees B gs W w1) (hg:g ∈ gs):Sees B gs W ((((w1.setCell ⟨g,o1,none⟩ v1).setCell ⟨g,o2,none⟩ v2).setCell ⟨g,o3,none⟩ v3).setCell ⟨g,o4,none⟩ v4):=
 ((((h.kept.set v1 (.inl hg)).set v2 (.inl hg)).set v3 (.inl hg)).set v4 (.inl hg)).sees
theorem Sees.d1 (h:Sees B gs W w1.drew) (hg:g ∈ gs):Sees B gs W (w1.setCell ⟨g,o1,none⟩ v1).drew:=(h.kept.undrew.set v1 (.inl hg)).drew.sees
theorem Sees.d2 (h:Sees B gs W w1.drew) (hg:g ∈ gs):Sees B gs W ((w1.setCell ⟨g,o1,none⟩ v1).setCell ⟨g,o2,none⟩ v2).drew:=((h.kept.undrew.set v1 (.inl hg)).set v2 (.inl hg)).drew.sees
theorem Sees.st (h:∀ g ∈ gs,B<=g) (hB:B<=W.heap.size):Sees B gs W W.drew:=(Kept.start h hB).sees
theorem Sees.dr (h:Sees B gs W w1):Sees B gs W w1.drew:=h.kept.drew.sees
theorem Sees.al {o:Obj} (h:Sees B gs W w1):Sees B gs W (w1.alloc o):=(h.kept.alloc o).sees
theorem Sees.mo (h:Sees B [] W w1) (hg:∀ g ∈ gs,B<=g):Sees B gs W w1.drew:=(h.kept.more hg).drew.sees
end
theorem Kept.setN (hg:W.heap.size<=g) (h:Kept B gs W w1):Kept B gs W (w1.setCell ⟨g,o,none⟩ v):=h.set v (.inr hg)
theorem Sees.n4 {o1 o2 o3 o4:Nat} {v3 v4:Value} (h:Sees B gs W w1) (hg:W.heap.size<=g):Sees B gs W ((((w1.setCell ⟨g,o1,none⟩ v1).setCell ⟨g,o2,none⟩ v2).setCell ⟨g,o3,none⟩ v3).setCell ⟨g,o4,none⟩ v4):=
 ((((h.kept.set v1 (.inr hg)).set v2 (.inr hg)).set v3 (.inr hg)).set v4 (.inr hg)).sees
theorem Sees.ad {o:Obj} (h:Sees B gs W w1.drew):Sees B gs W (w1.alloc o).drew:=(h.kept.undrew.alloc o).drew.sees
theorem Sees.ax {o o':Obj} (h:Sees B gs W (w1.alloc o')) (hs:W.heap.size<=w1.heap.size):Sees B gs W (w1.alloc o):=
 Kept.sees ⟨h.kept.base,h.kept.hB,h.kept.os,h.kept.tape,h.kept.output,by simp; omega,fun b hb hg=>(Below.heap_alloc _ _ _ (by omega)).trans ((Below.heap_alloc w1 o' b (by omega)).symm.trans (h.kept.block b hb hg)),fun g hg cs t f e=>by
  obtain ⟨cs',e',hsz⟩:=h.kept.shape g hg cs t f e;have hl:=zAa e;exact ⟨cs',(Below.heap_alloc _ _ _ (by omega)).trans ((Below.heap_alloc w1 o' g (by omega)).symm.trans e'),hsz⟩⟩
theorem zz {α:Type}:(∀ (l:List α) (i:Nat) (a:α),l.toArray.setIfInBounds i a=(l.set i a).toArray)/\(∀ (x a:α) (l:List α),(x :: l).set 0 a=a :: l)/\∀ (x a:α) (l:List α) (n:Nat),(x :: l).set (n+1) a=x :: l.set n a:=
 ⟨List.setIfInBounds_toArray,fun _ _ _=>List.set_cons_zero,fun _ _ _ _=>List.set_cons_succ⟩
theorem kp {p:Prop} (h:p:=by first | (with_reducible assumption) | ((with_reducible apply Kept.call2) <;> (with_reducible assumption)) | ((with_reducible first | apply Sees.k6 | apply Sees.k2 | apply Sees.k1 | apply Sees.st | apply Sees.d2 | apply Sees.d1 | apply Sees.al) <;> (first | (with_reducible assumption) | (simp <;> omega))) | ((with_reducible first | apply Sees.k4 | apply Sees.d4 | apply Sees.dr | apply Sees.ax) <;> (first | (with_reducible assumption) | (simp <;> omega))) | ((with_reducible first | apply Sees.n4 | apply Sees.ad | apply Sees.k1 | apply Sees.d1 | apply Sees.mo) <;> (first | (with_reducible assumption) | (simp <;> omega))) | ((with_reducible apply Sees.mo) <;> (first | (with_reducible assumption) | (simp <;> omega))) | ((with_reducible apply Kept.sees) <;> (repeat' (with_reducible first | apply Kept.drew | apply Kept.alloc | apply Kept.setN)) <;> (first | (with_reducible assumption) | (simp <;> omega) | ((with_reducible apply Kept.refl) <;> (first | (with_reducible assumption) | (simp <;> omega)))))):p:=h
theorem zAW {x:Value} (h:(w.setCell ⟨g,o,none⟩ v).cell? ⟨g,o,none⟩=some x):x=v:=by
 simp only [World.cell?,World.setCell,Array.getElem?_modify,if_true] at h
 cases e:w.heap[g]? with
 | none=>simp [e] at h
 | some ob=>
  cases ob <;> simp [e] at h
  rename_i cs t f;rw [Array.getElem?_setIfInBounds] at h;simp at h;exact h.2.symm
theorem Kept.val1 {a:Value} (k:Kept B gs W (w2.setCell ⟨g,o,none⟩ a)) (hg:g ∈ gs) (h0:(W.cell? ⟨g,o,none⟩).isSome=true) :
  (w2.setCell ⟨g,o,none⟩ a).cell? ⟨g,o,none⟩=some a:=by
 have h1:=(k.two hg h0).1;rw [h1,zAW h1]
theorem Kept.val2 {a b:Value} (k:Kept B gs W ((w2.setCell g a).setCell ⟨g,1,none⟩ b)) (hg:g ∈ gs)
  (h0:(W.cell? g).isSome=true) (h1:(W.cell? ⟨g,1,none⟩).isSome=true) :
  ((w2.setCell g a).setCell ⟨g,1,none⟩ b).cell? g=some a/\((w2.setCell g a).setCell ⟨g,1,none⟩ b).cell? ⟨g,1,none⟩=some b:=by
 refine ⟨?_,k.val1 hg h1⟩;have h2:=(k.two hg h0).1;have e:((w2.setCell g a).setCell ⟨g,1,none⟩ b).cell? g=(w2.setCell g a).cell? g:=World.cell?_setCell_other _ _ _ _ (by simp);rw [e] at h2 ⊢;rw [h2,zAW h2]
theorem Kept.val4 {a b c d:Value} (k:Kept B gs W ((((w2.setCell g a).setCell ⟨g,1,none⟩ b).setCell ⟨g,2,none⟩ c).setCell ⟨g,3,none⟩ d)) (hg:g ∈ gs)
  (h0:(W.cell? g).isSome=true) (h1:(W.cell? ⟨g,1,none⟩).isSome=true) (h2:(W.cell? ⟨g,2,none⟩).isSome=true) (h3:(W.cell? ⟨g,3,none⟩).isSome=true) :
  ((((w2.setCell g a).setCell ⟨g,1,none⟩ b).setCell ⟨g,2,none⟩ c).setCell ⟨g,3,none⟩ d).cell? g=some a/\
  ((((w2.setCell g a).setCell ⟨g,1,none⟩ b).setCell ⟨g,2,none⟩ c).setCell ⟨g,3,none⟩ d).cell? ⟨g,1,none⟩=some b/\
  ((((w2.setCell g a).setCell ⟨g,1,none⟩ b).setCell ⟨g,2,none⟩ c).setCell ⟨g,3,none⟩ d).cell? ⟨g,2,none⟩=some c/\
  ((((w2.setCell g a).setCell ⟨g,1,none⟩ b).setCell ⟨g,2,none⟩ c).setCell ⟨g,3,none⟩ d).cell? ⟨g,3,none⟩=some d:=by
 refine ⟨?_,?_,?_,k.val1 hg h3⟩
 ·have h:=(k.two hg h0).1
  have e:((((w2.setCell g a).setCell ⟨g,1,none⟩ b).setCell ⟨g,2,none⟩ c).setCell ⟨g,3,none⟩ d).cell? g=(w2.setCell g a).cell? g:=
   (World.cell?_setCell_other _ _ _ _ (by simp)).trans ((World.cell?_setCell_other _ _ _ _ (by simp)).trans (World.cell?_setCell_other _ _ _ _ (by simp)))
  rw [e] at h ⊢;rw [h,zAW h]
 ·have h:=(k.two hg h1).1
  have e:((((w2.setCell g a).setCell ⟨g,1,none⟩ b).setCell ⟨g,2,none⟩ c).setCell ⟨g,3,none⟩ d).cell? ⟨g,1,none⟩=((w2.setCell g a).setCell ⟨g,1,none⟩ b).cell? ⟨g,1,none⟩:=
   (World.cell?_setCell_other _ _ _ _ (by simp)).trans (World.cell?_setCell_other _ _ _ _ (by simp))
  rw [e] at h ⊢;rw [h,zAW h]
 ·have h:=(k.two hg h2).1
  have e:((((w2.setCell g a).setCell ⟨g,1,none⟩ b).setCell ⟨g,2,none⟩ c).setCell ⟨g,3,none⟩ d).cell? ⟨g,2,none⟩=(((w2.setCell g a).setCell ⟨g,1,none⟩ b).setCell ⟨g,2,none⟩ c).cell? ⟨g,2,none⟩:=
   World.cell?_setCell_other _ _ _ _ (by simp)
  rw [e] at h ⊢;rw [h,zAW h]
abbrev Box1 (W:World) (b:Nat) (v0:Value):Prop:=W.cell? b=some v0/\(∀ o,W.frozen? ⟨b,o,none⟩=false)
abbrev Box2 (W:World) (b:Nat) (v0 v1:Value):Prop:=W.cell? b=some v0/\W.cell? ⟨b,1,none⟩=some v1/\(∀ o,W.frozen? ⟨b,o,none⟩=false)
theorem bx2 {x y:Value} (h0:W.cell? b=some x:=by go_simp) (h1:W.cell? ⟨b,1,none⟩=some y:=by go_simp) (f:∀ o,W.frozen? ⟨b,o,none⟩=false:=by intro o; go_simp):Box2 W b x y:=⟨h0,h1,f⟩
abbrev Box4 (W:World) (b:Nat) (v0 v1 v2 v3:Value):Prop:=
 W.cell? b=some v0/\W.cell? ⟨b,1,none⟩=some v1/\W.cell? ⟨b,2,none⟩=some v2/\W.cell? ⟨b,3,none⟩=some v3/\(∀ o,W.frozen? ⟨b,o,none⟩=false)
theorem bx4 {x y z t:Value} (h0:W.cell? b=some x:=by go_simp) (h1:W.cell? ⟨b,1,none⟩=some y:=by go_simp) (h2:W.cell? ⟨b,2,none⟩=some z:=by go_simp) (h3:W.cell? ⟨b,3,none⟩=some t:=by go_simp) (f:∀ o,W.frozen? ⟨b,o,none⟩=false:=by intro o; go_simp):Box4 W b x y z t:=⟨h0,h1,h2,h3,f⟩
theorem Box1.set (h:Box1 w b v) (v':Value):Box1 (w.setCell b v') b v':=
 ⟨World.cell?_setCell_same' _ _ _ (by rw [h.1]; rfl),fun o=>by rw [World.frozen?_setCell]; exact h.2 o⟩
theorem Box1.far (h:Box1 w b v) {p:Addr} (hp:p.block ≠ b) (v':Value):Box1 (w.setCell p v') b v:=
 ⟨by rw [World.cell?_setCell_other _ _ _ _ (by rintro rfl; exact hp rfl)]; exact h.1,fun o=>by rw [World.frozen?_setCell]; exact h.2 o⟩
theorem Box1.below (h:Box1 w b v) (hb:Below B w w') (hlt:b<B):Box1 w' b v:=
 ⟨by rw [hb.cell hlt]; exact h.1,fun o=>by rw [hb.frozen hlt]; exact h.2 o⟩
theorem Box1.drew (h:Box1 w b v):Box1 w.drew b v:=⟨h.1,h.2⟩
theorem zAo {P:Program} {c:Code} {Q:Exit->Act->World->Prop} {a:Act} (Φ:World->Prop) (h0:Φ w) (h:∀ W,Φ W->c.wp P Q a W):c.wp P Q a w:=h w h0
def wv (l:List Nat):List Value:=l.map fun (x:Nat)=>Value.int .u32 (x:Int)
theorem zB2 (a b:List Nat):wv (a++b)=wv a++wv b:=by simp [wv]
theorem zBM (a:List Nat):(wv a).length=a.length:=by simp [wv]
theorem zJO (a:List Nat) (j:Nat) (u:Value) (h:(wv a)[j]?=some u):j<a.length/\u = .int .u32 (a.getD j 0:Nat):=by
 unfold wv at h;rw [List.getElem?_map] at h
 cases hj:a[j]? with
 | none=>rw [hj] at h; cases h
 | some x=>
  rw [hj] at h;refine ⟨(List.getElem?_eq_some_iff.1 hj).1,?_⟩;simp only [Option.map_some,Option.some.injEq] at h;rw [<-h,gdd,hj]; rfl
theorem zEC (a:List Nat):∀ u ∈ wv a,u.oneCell'=true:=by
 intro u hu;obtain ⟨x,_,rfl⟩:=List.mem_map.1 hu;rfl
theorem zC6 (h:w.ownsRow base e size v n xs):∀ j,v.ownBlock=some j->base<=j:=by
 intro j hj;rcases h.2 with ⟨rfl,_⟩ | ⟨g,cap,cur,rfl,hg,_⟩
 ·simp [Value.ownBlock] at hj
 ·simp [Value.ownBlock] at hj; omega
theorem zC7 (h:w.ownsRow base e 1 v n (wv l)) (ho:Num.Ok l):∃ A c,v = .slice A n c/\WordsAt w (New base) A n c l:=by
 obtain ⟨h1,h2⟩:=h;rw [zBM,Nat.mul_one] at h1;rcases h2 with ⟨rfl,rfl⟩ | ⟨g,cap,cur,rfl,hg,hh,hnc,hcap,hcur,ht⟩
 ·refine ⟨none,0,rfl,?_⟩;rw [List.eq_nil_of_length_eq_zero h1];exact WordsAt.nil _ _ _ _ (by omega)
 ·refine ⟨_,_,rfl,⟨h1,hnc,hcap,ho,fun k hk=>⟨_,rfl,hg,?_⟩⟩⟩;have e1:(⟨g,0,none⟩:Addr).add k=⟨g,k,none⟩:=by unfold Addr.add; split <;> simp_all
  rw [e1];have e2:(cur.toList.take (n*1))[k]?=(wv l)[k]?:=by rw [ht]
  rw [Nat.mul_one,List.getElem?_take_of_lt hk] at e2
  have e3:(wv l)[k]?=some (.int .u32 (l.getD k 0:Nat)):=by
   simp [wv,List.getElem?_map,gge (show k<l.length by omega)]
  rw [e3] at e2;simp only [World.cell?,hh];simpa using e2
structure ArrAt (w:World) (b o n c:Nat) (l:List Nat):Prop where
 len:l.length=n
 le:n<=c
 cap:c<=9223372036854775807
 ok:Num.Ok l
 cell:∀ k,k<n->w.cell? ⟨b,o+k,none⟩=some (.int .u32 (l.getD k 0))
 free:∀ j,w.frozen? ⟨b,j,none⟩=false
theorem zA4 (b o k:Nat):(⟨b,o,none⟩:Addr).add k=⟨b,o+k,none⟩:=by unfold Addr.add; split <;> simp_all
section
variable {w w':World} {b o n c:Nat} {l:List Nat}
theorem ArrAt.words (h:ArrAt w b o n c l):WordsAt w (fun x=>x=b) (some ⟨b,o,none⟩) n c l:=
 ⟨h.len,h.le,h.cap,h.ok,fun k hk=>⟨_,rfl,rfl,by rw [zA4]; exact h.cell k hk⟩⟩
theorem ArrAt.keep (h:ArrAt w b o n c l) (hk:w'.heap[b]?=w.heap[b]?):ArrAt w' b o n c l:=
 ⟨h.len,h.le,h.cap,h.ok,fun k hkn=>(cob (a:=⟨b,o+k,none⟩) hk).trans (h.cell k hkn),fun j=>(World.frozen?_of_block (a:=⟨b,j,none⟩) hk).trans (h.free j)⟩
theorem ArrAt.lt (h:ArrAt w b o n c l) (hn:0<n):b<w.heap.size:=zAb (h.cell 0 hn)
theorem ArrAt.below (h:ArrAt w b o n c l) (hb:Below B w w') (hlt:b<B):ArrAt w' b o n c l:=h.keep (hb.block b hlt)
theorem ArrAt.alloc (h:ArrAt w b o n c l) (hlt:b<w.heap.size) (x:Obj):ArrAt (w.alloc x) b o n c l:=h.keep (Below.heap_alloc _ _ _ hlt)
theorem ArrAt.far (h:ArrAt w b o n c l) {p:Addr} (hp:b ≠ p.block) (v:Value):ArrAt (w.setCell p v) b o n c l:=h.keep (bhs _ _ _ _ hp)
theorem ArrAt.drew (h:ArrAt w b o n c l):ArrAt w.drew b o n c l:=h.keep rfl
theorem ArrAt.set (h:ArrAt w b o n c l) {x:Nat} (hk:k<n) (hx:x<4294967296):ArrAt (w.setCell ⟨b,o+k,none⟩ (.int .u32 x)) b o n c (l.set k x):=by
 refine ⟨by rw [List.length_set]; exact h.len,h.le,h.cap,?_,fun j hj=>?_,fun j=>by rw [World.frozen?_setCell]; exact h.free j⟩
 ·intro y hy;rcases List.mem_or_eq_of_mem_set hy with hy | rfl
  ·exact h.ok y hy
  ·exact hx
 ·by_cases hjk:j=k
  ·subst hjk;rw [World.cell?_setCell_same' _ _ _ (by rw [h.cell j hj]; rfl)];simp [h.len,hj]
  ·rw [World.cell?_setCell_other _ _ _ _ (by simp),h.cell j hj];simp [Ne.symm hjk]
theorem ArrAt.sub (h:ArrAt w b o n c l) (hkm:k+m<=n):ArrAt w b (o+k) m (c-k) ((l.drop k).take m):=by
 have:=h.len; have:=h.le
 refine ⟨by simp; omega,by omega,by have:=h.cap; omega,(h.ok.drop k).take m,fun j hj=>?_,h.free⟩;rw [Nat.add_assoc,h.cell (k+j) (by omega)];simp [hj]
end
theorem zBH (h:w.ownsRow base e 1 v n (wv l)) (ho:Num.Ok l) (hn:0<n):∃ g c,v = .slice (some ⟨g,0,none⟩) n c/\base<=g/\ArrAt w g 0 n c l:=by
 obtain ⟨h1,h2⟩:=h;rw [zBM,Nat.mul_one] at h1;rcases h2 with ⟨rfl,rfl⟩ | ⟨g,cap,cur,rfl,hg,hh,hnc,hcap,hcur,ht⟩
 ·omega
 ·refine ⟨g,cap,rfl,hg,⟨h1,hnc,hcap,ho,fun k hk=>?_,fun j=>by simp [World.frozen?,hh]⟩⟩;rw [Nat.zero_add];have e2:(cur.toList.take (n*1))[k]?=(wv l)[k]?:=by rw [ht]
  rw [Nat.mul_one,List.getElem?_take_of_lt hk] at e2
  have e3:(wv l)[k]?=some (.int .u32 (l.getD k 0:Nat)):=by
   simp [wv,List.getElem?_map,gge (show k<l.length by omega)]
  rw [e3] at e2;simp only [World.cell?,hh];simpa using e2
theorem WordsAt.kept (h:WordsAt w X A n c l) (k:Kept B gs w w') (hx:∀ g ∈ gs,¬ X g):WordsAt w' X A n c l:=
 h.keep fun p hX hp=>cob (k.block p.block hp fun hg=>hx _ hg hX)
theorem ArrAt.kept (h:ArrAt w b o n c l) (k:Kept B gs w w') (hlt:b<w.heap.size) (hb:b ∉ gs):ArrAt w' b o n c l:=
 h.keep (k.block b hlt hb)
theorem WordsAt.keptOld (h:WordsAt w (Old B) A n c l) (k:Kept B gs w w'):WordsAt w' (Old B) A n c l:=
 h.kept k fun g hg hlt=>by have:=k.base g hg; simp only [Old] at hlt; omega
end Go.Proofs.YtjancagcmghfjaaGreat
