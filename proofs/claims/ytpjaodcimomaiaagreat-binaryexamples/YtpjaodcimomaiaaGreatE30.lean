/- Texts Pr4 Pr6 Pr7 Pr8 Pr9 PrA PrB PrC PrD PrE PrF PrG PrI of this claim. -/
import Derived.Test.YtpjaodcimomaiaaGreatEA0
import Derived.Test.YtpjaodcimomaiaaGreatE28
import Derived.Deep.Cut
import Derived.Test.YtpjaodcimomaiaaGreatE29
import Derived.Test.YtpjaodcimomaiaaGreatE19
import Derived.Test.YtpjaodcimomaiaaGreatE08
import Derived.Test.YtpjaodcimomaiaaGreatE11
import Derived.Test.YtpjaodcimomaiaaGreatE16
import Derived.Test.YtpjaodcimomaiaaGreatE18
import Derived.Test.YtpjaodcimomaiaaGreatE22
import Derived.Test.YtpjaodcimomaiaaGreatE12
import Derived.Test.YtpjaodcimomaiaaGreatE23
set_option maxHeartbeats 4000000
namespace Go.Proofs.YtpjaodcimomaiaaGreat
open Go.RowKit Go.Shelf
section
variable {W:World} {G:Nat->Prop} {x:PV} {V M E:Nat} {D D':Lin.Dict}
theorem PDA.congr (h:PDA W G x V M E D) (hb:∀ i,i<M->D.basic i=D'.basic i) (hf:∀ j,j<V->D.free j=D'.free j) (ha:∀ i j,i<M->j<=E->D.a i j=D'.a i j) (hc:∀ j,j<=E->D.c 0 j=D'.c 0 j):PDA W G x V M E D':=
 ⟨h.blk,h.bas.congr fun i hi=>by rw [hb i hi],h.fre.congr fun j hj=>by rw [hf j hj],h.row,fun i hi=>by rw [<-zBs fun j hj=>ha i j hi hj]; exact h.rows i hi,h.caps,by rw [<-zBs fun j hj=>hc j hj]; exact h.cst,h.ccap,h.rinj,h.apart,h.bf,h.gin,h.gd,h.gb,h.gf,h.gr⟩
end
def PickE (p:Nat->Prop) (i:Nat) (v:Value):Prop:=
 (v = .int .i64 (-1)/\∀ j,j<i->¬ p j)\/∃ r:Nat,r<i/\v = .int .i64 (r:Int)/\p r
theorem PickE.start {p:Nat->Prop}:PickE p 0 (.int .i64 (-1)):=.inl ⟨rfl,fun j hj=>by omega⟩
theorem PickE.skip {p:Nat->Prop} {i:Nat} {v:Value} (h:PickE p i v) (hp:¬ p i):PickE p (i+1) v:=by
 rcases h with ⟨e,h⟩ | ⟨r,hr,e,h1⟩
 ·exact .inl ⟨e,fun j hj=>by by_cases h':j=i; subst h'; exact hp; exact h j (by omega)⟩
 ·exact .inr ⟨r,by omega,e,h1⟩
theorem PickE.take {p:Nat->Prop} {i:Nat} (hp:p i):PickE p (i+1) (.int .i64 (i:Int)):=.inr ⟨i,by omega,rfl,hp⟩
def PickL (N:Nat) (f a':Nat->Nat->Rat) (s:Nat) (i:Nat) (v:Value):Prop:=
 (v = .int .i64 (-1)/\∀ j,j<i->¬ 0<a' j s)\/∃ r:Nat,r<i/\v = .int .i64 (r:Int)/\0<a' r s/\∀ j,j<i->0<a' j s->¬ Lin.LexNeg N fun k=>f j k*a' r s-f r k*a' j s
section
variable {N:Nat} {f a':Nat->Nat->Rat} {s i:Nat} {v:Value}
theorem PickL.start:PickL N f a' s 0 (.int .i64 (-1)):=.inl ⟨rfl,fun j hj=>by omega⟩
theorem PickL.skip (h:PickL N f a' s i v) (hp:¬ 0<a' i s):PickL N f a' s (i+1) v:=by
 rcases h with ⟨e,h⟩ | ⟨r,hr,e,h1,h2⟩
 ·exact .inl ⟨e,fun j hj=>by by_cases h':j=i; subst h'; exact hp; exact h j (by omega)⟩
 ·exact .inr ⟨r,by omega,e,h1,fun j hj hpj=>by by_cases h':j=i; subst h'; exact absurd hpj hp; exact h2 j (by omega) hpj⟩
theorem PickL.self (j:Nat):¬ Lin.LexNeg N fun k=>f j k*a' j s-f j k*a' j s:=zCS fun k _=>by grind
theorem PickL.first (h:∀ j,j<i->¬ 0<a' j s) (hp:0<a' i s):PickL N f a' s (i+1) (.int .i64 (i:Int)):=
 .inr ⟨i,by omega,rfl,hp,fun j hj hpj=>by by_cases h':j=i; subst h'; exact PickL.self _; exact absurd hpj (h j (by omega))⟩
theorem PickL.turn {r:Nat} (hpr:0<a' r s) (h:∀ j,j<i->0<a' j s->¬ Lin.LexNeg N fun k=>f j k*a' r s-f r k*a' j s) (hp:0<a' i s) (hl:Lin.LexNeg N fun k=>f i k*a' r s-f r k*a' i s):PickL N f a' s (i+1) (.int .i64 (i:Int)):=
 .inr ⟨i,by omega,rfl,hp,fun j hj hpj=>by
  by_cases h':j=i
  ·subst h'; exact PickL.self _
  ·have h1:=Lin.LexNN.of_not (h j (by omega) hpj);have h2:Lin.LexNN N fun k=>a' j s * -(f i k*a' r s-f r k*a' i s):=Lin.LexNN.smul (.inr hl.neg) (Rat.le_of_lt hpj)
   have h3:Lin.LexNN N fun k=>(a' r s)⁻¹*(a' i s*(f j k*a' r s-f r k*a' j s)+a' j s * -(f i k*a' r s-f r k*a' i s)):=Lin.LexNN.smul (Lin.LexNN.add (Lin.LexNN.smul h1 (Rat.le_of_lt hp)) h2) (Rat.le_of_lt (Lin.inv_pos hpr))
   exact (h3.congr fun k _=>by grind).not⟩
end
def Ends (P:Lin.Prob) (ch:Option (Nat->Rat)) (D:Lin.Dict) (k:Nat):Prop:=
 (k=2/\Lin.LInf P (Lin.given ch+P.m) (Lin.levels P ch) D)\/(k=1/\Lin.LFeas P (Lin.given ch+P.m) (Lin.levels P ch) D/\∀ j,j<P.n->0<=D.c 0 j)\/
 (k=3/\Lin.LFeas P (Lin.given ch+P.m) (Lin.levels P ch) D/\∃ s,s<P.n/\D.c 0 s<0/\∀ i,i<P.m->D.a i s<=0)
def dl (D:Lin.Dict) (V k i:Nat):Rat:=if Lin.find D.free (V+i) k<k then D.c 0 (Lin.find D.free (V+i) k) else 0
def pft (f:Nat):TypeId:=if f<=2 then 3 else if f=3 then 24 else 37
def pfw (f:Nat):Nat:=if f<=3 then 1 else 4
structure PT (w:World) (B d:Nat) (n:Int) (va vb vc vd:Value) (al:Nat->List Value) (cnt:Nat->Nat) (G:Nat->Prop) (W:World):Prop where
 bel:Below w.heap.size w W
 blk:W.heap[d]?=some (.cells #[.int .i64 n,va,vb,vc,vd] 191 (0,0))
 own:∀ f,1<=f->f<=4->W.ownsRow B (pft f) (pfw f) (four va vb vc vd f) (cnt f) (al f)
 apart:∀ f g j,f ≠ g->1<=f->f<=4->1<=g->g<=4->(four va vb vc vd f).ownBlock=some j->(four va vb vc vd g).ownBlock ≠ some j
 nod:∀ f j,1<=f->f<=4->(four va vb vc vd f).ownBlock=some j->j ≠ d
 gin:∀ x,G x->B<=x/\x<W.heap.size
 gd:G d
 gf:∀ f j,1<=f->f<=4->(four va vb vc vd f).ownBlock=some j->G j
 ge:w.heap.size<=B
 dB:B<=d
section
variable {w W W':World} {B d:Nat} {n:Int} {va vb vc vd:Value} {al:Nat->List Value} {cnt:Nat->Nat} {G:Nat->Prop}
theorem PT.dlt (h:PT w B d n va vb vc vd al cnt G W):d<W.heap.size:=zAa h.blk
theorem PT.call (h:PT w B d n va vb vc vd al cnt G W) (hb:Below W.heap.size W W'):PT w B d n va vb vc vd al cnt G W':=
 ⟨h.bel.trans (hb.mono h.bel.size),(hb.block d h.dlt).trans h.blk,
  fun f h1 h2=>zAr (h.own f h1 h2) fun j hj=>by
   obtain ⟨_,cs,hh⟩:=zAc (h.own f h1 h2) hj;exact hb.block j (zAa hh),
  h.apart,h.nod,fun x hx=>⟨(h.gin x hx).1,ltl (h.gin x hx).2 hb.size⟩,h.gd,h.gf,h.ge,h.dB⟩
theorem PT.cells (h:PT w B d n va vb vc vd al cnt G W):W.cell? ⟨d,0,none⟩=some (.int .i64 n)/\W.cell? ⟨d,1,none⟩=some va/\W.cell? ⟨d,2,none⟩=some vb/\W.cell? ⟨d,3,none⟩=some vc/\W.cell? ⟨d,4,none⟩=some vd/\∀ o,W.frozen? ⟨d,o,none⟩=false:=by
 simp [World.cell?,World.frozen?,h.blk]
theorem PT.append (h:PT w B d n va vb vc vd al cnt G W) {f:Nat} (h1:1<=f) (h2:f<=4) {xs:List Value} {v':Value} {o:Obj} {W2:World}
  (hown:W2.ownsRow B (pft f) (pfw f) v' (cnt f+1) (al f++xs)) (hg:(W.alloc o).grownBy W2 (four va vb vc vd f).ownBlock)
  (hat:v'.ownBlock=(four va vb vc vd f).ownBlock\/v'.ownBlock=some (W.alloc o).heap.size) :
  PT w B d n (if f=1 then v' else va) (if f=2 then v' else vb) (if f=3 then v' else vc) (if f=4 then v' else vd) (fun g=>if g=f then al f++xs else al g) (fun g=>if g=f then cnt f+1 else cnt g) (fun y=>G y\/v'.ownBlock=some y) (W2.setCell ⟨d,f,none⟩ v')/\
  Step W (W2.setCell ⟨d,f,none⟩ v') G (fun y=>G y\/v'.ownBlock=some y):=by
 have hsz:W.heap.size<W2.heap.size:=by have:=hg.size; simp at this; omega
 have hnd:=h.nod
 have keep:∀ k,k<W.heap.size->(four va vb vc vd f).ownBlock ≠ some k->W2.heap[k]?=W.heap[k]?:=fun k hk hne=>
  (hg.block k (by simp; omega) (fun e=>hne e.symm)).trans (Below.heap_alloc _ _ _ hk)
 have hblk2:W2.heap[d]?=_:=(keep d h.dlt (fun e=>hnd f d h1 h2 e rfl)).trans h.blk;have kset:∀ k,k ≠ d->(W2.setCell ⟨d,f,none⟩ v').heap[k]?=W2.heap[k]?:=fun k hk=>bhs _ _ _ _ hk
 have hdW:=h.dlt
 have hvd:∀ j,v'.ownBlock=some j->j ≠ d/\j<W2.heap.size/\B<=j:=fun j hj=>by
  obtain ⟨g1,cs,hh⟩:=zAc hown hj;refine ⟨?_,zAa hh,g1⟩;rcases hat with e | e
  ·exact h.nod f j h1 h2 (e.symm.trans hj)
  ·rw [e] at hj; cases hj; simp; omega
 refine ⟨⟨?_,?_,?_,?_,?_,?_,.inl h.gd,?_,h.ge,h.dB⟩,⟨by simp [World.setCell]; omega,fun b hb hgb=>?_,fun b hb hgb=>?_⟩⟩
 ·have h3:Below w.heap.size (W.alloc o) W2:=(brf _ _).grown hg (by have:=h.bel.size; simp; omega) (fun j hj=>by have:=(zAc (h.own f h1 h2) hj).1; have:=h.ge; omega);exact ((h.bel.alloc h.bel.size _).trans h3).setCell (p:=⟨d,f,none⟩) (nlt h.ge h.dB) _
 ·rw [zAe _ hblk2];rcases (by omega:f=1\/f=2\/f=3\/f=4) with rfl | rfl | rfl | rfl <;> simp
 ·intro g g1 g2;rw [zBk va vb vc vd v' f g h1 h2 g1 g2];by_cases e:g=f
  ·subst e;simp only [if_true];exact zAr hown fun j hj=>kset j (hvd j hj).1
  ·simp only [if_neg e];(refine zAr (h.own g g1 g2) fun j hj=>?_);obtain ⟨_,cs,hh⟩:=zAc (h.own g g1 g2) hj;exact (kset j (hnd g j g1 g2 hj)).trans (keep j (zAa hh) (h.apart g f j e g1 g2 h1 h2 hj))
 ·intro g k j hgk g1 g2 k1 k2;rw [zBk va vb vc vd v' f g h1 h2 g1 g2,zBk va vb vc vd v' f k h1 h2 k1 k2]
  have old:∀ g j,1<=g->g<=4->(four va vb vc vd g).ownBlock=some j->j<W.heap.size:=fun g j g1 g2 hj=>by
   obtain ⟨_,cs,hh⟩:=zAc (h.own g g1 g2) hj;exact zAa hh
  by_cases eg:g=f
  ·by_cases ek:k=f
   ·omega
   ·rw [if_pos eg,if_neg ek];intro hj hk;rcases hat with e | e
    ·rw [e] at hj; exact h.apart f k j (by omega) h1 h2 k1 k2 hj hk
    ·rw [e] at hj; cases hj
     have:=old k _ k1 k2 hk; simp at this; omega
  ·rw [if_neg eg];by_cases ek:k=f
   ·rw [if_pos ek];intro hj hk;rcases hat with e | e
    ·rw [e] at hk; exact h.apart g f j (by omega) g1 g2 h1 h2 hj hk
    ·rw [e] at hk; cases hk
     have:=old g _ g1 g2 hj; simp at this; omega
   ·rw [if_neg ek]; exact h.apart g k j hgk g1 g2 k1 k2
 ·intro g j g1 g2;rw [zBk va vb vc vd v' f g h1 h2 g1 g2]
  split
  ·intro hj; exact (hvd j hj).1
  ·intro hj; exact h.nod g j g1 g2 hj
 ·intro x hx;rcases hx with hx | hx
  ·have:=h.gin x hx; exact ⟨this.1,by simp [World.setCell]; omega⟩
  ·have:=hvd x hx; exact ⟨by omega,by simp [World.setCell]; omega⟩
 ·intro g j g1 g2;rw [zBk va vb vc vd v' f g h1 h2 g1 g2]
  split
  ·intro hj; exact .inr hj
  ·intro hj; exact .inl (h.gf g j g1 g2 hj)
 ·exact (kset b (fun e=>hgb (by rw [e]; exact h.gd))).trans (keep b hb fun e=>hgb (h.gf f b h1 h2 e))
 ·rcases hgb with hgb | hgb
  ·exact hgb
  ·rcases hat with e | e
   ·rw [e] at hgb; exact h.gf f b h1 h2 hgb
   ·rw [e] at hgb; cases hgb; simp at hb; omega
end
def quad (a b c d:Nat) (f:Nat):Nat:=if f=1 then a else if f=2 then b else if f=3 then c else if f=4 then d else 0
section
variable {W W':World} {G G':Nat->Prop}
theorem Step.qcan (s:Step W W' G G') {v:QV} {q:Rat} (h:QCan W (fun b=>¬ G b) v q):QCan W' (fun b=>¬ G' b) v q:=by
 have h2:QCan W (fun b=>¬ G b/\¬ G' b) v q:=h.imp fun b hb hx=>⟨hx,fun hg=>hx (s.back b hb hg)⟩
 have h3:QCan W' (fun b=>¬ G b/\¬ G' b) v q:=h2.keep fun a hx hl=>s.cell hl hx.1
 exact h3.imp fun b _ hx=>hx.2
theorem RowP.step {b:Nat} {l:List Rat} (h:RowP W G b l) (s:Step W W' G G') (hG:∀ x,G x->G' x) (hb:W'.heap[b]?=W.heap[b]?):RowP W' G' b l:=
 (h.grow hG fun x hx hg=>s.back x hx hg).keep hb fun _p hp hl=>s.cell hl fun hg=>hp (hG _ hg)
end
structure PM (w:World) (d:Nat) (V:Int) (lb lf:List Nat) (sr:List SV) (qs:List QV) (E:Nat) (rf:Nat->Nat->Rat) (cf:Nat->Rat) (va vb vc vd:Value) (G:Nat->Prop) (W:World):Prop where
 pt:PT w d d V va vb vc vd (lists (iv lb) (iv lf) (sr.map SV.val) (qs.flatMap cells4q)) (quad lb.length lf.length sr.length qs.length) G W
 cst:∀ k,k<qs.length->QCan W (fun b=>¬ G b) (qs.getD k QV.zero) (cf k)
 row:∀ i,i<sr.length->∃ b c,sr.getD i ⟨none,0,0⟩=⟨some ⟨b,0,none⟩,E+1,c⟩/\E+1<=c/\c<=9223372036854775807/\RowP W G b (rowL E (rf i))/\vd.ownBlock ≠ some b
 rinj:∀ i j,i<sr.length->j<sr.length->(sr.getD i ⟨none,0,0⟩).A=(sr.getD j ⟨none,0,0⟩).A->i=j
section
variable {w W W1 W2:World} {d:Nat} {V:Int} {lb lf:List Nat} {sr:List SV} {qs:List QV} {E:Nat} {rf:Nat->Nat->Rat} {cf:Nat->Rat} {va vb vc vd v':Value} {G:Nat->Prop} {o:Obj}
theorem PM.call (h:PM w d V lb lf sr qs E rf cf va vb vc vd G W) (hb:Below W.heap.size W W1):PM w d V lb lf sr qs E rf cf va vb vc vd G W1:=
 ⟨h.pt.call hb,fun k hk=>(h.cst k hk).below hb,fun i hi=>by
  obtain ⟨b,c,x1,x2,x3,x4,x5⟩:=h.row i hi;exact ⟨b,c,x1,x2,x3,x4.below hb,x5⟩,h.rinj⟩
theorem PM.grow (h:PM w d V lb lf sr qs E rf cf va vb vc vd G W) (hb:Below W.heap.size W W1) {b:Nat} (h1:W.heap.size<=b) (h2:b<W1.heap.size):PM w d V lb lf sr qs E rf cf va vb vc vd (fun y=>G y\/y=b) W1:=by
 have hp:=h.pt.call hb;refine ⟨⟨hp.bel,hp.blk,hp.own,hp.apart,hp.nod,fun x hx=>?_,.inl hp.gd,fun f j a c e=>.inl (hp.gf f j a c e),hp.ge,hp.dB⟩,fun k hk=>?_,fun i hi=>?_,h.rinj⟩
 ·rcases hx with hx | rfl
  ·exact hp.gin x hx
  ·exact ⟨by have:=h.pt.dlt; omega,h2⟩
 ·refine ((h.cst k hk).imp (Y:=fun y=>¬ (G y\/y=b)) fun x hx hg hg'=>?_).below hb;rcases hg' with hg' | hg'
  ·exact hg hg'
  ·omega
 ·obtain ⟨c,e,x1,x2,x3,x4,x5⟩:=h.row i hi;exact ⟨c,e,x1,x2,x3,(x4.grow (fun x hx=>.inl hx) fun x hx hg=>hg.resolve_right fun e=>by omega).below hb,x5⟩
theorem PM.rowKeep (h:PM w d V lb lf sr qs E rf cf va vb vc vd G W) {f:Nat} (f1:1<=f) (f4:f<=4) (hg:(W.alloc o).grownBy W2 (four va vb vc vd f).ownBlock) {b:Nat} {l:List Rat} (hR:RowP W G b l) (hne:vd.ownBlock ≠ some b) :
  (W2.setCell ⟨d,f,none⟩ v').heap[b]?=W.heap[b]?:=by
 obtain ⟨cs,e,_⟩:=hR.blk;have hbd:b ≠ d:=by rintro rfl; rw [h.pt.blk] at e; cases e
 have hbl:=hR.lt
 have hno:(four va vb vc vd f).ownBlock ≠ some b:=by
  intro hj;by_cases e4:f=4
  ·subst e4; exact hne hj
  ·obtain ⟨_,cs',hh⟩:=zAc (h.pt.own f f1 f4) hj;rw [e] at hh;have:pft f ≠ 37:=by unfold pft; split; decide; rw [if_pos (by omega)]; decide
   simp only [Option.some.injEq,Obj.cells.injEq] at hh;exact this hh.2.1.symm
 exact (bhs _ _ _ _ hbd).trans ((hg.block b (by simp; omega) fun e=>hno e.symm).trans (Below.heap_alloc _ _ _ hbl))
theorem PM.addF {x:Nat} (h:PM w d V lb lf sr qs E rf cf va vb vc vd G W) (hown:W2.ownsRow d 3 1 v' (lf.length+1) (iv lf++[.int .i64 (x:Int)])) (hg:(W.alloc o).grownBy W2 vb.ownBlock) (hat:v'.ownBlock=vb.ownBlock\/v'.ownBlock=some (W.alloc o).heap.size) :
  PM w d V lb (lf++[x]) sr qs E rf cf va v' vc vd (fun y=>G y\/v'.ownBlock=some y) (W2.setCell ⟨d,2,none⟩ v'):=by
 obtain ⟨hQ2,st⟩:=h.pt.append (f:=2) (by omega) (by omega) (xs:=[.int .i64 (x:Int)]) (v':=v') hown hg hat;have hG:∀ x,G x->G x\/v'.ownBlock=some x:=fun x hx=>.inl hx
 have ea:(fun g=>if g=2 then lists (iv lb) (iv lf) (sr.map SV.val) (qs.flatMap cells4q) 2++[.int .i64 (x:Int)] else lists (iv lb) (iv lf) (sr.map SV.val) (qs.flatMap cells4q) g)=lists (iv lb) (iv (lf++[x])) (sr.map SV.val) (qs.flatMap cells4q):=by
  funext g; unfold lists; by_cases h1:g=1 <;> by_cases h2:g=2 <;> by_cases h3:g=3 <;> by_cases h4:g=4 <;> simp_all [iv]
 have ec:(fun g=>if g=2 then quad lb.length lf.length sr.length qs.length 2+1 else quad lb.length lf.length sr.length qs.length g)=quad lb.length (lf++[x]).length sr.length qs.length:=by
  funext g; unfold quad; by_cases h1:g=1 <;> by_cases h2:g=2 <;> by_cases h3:g=3 <;> by_cases h4:g=4 <;> simp_all
 rw [ea,ec] at hQ2
 exact ⟨hQ2,fun k hk=>st.qcan (h.cst k hk),fun i hi=>by
  obtain ⟨b,c,x1,x2,x3,x4,x5⟩:=h.row i hi;exact ⟨b,c,x1,x2,x3,x4.step st hG (h.rowKeep (by omega) (by omega) hg x4 x5),x5⟩,h.rinj⟩
end
structure GRow (K:Nat->Prop) (w:World) (g:Nat->Rat) (k:Nat) (v:Value) (s:List QV) (W:World):Prop where
 len:s.length=k
 own:W.ownsRow w.heap.size 37 4 v k (s.flatMap cells4q)
 elem:∀ j,j<k->QCan W (fun b=>v.ownBlock ≠ some b/\K b) (s.getD j QV.zero) (g j)
 bel:Below w.heap.size w W
theorem GRow.start (K:Nat->Prop) (w:World) (g:Nat->Rat):GRow K w g 0 (.slice none 0 0) [] w:=
 ⟨rfl,⟨rfl,.inl ⟨rfl,rfl⟩⟩,fun j hj=>absurd hj (Nat.not_lt_zero j),brf _ _⟩
theorem GRow.step {K:Nat->Prop} {w W W1 W2:World} {v v':Value} {g:Nat->Rat} {k:Nat} {s:List QV} {zq:QV} {o:Obj} (h:GRow K w g k v s W) (hb:Below W.heap.size W W1) (hz:QCan W1 (fun b=>v.ownBlock ≠ some b/\K b) zq (g k))
  (hown:W2.ownsRow w.heap.size 37 4 v' (k+1) (s.flatMap cells4q++cells4q zq)) (hg:(W1.alloc o).grownBy W2 v.ownBlock) (hat:v'.ownBlock=v.ownBlock\/v'.ownBlock=some (W1.alloc o).heap.size) :
  GRow K w g (k+1) v' (s++[zq]) W2:=by
 have hsw:=h.bel.size;have hs1:=hb.size;have k1:∀ x,x<W1.heap.size->v.ownBlock ≠ some x->W2.heap[x]?=W1.heap[x]?:=fun x hx h2=>(hg.block x (by simp; omega) fun e=>h2 e.symm).trans (Below.heap_alloc _ _ _ hx)
 have mv:∀ {u:QV} {q:Rat},QCan W1 (fun b=>v.ownBlock ≠ some b/\K b) u q->QCan W2 (fun b=>v'.ownBlock ≠ some b/\K b) u q:=fun hu=>by
  have h2:=hu.imp (Y:=fun b=>v.ownBlock ≠ some b/\v'.ownBlock ≠ some b/\K b) fun b hb' hx=>⟨hx.1,fun e=>by
   rcases hat with e' | e'
   ·exact hx.1 (e'.symm.trans e)
   ·rw [e'] at e; cases e; simp at hb'; omega,hx.2⟩
  exact (h2.keep fun a hx hl=>cob (k1 _ hl hx.1)).imp fun b _ hx=>hx.2
 refine ⟨by rw [List.length_append,h.len]; rfl,by rw [List.flatMap_append]; simpa using hown,fun j hj=>?_,?_⟩
 ·rw [zBG];by_cases h1:j<s.length
  ·rw [if_pos h1]; exact mv ((h.elem j (by rw [<-h.len]; exact h1)).below hb)
  ·have hl:=h.len;(obtain rfl:j=s.length:=by omega);rw [if_neg h1,if_pos rfl,hl]; exact mv hz
 ·have hG1:Below w.heap.size w W1:=h.bel.trans (hb.mono hsw);exact (hG1.alloc (by omega) _).grown hg (by simp; omega) (fun j hj=>(zAc h.own hj).1)
theorem zFq {W:World} {base n:Nat} {v:Value} {qs:List QV} {l:List Rat} {G:Nat->Prop} (h:W.ownsRow base 37 4 v n (qs.flatMap cells4q)) (hl:qs.length=n) (hm:l.length=n) (hn:0<n) (he:∀ k,k<n->QCan W (fun x=>¬ G x) (qs.getD k QV.zero) (l.getD k 0)) (hG:∀ b,v.ownBlock=some b->G b) :
  ∃ b c,v = .slice (some ⟨b,0,none⟩) n c/\n<=c/\c<=9223372036854775807/\base<=b/\v.ownBlock=some b/\RowP W G b l:=by
 rcases h.2 with ⟨_,h0⟩ | ⟨g,cap,cur,rfl,hbg,hh,hnc,hcap,hcur,ht⟩
 ·omega
 ·refine ⟨g,cap,rfl,hnc,nlt hcap (by decide),hbg,rfl,hG g rfl,⟨cur,hh,by rw [hm,hcur]; omega⟩,fun k hk=>⟨qs.getD k QV.zero,?_,he k (by omega)⟩⟩
  have ec:∀ o,o<4->W.cell? ⟨g,k*4+o,none⟩=(cells4q (qs.getD k QV.zero))[o]?:=fun o ho=>by
   have e2:(cur.toList.take (n*4))[k*4+o]?=(qs.flatMap cells4q)[k*4+o]?:=(by rw [ht]);rw [List.getElem?_take_of_lt (by omega),zCy qs k o (by omega) ho QV.zero] at e2;simp only [World.cell?,hh];simpa using e2
  exact ⟨ec 0 (by omega),ec 1 (by omega),ec 2 (by omega),ec 3 (by omega)⟩
theorem PM.done {w W:World} {d V M E:Nat} {sr:List SV} {qs:List QV} {rf:Nat->Nat->Rat} {cf:Nat->Rat} {va vb vc vd:Value} {G:Nat->Prop} {D:Lin.Dict} (h:PM w d (V:Int) ((List.range M).map (V+·)) (List.range V) sr qs E rf cf va vb vc vd G W) (hM:sr.length=M) (hE:qs.length=E+1)
  (d1:∀ i,i<M->D.basic i=V+i) (d2:∀ j,j<V->D.free j=j) (d3:∀ i j,i<M->j<=E->D.a i j=rf i j) (d4:∀ j,j<=E->D.c 0 j=cf j) :
  ∃ x:PV,x.d=d/\PDA W G x V M E D:=by
 have o1:=h.pt.own 1 (by omega) (by omega);have o2:=h.pt.own 2 (by omega) (by omega);have o3:=h.pt.own 3 (by omega) (by omega);have o4:=h.pt.own 4 (by omega) (by omega);have q1:quad ((List.range M).map (V+·)).length (List.range V).length sr.length qs.length 1=M:=by simp [quad]
 have q2:quad ((List.range M).map (V+·)).length (List.range V).length sr.length qs.length 2=V:=by simp [quad]
 have q3:quad ((List.range M).map (V+·)).length (List.range V).length sr.length qs.length 3=M:=by simp [quad,hM]
 have q4:quad ((List.range M).map (V+·)).length (List.range V).length sr.length qs.length 4=E+1:=by simp [quad,hE]
 rw [q1] at o1; rw [q2] at o2; rw [q3] at o3; rw [q4] at o4
 have hb':∀ i,∃ p:Nat × Nat,i<M->sr.getD i ⟨none,0,0⟩=⟨some ⟨p.1,0,none⟩,E+1,p.2⟩/\E+1<=p.2/\p.2<=9223372036854775807/\RowP W G p.1 (rowL E (rf i))/\vd.ownBlock ≠ some p.1:=fun i=>by
  by_cases hi:i<M
  ·obtain ⟨b,c,h1,h2⟩:=h.row i (by omega);exact ⟨(b,c),fun _=>⟨h1,h2⟩⟩
  ·exact ⟨(0,0),fun h=>absurd h hi⟩
 let pb:Nat->Nat × Nat:=fun i=>Classical.choose (hb' i)
 have hpb:∀ i,i<M->sr.getD i ⟨none,0,0⟩=⟨some ⟨(pb i).1,0,none⟩,E+1,(pb i).2⟩/\E+1<=(pb i).2/\(pb i).2<=9223372036854775807/\RowP W G (pb i).1 (rowL E (rf i))/\vd.ownBlock ≠ some (pb i).1:=fun i=>Classical.choose_spec (hb' i)
 obtain ⟨s1,e1,a1,b1⟩:=own_arr' (f:=fun i=>.int .i64 ((D.basic i:Nat):Int)) o1 fun k hk=>by simp [lists,iv,hk,d1 k hk]
 obtain ⟨s2,e2,a2,b2⟩:=own_arr' (f:=fun j=>.int .i64 ((D.free j:Nat):Int)) o2 fun k hk=>by simp [lists,iv,hk,d2 k hk]
 obtain ⟨s3,e3,a3,b3⟩:=own_arr' (f:=fun i=>.slice (some ⟨(pb i).1,0,none⟩) (E+1) (pb i).2) o3 fun k hk=>by
  have hk':k<sr.length:=by omega
  have:=(hpb k hk).1;rw [gdd,gge hk',Option.getD_some] at this;simp [lists,List.getElem?_map,gge hk',this]
 obtain ⟨cb,cc,e4,c1,c2,_,ob,hC⟩:=zFq (l:=rowL E (D.c 0)) (G:=G) (qs:=qs) (by simpa [lists,pft,pfw,four] using o4) hE (by rw [zAm]) (by omega) (fun k hk=>by
  rw [zAL _ (by omega),d4 k (by omega)]; exact h.cst k (by omega)) (fun b e=>h.pt.gf 4 b (by omega) (by omega) e)
 have hblk:=h.pt.blk;have f1:va=s1.val:=e1;have f2:vb=s2.val:=e2;have f3:vc=s3.val:=e3;have f4:vd = .slice (some ⟨cb,0,none⟩) (E+1) cc:=e4;have ob':vd.ownBlock=some cb:=ob;rw [f1,f2,f3,f4] at hblk
 refine ⟨⟨d,s1,s2,s3,fun i=>(pb i).1,fun i=>(pb i).2,cb,cc⟩,rfl,⟨hblk,a1,a2,a3,fun i hi=>?_,fun i hi=>⟨(hpb i hi).2.1,(hpb i hi).2.2.1⟩,hC,⟨c1,c2⟩,fun i j hi hj e=>?_,fun i hi e=>?_,fun g e e'=>?_,fun x hx=>(h.pt.gin x hx).2,h.pt.gd,
  fun g e=>h.pt.gf 1 g (by omega) (by omega) (b1 g e),fun g e=>h.pt.gf 2 g (by omega) (by omega) (b2 g e),fun g e=>h.pt.gf 3 g (by omega) (by omega) (b3 g e)⟩⟩
 ·have:=(hpb i hi).2.2.2.1;rw [<-zBs fun j hj=>d3 i j hi hj] at this; exact this
 ·refine h.rinj i j (by omega) (by omega) ?_;rw [(hpb i hi).1,(hpb j hj).1];show some (⟨(pb i).1,0,none⟩:Addr)=some ⟨(pb j).1,0,none⟩;have e':(pb i).1=(pb j).1:=e;rw [e']
 ·exact (hpb i hi).2.2.2.2 (by rw [ob']; exact congrArg some e.symm)
 ·exact h.pt.apart 1 2 g (by omega) (by omega) (by omega) (by omega) (by omega) (b1 g e) (b2 g e')
theorem Ends.cases {P:Lin.Prob} {ch:Option (Nat->Rat)} {D:Lin.Dict} {k:Nat} (h:Ends P ch D k):k=1\/k=2\/k=3:=by
 rcases h with ⟨h,_⟩ | ⟨h,_⟩ | ⟨h,_⟩ <;> simp [h]
end Go.Proofs.YtpjaodcimomaiaaGreat
