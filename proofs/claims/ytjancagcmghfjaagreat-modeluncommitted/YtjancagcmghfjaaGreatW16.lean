/- Texts Grw MpI of this claim. -/
import Derived.Test.YtjancagcmghfjaaGreatW12
set_option maxHeartbeats 4000000
set_option maxRecDepth 40000
namespace Go.Proofs.YtjancagcmghfjaaGreat
open Go.RowKit Go.Shelf Gj
variable {s:SV} {L B j n c:Nat} {X Y:Nat->Prop} {w:World} {q:Rat} {v:Value} {l:List Nat} {A:Option Addr} {z x:Int} {ng:Bool}
abbrev AllB:Nat->Prop:=fun _=>True
def QV.zero:QV:=⟨⟨false,none,0,0⟩,⟨false,none,0,0⟩⟩
instance:Inhabited QV:=⟨QV.zero⟩
def cells4q (v:QV):List Value:=[.bool v.num.ng,.slice v.num.A v.num.n v.num.c,.bool v.den.ng,.slice v.den.A v.den.n v.den.c]
theorem zCy (qs:List QV) (k o:Nat) (hk:k<qs.length) (ho:o<4) (z:QV):(qs.flatMap cells4q)[k*4+o]?=(cells4q (qs.getD k z))[o]?:=by
 induction qs generalizing k with
 | nil=>simp at hk
 | cons q qs ih=>
  rw [List.flatMap_cons]
  cases k with
  | zero=>rw [List.getElem?_append_left (by simp [cells4q]; omega)]; simp
  | succ k=>
   rw [List.getElem?_append_right (by simp [cells4q]; omega)];have:(k+1)*4+o-(cells4q q).length=k*4+o:=by simp [cells4q]; omega
   rw [this,ih k (by simpa using hk)];simp
theorem VecAt.loose {l:List Rat} (h:VecCan w X Y s l) (f:∀ k,QFit L (l.getD k 0)):VecIs w X Y L s l:=
 ⟨h.len,h.le,h.cap,fun k hk=>by
  obtain ⟨ad',v,e',hx',hc',hq⟩:=h.elem k hk;exact ⟨ad',v,e',hx',hc',hq.qis (f k)⟩⟩
structure Fr (G:Nat->Prop) (w w':World):Prop where
 os:w'.os=w.os
 tape:w'.tape=w.tape
 output:w'.output=w.output
 size:w.heap.size<=w'.heap.size
 block:∀ b,b<w.heap.size->¬ G b->w'.heap[b]?=w.heap[b]?
section
variable {G H:Nat->Prop} {w w' w'':World}
theorem Fr.refl (G:Nat->Prop) (w:World):Fr G w w:=⟨rfl,rfl,rfl,nlr _,fun _ _ _=>rfl⟩
theorem Fr.trans (h:Fr G w w') (k:Fr G w' w''):Fr G w w'':=
 ⟨k.os.trans h.os,k.tape.trans h.tape,k.output.trans h.output,nlt h.size k.size,fun b hb hg=>(k.block b (ltl hb h.size) hg).trans (h.block b hb hg)⟩
theorem Fr.mono (h:Fr G w w') (hG:∀ b,G b->H b):Fr H w w':=⟨h.os,h.tape,h.output,h.size,fun b hb hg=>h.block b hb fun x=>hg (hG b x)⟩
theorem Fr.of_below (h:Below w w w'):Fr G w w':=⟨h.os,h.tape,h.output,h.size,fun b hb _=>h.block b hb⟩
theorem Fr.below (h:Fr G w w') (hB:B<=w.heap.size) (hG:∀ b,G b->B<=b):Below B w w':=
 ⟨h.os,h.tape,h.output,h.size,fun b hb=>h.block b (by omega) fun x=>by have:=hG b x; omega⟩
theorem Fr.call (h:Fr G w w') (k:Below w' w' w''):Fr G w w'':=h.trans (Fr.of_below k)
theorem Fr.set (h:Fr G w w') {p:Addr} (hp:G p.block) (v:Value):Fr G w (w'.setCell p v):=
 ⟨h.os,h.tape,h.output,by simpa [World.setCell] using h.size,fun b hb hg=>(bhs _ _ _ _ (fun e=>hg (by rw [e]; exact hp))).trans (h.block b hb hg)⟩
theorem Fr.cell (h:Fr G w w') {p:Addr} (hp:p.block<w) (hg:¬ G p.block):w'.cell? p=w.cell? p:=cob (h.block _ hp hg)
theorem Fr.drew (h:Fr G w w'):Fr G w w'.drew:=h.trans (Fr.of_below (brf _ _).drew)
end
structure More (w:World) (G G':Nat->Prop):Prop where
 old:∀ y,G y->G' y
 new:∀ y,G' y->G y\/w.heap.size<=y
structure MatS (W:World) (B:Nat) (G:Nat->Prop) (v:Value) (k:Nat) (ss:List SV) (m:List (List Rat)):Prop where
 own:W.ownsRow B 34 1 v k (ss.map SV.val)
 row:∀ j,v.ownBlock=some j->G j
 len:ss.length=k
 llen:m.length=k
 elem:∀ j,j<k->VecCan W (fun b=>¬ G b) (fun b=>¬ G b) (ss.getD j ⟨none,0,0⟩) (m.getD j [])
section
variable {W W' W2:World} {B k L:Nat} {G G' H:Nat->Prop} {v v':Value} {ss:List SV} {m:List (List Rat)}
theorem vecG {l:List Rat} (h:VecCan W (fun b=>¬ G b) (fun b=>¬ G b) s l) (hF:Fr H W W') (hHG:∀ y,H y->G y) (hG:More W G G'):VecCan W' (fun b=>¬ G' b) (fun b=>¬ G' b) s l:=
 ((h.imp (X':=fun b=>¬ G b/\b<W.heap.size) (R':=QCan W fun b=>¬ G b/\b<W.heap.size) (fun b hl hb=>⟨hb,hl⟩) fun _ _ hq=>hq.imp fun b hl hb=>⟨hb,hl⟩).keep (R':=QCan W' fun b=>¬ G b/\b<W.heap.size) (fun p hp hl=>hF.cell hl fun z=>hp.1 (hHG _ z)) fun v q hq=>hq.keep fun p hp hl=>hF.cell hl fun z=>hp.1 (hHG _ z)).imp
  (fun b _ hb hg=>hb.1 ((hG.new b hg).resolve_right (by omega))) fun _ _ hq=>hq.imp fun b _ hb hg=>hb.1 ((hG.new b hg).resolve_right (by omega))
theorem MatS.nil (W:World) (B:Nat) (G:Nat->Prop):MatS W B G (.slice none 0 0) 0 [] []:=⟨World.ownsRow_nil _ _ _ _,fun j h=>by simp [Value.ownBlock] at h,rfl,rfl,fun j h=>absurd h (Nat.not_lt_zero j)⟩
theorem MatS.lt (h:MatS W B G v k ss m) (e:v.ownBlock=some j):B<=j/\j<W.heap.size:=by
 obtain ⟨h1,cs,hh⟩:=zAc h.own e;exact ⟨h1,zAa hh⟩
theorem MatS.keep (h:MatS W B G v k ss m) (hF:Fr H W W') (hH:∀ j,v.ownBlock=some j->¬ H j) (hHG:∀ y,H y->G y) (hG:More W G G'):MatS W' B G' v k ss m:=
 ⟨zAr h.own fun j hj=>hF.block j (h.lt hj).2 (hH j hj),fun j hj=>hG.old j (h.row j hj),h.len,h.llen,fun j hj=>vecG (h.elem j hj) hF hHG hG⟩
theorem MatS.step (h:MatS W B G v k ss m) {o:Obj} {l:List Rat} (hz:VecCan W (fun b=>¬ G b) (fun b=>¬ G b) s l) (hown:W2.ownsRow B 34 1 v' (k+1) (ss.map SV.val++[s.val])) (hg:(W.alloc o).grownBy W2 v.ownBlock) (hat:v'.ownBlock=v.ownBlock\/v'.ownBlock=some (W.alloc o).heap.size) :
  MatS W2 B (fun y=>G y\/v'.ownBlock=some y) v' (k+1) (ss++[s]) (m++[l])/\Fr (fun y=>v.ownBlock=some y) W W2/\More W G (fun y=>G y\/v'.ownBlock=some y):=by
 have hsz:W.heap.size+1<=W2.heap.size:=by have:=hg.size; simpa using this
 have key:∀ y,y<W.heap.size->¬ v.ownBlock=some y->W2.heap[y]?=W.heap[y]?:=fun y hy h2=>(hg.block y (by simp; omega) fun e=>h2 e.symm).trans (Below.heap_alloc _ _ _ hy)
 have hv':∀ j,v'.ownBlock=some j->v.ownBlock=some j\/W.heap.size<=j:=fun j hj=>by
  rcases hat with e | e
  ·exact .inl (e.symm.trans hj)
  ·rw [e] at hj; cases hj; right; simp
 have hF:Fr (fun y=>v.ownBlock=some y) W W2:=⟨hg.os,hg.tape,hg.output,by omega,fun b hb hn=>key b hb hn⟩;have hM:More W G (fun y=>G y\/v'.ownBlock=some y):=⟨fun y hy=>.inl hy,fun y hy=>hy.elim .inl fun e=>(hv' y e).imp (h.row y) id⟩;refine ⟨⟨by rw [List.map_append]; simpa using hown,fun j hj=>.inr hj,by rw [List.length_append,h.len]; rfl,by rw [List.length_append,h.llen]; rfl,fun j hj=>?_⟩,hF,hM⟩;by_cases hjk:j<k
 ·rw [getD_append_left _ _ _ (by rw [h.len]; exact hjk),getD_append_left _ _ _ (by rw [h.llen]; exact hjk)];exact vecG (h.elem j hjk) hF (fun y e=>h.row y e) hM
 ·obtain rfl:j=k:=by omega
  have e1:(ss++[s]).getD j ⟨none,0,0⟩=s:=by rw [<-h.len]; simp
  have e2:(m++[l]).getD j []=l:=by rw [<-h.llen]; simp
  rw [e1,e2];exact vecG hz hF (fun y e=>h.row y e) hM
end
structure ValC (W:World) (B:Nat) (G:Nat->Prop) (v:Value) (k:Nat) (qs:List QV) (l:List Rat):Prop where
 own:W.ownsRow B 80 4 v k (qs.flatMap cells4q)
 row:∀ j,v.ownBlock=some j->G j
 len:qs.length=k
 llen:l.length=k
 elem:∀ j,j<k->QCan W (fun b=>¬ G b) (qs.getD j QV.zero) (l.getD j 0)
section
variable {W W' W2:World} {B k:Nat} {G G' H:Nat->Prop} {v v':Value} {qs:List QV} {l:List Rat}
theorem ValC.nil (W:World) (B:Nat) (G:Nat->Prop):ValC W B G (.slice none 0 0) 0 [] []:=⟨⟨rfl,.inl ⟨rfl,rfl⟩⟩,fun j h=>by simp [Value.ownBlock] at h,rfl,rfl,fun j h=>absurd h (Nat.not_lt_zero j)⟩
theorem ValC.lt (h:ValC W B G v k qs l) (e:v.ownBlock=some j):B<=j/\j<W.heap.size:=by
 obtain ⟨h1,cs,hh⟩:=zAc h.own e;exact ⟨h1,zAa hh⟩
theorem ValC.keep (h:ValC W B G v k qs l) (hF:Fr H W W') (hH:∀ j,v.ownBlock=some j->¬ H j) (hHG:∀ y,H y->G y) (hG:More W G G'):ValC W' B G' v k qs l:=by
 refine ⟨zAr h.own fun j hj=>hF.block j (h.lt hj).2 (hH j hj),fun j hj=>hG.old j (h.row j hj),h.len,h.llen,fun j hj=>?_⟩;exact (((h.elem j hj).imp (Y:=fun b=>¬ G b/\b<W.heap.size) fun b hl hb=>⟨hb,hl⟩).keep fun p hp hl=>hF.cell hl fun z=>hp.1 (hHG _ z)).imp fun b _ hb hg=>hb.1 ((hG.new b hg).resolve_right (by omega))
theorem ValC.step (h:ValC W B G v k qs l) {o:Obj} {z:QV} (hz:QCan W (fun b=>¬ G b) z q) (hown:W2.ownsRow B 80 4 v' (k+1) (qs.flatMap cells4q++cells4q z)) (hg:(W.alloc o).grownBy W2 v.ownBlock) (hat:v'.ownBlock=v.ownBlock\/v'.ownBlock=some (W.alloc o).heap.size) :
  ValC W2 B (fun y=>G y\/v'.ownBlock=some y) v' (k+1) (qs++[z]) (l++[q])/\Fr (fun y=>v.ownBlock=some y) W W2/\More W G (fun y=>G y\/v'.ownBlock=some y):=by
 have hsz:W.heap.size+1<=W2.heap.size:=by have:=hg.size; simpa using this
 have key:∀ y,y<W.heap.size->¬ v.ownBlock=some y->W2.heap[y]?=W.heap[y]?:=fun y hy h2=>(hg.block y (by simp; omega) fun e=>h2 e.symm).trans (Below.heap_alloc _ _ _ hy)
 have hv':∀ j,v'.ownBlock=some j->v.ownBlock=some j\/W.heap.size<=j:=fun j hj=>by
  rcases hat with e | e
  ·exact .inl (e.symm.trans hj)
  ·rw [e] at hj; cases hj; right; simp
 have kq:∀ {u r},QCan W (fun b=>¬ G b) u r->QCan W2 (fun b=>¬ (G b\/v'.ownBlock=some b)) u r:=fun {u r} hu=>
  ((hu.imp (Y:=fun b=>¬ G b/\b<W.heap.size) fun b hl hb=>⟨hb,hl⟩).keep fun p hp hl=>cob (key _ hl fun e=>hp.1 (h.row _ e))).imp fun b _ hb hg=>hg.elim hb.1 fun e=>(hv' b e).elim (fun e=>hb.1 (h.row b e)) fun e=>by omega
 refine ⟨⟨by rw [List.flatMap_append]; simpa using hown,fun j hj=>.inr hj,by rw [List.length_append,h.len]; rfl,by rw [List.length_append,h.llen]; rfl,fun j hj=>?_⟩,⟨hg.os,hg.tape,hg.output,by omega,fun b hb hn=>key b hb hn⟩,⟨fun y hy=>.inl hy,fun y hy=>hy.elim .inl fun e=>(hv' y e).imp (h.row y) id⟩⟩;by_cases hjk:j<k
 ·rw [getD_append_left _ _ _ (by rw [h.len]; exact hjk),getD_append_left _ _ _ (by rw [h.llen]; exact hjk)];exact kq (h.elem j hjk)
 ·obtain rfl:j=k:=by omega
  have e1:(qs++[z]).getD j QV.zero=z:=by rw [<-h.len]; simp
  have e2:(l++[q]).getD j 0=q:=by rw [<-h.llen]; simp
  rw [e1,e2];exact kq hz
theorem ValC.vec (h:ValC W B G v k qs l):∃ s:SV,v=s.val/\s.n=k/\VecCan W (fun _=>True) (fun b=>¬ G b) s l:=by
 rcases h.own.2 with ⟨rfl,rfl⟩ | ⟨g,cap,cur,rfl,hbg,hh,hnc,hcap,hcur,ht⟩
 ·exact ⟨⟨none,0,0⟩,rfl,rfl,h.llen,nlr _,nzl _,fun k hk=>absurd hk (Nat.not_lt_zero k)⟩
 ·refine ⟨⟨some ⟨g,0,none⟩,k,cap⟩,rfl,rfl,h.llen,hnc,(by show cap<=_; exact nlt ‹_› (show maxLen<=9223372036854775807 by decide)),fun j hj=>⟨⟨g,0,none⟩,qs.getD j QV.zero,rfl,trivial,?_,h.elem j hj⟩⟩;have hj':j<k:=hj;have hl:=h.len
  have ec:∀ o,o<4->W.cell? ⟨g,j*4+o,none⟩=(cells4q (qs.getD j QV.zero))[o]?:=fun o ho=>by
   have e2:(cur.toList.take (k*4))[j*4+o]?=(qs.flatMap cells4q)[j*4+o]?:=(by rw [ht]);rw [List.getElem?_take_of_lt (by omega),zCy qs j o (by omega) ho QV.zero] at e2;simp only [World.cell?,hh];simpa using e2
  rw [zA4,Nat.zero_add];exact ⟨ec 0 (by omega),ec 1 (by omega),ec 2 (by omega),ec 3 (by omega)⟩
end
structure Carry (X:Nat->Prop) (w w':World):Prop where
 size:w.heap.size<=w'.heap.size
 blk:∀ k cs t f,X k->w.heap[k]?=some (.cells cs t f)->w'.heap[k]?=some (.cells cs t f)
section
variable {X Y:Nat->Prop} {w w' w'':World}
theorem Carry.refl (X:Nat->Prop) (w:World):Carry X w w:=⟨nlr _,fun _ _ _ _ _ h=>h⟩
theorem Carry.trans (h:Carry X w w') (k:Carry X w' w''):Carry X w w'':=⟨nlt h.size k.size,fun b cs t f hx hb=>k.blk b cs t f hx (h.blk b cs t f hx hb)⟩
theorem Carry.mono (h:Carry X w w') (hY:∀ b,Y b->X b):Carry Y w w':=⟨h.size,fun b cs t f hy hb=>h.blk b cs t f (hY b hy) hb⟩
theorem Carry.of_below (h:Below w w w'):Carry X w w':=⟨h.size,fun b _cs _t _f _ hb=>(h.block b (zAa hb)).trans hb⟩
theorem Carry.cell (h:Carry X w w') {p:Addr} (hx:X p.block) (hc:w.cell? p=some v):w'.cell? p=some v:=by
 unfold World.cell? at hc
 cases hb:w.heap[p.block]? with
 | none=>rw [hb] at hc; cases hc
 | some o=>
  cases o with
  | cells cs t f=>rw [hb] at hc; unfold World.cell?; rw [h.blk _ cs t f hx hb]; exact hc
  | _=>rw [hb] at hc; cases hc
theorem Carry.putObj {l:Nat} {o:Obj} (o':Obj) (hl:w.heap[l]?=some o) (ho:o.isCells=false):Carry X w (w.putObj l o'):=
 ⟨by simp,fun k cs t f _ hk=>(World.putObj_heap_other (by rintro rfl; rw [hk] at hl; cases hl; cases ho)).trans hk⟩
theorem Carry.grown {row:Option Nat} (hg:w.grownBy w' row) (hr:∀ r,row=some r->∃ o:Obj,w.heap[r]?=some o/\o.isCells=false):Carry X w w':=
 ⟨hg.size,fun _k _cs _t _f _ hk=>zAi hg hr hk⟩
theorem WordsAt.carry (h:WordsAt w X A n c l) (hk:Carry X w w'):WordsAt w' X A n c l:=
 ⟨h.len,h.le,h.cap,h.ok,fun k hkn=>by
  obtain ⟨ad,e,hx,hc⟩:=h.cell k hkn;exact ⟨ad,e,hx,hk.cell (by rw [zAj]; exact hx) hc⟩⟩
theorem ZAt.carry (h:ZAt w X ng A n c z) (hk:Carry X w w'):ZAt w' X ng A n c z:=⟨h.sign,h.words.carry hk⟩
theorem ZIs.carry {z:ZV} (h:ZIs w X L z x) (hk:Carry X w w'):ZIs w' X L z x:=by obtain ⟨l,h1,h2⟩:=h; exact ⟨l,h1.carry hk,h2⟩
theorem QIs.carry {v:QV} (h:QIs w X L v q) (hk:Carry X w w'):QIs w' X L v q:=by obtain ⟨x,y,h1,h2,h3⟩:=h; exact ⟨x,y,h1.carry hk,h2.carry hk,h3⟩
theorem QCan.carry {v:QV} (h:QCan w X v q) (hk:Carry X w w'):QCan w' X v q:=⟨h.1.carry hk,h.2.carry hk⟩
theorem QCell.carry {p:Addr} {v:QV} (h:QCell w p v) (hk:Carry X w w') (hx:X p.block):QCell w' p v:=
 ⟨hk.cell hx h.1,hk.cell (p:=⟨p.block,p.off+1,none⟩) hx h.2.1,hk.cell (p:=⟨p.block,p.off+2,none⟩) hx h.2.2.1,hk.cell (p:=⟨p.block,p.off+3,none⟩) hx h.2.2.2⟩
end
open Go.RowKit Go.Shelf
namespace Mo
theorem zUP:(Tryz.prog.info? 3).map (fun i=>(i.zero,i.size,i.bytes))=some (some (.int .i64 0),1,8):=by kernel_rfl
def rowN (n:Nat) (f:Nat->Nat):Array Value:=((List.range n).map fun i=>Value.int .i64 (f i:Int)).toArray
theorem zUT (n:Nat) (f:Nat->Nat):(rowN n f).size=n:=by simp [rowN]
theorem zUS {n:Nat} (f:Nat->Nat) {i:Nat} (h:i<n):(rowN n f)[i]?=some (.int .i64 (f i:Int)):=by simp [rowN,h]
theorem zXq {n:Nat} {f g:Nat->Nat} (h:∀ i,i<n->f i=g i):rowN n f=rowN n g:=by
 unfold rowN;rw [List.map_congr_left fun i hi=>by rw [h i (List.mem_range.1 hi)]]
def upd (f:Nat->Nat) (i v:Nat):Nat->Nat:=fun b=>if b=i then v else f b
theorem zYp {n i v:Nat} {f:Nat->Nat} (h:i<n):(rowN n f).setIfInBounds i (.int .i64 (v:Int))=rowN n (upd f i v):=by
 apply Array.ext_getElem?;intro j;rw [Array.getElem?_setIfInBounds,zUT];by_cases e:i=j
 ·subst e;rw [if_pos rfl,if_pos h,zUS _ h];simp [upd]
 ·rw [if_neg e];by_cases hj:j<n
  ·rw [zUS _ hj,zUS _ hj];simp [upd,Ne.symm e]
  ·rw [Array.getElem?_eq_none (by rw [zUT]; omega),Array.getElem?_eq_none (by rw [zUT]; omega)]
def NatRow (W:World) (b n:Nat) (f:Nat->Nat):Prop:=W.heap[b]?=some (.cells (rowN n f) 3 (0,0))
section
variable {W W':World} {b n:Nat} {f g:Nat->Nat}
theorem NatRow.lt (h:NatRow W b n f):b<W.heap.size:=zAa h
theorem NatRow.cell (h:NatRow W b n f) {i:Nat} (hi:i<n):W.cell? ⟨b,i,none⟩=some (.int .i64 (f i:Int)):=by
 simp only [World.cell?,show W.heap[b]?=_ from h];exact zUS f hi
theorem NatRow.frozen (h:NatRow W b n f) (o:Nat):W.frozen? ⟨b,o,none⟩=false:=by simp [World.frozen?,show W.heap[b]?=_ from h]
theorem NatRow.below (h:NatRow W b n f) (hb:Below W W W'):NatRow W' b n f:=(hb.block _ h.lt).trans h
theorem NatRow.heap (h:NatRow W b n f) (hb:W'.heap[b]?=W.heap[b]?):NatRow W' b n f:=hb.trans h
theorem NatRow.congr (h:NatRow W b n f) (e:∀ i,i<n->f i=g i):NatRow W b n g:=by
 unfold NatRow; rw [<-zXq e]; exact h
theorem NatRow.set (h:NatRow W b n f) {i:Nat} (hi:i<n) (v:Nat):NatRow (W.setCell ⟨b,i,none⟩ (.int .i64 (v:Int))) b n (upd f i v):=by
 unfold NatRow;rw [zAe _ h,zYp hi]
theorem NatRow.made (w:World) (n:Nat):NatRow (w.alloc (.cells (rowN n fun _=>0) 3)) w n fun _=>0:=zAd _ _ (by simp)
end
theorem zVR (n:Nat) (hn:n<=1000000) (w:World) :
  (Instr.makeSlice 25 (.int .i64 (n:Int)) (.int .i64 (n:Int))).run Tryz.prog w = .ok (.slice (some w) n n) (w.alloc (.cells (rowN n fun _=>0) 3)):=by
 obtain ⟨i0,hi,hz0,hz1,hz2⟩:=info_parts zUP;have hr:=run_make (P:=Tryz.prog) w 25 3 i0 (.int .i64 0) Tryz.underlying25 hi hz0 .i64 .i64 n n (by omega) (by omega) (by rw [hz2]; omega) (by omega);rw [hz1] at hr
 have e:rowN n (fun _=>0)=madeCells #[Value.int .i64 0] n:=by
  apply Array.ext_getElem?;intro j;by_cases hj:j<n
  ·rw [zUS _ hj]; simp [madeCells,hj,show j % 1=0 by omega]
  ·rw [Array.getElem?_eq_none (by rw [zUT]; omega),Array.getElem?_eq_none (by simp [madeCells]; omega)]
 rw [e];simpa [Value.cells] using hr
def FnL (w:World) (par:Nat->Nat) (n b0:Nat) (t:Value) (W:World):Prop:=∃ b:Nat,b<n/\t = .int .i64 (b:Int)/\W=w/\upN par n b=upN par n b0
theorem zUW {w:World} {c p n b:Nat} {par:Nat->Nat} (h0:w.cell? c=some (.slice (some p) n n)) (h:NatRow w p n par) (hp:Dn par) (hb:b<n) (_:n<=1000) :
  Calls Tryz.prog 86 #[.int .i64 (b:Int),.pointer (some c)] w fun e w'=>e = .returned (.int .i64 (upN par n b:Nat))/\w'=w:=by
 have H:=hdq h;have hpl:=h.lt;have hcl:c<w.heap.size:=zAb h0;clear h;go_enter Tryz.func86,Tryz.ntmps86
 go_wp2;go_step3;go_wp2;go_step3;go_wp2;go_loopw [0] (fun t W=>FnL w par n b t W) (fun t _=>(intOf t).toNat)
 case atStart=>exact ⟨b,hb,rfl,rfl,rfl⟩
 case round=>
  obtain ⟨x,hx,rfl,rfl,hu⟩:=hrel;have q0:=H.out.cell hx;have hxi:(x:Int)<(n:Int):=by omega
  have HU:=hdq hu;have hpx:=hp x;clear hu;by_cases he:par x=x
  ·have HE:Hid (upN par n b=x):=hdq (HU.out.symm.trans (zUn he n));rw [he] at q0;clear he hpx;go_wp2;(try rw [Exit.noGoto_ret]);go_ret;exact ⟨by rw [HE.out]; first | done | rfl,rfl⟩
  ·have HE:Hid (FnL wr par n b (.int .i64 (par x:Int)) wr):=⟨par x,by omega,rfl,rfl,(zWc hp (by omega) he).symm.trans HU.out⟩;have hne:((par x:Int) == (x:Int))=false:=beq_false_of_ne (by omega);generalize par x=y at *;go_wp2;go_roundw;case rel=>exact HE.out
   case measure=>simp [intOf]; omega
end Mo
end Go.Proofs.YtjancagcmghfjaaGreat
