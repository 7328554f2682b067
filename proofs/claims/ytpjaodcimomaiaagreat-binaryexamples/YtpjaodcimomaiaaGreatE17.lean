/- Texts Comp2 Carry Cand Opt of this claim. -/
import Derived.Test.YtpjaodcimomaiaaGreatEA0
import Derived.Test.YtpjaodcimomaiaaGreatE15
import Derived.Test.YtpjaodcimomaiaaGreatE16
import Derived.Deep.Cut
import Derived.Test.YtpjaodcimomaiaaGreatE05
set_option maxHeartbeats 4000000
namespace Go.Proofs.YtpjaodcimomaiaaGreat
open Go.RowKit Go.Shelf
structure CS (w W:World) (v:Value) (cs:List Value) (Fx:List (Nat × Array Value × TypeId)):Prop where
 bel:Below w.heap.size w W
 own:W.ownsRow w.heap.size 216 1 v cs.length cs
 fx:∀ p ∈ Fx,W.heap[p.1]?=some (.cells p.2.1 p.2.2 (0,0))/\p.2.2 ≠ 216/\w.heap.size<=p.1
section
variable {w W W':World} {v:Value} {cs:List Value} {Fx:List (Nat × Array Value × TypeId)}
theorem CS.call (h:CS w W v cs Fx) (hb:Below W.heap.size W W'):CS w W' v cs Fx:=
 ⟨h.bel.trans (hb.mono h.bel.size),zAr h.own fun j hj=>by
  obtain ⟨_,c,hh⟩:=zAc h.own hj;exact hb.block j (zAa hh),fun p hp=>⟨(hb.block _ (zAa (h.fx p hp).1)).trans (h.fx p hp).1,(h.fx p hp).2⟩⟩
theorem CS.add (h:CS w W v cs Fx) (c:Array Value) (T:TypeId) (hT:T ≠ 216):CS w (W.alloc (.cells c T)) v cs ((W.heap.size,c,T) :: Fx):=by
 have h':=h.call ((brf _ _).alloc (nlr _) (.cells c T));refine ⟨h'.bel,h'.own,fun p hp=>?_⟩;rcases List.mem_cons.1 hp with rfl | hp
 ·exact ⟨zAd _ _ rfl,hT,h.bel.size⟩
 ·exact h'.fx p hp
theorem CS.append (h:CS w W v cs Fx) {o:Obj} {x v':Value} {W2:World} (hown:W2.ownsRow w.heap.size 216 1 v' (cs.length+1) (cs++[x])) (hg:(W.alloc o).grownBy W2 v.ownBlock):CS w W2 v' (cs++[x]) Fx:=by
 have h3:Below w.heap.size (W.alloc o) W2:=(brf _ _).grown hg (by have:=h.bel.size; simp; omega) (fun j hj=>(zAc h.own hj).1);refine ⟨(h.bel.alloc h.bel.size _).trans h3,by rw [List.length_append]; exact hown,fun p hp=>?_⟩;obtain ⟨f1,f2,f3⟩:=h.fx p hp;have hl:=zAa f1;refine ⟨((hg.block p.1 (by simp; omega) fun e=>?_).trans (Below.heap_alloc _ _ _ hl)).trans f1,f2,f3⟩;obtain ⟨_,c,hh⟩:=zAc h.own e.symm;rw [f1] at hh;simp only [Option.some.injEq,Obj.cells.injEq] at hh;exact f2 hh.2.1
theorem CS.set (h:CS w W v cs Fx) {b o:Nat} {c:Array Value} {T:TypeId} (u:Value) (hb:W.heap[b]?=some (.cells c T (0,0))) (hT:T ≠ 216) (hF:∀ p ∈ Fx,p.1 ≠ b) (hw:w.heap.size<=b):CS w (W.setCell ⟨b,o,none⟩ u) v cs Fx:=
 ⟨h.bel.setCell (p:=⟨b,o,none⟩) hw _,zAr h.own fun j hj=>bhs _ _ _ _ (fun e=>by
  obtain ⟨_,c',hh⟩:=zAc h.own hj;dsimp only at e;rw [e,hb] at hh;simp only [Option.some.injEq,Obj.cells.injEq] at hh;exact hT hh.2.1),fun p hp=>⟨(bhs _ _ _ _ (hF p hp)).trans (h.fx p hp).1,(h.fx p hp).2⟩⟩
end
abbrev clo1 (b:Nat):Value:=.func (.func 217) #[] #[.pointer (some ⟨b,0,none⟩)]
abbrev clo2 (bd bk br:Nat):Value:=.func (.func 218) #[] #[.pointer (some ⟨bd,0,none⟩),.pointer (some ⟨bk,0,none⟩),.pointer (some ⟨br,0,none⟩)]
theorem zHR {D:Lin.Dict} {i:Nat} (inj:∀ j,j<i->D.basic j ≠ D.basic i):rowOf D (i+1)=Lin.turn (rowOf D i) (D.basic i) (i+1):=by
 funext v;unfold rowOf Lin.turn;by_cases hv:v=D.basic i
 ·subst hv;have h1:¬ Lin.find D.basic (D.basic i) i<i:=Lin.zCQ inj;have h2:Lin.find D.basic (D.basic i) (i+1)=i:=by simp [Lin.find,h1]
  rw [h2,if_pos (by omega),if_pos rfl]
 ·rw [if_neg hv];by_cases h1:Lin.find D.basic v i<i
  ·have h2:Lin.find D.basic v (i+1)=Lin.find D.basic v i:=(by simp [Lin.find,h1]);rw [h2,if_pos (by omega)]; dsimp only; rw [if_pos h1]
  ·have h2:Lin.find D.basic v (i+1)=i+1:=(by simp [Lin.find,h1,Ne.symm hv]);rw [h2,if_neg (by omega)]; dsimp only; rw [if_neg h1]
def RowOf (W:World) (D:Lin.Dict) (V M i ro:Nat):Prop:=∃ c:Array Value,W.heap[ro]?=some (.cells c 3 (0,0))/\c.size=V+M/\∀ v,v<V+M->c[v]?=some (.int .i64 (rowOf D i v:Nat))
def CLoop3 (w:World) (x:DV) (V M K:Nat) (D:Lin.Dict) (br ro:Nat) (v t:Value) (W:World):Prop:=
 ∃ k:Nat,k<=V/\t = .int .i64 k/\∃ (c:Array Value) (bl bk:Nat->Nat) (Fx:List (Nat × Array Value × TypeId)),CS w W v ((List.range K).map (fun j=>clo1 (bl j))++(List.range k).map (fun j=>clo2 w.heap.size (bk j) br)) Fx/\(w.heap.size,#[.pointer (some ⟨x.d,0,none⟩)],158) ∈ Fx/\
  (br,#[.slice (some ⟨ro,0,none⟩) (V+M) (V+M)],29) ∈ Fx/\(∀ j,j<K->(bl j,#[rowVal (V+1) (x.cb j)],24) ∈ Fx)/\(∀ j,j<k->(bk j,#[.int .i64 (j:Int)],3) ∈ Fx)/\(ro,c,3) ∈ Fx/\∀ v,v<V+M->c[v]?=some (.int .i64 (rowOf D M v:Nat))
structure Comps (W:World) (X:Nat->Prop) (x:DV) (V M K:Nat) (D:Lin.Dict) (s:SV):Prop where
 arr:∃ f:Nat->Value,Arr W s (K+V) 216 f/\(∀ g,s.A=some ⟨g,0,none⟩->X g)/\(∀ l,l<K->∃ b,X b/\f l=clo1 b/\W.cell? ⟨b,0,none⟩=some (rowVal (V+1) (x.cb l)))/\
  ∀ k,k<V->∃ bd bk br ro cr,X bd/\X bk/\X br/\X ro/\f (K+k)=clo2 bd bk br/\W.cell? ⟨bd,0,none⟩=some (.pointer (some ⟨x.d,0,none⟩))/\W.cell? ⟨bk,0,none⟩=some (.int .i64 (k:Int))/\W.cell? ⟨br,0,none⟩=some (.slice (some ⟨ro,0,none⟩) (V+M) cr)/\V+M<=cr/\cr<=9223372036854775807/\W.cell? ⟨ro,k,none⟩=some (.int .i64 (rowOf D M k:Nat))
theorem Comps.keep {W W':World} {X:Nat->Prop} {x:DV} {V M K:Nat} {D:Lin.Dict} {s:SV} (h:Comps W X x V M K D s) (hk:∀ b,X b->b<W.heap.size->W'.heap[b]?=W.heap[b]?):Comps W' X x V M K D s:=by
 have kc:∀ {b o:Nat} {v:Value},X b->W.cell? ⟨b,o,none⟩=some v->W'.cell? ⟨b,o,none⟩=some v:=fun hx hc=>(cob (hk _ hx (zAb hc))).trans hc
 obtain ⟨f,h1,h2,h3,h4⟩:=h.arr;refine ⟨f,h1.keep fun g e hl=>hk g (h2 g e) hl,h2,fun l hl=>?_,fun k hkV=>?_⟩
 ·obtain ⟨b,x1,x2,x3⟩:=h3 l hl;exact ⟨b,x1,x2,kc x1 x3⟩
 ·obtain ⟨bd,bk,br,ro,cr,x1,x2,x3,x4,x5,x6,x7,x8,x9,x10,x11⟩:=h4 k hkV;exact ⟨bd,bk,br,ro,cr,x1,x2,x3,x4,x5,kc x1 x6,kc x2 x7,kc x3 x8,x9,x10,kc x4 x11⟩
theorem Comps.below {W W':World} {X:Nat->Prop} {x:DV} {V M K:Nat} {D:Lin.Dict} {s:SV} (h:Comps W X x V M K D s) (hb:Below W.heap.size W W'):Comps W' X x V M K D s:=h.keep fun b _ hl=>hb.block b hl
theorem CLoop3.done {w W:World} {x:DV} {V M K br ro:Nat} {D:Lin.Dict} {v:Value} (h:CLoop3 w x V M K D br ro v (.int .i64 V) W) (hV:V+M<=1000000):∃ s:SV,v=s.val/\Comps W (New w.heap.size) x V M K D s/\Below w.heap.size w W:=by
 obtain ⟨k,hk,ek,c,bl,bk,Fx,hC,f1,f2,f3,f4,f5,r3⟩:=h;obtain ⟨r1,-,hro⟩:=hC.fx _ f5;dsimp only at r1 hro
 obtain rfl:V=k:=by
  have:(V:Int)=(k:Int):=by simpa using ek
  omega
 have hlen:((List.range K).map (fun j=>clo1 (bl j))++(List.range V).map (fun j=>clo2 w.heap.size (bk j) br)).length=K+V:=by simp
 have hown:=hC.own;rw [hlen] at hown
 have cellF:∀ {b:Nat} {u:Value} {T:TypeId},(b,#[u],T) ∈ Fx->W.cell? ⟨b,0,none⟩=some u/\w.heap.size<=b:=fun hm=>by
  obtain ⟨g1,g2,g3⟩:=hC.fx _ hm;exact ⟨by simp only [World.cell?,g1]; simp,g3⟩
 obtain ⟨s,es,ha,hb⟩:=own_arr' (f:=fun l=>if l<K then clo1 (bl l) else clo2 w.heap.size (bk (l-K)) br) hown fun l hl=>by
  by_cases h:l<K
  ·rw [if_pos h,List.getElem?_append_left (by simpa using h)]; simp [h]
  ·rw [if_neg h,List.getElem?_append_right (by simp; omega)];simp only [List.length_map,List.length_range,List.getElem?_map];rw [List.getElem?_range (by omega)]; rfl
 refine ⟨s,es,⟨_,ha,fun g e=>(zAc hown (hb g e)).1,fun l hl=>⟨bl l,(cellF (f3 l hl)).2,if_pos hl,(cellF (f3 l hl)).1⟩,fun k hk=>⟨w.heap.size,bk k,br,ro,V+M,nlr _,(cellF (f4 k hk)).2,(cellF f2).2,hro,?_,(cellF f1).1,(cellF (f4 k hk)).1,(cellF f2).1,nlr _,by omega,?_⟩⟩,hC.bel⟩
 ·simp
 ·simp only [World.cell?,r1]; rw [<-r3 k (by omega)]; simp
def zeroI (n:Nat):Array Value:=madeCells #[Value.int .i64 0] n
theorem zFb (n:Nat):(zeroI n).size=n:=by simp [zeroI,madeCells]
theorem zGg (n k:Nat) (hk:k<n):(zeroI n)[k]?=some (.int .i64 0):=by
 have hl:k<(zeroI n).size:=by rw [zFb]; omega
 rw [Array.getElem?_eq_getElem hl];simp only [zeroI,madeCells,Array.getElem_map,Array.getElem_range];show some (#[Value.int .i64 0][k % 1]!)=_;rw [show k % 1=0 by omega]; rfl
theorem zHU (n:Nat) (hn:n<=1000000) (w:World) :
  (Instr.makeSlice 29 (.int .i64 (n:Int)) (.int .i64 (n:Int))).run Tryz.prog w = .ok (.slice (some ⟨w.heap.size,0,none⟩) n n) (w.alloc (.cells (zeroI n) 3)):=by
 obtain ⟨i0,hi,hz0,hz1,hz2⟩:=info_parts zG1;have hr:=run_make (P:=Tryz.prog) w 29 3 i0 (.int .i64 0) Tryz.underlying29 hi hz0 .i64 .i64 n n (by omega) (by omega) (by rw [hz2]; omega) (by omega);rw [hz1] at hr;simpa [zeroI,Value.cells] using hr
theorem RowOf.start {W:World} {D:Lin.Dict} {V M ro:Nat} (h:W.heap[ro]?=some (.cells (zeroI (V+M)) 3 (0,0))):RowOf W D V M 0 ro:=
 ⟨_,h,zFb _,fun v hv=>by rw [zGg _ _ hv]; simp [rowOf,Lin.find]⟩
theorem RowOf.step {W:World} {D:Lin.Dict} {V M ro i:Nat} (h:RowOf W D V M i ro) (inj:∀ j,j<i->D.basic j ≠ D.basic i):RowOf (W.setCell ⟨ro,D.basic i,none⟩ (.int .i64 ((i:Int)+1))) D V M (i+1) ro:=by
 obtain ⟨c,h1,h2,h3⟩:=h;refine ⟨_,zAe _ h1,by simpa using h2,fun v hv=>?_⟩;rw [zHR inj,Array.getElem?_setIfInBounds];by_cases e:D.basic i=v
 ·rw [if_pos e,if_pos (by rw [h2]; omega)]; simp [Lin.turn,e]
 ·rw [if_neg e,h3 v hv,Lin.zBh _ (Ne.symm e)]
theorem RowOf.cell {W:World} {D:Lin.Dict} {V M ro i:Nat} (h:RowOf W D V M i ro) {v:Nat} (hv:v<V+M):W.cell? ⟨ro,v,none⟩=some (.int .i64 (rowOf D i v:Nat))/\∀ o,W.frozen? ⟨ro,o,none⟩=false:=by
 obtain ⟨c,h1,h2,h3⟩:=h;exact ⟨by simp only [World.cell?,h1]; rw [<-h3 v hv]; simp,fun o=>by simp [World.frozen?,h1]⟩
theorem RowOf.keep {W W':World} {D:Lin.Dict} {V M ro i:Nat} (h:RowOf W D V M i ro) (hk:W'.heap[ro]?=W.heap[ro]?):RowOf W' D V M i ro:=by
 obtain ⟨c,h1,h2,h3⟩:=h;exact ⟨c,hk.trans h1,h2,h3⟩
theorem RowOf.lt {W:World} {D:Lin.Dict} {V M ro i:Nat} (h:RowOf W D V M i ro):ro<W.heap.size:=by
 obtain ⟨c,h1,_⟩:=h; exact zAa h1
structure Carry (X:Nat->Prop) (w w':World):Prop where
 size:w.heap.size<=w'.heap.size
 blk:∀ k cs t f,X k->w.heap[k]?=some (.cells cs t f)->w'.heap[k]?=some (.cells cs t f)
section
variable {X Y:Nat->Prop} {w w' w'':World}
theorem Carry.refl (X:Nat->Prop) (w:World):Carry X w w:=⟨nlr _,fun _ _ _ _ _ h=>h⟩
theorem Carry.trans (h:Carry X w w') (k:Carry X w' w''):Carry X w w'':=⟨nlt h.size k.size,fun b cs t f hx hb=>k.blk b cs t f hx (h.blk b cs t f hx hb)⟩
theorem Carry.mono (h:Carry X w w') (hY:∀ b,Y b->X b):Carry Y w w':=⟨h.size,fun b cs t f hy hb=>h.blk b cs t f (hY b hy) hb⟩
theorem Carry.of_below (h:Below w.heap.size w w'):Carry X w w':=⟨h.size,fun b _cs _t _f _ hb=>(h.block b (zAa hb)).trans hb⟩
theorem Carry.cell (h:Carry X w w') {p:Addr} {v:Value} (hx:X p.block) (hc:w.cell? p=some v):w'.cell? p=some v:=by
 unfold World.cell? at hc
 cases hb:w.heap[p.block]? with
 | none=>rw [hb] at hc; cases hc
 | some o=>
  cases o with
  | cells cs t f=>rw [hb] at hc; unfold World.cell?; rw [h.blk _ cs t f hx hb]; exact hc
  | _=>rw [hb] at hc; cases hc
theorem Carry.putObj {l:Nat} {o:Obj} (o':Obj) (hl:w.heap[l]?=some o) (ho:o.isCells=false):Carry X w (w.putObj l o'):=
 ⟨by simp,fun k cs t f _ hk=>(World.putObj_heap_other (by rintro rfl; rw [hk] at hl; cases hl; cases ho)).trans hk⟩
theorem Carry.grown {row:Option Nat} (hg:w.grownBy w' row) (hr:∀ r,row=some r->∃ o:Obj,w.heap[r]?=some o/\o.isCells=false):Carry X w w':=
 ⟨hg.size,fun _k _cs _t _f _ hk=>zAi hg hr hk⟩
theorem WordsAt.carry {A:Option Addr} {n c:Nat} {l:List Nat} (h:WordsAt w X A n c l) (hk:Carry X w w'):WordsAt w' X A n c l:=
 ⟨h.len,h.le,h.cap,h.ok,fun k hkn=>by
  obtain ⟨ad,e,hx,hc⟩:=h.cell k hkn;exact ⟨ad,e,hx,hk.cell (by rw [zAj]; exact hx) hc⟩⟩
theorem ZAt.carry {ng:Bool} {A:Option Addr} {n c:Nat} {z:Int} (h:ZAt w X ng A n c z) (hk:Carry X w w'):ZAt w' X ng A n c z:=⟨h.sign,h.words.carry hk⟩
theorem ZIs.carry {L:Nat} {z:ZV} {x:Int} (h:ZIs w X L z x) (hk:Carry X w w'):ZIs w' X L z x:=by obtain ⟨l,h1,h2⟩:=h; exact ⟨l,h1.carry hk,h2⟩
theorem QIs.carry {L:Nat} {v:QV} {q:Rat} (h:QIs w X L v q) (hk:Carry X w w'):QIs w' X L v q:=by obtain ⟨x,y,h1,h2,h3⟩:=h; exact ⟨x,y,h1.carry hk,h2.carry hk,h3⟩
theorem QCan.carry {v:QV} {q:Rat} (h:QCan w X v q) (hk:Carry X w w'):QCan w' X v q:=⟨h.1.carry hk,h.2.carry hk⟩
theorem QCell.carry {p:Addr} {v:QV} (h:QCell w p v) (hk:Carry X w w') (hx:X p.block):QCell w' p v:=
 ⟨hk.cell hx h.1,hk.cell (p:=⟨p.block,p.off+1,none⟩) hx h.2.1,hk.cell (p:=⟨p.block,p.off+2,none⟩) hx h.2.2.1,hk.cell (p:=⟨p.block,p.off+3,none⟩) hx h.2.2.2⟩
theorem RowAt.carry {G:Nat->Prop} {b:Nat} {l:List Rat} (h:RowAt w G b l) (hk:Carry (fun y=>y<w.heap.size) w w'):RowAt w' G b l:=by
 have hlt:=h.lt;obtain ⟨cs,e,hs⟩:=h.blk;refine ⟨h.mem,⟨cs,hk.blk b cs _ _ hlt e,hs⟩,fun k hkl=>?_⟩;obtain ⟨v,h1,h2⟩:=h.elem k hkl;exact ⟨v,h1.carry hk hlt,((h2.imp (Y:=fun y=>¬ G y/\y<w.heap.size) fun b hb hg=>⟨hg,hb⟩).carry (hk.mono fun b hb=>hb.2)).imp fun b _ hb=>hb.1⟩
theorem Arr.carry {s:SV} {n:Nat} {T:TypeId} {f:Nat->Value} (h:Arr w s n T f) (hk:Carry X w w') (hx:∀ g,s.A=some ⟨g,0,none⟩->g<w.heap.size->X g):Arr w' s n T f:=
 ⟨h.len,h.le,h.cap,by
  rcases h.blk with h0 | ⟨g,cs,e,hb,hc⟩
  ·exact .inl h0
  ·exact .inr ⟨g,cs,e,hk.blk g cs _ _ (hx g e (zAa hb)) hb,hc⟩⟩
theorem DA.carry {G:Nat->Prop} {x:DV} {V M K:Nat} {D:Lin.Dict} {pv rw cl:Int} (h:DA w G x V M K D pv rw cl) (hk:Carry (fun y=>y<w.heap.size) w w'):DA w' G x V M K D pv rw cl:=
 ⟨hk.blk _ _ _ _ h.dlt h.blk,h.bas.carry hk fun _g _ hl=>hl,h.fre.carry hk fun _g _ hl=>hl,h.row.carry hk fun _g _ hl=>hl,h.cst.carry hk fun _g _ hl=>hl,fun i hi=>(h.rows i hi).carry hk,fun i hi=>(h.csts i hi).carry hk,h.rinj,h.cinj,h.apart,h.bf,
  fun b hg=>ltl (h.gin b hg) hk.size,h.gd,h.gb,h.gf,h.gr,h.gc⟩
theorem Comps.carry {x:DV} {V M K:Nat} {D:Lin.Dict} {s:SV} (h:Comps w X x V M K D s) (hk:Carry X w w'):Comps w' X x V M K D s:=by
 obtain ⟨f,h1,h2,h3,h4⟩:=h.arr;refine ⟨f,h1.carry hk fun g e _=>h2 g e,h2,fun l hl=>?_,fun k hkV=>?_⟩
 ·obtain ⟨b,x1,x2,x3⟩:=h3 l hl;exact ⟨b,x1,x2,hk.cell (p:=⟨b,0,none⟩) x1 x3⟩
 ·obtain ⟨bd,bk,br,ro,cr,x1,x2,x3,x4,x5,x6,x7,x8,x9,x10,x11⟩:=h4 k hkV;exact ⟨bd,bk,br,ro,cr,x1,x2,x3,x4,x5,hk.cell (p:=⟨bd,0,none⟩) x1 x6,hk.cell (p:=⟨bk,0,none⟩) x2 x7,hk.cell (p:=⟨br,0,none⟩) x3 x8,x9,x10,hk.cell (p:=⟨ro,k,none⟩) x4 x11⟩
end
attribute [local go_sem] Oper.semAt_some
def Cands (p:Nat->Prop):Nat->List Nat->Prop
 | 0,ys=>ys=[]
 | c+1,ys=>∃ zs,Cands p c zs/\((p c/\ys=zs++[c])\/(¬ p c/\ys=zs))
theorem Cands.length {p:Nat->Prop}:∀ {c:Nat} {ys:List Nat},Cands p c ys->ys.length<=c
 | 0,ys,h=>by have:ys=[]:=h; subst this; simp
 | c+1,ys,h=>by
  obtain ⟨zs,h1,h2⟩:=h;have:=Cands.length h1;rcases h2 with ⟨_,rfl⟩ | ⟨_,rfl⟩
  ·simp; omega
  ·omega
theorem Cands.mem {p:Nat->Prop}:∀ {c:Nat} {ys:List Nat},Cands p c ys->∀ j,j ∈ ys ↔ j<c/\p j
 | 0,ys,h,j=>by have:ys=[]:=h; subst this; simp
 | c+1,ys,h,j=>by
  obtain ⟨zs,h1,h2⟩:=h;have ih:=Cands.mem h1 j;rcases h2 with ⟨hp,rfl⟩ | ⟨hp,rfl⟩
  ·rw [List.mem_append,ih,List.mem_singleton];constructor
   ·rintro (⟨a,b⟩ | rfl)
    ·exact ⟨by omega,b⟩
    ·exact ⟨by omega,hp⟩
   ·rintro ⟨a,b⟩;by_cases e:j=c
    ·exact .inr e
    ·exact .inl ⟨by omega,b⟩
  ·rw [ih];constructor
   ·rintro ⟨a,b⟩; exact ⟨by omega,b⟩
   ·rintro ⟨a,b⟩;by_cases e:j=c
    ·subst e; exact absurd b hp
    ·exact ⟨by omega,b⟩
def SignAt (N:Nat) (f:Nat->Rat) (i:Nat) (s:Int):Prop:=(s=0/\∀ l,l<i->f l=0)\/(s=-1/\Lin.LexNeg N f)\/(s=1/\¬ Lin.LexNeg N f)
theorem SignAt.step {N:Nat} {f:Nat->Rat} {i:Nat} (h:∀ l,l<i->f l=0) (hi:i<N):SignAt N f (i+1) (qsign (f i)):=by
 by_cases h1:f i<0
 ·exact .inr (.inl ⟨if_pos h1,i,hi,h1,h⟩)
 ·by_cases h2:f i=0
  ·exact .inl ⟨by rw [h2]; rfl,fun l hl=>by by_cases e:l=i; subst e; exact h2; exact h l (by omega)⟩
  ·refine .inr (.inr ⟨by unfold qsign; rw [if_neg h1,if_neg h2],fun ⟨k,hk,hn,hz⟩=>?_⟩);by_cases e:k<i
   ·rw [h k e] at hn; grind
   ·by_cases e2:k=i
    ·subst e2; exact h1 hn
    ·exact h2 (hz i (by omega))
end Go.Proofs.YtpjaodcimomaiaaGreat
namespace Go.Proofs.YtpjaodcimomaiaaGreat
open Go.RowKit Go.Shelf
def zeroS (n:Nat):Array Value:=madeCells #[Value.slice none 0 0] n
theorem zIb (n:Nat):(zeroS n).size=n:=by simp [zeroS,madeCells]
theorem zHV (n:Nat) (hn:n<=1000000) (w:World) :
  (Instr.makeSlice 26 (.int .i64 (n:Int)) (.int .i64 (n:Int))).run Tryz.prog w = .ok (.slice (some ⟨w.heap.size,0,none⟩) n n) (w.alloc (.cells (zeroS n) 24)):=by
 obtain ⟨i0,hi,hz0,hz1,hz2⟩:=info_parts zFA;have hr:=run_make (P:=Tryz.prog) w 26 24 i0 (.slice none 0 0) Tryz.underlying26 hi hz0 .i64 .i64 n n (by omega) (by omega) (by rw [hz2]; omega) (by omega);rw [hz1] at hr;simpa [zeroS,Value.cells] using hr
theorem RowAt.zero {W:World} {b n:Nat} {G:Nat->Prop} (hh:W.heap[b]?=some (.cells (zeroQ n) 37 (0,0))) (hG:G b):RowAt W G b (List.replicate n 0):=by
 refine ⟨hG,⟨_,hh,by simp [zCG]⟩,fun k hk=>⟨⟨⟨false,none,0,0⟩,⟨false,none,0,0⟩⟩,?_,?_⟩⟩
 ·rw [List.length_replicate] at hk;obtain ⟨h0,h1,h2,h3⟩:=zGh n k hk;have get:∀ o,W.cell? ⟨b,o,none⟩=(zeroQ n)[o]?:=by intro o; simp only [World.cell?,hh]; simp
  exact ⟨(get _).trans h0,(get _).trans h1,(get _).trans h2,(get _).trans h3⟩
 ·have:(List.replicate n (0:Rat)).getD k 0=0:=by rw [List.length_replicate] at hk; simp [hk]
  rw [this]; exact QCan.zero _ _
theorem Comps.old {W:World} {X:Nat->Prop} {x:DV} {V M K:Nat} {D:Lin.Dict} {s:SV} (h:Comps W X x V M K D s):Comps W (fun b=>b<W.heap.size) x V M K D s:=by
 obtain ⟨f,h1,h2,h3,h4⟩:=h.arr;refine ⟨f,h1,fun g e=>?_,fun l hl=>?_,fun k hkV=>?_⟩
 ·rcases h1.blk with ⟨h0,_⟩ | ⟨g',cs,e',hb,_⟩
  ·rw [h0] at e; cases e
  ·rw [e] at e'; cases e'; exact zAa hb
 ·obtain ⟨b,x1,x2,x3⟩:=h3 l hl;exact ⟨b,zAb x3,x2,x3⟩
 ·obtain ⟨bd,bk,br,ro,cr,x1,x2,x3,x4,x5,x6,x7,x8,x9,x10,x11⟩:=h4 k hkV;exact ⟨bd,bk,br,ro,cr,zAb x6,zAb x7,zAb x8,zAb x11,x5,x6,x7,x8,x9,x10,x11⟩
structure YS (w2 W:World) (yb M N:Nat) (yr:Nat->Nat) (B:Nat) (F:Nat->Nat->Rat):Prop where
 bel:Below w2.heap.size w2 W
 arr:Arr W ⟨some ⟨yb,0,none⟩,M,M⟩ M 24 fun i=>rowVal N (yr i)
 rows:∀ i,i<M->RowAt W (fun y=>y<B) (yr i) ((List.range N).map (F i))
 inj:∀ i j,i<M->j<M->yr i=yr j->i=j
 low:∀ i,i<M->w2.heap.size<=yr i
 hB:B<=W.heap.size
theorem YS.call {w2 W W':World} {yb M N B:Nat} {yr:Nat->Nat} {F:Nat->Nat->Rat} (h:YS w2 W yb M N yr B F) (hb:Below W.heap.size W W'):YS w2 W' yb M N yr B F:=
 ⟨h.bel.trans (hb.mono h.bel.size),h.arr.below hb,fun i hi=>(h.rows i hi).below hb,h.inj,h.low,nlt h.hB hb.size⟩
theorem YS.put4 {w2 W:World} {yb M N B:Nat} {yr:Nat->Nat} {F:Nat->Nat->Rat} (h:YS w2 W yb M N yr B F) {k l:Nat} (hk:k<M) (hl:l<N) {v:QV} {q:Rat} (hv:QCan W (New B) v q):YS w2 (put4 W (yr k) l v) yb M N yr B (Lin.turn F k (Lin.turn (F k) l q)):=by
 have hrow:=h.rows k hk;obtain ⟨cs,e,_⟩:=hrow.blk;have hv':QCan W (fun y=>¬ y<B) v q:=hv.imp fun b _ hb=>by simp only [New] at hb; omega
 refine ⟨zBq h.bel (h.low k hk) _ _,h.arr.keep fun g eg _=>zAx _ _ _ _ (zDD h.arr e (by decide) eg),fun i hi=>?_,h.inj,h.low,by rw [zBI]; exact h.hB⟩;by_cases e:i=k
 ·subst e;rw [Lin.zBL,<-map_set];exact hrow.put4 (by simpa using hl) hv'
 ·rw [Lin.zBh _ e];exact (h.rows i hi).put4_other hrow.mem (fun e'=>e (h.inj i k hi hk e'.symm)) _ _
def OLoop1 (w2:World) (M N:Nat) (t:Value) (W:World):Prop:=
 ∃ i:Nat,i<=M/\t = .int .i64 i/\Below w2.heap.size w2 W/\∃ (cs:Array Value) (yr:Nat->Nat),W.heap[w2.heap.size]?=some (.cells cs 24 (0,0))/\cs.size=M/\(∀ j,j<i->cs[j]?=some (rowVal N (yr j))/\W.heap[yr j]?=some (.cells (zeroQ N) 37 (0,0))/\w2.heap.size<=yr j)/\∀ j j',j<i->j'<i->yr j=yr j'->j=j'
theorem OLoop1.done {w2 W:World} {M N:Nat} (h:OLoop1 w2 M N (.int .i64 M) W) (hM:M<=1000) {F:Nat->Nat->Rat} (hF:∀ i,i<M->(List.range N).map (F i)=List.replicate N 0):∃ yr,YS w2 W w2.heap.size M N yr W.heap.size F:=by
 obtain ⟨i,hi,ei,hb,cs,yr,h1,h2,h3,h4⟩:=h
 obtain rfl:M=i:=by
  have:(M:Int)=(i:Int):=by simpa using ei
  omega
 exact ⟨yr,hb,⟨rfl,nlr _,by show M<=_; omega,.inr ⟨_,cs,rfl,h1,fun k hk=>(h3 k hk).1⟩⟩,fun j hj=>by rw [hF j hj]; exact RowAt.zero (h3 j hj).2.1 (zAa (h3 j hj).2.1),h4,fun j hj=>(h3 j hj).2.2,nlr _⟩
end Go.Proofs.YtpjaodcimomaiaaGreat
