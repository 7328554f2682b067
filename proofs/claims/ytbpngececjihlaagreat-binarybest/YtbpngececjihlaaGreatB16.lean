/- Texts Comp2 Carry Cand Opt of this claim. -/
import Derived.Test.YtbpngececjihlaaGreatB14
import Derived.Test.YtbpngececjihlaaGreatB15
set_option maxHeartbeats 4000000
set_option maxRecDepth 100000
namespace Go.Proofs.YtbpngececjihlaaGreat
open Go.RowKit Go.Shelf
variable {W2 W W' w w0:World} {v' v:Value} {T:TypeId} {b o i V M K n c L N d B1 kb:Nat} {D:Lin.Dict} {s:SV} {X G:Nat->Prop} {pv rw cl z:Int} {A:Option Addr} {ng:Bool} {q:Rat} {l:List Rat} {f:Nat->Rat}
theorem zPI:(Tryz.prog.info? 198).map (fun i=>(i.zero,i.size,i.bytes))=some (some (.agg #[.nilFunc]),1,8):=kj
structure CS (w W:World) (v:Value) (cs:List Value) (Fx:List (Nat × Array Value × TypeId)):Prop where
 bel:Below w w W
 own:W.ownsRow w 198 1 v cs.length cs
 fx:∀ p ∈ Fx,W.heap[p.1]?=some (.cells p.2.1 p.2.2 (0,0))/\p.2.2 ≠ 198/\w.heap.size<=p.1
section
variable {w W W':World} {v:Value} {cs:List Value} {Fx:List (Nat × Array Value × TypeId)}
theorem CS.call (h:CS w W v cs Fx) (hb:Below W W W'):CS w W' v cs Fx:=
 ⟨h.bel.trans (hb.mono h.bel.size),zAr h.own fun j hj=>by
  obtain ⟨_,c,hh⟩:=zAc h.own hj;exact hb.block j (zAa hh),fun p hp=>⟨(hb.block _ (zAa (h.fx p hp).1)).trans (h.fx p hp).1,(h.fx p hp).2⟩⟩
theorem CS.add (h:CS w W v cs Fx) (c:Array Value) (T:TypeId) (hT:T ≠ 198):CS w (W.alloc (.cells c T)) v cs ((W.heap.size,c,T) :: Fx):=by
 have h':=h.call ((brf _ _).alloc (nlr _) (.cells c T));refine ⟨h'.bel,h'.own,fun p hp=>?_⟩;rcases List.mem_cons.1 hp with rfl | hp
 ·exact ⟨zAd _ _ rfl,hT,h.bel.size⟩
 ·exact h'.fx p hp
theorem CS.append (h:CS w W v cs Fx) {o:Obj} {x:Value} (hown:W2.ownsRow w 198 1 v' (cs.length+1) (cs++[x])) (hg:(W.alloc o).grownBy W2 v.ownBlock):CS w W2 v' (cs++[x]) Fx:=by
 have h3:Below w (W.alloc o) W2:=(brf _ _).grown hg (by have:=h.bel.size; simp; omega) (fun j hj=>(zAc h.own hj).1);refine ⟨(h.bel.alloc h.bel.size _).trans h3,by rw [List.length_append]; exact hown,fun p hp=>?_⟩;obtain ⟨f1,f2,f3⟩:=h.fx p hp;have hl:=zAa f1;refine ⟨((hg.block p.1 (by simp; omega) fun e=>?_).trans (Below.heap_alloc _ _ _ hl)).trans f1,f2,f3⟩;obtain ⟨_,c,hh⟩:=zAc h.own e.symm;rw [f1] at hh;simp only [Option.some.injEq,Obj.cells.injEq] at hh;exact f2 hh.2.1
theorem CS.set (h:CS w W v cs Fx) {c:Array Value} (u:Value) (hb:W.heap[b]?=some (.cells c T (0,0))) (hT:T ≠ 198) (hF:∀ p ∈ Fx,p.1 ≠ b) (hw:w.heap.size<=b):CS w (W.setCell ⟨b,o,none⟩ u) v cs Fx:=
 ⟨h.bel.setCell (p:=⟨b,o,none⟩) hw _,zAr h.own fun j hj=>bhs _ _ _ _ (fun e=>by
  obtain ⟨_,c',hh⟩:=zAc h.own hj;dsimp only at e;rw [e,hb] at hh;simp only [Option.some.injEq,Obj.cells.injEq] at hh;exact hT hh.2.1),fun p hp=>⟨(bhs _ _ _ _ (hF p hp)).trans (h.fx p hp).1,(h.fx p hp).2⟩⟩
end
abbrev clo1 (b:Nat):Value:=.func (.func 207) #[] #[.pointer (some b)]
abbrev clo2 (bd bk br:Nat):Value:=.func (.func 208) #[] #[.pointer (some bd),.pointer (some bk),.pointer (some br)]
theorem zHR (inj:∀ j,j<i->D.basic j ≠ D.basic i):rowOf D (i+1)=Lin.turn (rowOf D i) (D.basic i) (i+1):=by
 funext v;unfold rowOf Lin.turn;by_cases hv:v=D.basic i
 ·subst hv;have h1:¬ Lin.find D.basic (D.basic i) i<i:=Lin.zCQ inj;have h2:Lin.find D.basic (D.basic i) (i+1)=i:=by simp [Lin.find,h1]
  rw [h2,if_pos om,if_pos rfl]
 ·rw [if_neg hv];by_cases h1:Lin.find D.basic v i<i
  ·have h2:Lin.find D.basic v (i+1)=Lin.find D.basic v i:=(by simp [Lin.find,h1]);rw [h2,if_pos om]; dsimp only; rw [if_pos h1]
  ·have h2:Lin.find D.basic v (i+1)=i+1:=(by simp [Lin.find,h1,Ne.symm hv]);rw [h2,if_neg om]; dsimp only; rw [if_neg h1]
def CLoop1 (w:World) (x:DV) (V K:Nat) (v t:Value) (W:World):Prop:=
 ∃ l:Nat,l<=K/\t = .int .i64 l/\∃ (bl:Nat->Nat) (Fx:List (Nat × Array Value × TypeId)),CS w W v ((List.range l).map fun j=>clo1 (bl j)) Fx/\(w.heap.size,#[.pointer (some x.d)],129) ∈ Fx/\∀ j,j<l->(bl j,#[rowVal (V+1) (x.cb j)],23) ∈ Fx
def RowOf (W:World) (D:Lin.Dict) (V M i ro:Nat):Prop:=∃ c:Array Value,W.heap[ro]?=some (.cells c 3 (0,0))/\c.size=V+M/\∀ v,v<V+M->c[v]?=some (.int .i64 (rowOf D i v:Nat))
def CLoop2 (w:World) (x:DV) (V M K:Nat) (D:Lin.Dict) (v:Value) (br ro:Nat) (t:Value) (W:World):Prop:=
 ∃ i:Nat,i<=M/\t = .int .i64 i/\RowOf W D V M i ro/\w.heap.size<=ro/\∃ (bl:Nat->Nat) (Fx:List (Nat × Array Value × TypeId)),CS w W v ((List.range K).map fun j=>clo1 (bl j)) Fx/\(w.heap.size,#[.pointer (some x.d)],129) ∈ Fx/\
  (br,#[.slice (some ro) (V+M) (V+M)],48) ∈ Fx/\(∀ j,j<K->(bl j,#[rowVal (V+1) (x.cb j)],23) ∈ Fx)/\∀ p ∈ Fx,p.1 ≠ ro
def CLoop3 (w:World) (x:DV) (V M K:Nat) (D:Lin.Dict) (br ro:Nat) (v t:Value) (W:World):Prop:=
 ∃ k:Nat,k<=V/\t = .int .i64 k/\∃ (c:Array Value) (bl bk:Nat->Nat) (Fx:List (Nat × Array Value × TypeId)),CS w W v ((List.range K).map (fun j=>clo1 (bl j))++(List.range k).map (fun j=>clo2 w (bk j) br)) Fx/\(w.heap.size,#[.pointer (some x.d)],129) ∈ Fx/\
  (br,#[.slice (some ro) (V+M) (V+M)],48) ∈ Fx/\(∀ j,j<K->(bl j,#[rowVal (V+1) (x.cb j)],23) ∈ Fx)/\(∀ j,j<k->(bk j,#[.int .i64 (j:Int)],3) ∈ Fx)/\(ro,c,3) ∈ Fx/\∀ v,v<V+M->c[v]?=some (.int .i64 (rowOf D M v:Nat))
structure Comps (W:World) (X:Nat->Prop) (x:DV) (V M K:Nat) (D:Lin.Dict) (s:SV):Prop where
 arr:∃ f:Nat->Value,Arr W s (K+V) 198 f/\(∀ g,s.A=some ⟨g,0,none⟩->X g)/\(∀ l,l<K->∃ b,X b/\f l=clo1 b/\W.cell? ⟨b,0,none⟩=some (rowVal (V+1) (x.cb l)))/\
  ∀ k,k<V->∃ bd bk br ro cr,X bd/\X bk/\X br/\X ro/\f (K+k)=clo2 bd bk br/\W.cell? ⟨bd,0,none⟩=some (.pointer (some x.d))/\W.cell? ⟨bk,0,none⟩=some (.int .i64 (k:Int))/\W.cell? ⟨br,0,none⟩=some (.slice (some ⟨ro,0,none⟩) (V+M) cr)/\V+M<=cr/\cr<=9223372036854775807/\W.cell? ⟨ro,k,none⟩=some (.int .i64 (rowOf D M k:Nat))
theorem Comps.keep {x:DV} (h:Comps W X x V M K D s) (hk:∀ b,X b->b<W.heap.size->W'.heap[b]?=W.heap[b]?):Comps W' X x V M K D s:=by
 have kc:∀ {b o:Nat} {v:Value},X b->W.cell? ⟨b,o,none⟩=some v->W'.cell? ⟨b,o,none⟩=some v:=fun hx hc=>(cob (hk _ hx (zAb hc))).trans hc
 obtain ⟨f,h1,h2,h3,h4⟩:=h.arr;refine ⟨f,h1.keep fun g e hl=>hk g (h2 g e) hl,h2,fun l hl=>?_,fun k hkV=>?_⟩
 ·obtain ⟨b,x1,x2,x3⟩:=h3 l hl;exact ⟨b,x1,x2,kc x1 x3⟩
 ·obtain ⟨bd,bk,br,ro,cr,x1,x2,x3,x4,x5,x6,x7,x8,x9,x10,x11⟩:=h4 k hkV;exact ⟨bd,bk,br,ro,cr,x1,x2,x3,x4,x5,kc x1 x6,kc x2 x7,kc x3 x8,x9,x10,kc x4 x11⟩
theorem Comps.below {x:DV} (h:Comps W X x V M K D s) (hb:Below W W W'):Comps W' X x V M K D s:=h.keep fun b _ hl=>hb.block b hl
def CompsRet (w:World) (x:DV) (V M K:Nat) (D:Lin.Dict) (e:Ending) (w':World):Prop:=∃ s:SV,e = .returned s.val/\Comps w' (New w) x V M K D s
theorem CLoop3.done {x:DV} {br ro:Nat} (h:CLoop3 w x V M K D br ro v V W) (hV:V+M<=1000000):∃ s:SV,v=s.val/\Comps W (New w) x V M K D s/\Below w w W:=by
 obtain ⟨k,hk,ek,c,bl,bk,Fx,hC,f1,f2,f3,f4,f5,r3⟩:=h;obtain ⟨r1,-,hro⟩:=hC.fx _ f5;dsimp only at r1 hro
 obtain rfl:V=k:=by
  have:(V:Int)=(k:Int):=by simpa using ek
  omega
 have hlen:((List.range K).map (fun j=>clo1 (bl j))++(List.range V).map (fun j=>clo2 w (bk j) br)).length=K+V:=si
 have hown:=hC.own;rw [hlen] at hown
 have cellF:∀ {b:Nat} {u:Value} {T:TypeId},(b,#[u],T) ∈ Fx->W.cell? ⟨b,0,none⟩=some u/\w.heap.size<=b:=fun hm=>by
  obtain ⟨g1,g2,g3⟩:=hC.fx _ hm;exact ⟨by simp only [World.cell?,g1]; simp,g3⟩
 obtain ⟨s,es,ha,hb⟩:=own_arr' (f:=fun l=>if l<K then clo1 (bl l) else clo2 w (bk (l-K)) br) hown fun l hl=>by
  by_cases h:l<K
  ·rw [if_pos h,List.getElem?_append_left (by simpa using h)]; simp [h]
  ·rw [if_neg h,List.getElem?_append_right (by simp; omega)];simp only [List.length_map,List.length_range,List.getElem?_map];rw [List.getElem?_range om]; rfl
 refine ⟨s,es,⟨_,ha,fun g e=>(zAc hown (hb g e)).1,fun l hl=>⟨bl l,(cellF (f3 l hl)).2,if_pos hl,(cellF (f3 l hl)).1⟩,fun k hk=>⟨w.heap.size,bk k,br,ro,V+M,nlr _,(cellF (f4 k hk)).2,(cellF f2).2,hro,?_,(cellF f1).1,(cellF (f4 k hk)).1,(cellF f2).1,nlr _,om,?_⟩⟩,hC.bel⟩
 ·simp
 ·simp only [World.cell?,r1]; rw [<-r3 k om]; simp
def zeroI (n:Nat):Array Value:=madeCells #[Value.int .i64 0] n
theorem zFb (n:Nat):(zeroI n).size=n:=by simp [zeroI,madeCells]
theorem zGg (n k:Nat) (hk:k<n):(zeroI n)[k]?=some (.int .i64 0):=by
 have hl:k<(zeroI n).size:=by rw [zFb]; omega
 rw [Array.getElem?_eq_getElem hl];simp only [zeroI,madeCells,Array.getElem_map,Array.getElem_range];show some (#[Value.int .i64 0][k % 1]!)=_;rw [show k % 1=0 by omega]; rfl
theorem zHU (n:Nat) (hn:n<=1000000) (w:World) :
  (Instr.makeSlice 48 n n).run Tryz.prog w = .ok (.slice (some w) n n) (w.alloc (.cells (zeroI n) 3)):=by
 obtain ⟨i0,hi,hz0,hz1,hz2⟩:=info_parts zG1;have hr:=run_make (P:=Tryz.prog) w 48 3 i0 (.int .i64 0) Tryz.underlying48 hi hz0 .i64 .i64 n n om om (by rw [hz2]; omega) om;rw [hz1] at hr;simpa [zeroI,Value.cells] using hr
theorem RowOf.start {ro:Nat} (h:W.heap[ro]?=some (.cells (zeroI (V+M)) 3 (0,0))):RowOf W D V M 0 ro:=
 ⟨_,h,zFb _,fun v hv=>by rw [zGg _ _ hv]; simp [rowOf,Lin.find]⟩
theorem RowOf.step {ro:Nat} (h:RowOf W D V M i ro) (inj:∀ j,j<i->D.basic j ≠ D.basic i):RowOf (W.setCell ⟨ro,D.basic i,none⟩ (.int .i64 ((i:Int)+1))) D V M (i+1) ro:=by
 obtain ⟨c,h1,h2,h3⟩:=h;refine ⟨_,zAe _ h1,by simpa using h2,fun v hv=>?_⟩;rw [zHR inj,Array.getElem?_setIfInBounds];by_cases e:D.basic i=v
 ·rw [if_pos e,if_pos (by rw [h2]; omega)]; simp [Lin.turn,e]
 ·rw [if_neg e,h3 v hv,Lin.zBh _ (Ne.symm e)]
theorem RowOf.cell {ro:Nat} (h:RowOf W D V M i ro) {v:Nat} (hv:v<V+M):W.cell? ⟨ro,v,none⟩=some (.int .i64 (rowOf D i v:Nat))/\∀ o,W.frozen? ⟨ro,o,none⟩=false:=by
 obtain ⟨c,h1,h2,h3⟩:=h;exact ⟨by simp only [World.cell?,h1]; rw [<-h3 v hv]; simp,fun o=>by simp [World.frozen?,h1]⟩
theorem zPk {α:Type} (f:Nat->Nat) (g:Nat->α) (l b:Nat):(List.range (l+1)).map (fun j=>g (Lin.turn f l b j))=(List.range l).map (fun j=>g (f j))++[g b]:=by
 rw [List.range_succ,List.map_append];congr 1
 ·apply List.map_congr_left;intro j hj;rw [List.mem_range] at hj;rw [Lin.zBh _ om]
 ·simp [Lin.turn]
theorem zO6 {x:DV} (h:DA w G x V M K D pv rw cl) (inj:∀ i j,i<M->j<M->D.basic i=D.basic j->i=j) (hB:∀ i,i<M->D.basic i<V+M) (hV:V<=1000) (hM:M<=1000) (hKb:K<=1000) :
  Calls Tryz.prog 157 #[.pointer (some x.d)] w fun e w'=>CompsRet w x V M K D e w'/\Below w w w':=by
 obtain ⟨i0,hi,hz0,hz1,hz2⟩:=info_parts zPI;have HI:=hdq inj;have HB:=hdq hB;clear inj hB;obtain ⟨d,⟨bA,bn,bc⟩,⟨fA,fn,fc⟩,⟨rA,rn,rc⟩,⟨cA,cn,cc⟩,rb,cb⟩:=x;obtain ⟨hdl,rfl,rfl,rfl,rfl,l1,l1',l2,l2',l3,l3',l4,l4'⟩:=h.opn;obtain ⟨c0,c1,c2,c3,c4,c5,c6,c7,c8⟩:=h.cells;dsimp only [SV.val] at c0 c1 c2 c3 c4 c5 c6 c7 c8
 have H1:CLoop1 w ⟨d,⟨bA,M,bc⟩,⟨fA,V,fc⟩,⟨rA,M,rc⟩,⟨cA,K,cc⟩,rb,cb⟩ V K () (.int .i64 0) (w.alloc (.cells #[.pointer (some d)] 129)):=
  ⟨0,nzl _,rfl,fun _=>0,_,CS.add (w:=w) (W:=w) (v:=.slice none 0 0) (cs:=[]) (Fx:=[]) ⟨brf _ _,⟨rfl,.inl ⟨rfl,rfl⟩⟩,fun _ hp=>absurd hp si⟩ _ _ dj,si,fun j hj=>absurd hj om⟩
 go_enter Tryz.func157,Tryz.ntmps157
 go_wp2;clear c0 c1 c2 c3 c4 c5 c6 c7 c8;generalize w.alloc (.cells #[.pointer (some d)] 129)=W0 at *;go_loopw [3,15] (fun v t W=>CLoop1 w ⟨d,⟨bA,M,bc⟩,⟨fA,V,fc⟩,⟨rA,M,rc⟩,⟨cA,K,cc⟩,rb,cb⟩ V K v t W) (fun _ t _=>K-(intOf t).toNat)
 case atStart=>exact H1
 case round=>
  clear H1;obtain ⟨l,hl,rfl,bl,Fx,hC,fD,fB⟩:=hrel;have hwr:=hC.bel.size;by_cases hlt:l<K
  ·obtain ⟨gc,e,r0,r1,r2⟩:=(h.call hC.bel).cst.elem hlt;dsimp only at e r0;subst e;have hown:=hC.own;rw [List.length_map,List.length_range] at hown;(go_wp2_with (at_builtin; refine wpList_append_own_at _ rfl _ _ 194 rfl w 198 i0 (.agg #[.nilFunc]) 1 8 Tryz.underlying194 hi hz0 hz1 hz2 rfl dj u3 l ((List.range l).map fun j=>clo1 (bl j)) rfl ((hown.alloc _).alloc _) ⟨wr+1,0,none⟩ 1 1 [clo1 wr] rfl rfl ?cells ?one ?b1 ?b2 ?b3 ?_));case one=>first | rfl | (intro u hu; simp at hu; subst hu; rfl)
   case b1=>first | omega | (simp [maxLen]; omega)
   case b2=>first | omega | (simp; omega)
   case b3=>first | omega | (simp; omega)
   intro v' W2 hown2 hg hnil hat;obtain ⟨g',c',rfl⟩:=ownsRow_succ hown2;have hC2:=(hC.add #[rowVal (V+1) (cb l)] 23 dj).append (x:=clo1 wr) (by rw [List.length_map,List.length_range]; exact hown2) hg;rw [<-zPk bl clo1] at hC2
   have Hfin:Hid (CLoop1 w ⟨d,⟨bA,M,bc⟩,⟨fA,V,fc⟩,⟨rA,M,rc⟩,⟨some ⟨gc,0,none⟩,K,cc⟩,rb,cb⟩ V K (.slice (some g') (l+1) c') (.int .i64 ((l:Int)+1)) W2):=
    ⟨l+1,om,si,Lin.turn bl l wr,_,hC2,by simp [fD],fun j hj=>by
     by_cases e:j=l
     ·subst e; rw [Lin.zBL]; simp
     ·rw [Lin.zBh _ e]; exact List.mem_cons_of_mem _ (fB j om)⟩
   clear hC hC2 hown hown2 hg hnil hat r0 r1 r2 fD fB;go_wp2;go_roundw;case rel=>exact fn_ Hfin.out
   case measure=>simp [intOf]; omega
  ·have hlK:l=K:=om;rw [hlK] at hC fB;clear hlK;have hD:=h.call hC.bel;obtain ⟨c0,c1,c2,c3,c4,c5,c6,c7,c8⟩:=hD.cells;dsimp only [SV.val] at c0 c1 c2 c3 c4 c5 c6 c7 c8;obtain ⟨bd0,-,-⟩:=hC.fx _ fD;dsimp only at bd0;have b0:wr.cell? w=some (.pointer (some d)):=by simp only [World.cell?,bd0]; simp
   have hmk:=zHU (V+M) om;have hsum:IntKind.i64.wrap ((V:Int)+(M:Int))=(V:Int)+(M:Int):=IntWalk.i64_in _ om
   have hmk':∀ w,(Instr.makeSlice 48 (.int .i64 ((V:Int)+(M:Int))) (.int .i64 ((V:Int)+(M:Int)))).run Tryz.prog w = .ok (.slice (some ⟨w,0,none⟩) (V+M) (V+M)) (w.alloc (.cells (zeroI (V+M)) 3)):=by
    intro w; have:=hmk w; simpa using this
   clear hmk;(go_upto_region 7 with fail);have hBW:w.heap.size<=wr.heap.size:=hwr;have t1:d<wr.heap.size:=om;have bl0:w.heap.size<wr.heap.size:=zAb b0;go_cut [6] from 10 (fun p W=>∃ br ro,p = .pointer (some ⟨br,0,none⟩)/\CLoop2 w ⟨d,⟨bA,M,bc⟩,⟨fA,V,fc⟩,⟨rA,M,rc⟩,⟨cA,K,cc⟩,rb,cb⟩ V M K D u3 br ro (.int .i64 0) W)
   case first=>
    go_region_held3 (Sees w [] wr) (exact kp)
     (fail)
    ·rename_i hS;clear hS;have hA:=((hC.call ((brf _ _).alloc (nlr _) (.cells (zeroI (V+M)) 3))).add #[.slice (some wr) (V+M) (V+M)] 48 dj).call (brf _ _).drew;rw [show (wr.alloc (.cells (zeroI (V+M)) 3)).heap.size=wr.heap.size+1 by simp] at hA;have hro:((wr.alloc (.cells (zeroI (V+M)) 3)).alloc (.cells #[.slice (some wr) (V+M) (V+M)] 48)).drew.heap[wr.heap.size]?=some (.cells (zeroI (V+M)) 3 (0,0)):=(Below.heap_alloc _ _ _ si).trans (zAd _ _ rfl);(go_wp2_with fail);go_meet
     case rel=>exact ⟨_,wr.heap.size,rfl,0,nzl _,rfl,RowOf.start hro,hwr,bl,_,hA,List.mem_cons_of_mem _ fD,si,fun j hj=>List.mem_cons_of_mem _ (fB j hj),fun p hp=>by
      rcases List.mem_cons.1 hp with rfl | hp
      ·simp
      ·have:=zAa (hC.fx p hp).1; omega⟩
    ·rename_i hS;clear hS;have hA:=((hC.add #[.slice (some ⟨wr+1,0,none⟩) (V+M) (V+M)] 48 dj).call ((brf _ _).alloc (nlr _) (.cells (zeroI (V+M)) 3))).call (brf _ _).drew;have hro:((wr.alloc (.cells #[.slice (some ⟨wr+1,0,none⟩) (V+M) (V+M)] 48)).alloc (.cells (zeroI (V+M)) 3)).drew.heap[wr.heap.size+1]?=some (.cells (zeroI (V+M)) 3 (0,0)):=zAd (wr.alloc (.cells #[.slice (some ⟨wr+1,0,none⟩) (V+M) (V+M)] 48)) (.cells (zeroI (V+M)) 3) si;(go_wp2_with fail);go_meet
     case rel=>exact ⟨_,wr.heap.size+1,rfl,0,nzl _,rfl,RowOf.start hro,om,bl,_,hA,List.mem_cons_of_mem _ fD,si,fun j hj=>List.mem_cons_of_mem _ (fB j hj),fun p hp=>by
      rcases List.mem_cons.1 hp with rfl | hp
      ·simp
      ·have:=zAa (hC.fx p hp).1; omega⟩
   case rest=>
    obtain ⟨br,ro,rfl,H2⟩:=hcut;have hbw2:Below w w wc:=by obtain ⟨_,_,_,_,_,_,_,hC2,_⟩:=H2; exact hC2.bel
    have bd1:wc.cell? w=some (.pointer (some d)):=by
     obtain ⟨_,_,_,_,_,_,_,hC2,fD2,_⟩:=H2;obtain ⟨bd1,-,-⟩:=hC2.fx _ fD2;dsimp only at bd1;simp only [World.cell?,bd1]; simp
    clear c0 c1 c2 c3 c4 c5 c6 c7 c8 b0 bd0 hC fD fB hmk' hsum t1 bl0 hBW hwr hlt hl;have hD2:=h.call hbw2;obtain ⟨c0,c1,c2,c3,c4,c5,c6,c7,c8⟩:=hD2.cells;dsimp only [SV.val] at c0 c1 c2 c3 c4 c5 c6 c7 c8;clear hD hD2;go_wp2;clear c0 c1 c2 c3 c4 c5 c6 c7 c8 bd1 hbw2;(go_loopw [41] (fun t W=>CLoop2 w ⟨d,⟨bA,M,bc⟩,⟨fA,V,fc⟩,⟨rA,M,rc⟩,⟨cA,K,cc⟩,rb,cb⟩ V M K D u3 br ro t W) (fun t _=>M-(intOf t).toNat));case atStart=>exact H2
    case round=>
     clear H2;obtain ⟨i,hiM,rfl,hRo,hro,bl2,Fx2,hC,fD,fR,fB,fN⟩:=hrel;by_cases hlt:i<M
     ·obtain ⟨gb,e,g0,g1,g2⟩:=(h.call hC.bel).bas.elem hlt;dsimp only at e g0;subst e;have hbi:=HB.out i hlt;obtain ⟨o0,o1⟩:=hRo.cell hbi;obtain ⟨br1,-,-⟩:=hC.fx _ fR;dsimp only at br1;have br0:wr.cell? br=some (.slice (some ro) (V+M) (V+M)):=by simp only [World.cell?,br1]; simp
      have hbi2:(D.basic i:Int)<(V:Int)+(M:Int):=om
      have Hfin:Hid (CLoop2 w ⟨d,⟨some ⟨gb,0,none⟩,M,bc⟩,⟨fA,V,fc⟩,⟨rA,M,rc⟩,⟨cA,K,cc⟩,rb,cb⟩ V M K D u3 br ro (.int .i64 ((i:Int)+1)) (wr.setCell ⟨ro,D.basic i,none⟩ (.int .i64 ((i:Int)+1)))):=by
       have hst:=hRo.step fun j hj e=>by have:=HI.out j i om hlt e; omega
       obtain ⟨cr,z1,-,-⟩:=hRo;exact ⟨i+1,om,si,hst,hro,bl2,Fx2,hC.set _ z1 dj fN hro,fD,fR,fB,fN⟩
      clear hRo hC fD fR fB fN br1;go_wp2;go_roundw;case rel=>exact fn_ Hfin.out
      case measure=>simp [intOf]; omega
     ·have hiM2:i=M:=om;rw [hiM2] at hRo;obtain ⟨cr,z1,z2,z3⟩:=hRo
      have H3:CLoop3 w ⟨d,⟨bA,M,bc⟩,⟨fA,V,fc⟩,⟨rA,M,rc⟩,⟨cA,K,cc⟩,rb,cb⟩ V M K D br ro u3 (.int .i64 0) wr:=by
       refine ⟨0,nzl _,rfl,cr,bl2,fun _=>0,(ro,cr,3) :: Fx2,⟨hC.bel,by simpa using hC.own,fun p hp=>?_⟩,List.mem_cons_of_mem _ fD,List.mem_cons_of_mem _ fR,fun j hj=>List.mem_cons_of_mem _ (fB j hj),fun j hj=>absurd hj om,si,z3⟩;rcases List.mem_cons.1 hp with rfl | hp
       ·exact ⟨z1,by show 3 ≠ 198; decide,hro⟩
       ·exact hC.fx p hp
      obtain ⟨bd1,-,-⟩:=hC.fx _ fD;dsimp only at bd1;have b0:wr.cell? w=some (.pointer (some d)):=by simp only [World.cell?,bd1]; simp
      have hD3:=h.call hC.bel;obtain ⟨c0,c1,c2,c3,c4,c5,c6,c7,c8⟩:=hD3.cells;dsimp only [SV.val] at c0 c1 c2 c3 c4 c5 c6 c7 c8;clear hD3 hC z1 z2 z3 fD fR fB fN bd1 hiM2;go_wp2;clear c0 c1 c2 c3 c4 c5 c6 c7 c8 b0 hiM hlt;obtain ⟨w5,hw5⟩:∃ w5:World,w5=wr:=⟨_,rfl⟩;rw [<-hw5] at H3 ⊢;clear hw5;(go_loopw [3,56] (fun v t W=>CLoop3 w ⟨d,⟨bA,M,bc⟩,⟨fA,V,fc⟩,⟨rA,M,rc⟩,⟨cA,K,cc⟩,rb,cb⟩ V M K D br ro v t W) (fun _ t _=>V-(intOf t).toNat));case atStart=>exact H3
      case round=>
       clear H3;obtain ⟨k,hk,rfl,c,bl3,bk,Fx,hC,fD,fR,fB,fK,fO,r3⟩:=hrel;have hwr:=hC.bel.size;have hlen:((List.range K).map (fun j=>clo1 (bl3 j))++(List.range k).map (fun j=>clo2 w (bk j) br)).length=K+k:=si;by_cases hlt:k<V
       ·have hown:=hC.own;rw [hlen] at hown;(go_wp2_with (at_builtin; refine wpList_append_own_at _ rfl _ _ 194 rfl w 198 i0 (.agg #[.nilFunc]) 1 8 Tryz.underlying194 hi hz0 hz1 hz2 rfl dj u3 (K+k) ((List.range K).map (fun j=>clo1 (bl3 j))++(List.range k).map (fun j=>clo2 w (bk j) br)) rfl ((hown.alloc _).alloc _) ⟨wr+1,0,none⟩ 1 1 [clo2 w wr br] rfl rfl ?cellsz ?onez ?b1z ?b2z ?b3z ?_));case onez=>first | rfl | (intro u hu; simp at hu; subst hu; rfl)
        case b1z=>first | omega | (simp [maxLen]; omega)
        case b2z=>first | omega | (simp; omega)
        case b3z=>first | omega | (simp; omega)
        intro v' W2 hown2 hg hnil hat;obtain ⟨g',c',rfl⟩:=ownsRow_succ hown2;have hC2:=(hC.add #[.int .i64 (k:Int)] 3 dj).append (x:=clo2 w wr br) (v':=.slice (some g') (K+k+1) c') (by rw [hlen,List.append_assoc]; exact hown2) hg;rw [List.append_assoc,<-zPk bk (fun b=>clo2 w b br)] at hC2
        have Hfin:Hid (CLoop3 w ⟨d,⟨bA,M,bc⟩,⟨fA,V,fc⟩,⟨rA,M,rc⟩,⟨cA,K,cc⟩,rb,cb⟩ V M K D br ro (.slice (some g') (K+k+1) c') (.int .i64 ((k:Int)+1)) W2):=
         ⟨k+1,om,si,c,bl3,Lin.turn bk k wr,_,hC2,List.mem_cons_of_mem _ fD,List.mem_cons_of_mem _ fR,fun j hj=>List.mem_cons_of_mem _ (fB j hj),fun j hj=>by
          by_cases e:j=k
          ·subst e; rw [Lin.zBL]; simp
          ·rw [Lin.zBh _ e]; exact List.mem_cons_of_mem _ (fK j om),List.mem_cons_of_mem _ fO,r3⟩
        clear hC hC2 hown hown2 hg hnil hat fD fB fR fK fO r3 hlen;go_wp2;go_roundw;case rel=>exact fn_ Hfin.out
        case measure=>simp [intOf]; omega
       ·have hkV:k=V:=om;rw [hkV] at hC fK;have Hfin:Hid (CLoop3 w ⟨d,⟨bA,M,bc⟩,⟨fA,V,fc⟩,⟨rA,M,rc⟩,⟨cA,K,cc⟩,rb,cb⟩ V M K D br ro u3 V wr):=⟨V,nlr _,rfl,c,bl3,bk,Fx,hC,fD,fR,fB,fK,fO,r3⟩;clear hC fD fB fR fK fO r3 hlen hkV;obtain ⟨s,hs,hcomp,hbel⟩:=CLoop3.done Hfin.out om;subst hs;clear Hfin;go_wp2;go_ret;exact ⟨⟨s,rfl,hcomp⟩,hbel⟩
structure Carry (X:Nat->Prop) (w w':World):Prop where
 size:w.heap.size<=w'.heap.size
 blk:∀ k cs t f,X k->w.heap[k]?=some (.cells cs t f)->w'.heap[k]?=some (.cells cs t f)
section
variable {X Y:Nat->Prop} {w w' w'':World}
theorem Carry.refl (X:Nat->Prop) (w:World):Carry X w w:=⟨nlr _,fun _ _ _ _ _ h=>h⟩
theorem Carry.trans (h:Carry X w w') (k:Carry X w' w''):Carry X w w'':=⟨nlt h.size k.size,fun b cs t f hx hb=>k.blk b cs t f hx (h.blk b cs t f hx hb)⟩
theorem Carry.mono (h:Carry X w w') (hY:∀ b,Y b->X b):Carry Y w w':=⟨h.size,fun b cs t f hy hb=>h.blk b cs t f (hY b hy) hb⟩
theorem Carry.of_below (h:Below w w w'):Carry X w w':=⟨h.size,fun b _cs _t _f _ hb=>(h.block b (zAa hb)).trans hb⟩
theorem Carry.cell (h:Carry X w w') {p:Addr} (hx:X p.block) (hc:w.cell? p=some v):w'.cell? p=some v:=by
 unfold World.cell? at hc
 cases hb:w.heap[p.block]? with
 | none=>rw [hb] at hc; cases hc
 | some o=>
  cases o with
  | cells cs t f=>rw [hb] at hc; unfold World.cell?; rw [h.blk _ cs t f hx hb]; exact hc
  | _=>rw [hb] at hc; cases hc
theorem Carry.putObj {l:Nat} {o:Obj} (o':Obj) (hl:w.heap[l]?=some o) (ho:o.isCells=false):Carry X w (w.putObj l o'):=
 ⟨si,fun k cs t f _ hk=>(World.putObj_heap_other (by rintro rfl; rw [hk] at hl; cases hl; cases ho)).trans hk⟩
theorem Carry.grown {row:Option Nat} (hg:w.grownBy w' row) (hr:∀ r,row=some r->∃ o:Obj,w.heap[r]?=some o/\o.isCells=false):Carry X w w':=
 ⟨hg.size,fun _k _cs _t _f _ hk=>zAi hg hr hk⟩
theorem WordsAt.carry {l:List Nat} (h:WordsAt w X A n c l) (hk:Carry X w w'):WordsAt w' X A n c l:=
 ⟨h.len,h.le,h.cap,h.ok,fun k hkn=>by
  obtain ⟨ad,e,hx,hc⟩:=h.cell k hkn;exact ⟨ad,e,hx,hk.cell (by rw [zAj]; exact hx) hc⟩⟩
theorem ZAt.carry (h:ZAt w X ng A n c z) (hk:Carry X w w'):ZAt w' X ng A n c z:=⟨h.sign,h.words.carry hk⟩
theorem ZIs.carry {z:ZV} {x:Int} (h:ZIs w X L z x) (hk:Carry X w w'):ZIs w' X L z x:=by obtain ⟨l,h1,h2⟩:=h; exact ⟨l,h1.carry hk,h2⟩
theorem QIs.carry {v:QV} (h:QIs w X L v q) (hk:Carry X w w'):QIs w' X L v q:=by obtain ⟨x,y,h1,h2,h3⟩:=h; exact ⟨x,y,h1.carry hk,h2.carry hk,h3⟩
theorem QCan.carry {v:QV} (h:QCan w X v q) (hk:Carry X w w'):QCan w' X v q:=⟨h.1.carry hk,h.2.carry hk⟩
theorem QCell.carry {p:Addr} {v:QV} (h:QCell w p v) (hk:Carry X w w') (hx:X p.block):QCell w' p v:=
 ⟨hk.cell hx h.1,hk.cell (p:=⟨p.block,p.off+1,none⟩) hx h.2.1,hk.cell (p:=⟨p.block,p.off+2,none⟩) hx h.2.2.1,hk.cell (p:=⟨p.block,p.off+3,none⟩) hx h.2.2.2⟩
theorem RowAt.carry (h:RowAt w G b l) (hk:Carry (fun y=>y<w.heap.size) w w'):RowAt w' G b l:=by
 have hlt:=h.lt;obtain ⟨cs,e,hs⟩:=h.blk;refine ⟨h.mem,⟨cs,hk.blk b cs _ _ hlt e,hs⟩,fun k hkl=>?_⟩;obtain ⟨v,h1,h2⟩:=h.elem k hkl;exact ⟨v,h1.carry hk hlt,((h2.imp (Y:=fun y=>¬ G y/\y<w.heap.size) fun b hb hg=>⟨hg,hb⟩).carry (hk.mono fun b hb=>hb.2)).imp fun b _ hb=>hb.1⟩
theorem Arr.carry {f:Nat->Value} (h:Arr w s n T f) (hk:Carry X w w') (hx:∀ g,s.A=some ⟨g,0,none⟩->g<w.heap.size->X g):Arr w' s n T f:=
 ⟨h.len,h.le,h.cap,by
  rcases h.blk with h0 | ⟨g,cs,e,hb,hc⟩
  ·exact .inl h0
  ·exact .inr ⟨g,cs,e,hk.blk g cs _ _ (hx g e (zAa hb)) hb,hc⟩⟩
theorem DA.carry {x:DV} (h:DA w G x V M K D pv rw cl) (hk:Carry (fun y=>y<w.heap.size) w w'):DA w' G x V M K D pv rw cl:=
 ⟨hk.blk _ _ _ _ h.dlt h.blk,h.bas.carry hk fun _g _ hl=>hl,h.fre.carry hk fun _g _ hl=>hl,h.row.carry hk fun _g _ hl=>hl,h.cst.carry hk fun _g _ hl=>hl,fun i hi=>(h.rows i hi).carry hk,fun i hi=>(h.csts i hi).carry hk,h.rinj,h.cinj,h.apart,h.bf,
  fun b hg=>ltl (h.gin b hg) hk.size,h.gd,h.gb,h.gf,h.gr,h.gc⟩
theorem Comps.carry {x:DV} (h:Comps w X x V M K D s) (hk:Carry X w w'):Comps w' X x V M K D s:=by
 obtain ⟨f,h1,h2,h3,h4⟩:=h.arr;refine ⟨f,h1.carry hk fun g e _=>h2 g e,h2,fun l hl=>?_,fun k hkV=>?_⟩
 ·obtain ⟨b,x1,x2,x3⟩:=h3 l hl;exact ⟨b,x1,x2,hk.cell (p:=b) x1 x3⟩
 ·obtain ⟨bd,bk,br,ro,cr,x1,x2,x3,x4,x5,x6,x7,x8,x9,x10,x11⟩:=h4 k hkV;exact ⟨bd,bk,br,ro,cr,x1,x2,x3,x4,x5,hk.cell (p:=bd) x1 x6,hk.cell (p:=bk) x2 x7,hk.cell (p:=br) x3 x8,x9,x10,hk.cell (p:=⟨ro,k,none⟩) x4 x11⟩
end
attribute [local go_sem] Oper.semAt_some
def Cands (p:Nat->Prop):Nat->List Nat->Prop
 | 0,ys=>ys=[]
 | c+1,ys=>∃ zs,Cands p c zs/\((p c/\ys=zs++[c])\/(¬ p c/\ys=zs))
theorem Cands.length {p:Nat->Prop}:∀ {c:Nat} {ys:List Nat},Cands p c ys->ys.length<=c
 | 0,ys,h=>by have:ys=[]:=h; subst this; simp
 | c+1,ys,h=>by
  obtain ⟨zs,h1,h2⟩:=h;have:=Cands.length h1;rcases h2 with ⟨_,rfl⟩ | ⟨_,rfl⟩
  ·simp; omega
  ·omega
theorem Cands.mem {p:Nat->Prop}:∀ {c:Nat} {ys:List Nat},Cands p c ys->∀ j,j ∈ ys ↔ j<c/\p j
 | 0,ys,h,j=>by have:ys=[]:=h; subst this; simp
 | c+1,ys,h,j=>by
  obtain ⟨zs,h1,h2⟩:=h;have ih:=Cands.mem h1 j;rcases h2 with ⟨hp,rfl⟩ | ⟨hp,rfl⟩
  ·rw [List.mem_append,ih,List.mem_singleton];constructor
   ·rintro (⟨a,b⟩ | rfl)
    ·exact ⟨om,b⟩
    ·exact ⟨om,hp⟩
   ·rintro ⟨a,b⟩;by_cases e:j=c
    ·exact .inr e
    ·exact .inl ⟨om,b⟩
  ·rw [ih];constructor
   ·rintro ⟨a,b⟩; exact ⟨om,b⟩
   ·rintro ⟨a,b⟩;by_cases e:j=c
    ·subst e; exact absurd b hp
    ·exact ⟨om,b⟩
def SignAt (N:Nat) (f:Nat->Rat) (i:Nat) (s:Int):Prop:=(s=0/\∀ l,l<i->f l=0)\/(s=-1/\Lin.LexNeg N f)\/(s=1/\¬ Lin.LexNeg N f)
theorem SignAt.step (h:∀ l,l<i->f l=0) (hi:i<N):SignAt N f (i+1) (qsign (f i)):=by
 by_cases h1:f i<0
 ·exact .inr (.inl ⟨if_pos h1,i,hi,h1,h⟩)
 ·by_cases h2:f i=0
  ·exact .inl ⟨by rw [h2]; rfl,fun l hl=>by by_cases e:l=i; subst e; exact h2; exact h l om⟩
  ·refine .inr (.inr ⟨by unfold qsign; rw [if_neg h1,if_neg h2],fun ⟨k,hk,hn,hz⟩=>?_⟩);by_cases e:k<i
   ·rw [h k e] at hn; grind
   ·by_cases e2:k=i
    ·subst e2; exact h1 hn
    ·exact h2 (hz i om)
theorem zPl :
  CallsIn Fence.wide n Tryz.prog 210 #[.pointer (some d)] w fun e w'=>e = .returned (.func (.func 230) #[] #[.pointer (some w)])/\
   w'=w.alloc (.cells #[.pointer (some d)] 129):=by
 refine callsIn_of_wp Tryz.func210 rfl trivial ?_ rfl;simp only [Tryz.ntmps210,List.size_toArray,List.length_cons,List.length_nil,Nat.reduceAdd,Nat.reduceSub,Array.replicate_succ,Array.replicate_zero,List.push_toArray,List.append_toArray,List.nil_append,List.cons_append];gi_wp2;go_ret;exact ⟨si,si⟩
def colCost (D:Lin.Dict) (M K j l:Nat):Rat:=if l<K then D.c l j else vcost D M (l-K) j
def CIter (w0 W:World) (_G:Nat->Prop) (x:DV) (V M K:Nat) (D:Lin.Dict) (E:Nat->Prop) (s:SV) (p:Nat->Prop) (J:List {j:Nat // j<V/\p j}->World->Prop) (t:Value) (W':World):Prop:=
 ∃ c:Nat,c<=V/\t = .int .i64 c/\(∃ ys,Cands p c (ys.map (·.val))/\J ys W')/\Carry (fun y=>y<w0.heap.size) w0 W'/\Carry (fun y=>¬ E y) W W'/\Comps W' (New W) x V M K D s
def CInner (wr:World) (N:Nat) (f:Nat->Rat) (ts ti:Value) (W':World):Prop:=
 ∃ (i:Nat) (s:Int),i<=N/\ti = .int .i64 i/\ts = .int .i64 s/\SignAt N f i s/\Below wr wr W'
theorem zPL {l:Nat} {x:DV} {E:Nat->Prop} (hn:1<=n) (h:DA w0 G x V M K D pv rw cl)
  (inj:∀ i j,i<M->j<M->D.basic i=D.basic j->i=j) (hB:∀ i,i<M->D.basic i<V+M) (hFr:∀ j,j<V->D.free j<=1000000) (hV:V<=1000) (hM:M<=1000) (hKb:K<=1000)
  (hfa:∀ i j,i<M->j<=V->Lin.Fits kb (D.a i j)) (hfc:∀ i j,i<K->j<=V->Lin.Fits kb (D.c i j)) (hk:2*kb+1<=LM)
  (p:Nat->Prop) (hp:∀ j,j<V->(p j ↔ Lin.LexNeg (K+V) (colCost D M K j)))
  (J Jx:List {j:Nat // j<V/\p j}->World->Prop) (W:World) (hJ:AbidesFrom W J)
  (hY:∀ pre y W1,J pre W1->pre.length<V->YieldAt Fence.wide (n-1) Tryz.prog l #[.int .i64 (y.val:Int)] W1 fun e W'=>
   (e = .returned true/\J (pre++[y]) W'/\Carry (fun y=>¬ E y) W1 W')\/(e = .returned false/\Jx (pre++[y]) W'))
  (hb1:W.heap[B1]?=some (.cells #[.pointer (some x.d)] 129 (0,0))) (hE1:∀ y,E y->w0.heap.size<=y) (hE2:∀ y,E y->y<W.heap.size) (_:¬ E B1) (hc:Carry (fun y=>y<w0.heap.size) w0 W) (h0:J [] W) :
  CallsIn Fence.wide n Tryz.prog 230 #[.func (.yield l) #[] #[],.pointer (some B1)] W fun e W'=>(∃ v,e = .returned v)/\
   ((∃ ys,Cands p V (ys.map (·.val))/\J ys W')\/(∃ pre,True/\Jx pre W')):=by
 have HK:=hdq hk;have HK1:Hid (kb+1<=LM):=by show kb+1<=LM; omega
 have HFA:=hdq hfa;have HFC:=hdq hfc;have HI:=hdq inj;have HB:=hdq hB;have HFr:=hdq hFr;have HP:=hdq hp;have HY:=hdq hY;have HJ:=hdq hJ;have HE1:=hdq hE1;have HE2:=hdq hE2;clear hk hfa hfc inj hB hFr hp hY hJ hE1 hE2;have hD:=h.carry hc;obtain ⟨d,⟨bA,bn,bc⟩,⟨fA,fn,fc⟩,⟨rA,rn,rc⟩,⟨cA,cn,cc⟩,rb,cb⟩:=x;obtain rfl:M=bn:=h.bas.len.symm;obtain rfl:V=fn:=h.fre.len.symm;obtain rfl:M=rn:=h.row.len.symm;obtain rfl:K=cn:=h.cst.len.symm;have l2:V<=fc:=h.fre.le;have l2':fc<=9223372036854775807:=h.fre.cap;have b0:W.cell? B1=some (.pointer (some d)):=by simp only [World.cell?,hb1]; simp
 have hbl:B1<W.heap.size:=zAa hb1;refine callsIn_of_wp Tryz.func230 rfl trivial ?_ rfl;simp only [Tryz.ntmps230,List.size_toArray,List.length_cons,List.length_nil,Nat.reduceAdd,Nat.reduceSub,Array.replicate_succ,Array.replicate_zero,List.push_toArray,List.append_toArray,List.nil_append,List.cons_append];gi_wp2;refine ⟨trivial,?_⟩;refine (callsIn_wide.2 (zO6 hD HI.out HB.out hV hM hKb)).mono ?_;rintro e w1 ⟨⟨s,rfl,hcomp⟩,hbw1⟩;have hD1:=hD.call hbw1;obtain ⟨-,-,c2,-⟩:=hD1.cells;dsimp only [SV.val] at c2;have b1:w1.cell? B1=some (.pointer (some d)):=(hbw1.cell (p:=B1) hbl).trans b0;have hgb:W.grownBy w1 none:=⟨hbw1.os,hbw1.tape,hbw1.output,hbw1.size,fun k hk _=>hbw1.block k hk⟩
 have H1:CIter w0 W G ⟨d,⟨bA,M,bc⟩,⟨fA,V,fc⟩,⟨rA,M,rc⟩,⟨cA,K,cc⟩,rb,cb⟩ V M K D E s p J (.int .i64 0) w1:=
  ⟨0,nzl _,rfl,⟨[],rfl,HJ.out [] W w1 none h0 hgb (fun r e=>by cases e)⟩,hc.trans (Carry.of_below hbw1),Carry.of_below hbw1,hcomp⟩
 clear hgb hcomp hD hD1;gi_wp2;clear c2 b1 hbw1;obtain ⟨sA,sn,sc⟩:=s;obtain rfl:K+V=sn:=by obtain ⟨_,_,_,_,_,_,hcm⟩:=H1; obtain ⟨f,hf,_⟩:=hcm.arr; exact hf.len.symm
 have l5:K+V<=sc/\sc<=9223372036854775807:=by obtain ⟨_,_,_,_,_,_,hcm⟩:=H1; obtain ⟨f,hf,_⟩:=hcm.arr; exact ⟨hf.le,hf.cap⟩
 obtain ⟨l5,l5'⟩:=l5;dsimp only [SV.val];gi_loopw [14] (fun t W'=>CIter w0 W G ⟨d,⟨bA,M,bc⟩,⟨fA,V,fc⟩,⟨rA,M,rc⟩,⟨cA,K,cc⟩,rb,cb⟩ V M K D E ⟨sA,K+V,sc⟩ p J t W') (fun t _=>V-(intOf t).toNat)
 case atStart=>exact H1
 case round=>
  clear H1;obtain ⟨c,hcV,rfl,⟨ys,hys,hJs⟩,hcar,hcarE,hcm⟩:=hrel;by_cases hlt:c<V
  ·gi_wp2;obtain ⟨w2,hw2⟩:∃ w2:World,w2=wr:=⟨_,rfl⟩;have H2:CInner w2 (K+V) (colCost D M K c) (.int .i64 0) (.int .i64 0) wr:=⟨0,0,nzl _,rfl,rfl,.inl ⟨rfl,fun l hl=>om⟩,by rw [hw2]; exact brf _ _⟩;rw [<-hw2] at hJs hcar hcarE hcm;clear hw2;have hD2:=h.carry hcar;(gi_loopw [5,6] (fun ts ti W'=>CInner w2 (K+V) (colCost D M K c) ts ti W') (fun _ ti _=>K+V-(intOf ti).toNat));case atStart=>exact H2
   case round=>
    clear H2;obtain ⟨i,sg,hi,rfl,rfl,hsg,hbl2⟩:=hrel;by_cases hgo:i<K+V/\sg=0
    ·obtain ⟨hiN,rfl⟩:=hgo
     have hz:∀ l,l<i->colCost D M K c l=0:=by
      rcases hsg with ⟨_,h⟩ | ⟨h,_⟩ | ⟨h,_⟩
      ·exact h
      ·omega
      ·omega
     have hD3:=hdq (hD2.call hbl2);have hcm3:=hdq (hcm.below hbl2);obtain ⟨f,hf,-,hf1,hf2⟩:=hcm3.out.arr;obtain ⟨g,e,g0,g1,g2⟩:=hf.elem hiN;dsimp only at e;subst e;have hiI:(i:Int)<(K:Int)+(V:Int):=om;by_cases hiK:i<K
     ·obtain ⟨b,-,eb,cb0⟩:=hf1 i hiK;rw [eb] at g0;clear hf hf1 hf2 hsg;gi_wp2;refine ⟨trivial,?_⟩;refine (callsIn_wide.2 (zPd hD3.out hiK hlt hV cb0)).mono ?_;rintro e w3 ⟨⟨v,rfl,hv⟩,hb3⟩;gi_wp2;refine ⟨trivial,?_⟩;refine (callsIn_wide.2 (zAn (hv.qis (zAv (HFC.out i c hiK om))))).mono ?_;rintro e w4 ⟨rfl,hb4⟩
      have Hfin:Hid (CInner w2 (K+V) (colCost D M K c) (.int .i64 (qsign (D.c i c))) (.int .i64 ((i:Int)+1)) w4):=⟨i+1,_,om,si,rfl,by
       have:=SignAt.step hz hiN
       rwa [show colCost D M K c i=D.c i c from if_pos hiK] at this,hbl2.trans ((hb3.trans (hb4.mono hb3.size)).mono hbl2.size)⟩
      clear hz hD3 hcm3 g0 g1 g2 cb0;gi_wp2;exact ⟨Hfin.out,by simp [intOf]; omega⟩
     ·obtain ⟨bd,bk,br,ro,cr,-,-,-,-,ef,d1,d2,d3,d4,d5,d6⟩:=hf2 (i-K) om;rw [show K+(i-K)=i by omega] at ef;rw [ef] at g0;clear hf hf1 hf2 hsg
      have hq:Lin.Fits kb (vcost D M (i-K) c):=by
       unfold vcost
       split
       ·exact Lin.Fits.one _
       ·split
        ·rename_i hfn; exact (HFA.out _ c hfn om).neg
        ·exact Lin.Fits.zero _
      gi_wp2;refine ⟨trivial,?_⟩;refine (callsIn_wide.2 (zPe (kb:=kb) hD3.out (show i-K<V by omega) hlt hV hM HFr.out d1 d2 d3 d4 d5 d6 HFA.out HK.out)).mono ?_;rintro e w3 ⟨⟨v,rfl,hv⟩,hb3⟩;gi_wp2;refine ⟨trivial,?_⟩;refine (callsIn_wide.2 (zAn (hv.qis (zAv hq)))).mono ?_;rintro e w4 ⟨rfl,hb4⟩
      have Hfin:Hid (CInner w2 (K+V) (colCost D M K c) (.int .i64 (qsign (vcost D M (i-K) c))) (.int .i64 ((i:Int)+1)) w4):=⟨i+1,_,om,si,rfl,by
       have:=SignAt.step hz hiN
       rwa [show colCost D M K c i=vcost D M (i-K) c from if_neg hiK] at this,hbl2.trans ((hb3.trans (hb4.mono hb3.size)).mono hbl2.size)⟩
      clear hz hD3 hcm3 g0 g1 g2 d1 d2 d3 d6;gi_wp2;exact ⟨Hfin.out,by simp [intOf]; omega⟩
    ·have hres:(sg=-1/\p c)\/((sg=0\/sg=1)/\¬ p c):=by
      rcases hsg with ⟨h1,h2⟩ | ⟨h1,h2⟩ | ⟨h1,h2⟩
      ·refine .inr ⟨.inl h1,fun hpc=>?_⟩;obtain ⟨k,hkN,hkn,_⟩:=(HP.out c hlt).1 hpc;rw [h2 k om] at hkn;grind
      ·exact .inl ⟨h1,(HP.out c hlt).2 h2⟩
      ·exact .inr ⟨.inr h1,fun hpc=>h2 ((HP.out c hlt).1 hpc)⟩
     have hgb:w2.grownBy wr none:=⟨hbl2.os,hbl2.tape,hbl2.output,hbl2.size,fun k hk _=>hbl2.block k hk⟩;have hJ2:=HJ.out ys w2 wr none hJs hgb (fun r e=>by cases e);have hcar2:=hcar.trans (Carry.of_below hbl2);have hcarE2:=hcarE.trans (Carry.of_below hbl2);have hcm2:=hcm.below hbl2;have hlen:=hys.length;rw [List.length_map] at hlen;have Hys:=hdq hys;have hexit:(i<K+V->¬ (sg=0)):=(fun a b=>hgo ⟨a,b⟩);clear hsg hJs hcar hcarE hcm hgb hys hgo;rcases hres with ⟨rfl,hpc⟩ | ⟨hs01,hpc⟩
     ·obtain ⟨fn,tmps,assign,body,hy,hR⟩:=HY.out ys ⟨c,hlt,hpc⟩ wr hJ2 om;dsimp only at hy;by_cases hiN:i<K+V
      ·clear hexit;gi_wp2;refine hR.mono ?_;rintro e W3 (⟨rfl,hJ3,hk3⟩ | ⟨rfl,hJx3⟩)
       ·have Hfin:Hid (CIter w0 W G ⟨d,⟨bA,M,bc⟩,⟨fA,V,fc⟩,⟨rA,M,rc⟩,⟨cA,K,cc⟩,rb,cb⟩ V M K D E ⟨sA,K+V,sc⟩ p J (.int .i64 ((c:Int)+1)) W3):=
         ⟨c+1,om,si,⟨_,⟨_,Hys.out,.inl ⟨hpc,si⟩⟩,hJ3⟩,hcar2.trans (hk3.mono fun y hy hE=>by have:=HE1.out y hE; omega),hcarE2.trans hk3,hcm2.carry (hk3.mono fun y hy hE=>by have:=HE2.out y hE; simp only [New] at hy; omega)⟩
        clear hJ3 hk3 hcar2 hcarE2 hcm2 hJ2;gi_wp2;exact ⟨Hfin.out,by simp [intOf]; omega⟩
       ·gi_wp2;exact bodyPost_ret (results_none rfl _ _ _) rfl ⟨⟨_,rfl⟩,.inr ⟨_,trivial,hJx3⟩⟩
      ·clear hexit;gi_wp2;refine hR.mono ?_;rintro e W3 (⟨rfl,hJ3,hk3⟩ | ⟨rfl,hJx3⟩)
       ·have Hfin:Hid (CIter w0 W G ⟨d,⟨bA,M,bc⟩,⟨fA,V,fc⟩,⟨rA,M,rc⟩,⟨cA,K,cc⟩,rb,cb⟩ V M K D E ⟨sA,K+V,sc⟩ p J (.int .i64 ((c:Int)+1)) W3):=
         ⟨c+1,om,si,⟨_,⟨_,Hys.out,.inl ⟨hpc,si⟩⟩,hJ3⟩,hcar2.trans (hk3.mono fun y hy hE=>by have:=HE1.out y hE; omega),hcarE2.trans hk3,hcm2.carry (hk3.mono fun y hy hE=>by have:=HE2.out y hE; simp only [New] at hy; omega)⟩
        clear hJ3 hk3 hcar2 hcarE2 hcm2 hJ2;gi_wp2;exact ⟨Hfin.out,by simp [intOf]; omega⟩
       ·gi_wp2;exact bodyPost_ret (results_none rfl _ _ _) rfl ⟨⟨_,rfl⟩,.inr ⟨_,trivial,hJx3⟩⟩
     ·have Hfin:Hid (CIter w0 W G ⟨d,⟨bA,M,bc⟩,⟨fA,V,fc⟩,⟨rA,M,rc⟩,⟨cA,K,cc⟩,rb,cb⟩ V M K D E ⟨sA,K+V,sc⟩ p J (.int .i64 ((c:Int)+1)) wr):=
       ⟨c+1,om,si,⟨_,⟨_,Hys.out,.inr ⟨hpc,rfl⟩⟩,hJ2⟩,hcar2,hcarE2,hcm2⟩
      have hn0:¬ (sg<0):=om;clear hcar2 hcarE2 hcm2 hJ2;by_cases hiN:i<K+V
      ·have hs1:sg=1:=by have:=hexit hiN; omega
       subst hs1;clear hexit hs01 hn0;gi_wp2;refine ⟨fun f hf=>(by cases hf),?_⟩;gi_wp2;exact ⟨Hfin.out,by simp [intOf]; omega⟩
      ·clear hexit;rcases hs01 with rfl | rfl
       ·gi_wp2;refine ⟨fun f hf=>(by cases hf),?_⟩;gi_wp2;exact ⟨Hfin.out,by simp [intOf]; omega⟩
       ·gi_wp2;refine ⟨fun f hf=>(by cases hf),?_⟩;gi_wp2;exact ⟨Hfin.out,by simp [intOf]; omega⟩
  ·(obtain rfl:c=V:=om);have Hys:=hdq hys;clear hys;gi_wp2;go_end0;exact ⟨⟨_,rfl⟩,.inl ⟨_,Hys.out,hJs⟩⟩
end Go.Proofs.YtbpngececjihlaaGreat
namespace Go.Proofs.YtbpngececjihlaaGreat
open Go.RowKit Go.Shelf
variable {G X:Nat->Prop} {b n V M K c k i N B kb:Nat} {W w2 W' w:World} {s:SV} {D:Lin.Dict} {q:Rat} {f:Nat->Rat} {pv rw cl:Int}
def zeroS (n:Nat):Array Value:=madeCells #[Value.slice none 0 0] n
theorem zIb (n:Nat):(zeroS n).size=n:=by simp [zeroS,madeCells]
theorem zHV (n:Nat) (hn:n<=1000000) (w:World) :
  (Instr.makeSlice 22 n n).run Tryz.prog w = .ok (.slice (some w) n n) (w.alloc (.cells (zeroS n) 23)):=by
 obtain ⟨i0,hi,hz0,hz1,hz2⟩:=info_parts zFA;have hr:=run_make (P:=Tryz.prog) w 22 23 i0 () Tryz.underlying22 hi hz0 .i64 .i64 n n om om (by rw [hz2]; omega) om;rw [hz1] at hr;simpa [zeroS,Value.cells] using hr
theorem RowAt.zero (hh:W.heap[b]?=some (.cells (zeroQ n) 30 (0,0))) (hG:G b):RowAt W G b (List.replicate n 0):=by
 refine ⟨hG,⟨_,hh,by simp [zCG]⟩,fun k hk=>⟨⟨⟨false,none,0,0⟩,⟨false,none,0,0⟩⟩,?_,?_⟩⟩
 ·rw [List.length_replicate] at hk;obtain ⟨h0,h1,h2,h3⟩:=zGh n k hk;have get:∀ o,W.cell? ⟨b,o,none⟩=(zeroQ n)[o]?:=by intro o; simp only [World.cell?,hh]; simp
  exact ⟨(get _).trans h0,(get _).trans h1,(get _).trans h2,(get _).trans h3⟩
 ·have:(List.replicate n (0:Rat)).getD k 0=0:=by rw [List.length_replicate] at hk; simp [hk]
  rw [this]; exact QCan.zero _ _
theorem Comps.old {x:DV} (h:Comps W X x V M K D s):Comps W (fun b=>b<W.heap.size) x V M K D s:=by
 obtain ⟨f,h1,h2,h3,h4⟩:=h.arr;refine ⟨f,h1,fun g e=>?_,fun l hl=>?_,fun k hkV=>?_⟩
 ·rcases h1.blk with ⟨h0,_⟩ | ⟨g',cs,e',hb,_⟩
  ·rw [h0] at e; cases e
  ·rw [e] at e'; cases e'; exact zAa hb
 ·obtain ⟨b,x1,x2,x3⟩:=h3 l hl;exact ⟨b,zAb x3,x2,x3⟩
 ·obtain ⟨bd,bk,br,ro,cr,x1,x2,x3,x4,x5,x6,x7,x8,x9,x10,x11⟩:=h4 k hkV;exact ⟨bd,bk,br,ro,cr,zAb x6,zAb x7,zAb x8,zAb x11,x5,x6,x7,x8,x9,x10,x11⟩
def priceTo (D:Lin.Dict) (V M K c i l:Nat):Rat:=if Lin.find D.free (V+i) c<c then colCost D M K (Lin.find D.free (V+i) c) l else 0
theorem zPw (hk:D.free c<V):priceTo D V M K (c+1)=priceTo D V M K c:=by
 funext i l;unfold priceTo;by_cases h1:Lin.find D.free (V+i) c<c
 ·have h2:Lin.find D.free (V+i) (c+1)=Lin.find D.free (V+i) c:=by simp [Lin.find,h1]
  rw [h2,if_pos om,if_pos h1]
 ·have h2:Lin.find D.free (V+i) (c+1)=c+1:=by simp [Lin.find,h1]; omega
  rw [h2,if_neg om,if_neg h1]
theorem zPF (hk:D.free c=V+k) (hi:i ≠ k):priceTo D V M K (c+1) i=priceTo D V M K c i:=by
 funext l;unfold priceTo;by_cases h1:Lin.find D.free (V+i) c<c
 ·have h2:Lin.find D.free (V+i) (c+1)=Lin.find D.free (V+i) c:=by simp [Lin.find,h1]
  rw [h2,if_pos om,if_pos h1]
 ·have h2:Lin.find D.free (V+i) (c+1)=c+1:=by simp [Lin.find,h1]; omega
  rw [h2,if_neg om,if_neg h1]
theorem zPE (inj:∀ j,j<c->D.free j ≠ D.free c) (hk:D.free c=V+k):priceTo D V M K (c+1) k=colCost D M K c/\priceTo D V M K c k=fun _=>0:=by
 have h1:¬ Lin.find D.free (V+k) c<c:=Lin.zCQ fun j hj e=>inj j hj (by rw [e,hk])
 have h2:Lin.find D.free (V+k) (c+1)=c:=by simp [Lin.find,h1,hk]
 constructor
 ·funext l; unfold priceTo; rw [h2,if_pos om]
 ·funext l; unfold priceTo; rw [if_neg h1]
structure YS (w2 W:World) (yb M N:Nat) (yr:Nat->Nat) (B:Nat) (F:Nat->Nat->Rat):Prop where
 bel:Below w2 w2 W
 arr:Arr W ⟨some ⟨yb,0,none⟩,M,M⟩ M 23 fun i=>rowVal N (yr i)
 rows:∀ i,i<M->RowAt W (fun y=>y<B) (yr i) ((List.range N).map (F i))
 inj:∀ i j,i<M->j<M->yr i=yr j->i=j
 low:∀ i,i<M->w2.heap.size<=yr i
 hB:B<=W.heap.size
theorem YS.call {yb:Nat} {yr:Nat->Nat} {F:Nat->Nat->Rat} (h:YS w2 W yb M N yr B F) (hb:Below W W W'):YS w2 W' yb M N yr B F:=
 ⟨h.bel.trans (hb.mono h.bel.size),h.arr.below hb,fun i hi=>(h.rows i hi).below hb,h.inj,h.low,nlt h.hB hb.size⟩
theorem YS.put4 {yb:Nat} {yr:Nat->Nat} {F:Nat->Nat->Rat} (h:YS w2 W yb M N yr B F) {l:Nat} (hk:k<M) (hl:l<N) {v:QV} (hv:QCan W (New B) v q):YS w2 (put4 W (yr k) l v) yb M N yr B (Lin.turn F k (Lin.turn (F k) l q)):=by
 have hrow:=h.rows k hk;obtain ⟨cs,e,_⟩:=hrow.blk;have hv':QCan W (fun y=>¬ y<B) v q:=hv.imp fun b _ hb=>by simp only [New] at hb; omega
 refine ⟨zBq h.bel (h.low k hk) _ _,h.arr.keep fun g eg _=>zAx _ _ _ _ (zDD h.arr e dj eg),fun i hi=>?_,h.inj,h.low,by rw [zBI]; exact h.hB⟩;by_cases e:i=k
 ·subst e;rw [Lin.zBL,<-zOd];exact hrow.put4 (by simpa using hl) hv'
 ·rw [Lin.zBh _ e];exact (h.rows i hi).put4_other hrow.mem (fun e'=>e (h.inj i k hi hk e'.symm)) _ _
def OLoop1 (w2:World) (M N:Nat) (t:Value) (W:World):Prop:=
 ∃ i:Nat,i<=M/\t = .int .i64 i/\Below w2 w2 W/\∃ (cs:Array Value) (yr:Nat->Nat),W.heap[w2.heap.size]?=some (.cells cs 23 (0,0))/\cs.size=M/\(∀ j,j<i->cs[j]?=some (rowVal N (yr j))/\W.heap[yr j]?=some (.cells (zeroQ N) 30 (0,0))/\w2.heap.size<=yr j)/\∀ j j',j<i->j'<i->yr j=yr j'->j=j'
def OLoop2 (w2:World) (V M K:Nat) (D:Lin.Dict) (yr:Nat->Nat) (B:Nat) (t:Value) (W:World):Prop:=
 ∃ c:Nat,c<=V/\t = .int .i64 c/\YS w2 W w2 M (K+V) yr B (priceTo D V M K c)
def OLoop3 (w2:World) (V M K:Nat) (D:Lin.Dict) (yr:Nat->Nat) (B c k:Nat) (t:Value) (W:World):Prop:=
 ∃ l:Nat,l<=K+V/\t = .int .i64 l/\YS w2 W w2 M (K+V) yr B (Lin.turn (priceTo D V M K c) k fun l'=>if l'<l then colCost D M K c l' else 0)
theorem OLoop1.done (h:OLoop1 w2 M N M W) (hM:M<=1000) {F:Nat->Nat->Rat} (hF:∀ i,i<M->(List.range N).map (F i)=List.replicate N 0):∃ yr,YS w2 W w2 M N yr W F:=by
 obtain ⟨i,hi,ei,hb,cs,yr,h1,h2,h3,h4⟩:=h
 obtain rfl:M=i:=by
  have:(M:Int)=(i:Int):=by simpa using ei
  omega
 exact ⟨yr,hb,⟨rfl,nlr _,by show M<=_; omega,.inr ⟨_,cs,rfl,h1,fun k hk=>(h3 k hk).1⟩⟩,fun j hj=>by rw [hF j hj]; exact RowAt.zero (h3 j hj).2.1 (zAa (h3 j hj).2.1),h4,fun j hj=>(h3 j hj).2.2,nlr _⟩
def OptRet (w:World) (l:List Rat) (M N:Nat) (F:Nat->Nat->Rat) (e:Ending) (w':World):Prop:=∃ (s y:SV) (pv:Int),e = .returned (RV.val ⟨1,s,y,⟨none,0,0⟩,⟨none,0,0⟩,pv⟩)/\VecCan w' (New w) (New w) s l/\MatCan w' (New w) (New w) y ((List.range M).map fun i=>(List.range N).map (F i))
theorem zPA {p:Nat->Nat->Rat} {l:Nat}:Lin.turn (Lin.turn p k fun l'=>if l'<l then f l' else 0) k (Lin.turn (Lin.turn p k (fun l'=>if l'<l then f l' else 0) k) l (f l))=Lin.turn p k fun l'=>if l'<l+1 then f l' else 0:=by
 funext a b;unfold Lin.turn;grind
theorem zPq {x:DV} (h:DA w G x V M K D pv rw cl) (inj:∀ i j,i<M->j<M->D.basic i=D.basic j->i=j) (finj:∀ i j,i<V->j<V->D.free i=D.free j->i=j) (hB:∀ i,i<M->D.basic i<V+M) (hFr:∀ j,j<V->D.free j<V+M) (hV:V<=1000) (hM:M<=1000) (hKb:K<=1000)
  (hfa:∀ i j,i<M->j<=V->Lin.Fits kb (D.a i j)) (hfc:∀ i j,i<K->j<=V->Lin.Fits kb (D.c i j)) (hk:2*kb+1<=LM) :
  Calls Tryz.prog 81 #[.pointer (some x.d)] w fun e w'=>OptRet w ((List.range V).map (ptTo V D M)) M (K+V) (priceTo D V M K V) e w'/\Below w w w':=by
 have HK1:Hid (kb+1<=LM):=by show kb+1<=LM; omega
 have HK:=hdq hk;have HFA:=hdq hfa;have HFC:=hdq hfc;have HI:=hdq inj;have HFI:=hdq finj;have HB:=hdq hB;have HFr:=hdq hFr;clear hfa hfc hk inj finj hB hFr;obtain ⟨d,⟨bA,bn,bc⟩,⟨fA,fn,fc⟩,⟨rA,rn,rc⟩,⟨cA,cn,cc⟩,rb,cb⟩:=x;obtain ⟨hdl,rfl,rfl,rfl,rfl,l1,l1',l2,l2',l3,l3',l4,l4'⟩:=h.opn;go_enter Tryz.func81,Tryz.ntmps81
 go_wp2_with fail
 obtain ⟨W1,hW1⟩:∃ W1,W1=w.alloc (.cells zeroR 60):=⟨_,rfl⟩;rw [<-hW1];have hbW:Below w w W1:=by rw [hW1]; exact bal
 have hX1:Box6 W1 w (.int .u8 0) () () () () (.int .i64 0):=by rw [hW1]; exact zAd _ _ rfl
 have hs1:Hid (W1.heap.size=w.heap.size+1):=by show _=_; rw [hW1]; simp
 clear hW1;refine (zO6 (h.call hbW) HI.out HB.out hV hM hKb).mono ?_;rintro e w2 ⟨⟨s,rfl,hcm⟩,hb2⟩;have hcm2:=hcm.old;have hX2:Box6 w2 w (.int .u8 0) () () () () (.int .i64 0):=(hb2.block _ (by have:=hs1.out; omega)).trans hX1;have hbw2:=hbW.trans (hb2.mono hbW.size);have HD2:=hdq (h.call hbw2);obtain ⟨sA,sn,sc⟩:=s;obtain rfl:K+V=sn:=by obtain ⟨f,hf,_⟩:=hcm.arr; exact hf.len.symm
 have l5:K+V<=sc/\sc<=9223372036854775807:=by obtain ⟨f,hf,_⟩:=hcm.arr; exact ⟨hf.le,hf.cap⟩
 obtain ⟨l5,l5'⟩:=l5;have hX2l:w.heap.size<w2.heap.size:=zAa hX2;clear hcm hb2 hX1 hbW hs1;obtain ⟨-,-,-,c3,-⟩:=HD2.out.cells;dsimp only [SV.val] at c3 ⊢;have hmk:=zHV M om;go_wp2
 have H1:OLoop1 w2 M (K+V) (.int .i64 0) (w2.alloc (.cells (zeroS M) 23)):=
  ⟨0,nzl _,rfl,bal,zeroS M,fun _=>0,zAd _ _ rfl,zIb M,fun j hj=>absurd hj om,fun j _ hj=>absurd hj om⟩
 clear hmk c3;generalize w2.alloc (.cells (zeroS M) 23)=W3 at *;go_loopw [21] (fun t W=>OLoop1 w2 M (K+V) t W) (fun t _=>M-(intOf t).toNat)
 case atStart=>exact H1
 case round=>
  clear H1;obtain ⟨i,hi,rfl,hbl,cs,yr,h1,h2,h3,h4⟩:=hrel;by_cases hlt:i<M
  ·have hmk:∀ w,(Instr.makeSlice 23 (.int .i64 ((K:Int)+(V:Int))) (.int .i64 ((K:Int)+(V:Int)))).run Tryz.prog w = .ok (.slice (some ⟨w,0,none⟩) (K+V) (K+V)) (w.alloc (.cells (zeroQ (K+V)) 30)):=by
    intro w;have:=zBZ (K+V) om w;simpa using this
   have hyl:=zAa h1;have y0:(wr.cell? ⟨w2.heap.size,i,none⟩).isSome=true:=by simp only [World.cell?,h1]; simp [h2,hlt]
   obtain ⟨yv,hyv⟩:=Option.isSome_iff_exists.1 y0;have yf:∀ o,wr.frozen? ⟨w2.heap.size,o,none⟩=false:=(fun o=>by simp [World.frozen?,h1]);clear y0
   have Hfin:Hid (OLoop1 w2 M (K+V) (.int .i64 ((i:Int)+1)) ((wr.setCell ⟨w2.heap.size,i,none⟩ (rowVal (K+V) wr)).alloc (.cells (zeroQ (K+V)) 30))):=by
    have hsz:(wr.setCell ⟨w2.heap.size,i,none⟩ (rowVal (K+V) wr)).heap.size=wr.heap.size:=(by simp [World.setCell]);have k:∀ b,b<wr.heap.size->b ≠ w2.heap.size->((wr.setCell ⟨w2.heap.size,i,none⟩ (rowVal (K+V) wr)).alloc (.cells (zeroQ (K+V)) 30)).heap[b]?=wr.heap[b]?:=(fun b hl hb=>(Below.heap_alloc _ _ _ (by rw [hsz]; exact hl)).trans (bhs _ _ _ _ hb));refine ⟨i+1,om,si,(hbl.setCell (p:=⟨w2.heap.size,i,none⟩) (nlr _) _).alloc (by rw [hsz]; exact hbl.size) _,cs.setIfInBounds i (rowVal (K+V) wr),Lin.turn yr i wr,(Below.heap_alloc _ _ _ (by rw [hsz]; exact hyl)).trans (zAe _ h1),by simpa using h2,fun j hj=>?_,fun j j' hj hj' e=>?_⟩
    ·rw [Array.getElem?_setIfInBounds];by_cases e:i=j
     ·subst e;rw [if_pos rfl,if_pos om,Lin.zBL];exact ⟨rfl,zAd _ _ hsz.symm,hbl.size⟩
     ·rw [if_neg e,Lin.zBh _ (Ne.symm e)];obtain ⟨g1,g2,g3⟩:=h3 j om;refine ⟨g1,(k _ (zAa g2) (fun e'=>?_)).trans g2,g3⟩;rw [e',h1] at g2; cases g2
    ·have lt:∀ a,a<i->yr a<wr.heap.size:=(fun a ha=>zAa (h3 a ha).2.1);by_cases e1:j=i
     ·by_cases e2:j'=i
      ·omega
      ·rw [e1,Lin.zBL,Lin.zBh _ e2] at e;have:=lt j' om; omega
     ·by_cases e2:j'=i
      ·rw [e2,Lin.zBL,Lin.zBh _ e1] at e;have:=lt j om; omega
      ·rw [Lin.zBh _ e1,Lin.zBh _ e2] at e;exact h4 j j' om om e
   clear h1 h2 h3 h4 hbl;go_wp2;go_roundw;case rel=>exact fn_ Hfin.out
   case measure=>simp [intOf]; omega
  ·have hiM:i=M:=om;rw [hiM] at h3 h4;have HL1:Hid (OLoop1 w2 M (K+V) M wr):=⟨M,nlr _,rfl,hbl,cs,yr,h1,h2,h3,h4⟩;clear h1 h2 h3 h4
   obtain ⟨yr,hY⟩:=OLoop1.done HL1.out om (F:=priceTo D V M K 0) (fun i _=>by
    apply List.ext_getElem
    ·simp
    ·intro a b c; simp [priceTo])
   have H2:OLoop2 w2 V M K D yr wr (.int .i64 0) wr:=⟨0,nzl _,rfl,hY⟩;clear HL1 hY;have hbwr:=hbw2.trans (hbl.mono hbw2.size);have hD3:=h.call hbwr;obtain ⟨c0,c1,c2,c3,c4,c5,c6,c7,c8⟩:=hD3.cells;dsimp only [SV.val] at c0 c1 c2 c3 c4 c5 c6 c7 c8;go_wp2;clear c0 c1 c2 c3 c4 c5 c6 c7 c8 hD3 hbwr hbl hiM hi hlt;obtain ⟨W4,hW4⟩:∃ W4:World,W4=wr:=⟨_,rfl⟩;rw [<-hW4] at H2 ⊢;obtain ⟨B,hBd⟩:∃ B,B=W4.heap.size:=⟨_,rfl⟩;rw [<-hBd] at H2;have hBw:w2.heap.size<=B:=by obtain ⟨_,_,_,hy⟩:=H2; rw [hBd]; exact hy.bel.size
   clear hW4 hBd;(go_loopw [36] (fun t W=>OLoop2 w2 V M K D yr B t W) (fun t _=>V-(intOf t).toNat));case atStart=>exact H2
   case round=>
    clear H2;obtain ⟨c,hcV,rfl,hY⟩:=hrel;have hbl:=hY.bel;have hbwr:=hbw2.trans (hbl.mono hbw2.size);have hD3:=hdq (h.call hbwr);obtain ⟨c0,c1,c2,c3,c4,c5,c6,c7,c8⟩:=hD3.out.cells;dsimp only [SV.val] at c0 c1 c2 c3 c4 c5 c6 c7 c8;by_cases hlt:c<V
    ·obtain ⟨gf,e,f0,f1,f2⟩:=hD3.out.fre.elem hlt;dsimp only at e f0;subst e;by_cases hv:V<=D.free c
     ·obtain ⟨k,hk⟩:∃ k,D.free c=V+k:=⟨D.free c-V,om⟩;have hkM:k<M:=by have:=HFr.out c hlt; omega
      rw [hk] at f0;have hvi:¬ (((V+k:Nat):Int)<(V:Int)):=om;have hvi2:¬ ((V:Int)+(k:Int)<(V:Int)):=om;have hkMi:(k:Int)<(M:Int):=om;have hw4:IntKind.i64.wrap (k:Int)=(k:Int):=IntWalk.i64_in (k:Int) om;have hw5:IntKind.i64.wrap ((V:Int)+(k:Int)-(V:Int))=(k:Int):=by rw [show (V:Int)+(k:Int)-(V:Int)=(k:Int) by omega]; exact hw4
      obtain ⟨gy,e,y0,y1,y2⟩:=hY.arr.elem hkM;cases e;have Hst:=hdq (zPE (M:=M) (K:=K) (fun j hj e=>by have:=HFI.out j c om hlt e; omega) hk);have HY:=hdq hY;clear hY;go_wp2;obtain ⟨W5,hW5⟩:∃ W5:World,W5=wr:=⟨_,rfl⟩
      have H3:OLoop3 w2 V M K D yr B c k (.int .i64 0) W5:=by
       refine ⟨0,nzl _,rfl,?_⟩;rw [hW5];have:=HY.out
       have e:Lin.turn (priceTo D V M K c) k (fun l'=>if l'<0 then colCost D M K c l' else 0)=priceTo D V M K c:=by
        funext a b;unfold Lin.turn;by_cases ha:a=k
        ·subst ha; rw [if_pos rfl,Hst.out.2]; simp
        ·rw [if_neg ha]
       rw [e]; exact this
      rw [<-hW5];clear hW5 HY hD3 c0 c1 c2 c3 c4 c5 c6 c7 c8 f0 f1 f2 y0 y1 y2 hbl hbwr;(go_loopw [58] (fun t W=>OLoop3 w2 V M K D yr B c k t W) (fun t _=>K+V-(intOf t).toNat));case atStart=>exact H3
      case round=>
       clear H3;obtain ⟨l,hl,rfl,hY⟩:=hrel;have hbl:=hY.bel;have hbwr:=hbw2.trans (hbl.mono hbw2.size);by_cases hlN:l<K+V
       ·have hD3:=hdq (h.call hbwr);have hcm3:=hcm2.keep (W':=wr) fun b hb _=>hbl.block b hb
        obtain ⟨f,hf,-,hf1,hf2⟩:=hcm3.arr;obtain ⟨g,e,g0,g1,g2⟩:=hf.elem hlN;dsimp only at e;subst e;have hlI:(l:Int)<(K:Int)+(V:Int):=om;by_cases hlK:l<K
        ·obtain ⟨b,hbX,eb,cb0⟩:=hf1 l hlK;rw [eb] at g0;have eq:D.c l c=colCost D M K c l:=(if_pos hlK).symm;have hq:=HFC.out l c hlK (show c<=V by omega);have hbb:b<wr.heap.size:=zAb cb0;clear hf hf1 hf2 hcm3;have al:Below wr wr (wr.alloc (.cells #[clo1 b] 198)):=bal;(go_wp2_with fail);refine (zPd (hD3.out.call al) hlK hlt hV ((al.cell (p:=b) hbb).trans cb0)).mono ?_;rintro e w3 ⟨⟨v,rfl,hv⟩,hb3⟩;(go_wp2_with fail);refine (zAT (hv.qis (zAv hq)) HK1.out).mono ?_;rintro e w4 ⟨⟨z,rfl,hz⟩,hb4⟩;have h14:Below wr wr w4:=(al.trans (hb3.mono al.size)).trans (hb4.mono (nlt al.size hb3.size));have hY4:=hY.call h14;have hrow4:=hY4.rows k hkM;obtain ⟨u2,⟨p0,p1,p2,p3⟩,-⟩:=hrow4.elem l (by simpa using hlN);dsimp only at p1 p2 p3;have fz:=hrow4.frozen
         have Hfin:Hid (OLoop3 w2 V M K D yr B c k (.int .i64 ((l:Int)+1)) (put4 w4 (yr k) l z)):=by
          refine ⟨l+1,om,si,?_⟩;have:=hY4.put4 hkM hlN (hz.lower (B':=B) (by have:=hY.hB; have:=hb3.size; have:=al.size; omega));rw [eq] at this;rw [<-zPA]; exact this
         clear hrow4 hY4 hz hv hb3 hb4 h14 al hY;go_wp2;go_roundw;case rel=>exact fn_ Hfin.out
         case measure=>simp [intOf]; omega
        ·obtain ⟨bd,bk,br,ro,cr,x1,x2,x3,x4,ef,d1,d2,d3,d4,d5,d6⟩:=hf2 (l-K) om;rw [show K+(l-K)=l by omega] at ef;rw [ef] at g0;have eq:vcost D M (l-K) c=colCost D M K c l:=(if_neg hlK).symm
         have hq:Lin.Fits kb (vcost D M (l-K) c):=by
          unfold vcost
          split
          ·exact Lin.Fits.one _
          ·split
           ·rename_i hfn; exact (HFA.out _ c hfn om).neg
           ·exact Lin.Fits.zero _
         have hFr':Hid (∀ j,j<V->D.free j<=1000000):=fun j hj=>by have:=HFr.out j hj; omega
         clear hf hf1 hf2 hcm3;have b1:bd<wr.heap.size:=zAb d1;have b2:bk<wr.heap.size:=zAb d2;have b3:br<wr.heap.size:=zAb d3;have b4:ro<wr.heap.size:=zAb d6;have al:Below wr wr (wr.alloc (.cells #[clo2 bd bk br] 198)):=bal;(go_wp2_with fail);refine (zPe (kb:=kb) (hD3.out.call al) (show l-K<V by omega) hlt hV hM hFr'.out ((al.cell (p:=bd) b1).trans d1) ((al.cell (p:=bk) b2).trans d2) ((al.cell (p:=br) b3).trans d3) d4 d5 ((al.cell (p:=⟨ro,l-K,none⟩) b4).trans d6) HFA.out HK.out).mono ?_;rintro e w3 ⟨⟨v,rfl,hv⟩,hb3⟩;(go_wp2_with fail);refine (zAT (hv.qis (zAv hq)) HK1.out).mono ?_;rintro e w4 ⟨⟨z,rfl,hz⟩,hb4⟩;have h14:Below wr wr w4:=(al.trans (hb3.mono al.size)).trans (hb4.mono (nlt al.size hb3.size));have hY4:=hY.call h14;have hrow4:=hY4.rows k hkM;obtain ⟨u2,⟨p0,p1,p2,p3⟩,-⟩:=hrow4.elem l (by simpa using hlN);dsimp only at p1 p2 p3;have fz:=hrow4.frozen
         have Hfin:Hid (OLoop3 w2 V M K D yr B c k (.int .i64 ((l:Int)+1)) (put4 w4 (yr k) l z)):=by
          refine ⟨l+1,om,si,?_⟩;have:=hY4.put4 hkM hlN (hz.lower (B':=B) (by have:=hY.hB; have:=hb3.size; have:=al.size; omega));rw [eq] at this;rw [<-zPA]; exact this
         clear hrow4 hY4 hz hv hb3 hb4 h14 al hY;go_wp2;go_roundw;case rel=>exact fn_ Hfin.out
         case measure=>simp [intOf]; omega
       ·have hlN2:l=K+V:=om;rw [hlN2] at hY
        have Hfin:Hid (OLoop2 w2 V M K D yr B (.int .i64 ((c:Int)+1)) wr):=by
         refine ⟨c+1,om,si,hY.bel,hY.arr,fun i hi=>?_,hY.inj,hY.low,hY.hB⟩;have:=hY.rows i hi;by_cases ei:i=k
         ·subst ei;rw [Lin.zBL] at this
          have e2:(List.range (K+V)).map (fun l'=>if l'<K+V then colCost D M K c l' else 0)=(List.range (K+V)).map (priceTo D V M K (c+1) i):=by
           rw [Hst.out.1];apply List.map_congr_left;intro a ha;rw [List.mem_range] at ha;rw [if_pos ha]
          rw [<-e2]; exact this
         ·rw [Lin.zBh _ ei] at this;rw [zPF hk ei]; exact this
        clear hY hbl hbwr;go_wp2;go_roundw;case rel=>exact fn_ Hfin.out
        case measure=>simp [intOf]; omega
     ·have hvi:(D.free c:Int)<(V:Int):=om;have Hfin:Hid (OLoop2 w2 V M K D yr B (.int .i64 ((c:Int)+1)) wr):=⟨c+1,om,si,by rw [zPw om]; exact hY⟩;clear hY hbl hbwr;go_wp2;go_roundw;case rel=>exact fn_ Hfin.out
      case measure=>simp [intOf]; omega
    ·have hcV2:c=V:=om;rw [hcV2] at hY;have hX:Box6 wr w (.int .u8 0) () () () () (.int .i64 0):=(hbl.block _ hX2l).trans hX2;obtain ⟨s0,s1,s2,s3,s4,s5,s6⟩:=zO1 hX;have m0:¬ (d=w.heap.size):=om;have hBwr:w.heap.size<=wr.heap.size:=hbwr.size;have sl:w.heap.size<wr.heap.size:=by have:=hbl.size; omega
     have t1:d<wr.heap.size:=om;have HY:=hdq hY;have HX:=hdq hX;clear hY hX hcV2;go_wp2
     go_region_held3 (Sees w [w.heap.size] wr) (exact kp)
      (first
       | (go_at_call 158; ((with_reducible refine (zPg (kb:=kb) (h.call (hbwr.trans (Sees.kept (by assumption):Kept w _ wr _).below)) HI.out (fun i hi=>by have:=HB.out i hi; omega) hV hM HFA.out HK.out).mono ?_); rintro e w3 ⟨⟨sx,rfl,hx⟩,hb3⟩))
       | fail)
     rename_i hS;obtain ⟨xA,xn,xc⟩:=sx;have h23:Below wr wr w3:=(brf _ wr).drew.trans hb3;have hX3:Box6 w3 w (.int .u8 0) () () () () (.int .i64 0):=(h23.block _ sl).trans HX.out;have HY3:=hdq (HY.out.call h23);have hbf:=hbwr.trans (h23.mono hBwr);have Hx:=hdq hx;clear hS hx hb3 h23;go_wp2;obtain ⟨v0,v1,v2,v3,v4,v5,-⟩:=zO1 (zO9 hX3 (.int .u8 1) (.slice xA xn xc) (.slice (some w2) M M) () () pv);simp only [put6] at v0 v1 v2 v3 v4 v5;refine bodyPost_ret (v:=RV.val ⟨1,⟨xA,xn,xc⟩,⟨some ⟨w2,0,none⟩,M,M⟩,⟨none,0,0⟩,⟨none,0,0⟩,pv⟩) (by simp [results,Tryz.results81,go_sem,v0,v1,v2,v3,v4,v5]) rfl ⟨⟨⟨xA,xn,xc⟩,⟨some ⟨w2,0,none⟩,M,M⟩,pv,rfl,?_,?_⟩,zO3 hbf (nlr _) (.int .u8 1) (.slice xA xn xc) (.slice (some w2) M M) () () pv⟩
     ·have hk:∀ p:Addr,New wr p.block->(put6 w3 w (.int .u8 1) (.slice xA xn xc) (.slice (some w2) M M) () () pv).cell? p=w3.cell? p:=(fun p hp=>cob (zO4 _ _ _ _ _ _ _ _ (by simp only [New] at hp; omega)));refine (Hx.out.keep (X:=New wr.drew.heap.size) (R':=QCan (put6 w3 w (.int .u8 1) (.slice xA xn xc) (.slice (some w2) M M) () () pv) (New wr.drew.heap.size)) (fun a ha _=>hk a ha) fun v q hq=>hq.keep fun p hp _=>hk p hp).imp (fun b _ hb=>?_) fun v q hq=>hq.imp fun b _ hb=>?_
      ·simp only [New,World.size_drew] at hb ⊢; omega
      ·simp only [New,World.size_drew] at hb ⊢; omega
     ·refine ⟨si,nlr _,by show M<=_; omega,fun i hi=>?_⟩;have hi':i<M:=hi;obtain ⟨gy,e,y0,y1,y2⟩:=HY3.out.arr.elem hi';cases e;have hrow:=HY3.out.rows i hi';have hfin:=hrow.put6 (b:=w) (by have:=HY3.out.low i hi'; omega) (show w.heap.size<B by omega) (.int .u8 1) (.slice xA xn xc) (.slice (some w2) M M) () () pv;have hvec:=hfin.vec (by simp; omega) (K+V) si om;rw [List.length_map,List.length_range] at hvec;refine ⟨⟨w2,0,none⟩,⟨some ⟨yr i,0,none⟩,K+V,K+V⟩,rfl,by show w.heap.size<=w2.heap.size; omega,?_,?_⟩
      ·rw [zA4,Nat.zero_add];exact (cob (a:=⟨w2.heap.size,i,none⟩) (zO4 _ _ _ _ _ _ _ _ (show w2.heap.size ≠ w.heap.size by omega))).trans y0
      ·rw [zAS _ _ hi'];exact hvec.imp (fun b _ hb=>by subst hb; have:=HY3.out.low i hi'; show w.heap.size<=_; omega) fun v q hq=>hq.imp fun b _ hb=>by have hb':¬ b<B:=hb; show w.heap.size<=b; omega
end Go.Proofs.YtbpngececjihlaaGreat
