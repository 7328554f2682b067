/- Texts Enter Improve Solve Alive1 of this claim. -/
import Derived.Test.YtbpngececjihlaaGreatB19
set_option maxHeartbeats 4000000
set_option maxRecDepth 100000
namespace Go.Proofs.YtbpngececjihlaaGreat
open Go.RowKit Go.Shelf
variable {w1 w0 w:World} {pv rw cl:Int} {D:Lin.Dict} {G:Nat->Prop} {n B1 V M K kb d b:Nat}
attribute [local go_sem] Oper.semAt_some
theorem zPB {x:DV} {E:Nat->Prop} (hn:1<=n) (h:DA w0 G x V M K D pv rw cl)
  (inj:∀ i j,i<M->j<M->D.basic i=D.basic j->i=j) (hB:∀ i,i<M->D.basic i<V+M) (hFr:∀ j,j<V->D.free j<=1000000) (hV:V<=1000) (hM:M<=1000) (hKb:K<=1000)
  (hfa:∀ i j,i<M->j<=V->Lin.Fits kb (D.a i j)) (hfc:∀ i j,i<K->j<=V->Lin.Fits kb (D.c i j)) (hk:2*kb+1<=LM)
  (p:Nat->Prop) (hp:∀ j,j<V->(p j ↔ Lin.LexNeg (K+V) (colCost D M K j))) 
  (hb1:w1.heap[B1]?=some (.cells #[.pointer (some x.d)] 129 (0,0))) (hE1:∀ y,E y->w0.heap.size<=y) (hE2:∀ y,E y->y<w1.heap.size) (hE3:¬ E B1) (hc:Carry (fun y=>y<w0.heap.size) w0 w1) :
  SeqStopsK Fence.wide n Tryz.prog 230 #[.pointer (some B1)] (fun y:{j:Nat // j<V/\p j}=>#[.int .i64 (y.val:Int)]) (Carry fun y=>¬ E y) (fun ys=>Cands p V (ys.map (·.val))) (fun _=>True) V w1:=fun _l J Jx W hW hJ _ hY h0=>
 zPL hn h inj hB hFr hV hM hKb hfa hfc hk p hp J Jx W hJ hY ((hW.block B1 (zAa hb1)).trans hb1) hE1 (fun y hy=>ltl (hE2 y hy) hW.size) hE3 (hc.trans (Carry.of_below hW)) h0
def EPick (D:Lin.Dict) (cf:Bool) (pre:List Nat) (v:Value):Prop:=
 (v = .int .i64 (-1)/\pre=[])\/∃ b:Nat,b ∈ pre/\v = .int .i64 (b:Int)/\(cf=true->∀ j ∈ pre,D.free b<=D.free j)
def EInv (w:World) (d:Nat) (V:Nat) (p:Nat->Prop) (D:Lin.Dict) (cf:Bool) (pre:List {j:Nat // j<V/\p j}) (W:World):Prop:=
 ∃ v,Boxed W w 129 (.pointer (some d))/\Boxed W (w+1) 4 (.bool cf)/\Boxed W (w+1+1) 3 v/\EPick D cf (pre.map (·.val)) v/\Carry (fun y=>y<w.heap.size) w W
theorem EInv.own {p:Nat->Prop} {cf:Bool}:Own (EInv w d V p D cf):=fun s W W' row hs hg hr=>by
 obtain ⟨v,h1,h2,h3,h4,h5⟩:=hs;exact ⟨v,zAi hg hr h1,zAi hg hr h2,zAi hg hr h3,h4,h5.trans (Carry.grown hg hr)⟩
section
variable {w W Wd:World} {B d V:Nat} {p:Nat->Prop} {D:Lin.Dict} {cf:Bool} {pre:List {j:Nat // j<V/\p j}} {y:{j:Nat // j<V/\p j}} {v:Value}
theorem zO8 (z0:Boxed W w 129 (.pointer (some d))) (z1:Boxed W (w+1) 4 cf) (z2:Boxed W (w+1+1) 3 v) (hb:Below W W Wd)
  (hpk:EPick D cf ((pre++[y]).map (·.val)) v) (hcar:Carry (fun y=>y<w.heap.size) w W) (hB:Below w w W) :
  KeepsFrom B W Wd/\Carry (fun y=>¬ y=w.heap.size+1+1) W Wd/\EInv w d V p D cf (pre++[y]) Wd/\Below w w Wd:=
 ⟨⟨hb.size,fun k _o _ hk _=>(hb.block k (zAa hk)).trans hk⟩,Carry.of_below hb,⟨v,(hb.block _ (zAa z0)).trans z0,(hb.block _ (zAa z1)).trans z1,(hb.block _ (zAa z2)).trans z2,hpk,hcar.trans (Carry.of_below hb)⟩,hB.trans (hb.mono hB.size)⟩
theorem zO5 (z0:Boxed W w 129 (.pointer (some d))) (z1:Boxed W (w+1) 4 cf) (z2:Boxed W (w+1+1) 3 v) (hb:Below W W Wd)
  (hpk:EPick D cf ((pre++[y]).map (·.val)) (.int .i64 (y.val:Int))) (hcar:Carry (fun y=>y<w.heap.size) w W) (hB:Below w w W) :
  KeepsFrom B W (Wd.setCell ⟨w+1+1,0,none⟩ (.int .i64 (y.val:Int)))/\Carry (fun y=>¬ y=w.heap.size+1+1) W (Wd.setCell ⟨w+1+1,0,none⟩ (.int .i64 (y.val:Int)))/\EInv w d V p D cf (pre++[y]) (Wd.setCell ⟨w+1+1,0,none⟩ (.int .i64 (y.val:Int)))/\Below w w (Wd.setCell ⟨w+1+1,0,none⟩ (.int .i64 (y.val:Int))):=by
 have k:∀ b,b ≠ w.heap.size+1+1->(Wd.setCell ⟨w+1+1,0,none⟩ (.int .i64 (y.val:Int))).heap[b]?=Wd.heap[b]?:=fun b hb=>bhs _ _ _ _ hb
 have hz2:Wd.heap[w.heap.size+1+1]?=some (.cells #[v] 3 (0,0)):=(hb.block _ (zAa z2)).trans z2;refine ⟨⟨by simpa [World.setCell] using hb.size,fun b o _ hk ho=>?_⟩,⟨by simpa [World.setCell] using hb.size,fun b cs t f hx hk=>(k b hx).trans ((hb.block b (zAa hk)).trans hk)⟩,⟨_,(k _ om).trans ((hb.block _ (zAa z0)).trans z0),(k _ om).trans ((hb.block _ (zAa z1)).trans z1),?_,hpk,hcar.trans ⟨by simpa [World.setCell] using hb.size,fun b cs t f hx hk=>(k b om).trans ((hb.block b (zAa hk)).trans hk)⟩⟩,(hB.trans (hb.mono hB.size)).setCell (p:=⟨w+1+1,0,none⟩) (by show w.heap.size<=w.heap.size+1+1; omega) _⟩
 ·by_cases e:b=w.heap.size+1+1
  ·rw [e,show W.heap[w.heap.size+1+1]?=_ from z2] at hk; cases hk; cases ho
  ·exact (k b e).trans ((hb.block b (zAa hk)).trans hk)
 ·show _=_;rw [zAe _ hz2]; rfl
theorem EPick.first (h:pre=[]):EPick D cf ((pre++[y]).map (·.val)) y.val:=by
 subst h; exact .inr ⟨y.val,si,rfl,fun _ j hj=>by simp at hj; subst hj; exact nlr _⟩
theorem EPick.any (hc:cf=false):EPick D cf ((pre++[y]).map (·.val)) y.val:=.inr ⟨y.val,si,rfl,fun h=>by rw [hc] at h; cases h⟩
theorem EPick.turn (hm:cf=true->∀ j ∈ pre.map (·.val),D.free b<=D.free j) (hl:D.free y.val<D.free b):EPick D cf ((pre++[y]).map (·.val)) y.val:=
 .inr ⟨y.val,si,rfl,fun hc j hj=>by
  rw [List.map_append,List.mem_append] at hj;rcases hj with hj | hj
  ·have:=hm hc j hj; omega
  ·simp at hj; subst hj; exact nlr _⟩
theorem EPick.stay (hb:b ∈ pre.map (·.val)) (hm:cf=true->∀ j ∈ pre.map (·.val),D.free b<=D.free j) (hl:cf=false\/¬ D.free y.val<D.free b):EPick D cf ((pre++[y]).map (·.val)) b:=
 .inr ⟨b,by rw [List.map_append,List.mem_append]; exact .inl hb,rfl,fun hc j hj=>by
  rw [List.map_append,List.mem_append] at hj;rcases hj with hj | hj
  ·exact hm hc j hj
  ·simp at hj; subst hj
   rcases hl with h | h
   ·rw [h] at hc; cases hc
   ·omega⟩
end
def EInner (W:World) (K:Nat) (cf:Bool) (vo ti:Value) (W':World):Prop:=
 ∃ (i:Nat) (o:Int),i<=K/\ti = .int .i64 i/\vo = .int .i64 o/\(cf=true->o=0)/\Below W W W'
def EntRet (V:Nat) (p:Nat->Prop) (D:Lin.Dict) (cf:Bool) (e:Ending):Prop:=
 (e = .returned (.int .i64 (-1))/\∀ j,j<V->¬ p j)\/∃ s:Nat,s<V/\e = .returned (.int .i64 (s:Int))/\p s/\(cf=true->∀ j,j<V->p j->D.free s<=D.free j)
theorem zPj {x:DV} (h:DA w G x V M K D pv rw cl) (cf:Bool)
  (inj:∀ i j,i<M->j<M->D.basic i=D.basic j->i=j) (hB:∀ i,i<M->D.basic i<V+M) (hFr:∀ j,j<V->D.free j<=1000000) (hV:V<=1000) (hM:M<=1000) (hKb:K<=1000)
  (hfa:∀ i j,i<M->j<=V->Lin.Fits kb (D.a i j)) (hfc:∀ i j,i<K->j<=V->Lin.Fits kb (D.c i j)) (hk:2*kb+1<=LM)
  (p:Nat->Prop) (hp:∀ j,j<V->(p j ↔ Lin.LexNeg (K+V) (colCost D M K j))) :
  Calls Tryz.prog 161 #[.pointer (some x.d),.bool cf] w fun e w'=>EntRet V p D cf e/\Below w w w':=by
 refine (callsIn_wide (n:=6)).1 ?_;have HK:=hdq hk;have HK1:Hid (kb+1<=LM):=by show kb+1<=LM; omega
 have HFA:=hdq hfa;have HFC:=hdq hfc;have HI:=hdq inj;have HB:=hdq hB;have HFr:=hdq hFr;have HP:=hdq hp;clear hk hfa hfc inj hB hFr hp;obtain ⟨d,⟨bA,bn,bc⟩,⟨fA,fn,fc⟩,⟨rA,rn,rc⟩,⟨cA,cn,cc⟩,rb,cb⟩:=x;obtain ⟨hdl,rfl,rfl,rfl,rfl,l1,l1',l2,l2',l3,l3',l4,l4'⟩:=h.opn;refine callsIn_of_wp_marks Tryz.func161 rfl trivial ?_ rfl;simp only [Tryz.ntmps161,List.size_toArray,List.length_cons,List.length_nil,Nat.reduceAdd,Nat.reduceSub,Array.replicate_succ,Array.replicate_zero,List.push_toArray,List.append_toArray,List.nil_append,List.cons_append];gi_wp2;refine ⟨trivial,?_⟩;refine zPl.mono ?_;rintro e w2 ⟨rfl,rfl⟩;gi_wp2;obtain ⟨W0,hW0⟩:∃ W0,(((w.alloc (.cells #[.pointer (some d)] 129)).alloc (.cells #[cf] 4)).alloc (.cells #[.int .i64 (-1)] 3)).alloc (.cells #[.pointer (some d)] 129)=W0:=⟨_,rfl⟩;rw [hW0];have hk0:Below w w W0:=by rw [<-hW0]; exact ((((brf _ w).alloc (nlr _) _).alloc si _).alloc (by simp; omega) _).alloc (by simp; omega) _
 have hs0:W0.heap.size=w.heap.size+4:=by rw [<-hW0]; simp
 have x0:Boxed W0 w 129 (.pointer (some d)):=by
  rw [<-hW0]; exact ((Boxed.new w _ _).alloc _).alloc _ |>.alloc _
 have x1:Boxed W0 (w+1) 4 cf:=by
  have:=((Boxed.new (w.alloc (.cells #[.pointer (some d)] 129)) 4 cf).alloc (.cells #[.int .i64 (-1)] 3)).alloc (.cells #[.pointer (some d)] 129);rw [World.size_alloc,hW0] at this; exact this
 have x2:Boxed W0 (w+1+1) 3 (.int .i64 (-1)):=by
  have:=(Boxed.new ((w.alloc (.cells #[.pointer (some d)] 129)).alloc (.cells #[cf] 4)) 3 (.int .i64 (-1))).alloc (.cells #[.pointer (some d)] 129);rw [World.size_alloc,World.size_alloc,hW0] at this; exact this
 have x3:Boxed W0 (w+1+1+1) 129 (.pointer (some d)):=by
  have:=Boxed.new (((w.alloc (.cells #[.pointer (some d)] 129)).alloc (.cells #[cf] 4)).alloc (.cells #[.int .i64 (-1)] 3)) 129 (.pointer (some d));rw [World.size_alloc,World.size_alloc,World.size_alloc,hW0] at this; exact this
 clear hW0
 refine wpIn_rangeFunc_ownG (F:=Fence.wide) rfl om (gf:=230) (lb:=#[.pointer (some ⟨w+1+1+1,0,none⟩)]) rfl trivial (enters_of Tryz.func230 kj rfl)
  (zPB (E:=fun y=>y=w.heap.size+1+1) om h HI.out HB.out HFr.out hV hM hKb HFA.out HFC.out HK.out p HP.out x3 (by intro y hy; omega) (by intro y hy; omega) om (Carry.of_below hk0))
  (fun h k=>h.trans k) (fun W l o o' _ hl ho _=>Carry.putObj o' hl ho) (brf _ _) (fun _=>rfl)
  (fun pre W=>EInv w d V p D cf pre W/\Below w w W)
  (fun _ _ _=>False)
  (OwnFrom.and (Own.from EInv.own _) (ownFrom_below (nlr _) om))
  (fun _ _ _ _ _ hs _ _=>hs)
  ⟨⟨_,x0,x1,x2,.inl ⟨rfl,rfl⟩,Carry.of_below hk0⟩,hk0⟩
  (fun y=>{tmps:=#[.pointer (some d),.bool cf,.pointer (some w),.pointer (some ⟨w+1,0,none⟩),.int .i64 0,.pointer (some ⟨w+1+1,0,none⟩),.int .i64 (y.val:Int),undef,undef,.pointer (some d),.func (.func 230) #[] #[.pointer (some ⟨w+1+1+1,0,none⟩)],.int .i64 (y.val:Int),undef,undef,undef,undef,undef,undef,undef,undef,undef,undef,undef,undef,undef,undef,undef,undef,undef,undef,undef,undef,undef,undef,undef,undef,undef,undef,undef,undef,undef,undef,undef,undef,undef,undef,undef,undef,undef,undef,undef,undef,undef,undef,undef,undef,undef,undef,undef,undef,undef,undef,undef,undef,undef,undef,undef,undef,undef,undef,undef,undef,undef,undef,undef,undef,undef,undef,undef,undef,undef,undef,undef],defers:=[]}) ?assign ?body ?done ?stop
 case assign=>
  intro l y W K hK;gi_wp2;exact hK
 case stop=>
  rintro D c pre W _ _ h _;exact h.elim
 case done=>
  rintro Dd ys W hDd hys ⟨⟨v,z0,z1,z2,hpk,hcar⟩,hB⟩ hK0;have c1:=z2.cell;have Hs:=hdq hs0;have Hys:=hdq hys;have Hpk:=hdq hpk;clear hs0 x0 x1 x2 x3 hys hpk;gi_wp2;refine ⟨si,.inl ⟨_,_,rfl,run_takeDeferred hK0,?_⟩⟩;refine ⟨_,results_tmp rfl _ _ _,?_,?_⟩
  ·have hm:=Cands.mem Hys.out;rcases Hpk.out with ⟨e,e0⟩ | ⟨b,hb,e,hmin⟩
   ·refine .inl ⟨by simp [e],fun j hj hpj=>?_⟩;have:=(hm j).2 ⟨hj,hpj⟩;rw [e0] at this; cases this
   ·have hb':=(hm b).1 hb;exact .inr ⟨b,hb'.1,by simp [e],hb'.2,fun hc j hj hpj=>hmin hc j ((hm j).2 ⟨hj,hpj⟩)⟩
  ·exact hB.trans (belowK_b (w:=w) (nlr _) W Dd _ _ (by have:=Hs.out; omega) hK0 rfl rfl)
 case body=>
  rintro l pre y W ⟨⟨v,z0,z1,z2,hpk,hcar⟩,hB⟩ hlt;have Hs:=hdq hs0;clear hs0 x0 x1 x2 x3 hk0;have hD:=h.carry hcar;have c0:=z0.cell;have c1:=z1.cell;have c2:=z2.cell;have hyV:=y.2.1;rcases hpk with ⟨rfl,hp0⟩ | ⟨b,hb,rfl,hmin⟩
  ·have hp0':pre=[]:=List.map_eq_nil_iff.1 hp0;gi_wp2;have H1:EInner W K cf (.int .i64 0) (.int .i64 0) W:=⟨0,0,nzl _,rfl,rfl,fun _=>rfl,brf _ _⟩;(gi_loopw [7,8] (fun o i W'=>EInner W K cf o i W') (fun _ i _=>K-(intOf i).toNat));case atStart=>exact H1
   case round=>
    clear H1;obtain ⟨i,o,hi,rfl,rfl,hco,hbl⟩:=hrel;obtain ⟨hcb,hcf⟩:=bcell hbl;have k0:=(hcb _ 0 (zAa z0)).trans c0;have k1:=(hcb _ 0 (zAa z1)).trans c1;have k2:=(hcb _ 0 (zAa z2)).trans c2;have f2:∀ o,wr.frozen? ⟨w.heap.size+1+1,o,none⟩=false:=fun o=>by rw [hcf _ o (zAa z2)]; simp [World.frozen?,show W.heap[w.heap.size+1+1]?=_ from z2]
    have hBwr:w.heap.size<=wr.heap.size:=by have:=hB.size; have:=hbl.size; omega
    have t2:w.heap.size+1+1<wr.heap.size:=by have:=zAa z2; have:=hbl.size; omega
    clear hcb hcf;gi_wp2;refine zBi 1000 (fun _ w'=>Sees w [] wr w') kj kj (by rintro ⟨_,_,h⟩; exact h) ?_;have hS0:Sees w [] wr wr.drew:=Sees.st si hBwr;refine tx1 0 hS0 ?_;refine tx1 1 hS0 ?_;refine tx1 2 hS0 ?_;refine tn1 3 hS0 ?_;refine tn1 4 hS0 ?_;refine tx1 5 hS0 ?_;refine tx1 6 hS0 ?_;refine tn4 7 8 9 10 hS0 ?_;refine tn4 11 12 13 14 hS0 ?_;refine tn4 15 16 17 18 hS0 ?_;refine tn4 19 20 21 22 hS0 ?_;refine tn1 23 hS0 ?_;refine tn1 24 hS0 ?_;refine tn1 25 hS0 ?_;refine tx1 26 hS0 ?_;refine zAf kj ?_ _;have hbd:Below W W wr.drew:=hbl.drew;clear hS0;gi_wp2;exact zO5 z0 z1 z2 hbd (EPick.first hp0') hcar hB
  ·have hbV:b<V:=by
    obtain ⟨yb,_,rfl⟩:=List.mem_map.1 hb;exact yb.2.1
   have hb0:(0:Int)<=(b:Int):=om;have hb1:¬ ((b:Int)<0):=om;obtain ⟨gf,e,f0,f1,f2⟩:=hD.fre.elem hyV;dsimp only at e f0;subst e;obtain ⟨gf',e',f0b,-,-⟩:=hD.fre.elem hbV;cases e';have Hb:=hdq hb;have Hmin:=hdq hmin;obtain ⟨-,-,e2,-,e4,-⟩:=hD.cells;dsimp only [SV.val] at e2 e4;have hdW:d<W.heap.size:=hD.dlt;have hyI:(y.val:Int)<(V:Int):=om;have hbI:(b:Int)<(V:Int):=om;have HD:=hdq hD;clear hb hmin hD;gi_wp2;have H1:EInner W K cf (.int .i64 0) (.int .i64 0) W:=⟨0,0,nzl _,rfl,rfl,fun _=>rfl,brf _ _⟩;(gi_loopw [7,8] (fun o i W'=>EInner W K cf o i W') (fun _ i _=>K-(intOf i).toNat));case atStart=>exact H1
   case round=>
    clear H1;obtain ⟨i,o,hi,rfl,rfl,hco,hbl⟩:=hrel;obtain ⟨hcb,hcf⟩:=bcell hbl;have k0:=(hcb _ 0 (zAa z0)).trans c0;have k1:=(hcb _ 0 (zAa z1)).trans c1;have k2:=(hcb _ 0 (zAa z2)).trans c2;have k3:=(hcb _ 2 hdW).trans e2;have k4:=(hcb _ 4 hdW).trans e4;have k5:=(hcb _ _ f2).trans f0;have k6:=(hcb _ _ f2).trans f0b;have ff2:∀ o,wr.frozen? ⟨w.heap.size+1+1,o,none⟩=false:=fun o=>by rw [hcf _ o (zAa z2)]; simp [World.frozen?,show W.heap[w.heap.size+1+1]?=_ from z2]
    have hBwr:w.heap.size<=wr.heap.size:=by have:=hB.size; have:=hbl.size; omega
    have t0:w.heap.size<wr.heap.size:=by have:=zAa z2; have:=hbl.size; omega
    have t1:w.heap.size+1<wr.heap.size:=by have:=zAa z2; have:=hbl.size; omega
    have t2:w.heap.size+1+1<wr.heap.size:=by have:=zAa z2; have:=hbl.size; omega
    have t3:d<wr.heap.size:=by have:=hbl.size; omega
    have t4:gf<wr.heap.size:=by have:=hbl.size; omega
    clear hcb hcf;by_cases hgo:cf=false/\i<K/\o=0
    ·obtain ⟨rfl,hiK,rfl⟩:=hgo;have hD3:=HD.out.call hbl;obtain ⟨gc,e,r0,r1,r2⟩:=hD3.cst.elem hiK;dsimp only at e r0;subst e;have hrow:=hD3.csts i hiK;dsimp only at hrow;have hrl:=hrow.lt;obtain ⟨u,⟨q0,q1,q2,q3⟩,hu⟩:=hrow.elem y.val (by rw [zAm]; omega);rw [zAL _ om] at hu;dsimp only at q1 q2 q3;obtain ⟨u',⟨q0',q1',q2',q3'⟩,hu'⟩:=hrow.elem b (by rw [zAm]; omega);rw [zAL _ om] at hu';dsimp only at q1' q2' q3';have Hu:=hdq (hu.qis (zAv (HFC.out i y.val hiK om)));have Hu':=hdq (hu'.qis (zAv (HFC.out i b hiK om)));have hy1:y.val<V+1:=om;have hb2:b<V+1:=om;have hy1i:(y.val:Int)<(V:Int)+1:=om;have hb2i:(b:Int)<(V:Int)+1:=om;clear hu hu' hrow hD3;gi_wp2;refine zBi 1000 (fun _ w'=>Sees w [] wr w') kj kj (by rintro ⟨_,_,h⟩; exact h) ?_;have hS0:Sees w [] wr wr.drew:=Sees.st si hBwr;refine tx4 0 1 2 3 hS0 ?_;refine tx4 4 5 6 7 hS0 ?_;refine tx4 8 9 10 11 hS0 ?_;refine tx4 12 13 14 15 hS0 ?_;refine tx4 16 17 18 19 hS0 ?_;refine tk1 20 ?_;intro K' hK;go_simp;refine (zBg (a:=u) (b:=u') (Hu.out.keptNil hS0.kept) (Hu'.out.keptNil hS0.kept) HK1.out HK1.out).mono ?_;rintro e w4 ⟨rfl,hb4⟩;dsimp only;have hS4:=Kept.call2 hb4 hS0;refine hK.out _ _ hS4 ?_;clear hK K';refine tx1 21 hS4 ?_;refine zAf kj ?_ _;have Hfin:Hid (EInner W K false (.int .i64 (qcmp (D.c i y.val) (D.c i b))) (.int .i64 ((i:Int)+1)) w4):=⟨i+1,_,om,si,rfl,(fun h=>by cases h),hbl.trans (hS4.kept.whole.mono hbl.size)⟩;clear hS0 hS4 hb4;gi_wp2;exact ⟨Hfin.out,by simp [intOf]; omega⟩
    ·cases cf
     focus
      by_cases hiK:i<K
      focus
       have hn0:¬ (o=0):=(fun e=>hgo ⟨rfl,hiK,e⟩);have hn0b:(o == 0)=false:=by simp; omega
       by_cases ho:o<0
      rotate_left 2
      focus
       by_cases ho:o<0;rotate_left
       focus
        by_cases ho2:o=0
        focus
         subst ho2
     rotate_left 5
     focus
      obtain rfl:=hco rfl
     all_goals first
     | focus
       have hq:o<0:=(by assumption);gi_wp2;refine zBi 1000 (fun _ w'=>Sees w [] wr w') kj kj (by rintro ⟨_,_,h⟩; exact h) ?_;have hS0:Sees w [] wr wr.drew:=Sees.st si hBwr;refine tx4 0 1 2 3 hS0 ?_;refine tx1 4 hS0 ?_;refine tx1 5 hS0 ?_;refine tx1 6 hS0 ?_;refine tn4 7 8 9 10 hS0 ?_;refine tn4 11 12 13 14 hS0 ?_;refine tn4 15 16 17 18 hS0 ?_;refine tn4 19 20 21 22 hS0 ?_;refine tn1 23 hS0 ?_;refine tn1 24 hS0 ?_;refine tn1 25 hS0 ?_;refine tx1 26 hS0 ?_;refine zAf kj ?_ _;have hbd:Below W W wr.drew:=hbl.drew;clear hS0;gi_wp2
       exact zO5 z0 z1 z2 hbd (EPick.any rfl) hcar hB
     | focus
       have hn3:¬ (o=0):=(by assumption);have hn1:¬ (o<0):=(by assumption);gi_wp2;have hn1d:decide (o<0)=false:=by simp; omega
       have hn2:(o == 0)=false:=by simp; omega
       refine zBi 1000 (fun _ w'=>Sees w [] wr w') kj kj (by rintro ⟨_,_,h⟩; exact h) ?_;have hS0:Sees w [] wr wr.drew:=Sees.st si hBwr;refine tx4 0 1 2 3 hS0 ?_;refine tx4 4 5 6 7 hS0 ?_;refine tx1 8 hS0 ?_;refine tx1 9 hS0 ?_;refine tn4 10 11 12 13 hS0 ?_;refine tn4 14 15 16 17 hS0 ?_;refine tn4 18 19 20 21 hS0 ?_;refine tn1 22 hS0 ?_;refine tn1 23 hS0 ?_;refine tn1 24 hS0 ?_;refine tx1 25 hS0 ?_;refine tx1 26 hS0 ?_;refine zAf kj ?_ _;have hbd:Below W W wr.drew:=hbl.drew;clear hS0;gi_wp2
       exact zO8 z0 z1 z2 hbd (EPick.stay Hb.out (fun h=>Hmin.out (by first | exact h | trivial | cases h)) (.inl rfl)) hcar hB
     | focus
       by_cases hki:(D.free y.val:Int)<(D.free b:Int)
       all_goals
        gi_wp2;refine zBi 1000 (fun _ w'=>Sees w [] wr w') kj kj (by rintro ⟨_,_,h⟩; exact h) ?_;have hS0:Sees w [] wr wr.drew:=Sees.st si hBwr;refine tx4 0 1 2 3 hS0 ?_;refine tx4 4 5 6 7 hS0 ?_;refine tx4 8 9 10 11 hS0 ?_;refine tx4 12 13 14 15 hS0 ?_;refine tx4 16 17 18 19 hS0 ?_;refine tx4 20 21 22 23 hS0 ?_;refine tx1 24 hS0 ?_;refine tx1 25 hS0 ?_;refine tx1 26 hS0 ?_;refine zAf kj ?_ _;have hbd:Below W W wr.drew:=hbl.drew;clear hS0;gi_wp2
        first
        | exact zO5 z0 z1 z2 hbd (EPick.turn (fun h=>Hmin.out (by first | exact h | trivial | cases h)) om) hcar hB
        | exact zO8 z0 z1 z2 hbd (EPick.stay Hb.out (fun h=>Hmin.out (by first | exact h | trivial | cases h)) (.inr om)) hcar hB
end Go.Proofs.YtbpngececjihlaaGreat
namespace Go.Proofs.YtbpngececjihlaaGreat
open Go.RowKit Go.Shelf
variable {j V M K kb B B' b L:Nat} {D:Lin.Dict} {pv rw cl z:Int} {G X Y:Nat->Prop} {w:World} {l bs:List Rat} {s:SV} {os rs:List (List Rat)} {p:LPV} {T:TypeId}
def CandP (P:Lin.Prob) (D:Lin.Dict) (j:Nat):Prop:=Lin.LexNeg (P.K+P.n) fun l=>D.cost P l j
theorem zPH {P:Lin.Prob} (g:Lin.Good P D) (hj:j<P.n):CandP P D j ↔ Lin.LexNeg (P.K+P.n) (colCost D P.m P.K j):=by
 have e:∀ l,l<P.K+P.n->D.cost P l j=colCost D P.m P.K j l:=fun l hl=>by
  unfold colCost;by_cases h:l<P.K
  ·rw [if_pos h]; simp [Lin.Dict.cost,h]
  ·rw [if_neg h,<-zPM g (k:=l-P.K) om hj,show P.K+(l-P.K)=l by omega]
 exact ⟨fun h=>h.congr fun l hl=>e l hl,fun h=>h.congr fun l hl=>(e l hl).symm⟩
def ILoop (w:World) (G:Nat->Prop) (x:DV) (V M K:Nat) (P:Lin.Prob) (rank:Lin.Dict->Bool->Nat) (rw cl:Int) (k:Nat) (vb vc:Value) (W:World):Prop:=
 ∃ (D:Lin.Dict) (pv:Int) (cf:Bool),k=rank D cf/\vb = .bool true/\vc = .bool cf/\DA W G x V M K D pv rw cl/\Lin.Good P D/\Lin.Feas P D/\Fr G w W
def ImpRet (w:World) (G:Nat->Prop) (x:DV) (V M K:Nat) (P:Lin.Prob) (rw:Int) (e:Ending) (w':World):Prop:=
 ∃ (D:Lin.Dict) (pv cl:Int) (b:Bool),e = .returned (.bool b)/\DA w' G x V M K D pv rw cl/\Lin.Good P D/\Lin.Feas P D/\Fr G w w'/\(b=true->∀ j,j<V->¬ CandP P D j)/\(b=false->∃ s,s<V/\cl=(s:Int)/\CandP P D s/\∀ i,i<M->¬ 0<D.a i s)
theorem zPo {x:DV} {P:Lin.Prob} (h:DA w G x V M K D pv rw cl) (e1:P.n=V) (e2:P.m=M) (e3:P.K=K) (hg:Lin.Good P D) (hfe:Lin.Feas P D) (hV:V<=1000) (hM:M<=1000) (hKb:K<=1000)
  (hfit:∀ D,Lin.Good P D->D.Fits P kb) (hk:2*kb+1<=LM) :
  Calls Tryz.prog 84 #[.pointer (some x.d)] w fun e w'=>ImpRet w G x V M K P rw e w':=by
 obtain ⟨rank,hrank⟩:=Lin.zPv P;have HR:=hdq hrank;have HK:=hdq hk;have HFit:=hdq hfit;have HE:Hid (P.n=V/\P.m=M/\P.K=K):=⟨e1,e2,e3⟩;clear hrank hk hfit e1 e2 e3;have H0:ILoop w G x V M K P rank rw cl (rank D false) true false w:=⟨D,pv,false,rfl,rfl,rfl,h,hg,hfe,Fr.refl _ _⟩;clear h hg hfe;go_enter Tryz.func84,Tryz.ntmps84
 go_wp2;go_step3;go_wp2;go_step3;go_wp2;go_loopg [3,4] (rank D false) (fun k b c W=>ILoop w G x V M K P rank rw cl k b c W)
 case atStart=>exact H0
 case round=>
  clear H0;obtain ⟨D,pv,cf,hgk,rfl,rfl,hD,hG,hFe,hF⟩:=hrel;have hfit:=HFit.out D hG;obtain ⟨E1,E2,E3⟩:=HE.out;unfold Lin.Dict.Fits at hfit;rw [E1,E2,E3] at hfit;have HFA:=hdq hfit.1;have HFC:=hdq hfit.2;have HGk:=hdq hgk;have HI:Hid (∀ i j,i<M->j<M->D.basic i=D.basic j->i=j):=fun i j hi hj e=>hG.bInj i j om om e
  have HB:Hid (∀ i,i<M->D.basic i<V+M):=fun i hi=>by have:=hG.bLt i om; omega
  have HFr:Hid (∀ j,j<V->D.free j<=1000000):=fun j hj=>by have:=hG.fLt j om; omega
  have HP:Hid (∀ j,j<V->(CandP P D j ↔ Lin.LexNeg (K+V) (colCost D M K j))):=fun j hj=>by have:=zPH hG (j:=j) om; rwa [E1,E2,E3] at this
  clear hfit E1 E2 E3 hgk;go_wp2_with fail
  refine (zPj (kb:=kb) hD cf HI.out HB.out HFr.out hV hM hKb HFA.out HFC.out HK.out (CandP P D) HP.out).mono ?_;rintro e w1 ⟨hent,hb1⟩;have hD1:=hD.call hb1;have hF1:=hF.call hb1;clear hD hF hb1;rcases hent with ⟨rfl,hno⟩ | ⟨s,hs,rfl,hps,hfirst⟩
  ·have Hno:=hdq hno;clear hno;go_wp2;(try rw [Exit.noGoto_ret]);go_ret;exact ⟨D,pv,cl,true,rfl,hD1,hG,hFe,hF1,(fun _=>Hno.out),fun h=>by cases h⟩
  ·have hs0:¬ ((s:Int)<0):=om;have Hps:=hdq hps;have Hfirst:=hdq hfirst;clear hps hfirst;(go_wp2_with fail);refine (zPp (kb:=kb) (col:=s) hD1 hs hV hM HFA.out HK.out).mono ?_;rintro e w2 ⟨⟨v,rfl,hlp⟩,hb2⟩;have hD2:=hD1.call hb2;have hF2:=hF1.call hb2;clear hD1 hF1 hb2;rcases hlp with ⟨rfl,hno⟩ | ⟨r,hr,rfl,hpr,hmin,hles⟩
   ·obtain ⟨-,-,-,-,-,-,-,c7,c8⟩:=hD2.cells;have hD3:=hdq (hD2.setD (o:=7) (v:=.int .i64 (s:Int)) (pv':=pv) (rw':=rw) (cl':=(s:Int)) rfl);have hF3:=hdq (hF2.set (p:=⟨x.d,7,none⟩) hD2.gd s);have Hno:=hdq hno;clear hno hD2 hF2;go_wp2;(try rw [Exit.noGoto_ret]);go_ret;exact ⟨D,pv,(s:Int),false,rfl,hD3.out,hG,hFe,hF3.out,(fun h=>by cases h),fun _=>⟨s,hs,rfl,Hps.out,Hno.out⟩⟩
   ·have hr0:¬ ((r:Int)<0):=om
    have hsel:Lin.ISel P D cf r s:=by
     obtain ⟨E1,E2,E3⟩:=HE.out;refine ⟨om,Hps.out,fun hc j hj hn=>Hfirst.out hc j om hn,om,hpr,fun i hi hp=>?_,fun i hi hp e=>?_⟩
     ·have:=hmin i om hp; unfold ratio at this; rw [E1]; exact this
     ·rw [E1] at e; exact hles i om hp e
    have HS:=hdq hsel;have hGp:=hG.pivot hsel.hr hsel.hs hsel.ne;have hFp:=hsel.feas hFe;have hfp:=HFit.out _ hGp
    have Hlt:Hid (rank (D.pivot r s) (decide (D.a r V=0))<gk):=by
     show _<_;have:=HR.out D cf r s hG hFe hsel;rw [HE.out.1] at this;rw [HGk.out]; exact this
    have HFS:Hid (∀ j,j<=V->Lin.Fits kb (Lin.scaled s (D.a r) j)):=fun j hj=>by
     have:=hfp.1 r j hsel.hr (by rw [HE.out.1]; exact hj);simpa [Lin.Dict.pivot] using this
    clear hmin hles hsel hfp hpr;(go_wp2_with fail);refine (zO2 (i:=r) hD2 hr hV hM).mono ?_;rintro e w3 ⟨⟨v,rfl,hv⟩,hb3⟩;(go_wp2_with fail);refine (zAn (hv.qis (zAv (HFA.out r V hr (nlr _))))).mono ?_;rintro e w4 ⟨rfl,hb4⟩;have hD4:=(hD2.call hb3).call hb4;have hF4:=(hF2.call hb3).call hb4;clear hD2 hF2 hb3 hb4 hv;have hq0:=zPJ (q:=D.a r V);generalize hdec:decide (D.a r V=0)=z at *;(go_wp2_with fail);refine (zPf (kb:=kb) hD4 hr hs hV hM hKb HS.out.ne HFA.out HFC.out HFS.out HK.out).mono ?_;rintro e w5 ⟨⟨v,rfl⟩,pv',hD5,hF5⟩;have Hfin:Hid (ILoop w G x V M K P rank rw cl (rank (D.pivot r s) z) true z w5):=⟨_,pv',z,rfl,rfl,rfl,hD5,hGp,hFp,hF4.trans hF5⟩;clear hD5 hF5 hD4 hF4;go_wp2;(go_roundg (rank (D.pivot r s) z));case measure=>exact Hlt.out
    case rel=>exact Hfin.out
def SolveRet (w:World) (P:Lin.Prob) (e:Ending) (w':World):Prop:=
 ∃ r:RV,e = .returned (.tuple #[r.val,.int .i64 0])/\
  ((r.kind=1/\∃ (D:Lin.Dict) (l:List Rat),Lin.Good P D/\Lin.Feas P D/\(∀ j,j<P.n->¬ CandP P D j)/\l=(List.range P.n).map (D.point P)/\VecCan w' (New w) (New w) r.X l/\MatCan w' (New w) (New w) r.Y ((List.range P.m).map fun i=>(List.range (P.K+P.n)).map (priceTo D P.n P.m P.K P.n i))/\r.R=⟨none,0,0⟩/\r.F=⟨none,0,0⟩)\/
   (r.kind=2/\∃ (D:Lin.Dict) (k:Nat) (l:List Rat),Lin.Good P D/\k<P.m/\D.a k P.n<0/\(∀ j,j<P.n->0<=D.a k j)/\l=(List.range P.m).map (farkasOf D P.n k)/\VecCan w' (New w) (New w) r.F l/\r.X=⟨none,0,0⟩/\r.Y=⟨none,0,0⟩/\r.R=⟨none,0,0⟩)\/
   (r.kind=3/\∃ (D:Lin.Dict) (s:Nat) (l l':List Rat),Lin.Good P D/\Lin.Feas P D/\s<P.n/\CandP P D s/\(∀ i,i<P.m->¬ 0<D.a i s)/\l=(List.range P.n).map (D.point P)/\l'=(List.range P.n).map (D.dir P s)/\VecCan w' (New w) (New w) r.X l/\VecCan w' (New w) (New w) r.R l'/\r.Y=⟨none,0,0⟩/\r.F=⟨none,0,0⟩))
theorem vput6 (h:VecCan w (New B) (New B) s l) (hb:b<B) (hB:B'<=B) (v0 v1 v2 v3 v4 v5:Value):VecCan (put6 w b v0 v1 v2 v3 v4 v5) (New B') (New B') s l:=by
 have hk:∀ p:Addr,New B p.block->(put6 w b v0 v1 v2 v3 v4 v5).cell? p=w.cell? p:=fun p hp=>cob (zO4 _ _ _ _ _ _ _ _ (by simp only [New] at hp; omega))
 exact (h.keep (R':=QCan (put6 w b v0 v1 v2 v3 v4 v5) (New B)) (fun a ha _=>hk a ha) fun v q hq=>hq.keep fun p hp _=>hk p hp).imp (fun x _ hx=>nlt hB hx) fun v q hq=>hq.imp fun x _ hx=>nlt hB hx
theorem mput6 {l:List (List Rat)} (h:MatCan w (New B) (New B) s l) (hb:b<B) (hB:B'<=B) (v0 v1 v2 v3 v4 v5:Value):MatCan (put6 w b v0 v1 v2 v3 v4 v5) (New B') (New B') s l:=by
 have hk:∀ p:Addr,New B p.block->(put6 w b v0 v1 v2 v3 v4 v5).cell? p=w.cell? p:=fun p hp=>cob (zO4 _ _ _ _ _ _ _ _ (by simp only [New] at hp; omega))
 exact (h.keep (R':=QCan (put6 w b v0 v1 v2 v3 v4 v5) (New B)) (fun a ha _=>hk a ha) fun v q hq=>hq.keep fun p hp _=>hk p hp).imp (fun x _ hx=>nlt hB hx) fun v q hq=>hq.imp fun x _ hx=>nlt hB hx
theorem zPz (h:LPIs w X Y L p os rs bs) (hV:p.n=V) (hV2:V<=64) (ho1:1<=p.O.n) (ho2:p.O.n<=4) (hr:p.R.n<=128) (hb:p.B.n=p.R.n) (hco:colsOf os<=V) (hcr:colsOf rs<=V) (hL:L+1<=LM)
  (hfit:∀ D,Lin.Good (probOf V os rs bs) D->D.Fits (probOf V os rs bs) kb) (hk:2*kb+1<=LM) :
  Calls Tryz.prog 26 #[p.val] w fun e w'=>SolveRet w (probOf V os rs bs) e w'/\Below w w w':=by
 have HL:=hdq hL;have HK:=hdq hk;have HFit:=hdq hfit;have HLen:Hid (rs.length=p.R.n/\os.length=p.O.n):=⟨h.rows.len,h.obj.len⟩;clear hL hk hfit;obtain ⟨n,O,R,⟨BA,Bn,Bc⟩⟩:=p;dsimp only at hV ho1 ho2 hr hb;subst hV hb;obtain ⟨P,hP⟩:∃ P,P=probOf V os rs bs:=⟨_,rfl⟩;have HEE:Hid (P.n=V/\P.m=rs.length/\P.K=os.length):=by rw [hP]; exact ⟨rfl,rfl,rfl⟩
 rw [<-hP] at HFit ⊢;have HP:=hdq hP;clear hP;go_enter Tryz.func26,Tryz.ntmps26
 go_wp2_with fail
 obtain ⟨W1,hW1⟩:∃ W1,W1=(w.alloc (.cells #[V,O,R,.slice BA R.n Bc] 25)).alloc (.cells zeroR 60):=⟨_,rfl⟩;rw [<-hW1];have hbW:Below w w W1:=by rw [hW1]; exact (bal).alloc si _
 have hX1:Box6 W1 (w+1) (.int .u8 0) () () () () (.int .i64 0):=by rw [hW1]; exact zAd _ _ si
 have bP:Box4 W1 w V O R (.slice BA R.n Bc):=by rw [hW1]; exact bx4
 have hs1:w.heap.size+1<W1.heap.size:=zAa hX1;clear hW1;refine (zBv (p:=⟨V,O,R,⟨BA,R.n,Bc⟩⟩) (h.below hbW) rfl hV2 ho1 ho2 hr rfl hco hcr).mono ?_;rintro e w2 ⟨rfl,hb2⟩;have bP2:=bP.below hb2 om;have hbw2:=hbW.trans (hb2.mono hbW.size);have hX2:Box6 w2 (w+1) (.int .u8 0) () () () () (.int .i64 0):=(hb2.block _ hs1).trans hX1;have hs2:w.heap.size+1<w2.heap.size:=zAa hX2;clear hb2 bP hX1 hbW hs1;go_wp2_with fail
 refine (zPa (p:=⟨V,O,R,⟨BA,R.n,Bc⟩⟩) (h.below hbw2) rfl hV2 ho2 hr rfl HL.out).mono ?_;rintro e w3 ⟨x,G,rfl,hD,hG,hb3⟩;have hbw3:=hbw2.trans (hb3.mono hbw2.size);have hX3:Box6 w3 (w+1) (.int .u8 0) () () () () (.int .i64 0):=(hb3.block _ hs2).trans hX2;have hGw:Hid (∀ b,G b->w.heap.size+1<b):=fun b hb=>by have:=hG b hb; omega
 have hs3:w.heap.size+1<w3.heap.size:=zAa hX3;have HE:Hid (rs.length<=1000/\os.length<=1000):=by obtain ⟨a,b⟩:=HLen.out; exact ⟨by have:rs.length=R.n:=a; omega,by have:os.length=O.n:=b; omega⟩
 clear hb3 bP2 hX2 hbw2 hG hs2;rw [<-HP.out] at hD;have hGood:=P.start_good;go_wp2_with fail
 refine (zPr (kb:=kb) hD HEE.out.1 HEE.out.2.1 HEE.out.2.2 hGood om HE.out.1 HE.out.2 HFit.out HK.out).mono ?_;rintro e w4 ⟨D,pv,rw,b,rfl,hD4,hG4,hF4,hfe,hinf⟩;have hb4:Below w w w4:=hbw3.trans (hF4.below om fun b hb=>by have:=hGw.out b hb; omega);have hX4:Box6 w4 (w+1) (.int .u8 0) () () () () (.int .i64 0):=(hF4.block _ hs3 fun hg=>by have:=hGw.out _ hg; omega).trans hX3;have hs4:w.heap.size+1<w4.heap.size:=zAa hX4;clear hD hbw3 hX3 hF4
 cases b with
 | false=>
  obtain ⟨r,hr,rfl,hneg,hnn⟩:=hinf rfl;clear hfe hinf;obtain ⟨E1,E2,E3⟩:=HEE.out;have hfit:=HFit.out D hG4;unfold Lin.Dict.Fits at hfit;rw [E1,E2,E3] at hfit;have HFA:=hdq hfit.1;have A1:Hid (∀ i j,i<V->j<V->D.free i=D.free j->i=j):=fun i j hi hj e=>hG4.fInj i j om om e
  have A2:Hid (∀ i,i<rs.length->D.basic i<V+rs.length):=fun i hi=>by have:=hG4.bLt i om; omega
  have A3:Hid (∀ j,j<V->D.free j<V+rs.length):=fun j hj=>by have:=hG4.fLt j om; omega
  have A4:Hid (∀ j,j<V->D.basic r ≠ D.free j):=fun j hj=>hG4.apart r j om om
  have A5:Hid (D.a r P.n<0/\(∀ j,j<P.n->0<=D.a r j)/\r<P.m):=⟨by rw [E1]; exact hneg,by rw [E1]; exact hnn,om⟩;have A6:Hid ((List.range rs.length).map (farkasOf D V r)=(List.range P.m).map (farkasOf D P.n r)):=by show _=_; rw [E1,E2]
  clear hfit E1 E2 E3 hneg hnn;go_wp2_with fail
  refine (zPc (kb:=kb) hD4 hr A1.out A2.out A3.out A4.out om HE.out.1 HFA.out HK.out).mono ?_;rintro e w6 ⟨⟨sF,pv',rfl,hv⟩,hb6⟩;rw [A6.out] at hv;obtain ⟨FA,Fn,Fc⟩:=sF;have Hv:=hdq hv;have hb5:=hb4;clear hv hb4 hD4;have hX6:Box6 w6 (w+1) (.int .u8 0) () () () () (.int .i64 0):=(hb6.block _ (by have:=hb5.size; omega)).trans hX4;obtain ⟨s0,s1,s2,s3,s4,s5,s6⟩:=zO1 hX6;have hbf:=hb5.trans (hb6.mono hb5.size);clear hb6;go_wp2;obtain ⟨v0,v1,v2,v3,v4,v5,-⟩:=zO1 (zO9 hX6 (.int .u8 2) () () () (.slice FA Fn Fc) pv');simp only [put6] at v0 v1 v2 v3 v4 v5
  refine bodyPost_ret (v:=.tuple #[RV.val ⟨2,⟨none,0,0⟩,⟨none,0,0⟩,⟨none,0,0⟩,⟨FA,Fn,Fc⟩,pv'⟩,.int .i64 0]) (by simp [results,Tryz.results26,go_sem,v0,v1,v2,v3,v4,v5]) rfl ⟨⟨⟨2,⟨none,0,0⟩,⟨none,0,0⟩,⟨none,0,0⟩,⟨FA,Fn,Fc⟩,pv'⟩,rfl,.inr (.inl ⟨rfl,D,r,_,hG4,A5.out.2.2,A5.out.1,A5.out.2.1,rfl,vput6 Hv.out om om _ _ _ _ _ _,rfl,rfl,rfl⟩)⟩,zO3 hbf om (.int .u8 2) () () () (.slice FA Fn Fc) pv'⟩
 | true=>
  have hfe2:=hfe rfl;clear hfe hinf;go_wp2_with fail
  refine (zPo (kb:=kb) hD4 HEE.out.1 HEE.out.2.1 HEE.out.2.2 hG4 hfe2 om HE.out.1 HE.out.2 HFit.out HK.out).mono ?_;rintro e w5 ⟨D5,pv5,cl,b,rfl,hD5,hG5,hfe5,hF5,hopt,hunb⟩;have hb5:Below w w w5:=hb4.trans (hF5.below om fun b hb=>by have:=hGw.out b hb; omega);have hX5:Box6 w5 (w+1) (.int .u8 0) () () () () (.int .i64 0):=(hF5.block _ hs4 fun hg=>by have:=hGw.out _ hg; omega).trans hX4;have hs5:w.heap.size+1<w5.heap.size:=zAa hX5;clear hD4 hb4 hX4 hF5;obtain ⟨E1,E2,E3⟩:=HEE.out;have hfit:=HFit.out D5 hG5;unfold Lin.Dict.Fits at hfit;rw [E1,E2,E3] at hfit;have HFA:=hdq hfit.1;have HFC:=hdq hfit.2;have A0:Hid (∀ i j,i<rs.length->j<rs.length->D5.basic i=D5.basic j->i=j):=fun i j hi hj e=>hG5.bInj i j om om e
  have A1:Hid (∀ i j,i<V->j<V->D5.free i=D5.free j->i=j):=fun i j hi hj e=>hG5.fInj i j om om e
  have A2:Hid (∀ i,i<rs.length->D5.basic i<V+rs.length):=fun i hi=>by have:=hG5.bLt i om; omega
  have A3:Hid (∀ j,j<V->D5.free j<V+rs.length):=fun j hj=>by have:=hG5.fLt j om; omega
  have A4:Hid ((List.range V).map (ptTo V D5 rs.length)=(List.range P.n).map (D5.point P)):=by show _=_; rw [<-E1,<-E2]; rfl
  cases b with
  | true=>
   have Hopt:Hid (∀ j,j<P.n->¬ CandP P D5 j):=by show ∀ j,_->_; rw [E1]; exact hopt rfl
   have A6:Hid (((List.range rs.length).map fun i=>(List.range (os.length+V)).map (priceTo D5 V rs.length os.length V i))=(List.range P.m).map fun i=>(List.range (P.K+P.n)).map (priceTo D5 P.n P.m P.K P.n i)):=by show _=_; rw [E1,E2,E3]
   clear hopt hunb hfit E1 E2 E3;(go_wp2_with fail);refine (zPq (kb:=kb) hD5 A0.out A1.out A2.out A3.out om HE.out.1 HE.out.2 HFA.out HFC.out HK.out).mono ?_;rintro e w6 ⟨⟨sX,sY,pv',rfl,hv,hy⟩,hb6⟩;rw [A4.out] at hv;rw [A6.out] at hy;obtain ⟨XA,Xn,Xc⟩:=sX;obtain ⟨YA,Yn,Yc⟩:=sY;have Hv:=hdq hv;have Hy:=hdq hy;clear hv hy hD5;have hX6:Box6 w6 (w+1) (.int .u8 0) () () () () (.int .i64 0):=(hb6.block _ (by have:=hb5.size; omega)).trans hX5;obtain ⟨s0,s1,s2,s3,s4,s5,s6⟩:=zO1 hX6;have hbf:=hb5.trans (hb6.mono hb5.size);clear hb6;go_wp2;obtain ⟨v0,v1,v2,v3,v4,v5,-⟩:=zO1 (zO9 hX6 (.int .u8 1) (.slice XA Xn Xc) (.slice YA Yn Yc) () () pv');simp only [put6] at v0 v1 v2 v3 v4 v5
   refine bodyPost_ret (v:=.tuple #[RV.val ⟨1,⟨XA,Xn,Xc⟩,⟨YA,Yn,Yc⟩,⟨none,0,0⟩,⟨none,0,0⟩,pv'⟩,.int .i64 0]) (by simp [results,Tryz.results26,go_sem,v0,v1,v2,v3,v4,v5]) rfl ⟨⟨⟨1,⟨XA,Xn,Xc⟩,⟨YA,Yn,Yc⟩,⟨none,0,0⟩,⟨none,0,0⟩,pv'⟩,rfl,.inl ⟨rfl,D5,_,hG5,hfe5,Hopt.out,rfl,vput6 Hv.out om om _ _ _ _ _ _,mput6 Hy.out om om _ _ _ _ _ _,rfl,rfl⟩⟩,zO3 hbf om (.int .u8 1) (.slice XA Xn Xc) (.slice YA Yn Yc) () () pv'⟩
  | false=>
   obtain ⟨s,hs,rfl,hcs,hns⟩:=hunb rfl;have A5:Hid (s<P.n/\∀ i,i<P.m->¬ 0<D5.a i s):=⟨om,by rw [E2]; exact hns⟩;have A6:Hid ((List.range V).map (rayTo D5 s rs.length)=(List.range P.n).map (D5.dir P s)):=by show _=_; rw [<-E1,<-E2]; rfl
   clear hopt hunb hfit E1 E2 E3 hns;(go_wp2_with fail);refine (zPh (kb:=kb) hD5 hs A0.out A2.out A3.out om HE.out.1 HFA.out HK.out).mono ?_;rintro e w6 ⟨⟨sX,sR,pv',rfl,hv,hy⟩,hb6⟩;rw [A4.out] at hv;rw [A6.out] at hy;obtain ⟨XA,Xn,Xc⟩:=sX;obtain ⟨RA,Rn,Rc⟩:=sR;have Hv:=hdq hv;have Hy:=hdq hy;clear hv hy hD5;have hX6:Box6 w6 (w+1) (.int .u8 0) () () () () (.int .i64 0):=(hb6.block _ (by have:=hb5.size; omega)).trans hX5;obtain ⟨s0,s1,s2,s3,s4,s5,s6⟩:=zO1 hX6;have hbf:=hb5.trans (hb6.mono hb5.size);clear hb6;go_wp2;obtain ⟨v0,v1,v2,v3,v4,v5,-⟩:=zO1 (zO9 hX6 (.int .u8 3) (.slice XA Xn Xc) () (.slice RA Rn Rc) () pv');simp only [put6] at v0 v1 v2 v3 v4 v5;refine bodyPost_ret (v:=.tuple #[RV.val ⟨3,⟨XA,Xn,Xc⟩,⟨none,0,0⟩,⟨RA,Rn,Rc⟩,⟨none,0,0⟩,pv'⟩,.int .i64 0]) (by simp [results,Tryz.results26,go_sem,v0,v1,v2,v3,v4,v5]) rfl ⟨⟨⟨3,⟨XA,Xn,Xc⟩,⟨none,0,0⟩,⟨RA,Rn,Rc⟩,⟨none,0,0⟩,pv'⟩,rfl,.inr (.inr ⟨rfl,D5,s,_,_,hG5,hfe5,A5.out.1,hcs,A5.out.2,rfl,rfl,vput6 Hv.out om om _ _ _ _ _ _,vput6 Hy.out om om _ _ _ _ _ _,rfl,rfl⟩)⟩,zO3 hbf om (.int .u8 3) (.slice XA Xn Xc) () (.slice RA Rn Rc) () pv'⟩
def LRet (w:World) (V:Nat) (os rs:List (List Rat)) (bs:List Rat) (e:Ending) (w':World):Prop:=
 ∃ p:LPV,e = .returned p.val/\p.n=V/\MatCan w' (New w) (New w) p.O os/\MatCan w' (New w) (New w) p.R rs/\VecCan w' (New w) (New w) p.B bs
theorem IntsAt.one (hc:w.cell? b=some (.int .i64 z)) (h1:-9223372036854775808<=z) (h2:z<=9223372036854775807):IntsAt w ⟨some ⟨b,0,none⟩,1,1⟩ [z]:=
 ⟨rfl,nlr _,by show 1<=_; omega,fun x hx=>by simp at hx; subst hx; exact ⟨h1,h2⟩,fun i hi=>by
  obtain rfl:i=0:=by have hi':i<1:=hi; omega
  exact ⟨⟨b,0,none⟩,rfl,by rw [zA4]; exact hc⟩⟩
theorem VecAt.low (h:VecCan w (New B) (New B) s l) (hB:B'<=B):VecCan w (New B') (New B') s l:=h.imp (fun _ _ hb=>nlt hB hb) fun _ _ hq=>hq.lower hB
theorem MatAt.low {l:List (List Rat)} (h:MatCan w (New B) (New B) s l) (hB:B'<=B):MatCan w (New B') (New B') s l:=h.imp (fun _ _ hb=>nlt hB hb) fun _ _ hq=>hq.lower hB
theorem IntsAt.blk {l:List Int} {f:Nat × Nat} (h:w.heap[b]?=some (.cells (l.map fun z=>Value.int .i64 z).toArray T f)) (hl:l.length<=1000) (hr:∀ x ∈ l,-9223372036854775808<=x/\x<=9223372036854775807):IntsAt w ⟨some ⟨b,0,none⟩,l.length,l.length⟩ l:=
 ⟨rfl,nlr _,by show l.length<=_; omega,hr,fun i hi=>⟨⟨b,0,none⟩,rfl,by
  have hi':i<l.length:=hi;rw [zA4,Nat.zero_add]; simp only [World.cell?,h]; simp [hi']⟩⟩
theorem IntsMat.blk {ss:List SV} {m:List (List Int)} {f:Nat × Nat} (h:w.heap[b]?=some (.cells (ss.map SV.val).toArray T f)) (hl:ss.length<=1000) (hm:m.length=ss.length) (hr:∀ i,i<ss.length->IntsAt w (ss.getD i ⟨none,0,0⟩) (m.getD i [])/\(ss.getD i ⟨none,0,0⟩).n<=1000):IntsMat w ⟨some ⟨b,0,none⟩,ss.length,ss.length⟩ m:=
 ⟨hm,nlr _,by show ss.length<=_; omega,fun i hi=>⟨⟨b,0,none⟩,ss.getD i ⟨none,0,0⟩,rfl,by
  have hi':i<ss.length:=hi;rw [zA4,Nat.zero_add]; simp only [World.cell?,h]; simp [hi'],(hr i hi).1,(hr i hi).2⟩⟩
end Go.Proofs.YtbpngececjihlaaGreat
