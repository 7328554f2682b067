/- Texts MoN MpU MpV MpW of this claim. -/
import Derived.Test.YtjancagcmghfjaaGreatX18
import Derived.Test.YtjancagcmghfjaaGreatX26
set_option maxHeartbeats 4000000
set_option maxRecDepth 40000
namespace Go.Proofs.YtjancagcmghfjaaGreat
open Go.RowKit Go.Shelf
namespace Mo
theorem zXA {W:World} {j:Nat} {c1 c2:Array Value} {T1 T2:TypeId} (h1:W.heap[j]?=some (.cells c1 T1 (0,0))) (h2:W.heap[j]?=some (.cells c2 T2 (0,0))) (h:T1 ≠ T2):False:=by
 rw [h1] at h2;cases h2;exact h rfl
theorem zUg (w:World) (G:Nat->Prop):More w G G:=⟨fun _ h=>h,fun _ h=>.inl h⟩
structure AsM (T:TypeId) (B0 d:Nat) (x o:SV) (V:Nat) (G:Nat->Prop) (vr vb:Value) (ss:List SV) (qs:List QV) (m:List (List Rat)) (l:List Rat) (W:World):Prop where
 hd:B0<=d
 blk:W.heap[d]?=some (.cells #[.slice x.A x.n x.c,.int .i64 (V:Int),.slice o.A o.n o.c,vr,vb] T (0,0))
 gd:G d
 gin:∀ y,G y->y<W.heap.size
 rows:MatS W (d+1) G vr m.length ss m
 bnd:ValC W (d+1) G vb l.length qs l
section
variable {T:TypeId} {B0 d V:Nat} {x o:SV} {G G' H:Nat->Prop} {vr vb v':Value} {ss:List SV} {qs:List QV} {m:List (List Rat)} {l:List Rat} {W W' W2:World}
theorem AsM.lt (h:AsM T B0 d x o V G vr vb ss qs m l W):d<W.heap.size:=zAa h.blk
theorem AsM.frozen (h:AsM T B0 d x o V G vr vb ss qs m l W) (i:Nat):W.frozen? ⟨d,i,none⟩=false:=by simp [World.frozen?,h.blk]
theorem AsM.cells (h:AsM T B0 d x o V G vr vb ss qs m l W):W.cell? d=some (.slice x.A x.n x.c)/\W.cell? ⟨d,1,none⟩=some (.int .i64 (V:Int))/\W.cell? ⟨d,2,none⟩=some (.slice o.A o.n o.c)/\W.cell? ⟨d,3,none⟩=some vr/\W.cell? ⟨d,4,none⟩=some vb:=by
 simp [World.cell?,h.blk]
theorem AsM.apart (h:AsM T B0 d x o V G vr vb ss qs m l W) {j:Nat} (e1:vb.ownBlock=some j) (e2:vr.ownBlock=some j):False:=by
 obtain ⟨_,c1,h1⟩:=zAc h.bnd.own e1;obtain ⟨_,c2,h2⟩:=zAc h.rows.own e2;exact zXA h1 h2 (by decide)
theorem AsM.call (h:AsM T B0 d x o V G vr vb ss qs m l W) (hb:Below W W W'):AsM T B0 d x o V G vr vb ss qs m l W':=
 ⟨h.hd,(hb.block _ h.lt).trans h.blk,h.gd,fun y hy=>ltl (h.gin y hy) hb.size,
  h.rows.keep (H:=fun _=>False) (Fr.of_below hb) (fun _ _ e=>e) (fun _ e=>e.elim) (zUg _ _),h.bnd.keep (H:=fun _=>False) (Fr.of_below hb) (fun _ _ e=>e) (fun _ e=>e.elim) (zUg _ _)⟩
theorem AsM.addR (h:AsM T B0 d x o V G vr vb ss qs m l W) {ob:Obj} {s:SV} {r:List Rat} (hs:VecCan W (fun b=>¬ G b) (fun b=>¬ G b) s r) (hown:W2.ownsRow (d+1) 34 1 v' (m.length+1) (ss.map SV.val++[s.val])) (hg:(W.alloc ob).grownBy W2 vr.ownBlock) (hat:v'.ownBlock=vr.ownBlock\/v'.ownBlock=some (W.alloc ob).heap.size) :
  AsM T B0 d x o V (fun y=>G y\/v'.ownBlock=some y) v' vb (ss++[s]) qs (m++[r]) l (W2.setCell ⟨d,3,none⟩ v')/\Fr (fun y=>G y/\d<=y) W (W2.setCell ⟨d,3,none⟩ v')/\More W G (fun y=>G y\/v'.ownBlock=some y):=by
 obtain ⟨hr2,hF,hM⟩:=h.rows.step hs hown hg hat;have hpl:=h.lt;have nv:¬ vr.ownBlock=some d:=fun e=>by have:=(h.rows.lt e).1; omega
 have nv':∀ j,v'.ownBlock=some j->¬ j=d:=fun j e=>by have:=(hr2.lt e).1; omega
 have nb:∀ j,vb.ownBlock=some j->¬ j=d:=fun j e=>by have:=(h.bnd.lt e).1; omega
 have hv2:=h.bnd.keep hF (fun j e1 e2=>h.apart e1 e2) (fun y e=>h.rows.row y e) hM;have hFs:Fr (fun y=>y=d) W2 (W2.setCell ⟨d,3,none⟩ v'):=(Fr.refl (fun y=>y=d) W2).set (p:=⟨d,3,none⟩) rfl v';have hFF:Fr (fun y=>vr.ownBlock=some y\/y=d) W (W2.setCell ⟨d,3,none⟩ v'):=(hF.mono fun y hy=>.inl hy).trans (hFs.mono fun y hy=>.inr hy)
 refine ⟨⟨h.hd,by rw [zAe _ ((hF.block d hpl nv).trans h.blk)]; simp,.inl h.gd,fun y hy=>?_,by rw [List.length_append]; exact hr2.keep hFs nv' (fun y hy=>by rw [hy]; exact .inl h.gd) (zUg _ _),hv2.keep hFs nb (fun y hy=>by rw [hy]; exact .inl h.gd) (zUg _ _)⟩,
  hFF.mono fun y hy=>hy.elim (fun e=>⟨h.rows.row y e,by have:=(h.rows.lt e).1; omega⟩) fun e=>⟨e ▸ h.gd,Nat.le_of_eq e.symm⟩,hM⟩
 rcases hy with hy | hy
 ·exact ltl (h.gin y hy) hFF.size
 ·have h2:=hr2.lt hy;exact ltl h2.2 hFs.size
theorem AsM.addB (h:AsM T B0 d x o V G vr vb ss qs m l W) {ob:Obj} {z:QV} {q:Rat} (hz:QCan W (fun b=>¬ G b) z q) (hown:W2.ownsRow (d+1) 80 4 v' (l.length+1) (qs.flatMap cells4q++cells4q z)) (hg:(W.alloc ob).grownBy W2 vb.ownBlock) (hat:v'.ownBlock=vb.ownBlock\/v'.ownBlock=some (W.alloc ob).heap.size) :
  AsM T B0 d x o V (fun y=>G y\/v'.ownBlock=some y) vr v' ss (qs++[z]) m (l++[q]) (W2.setCell ⟨d,4,none⟩ v')/\Fr (fun y=>G y/\d<=y) W (W2.setCell ⟨d,4,none⟩ v')/\More W G (fun y=>G y\/v'.ownBlock=some y):=by
 obtain ⟨hr2,hF,hM⟩:=h.bnd.step hz hown hg hat;have hpl:=h.lt;have nv:¬ vb.ownBlock=some d:=fun e=>by have:=(h.bnd.lt e).1; omega
 have nv':∀ j,v'.ownBlock=some j->¬ j=d:=fun j e=>by have:=(hr2.lt e).1; omega
 have nb:∀ j,vr.ownBlock=some j->¬ j=d:=fun j e=>by have:=(h.rows.lt e).1; omega
 have hv2:=h.rows.keep hF (fun j e1 e2=>h.apart e2 e1) (fun y e=>h.bnd.row y e) hM;have hFs:Fr (fun y=>y=d) W2 (W2.setCell ⟨d,4,none⟩ v'):=(Fr.refl (fun y=>y=d) W2).set (p:=⟨d,4,none⟩) rfl v';have hFF:Fr (fun y=>vb.ownBlock=some y\/y=d) W (W2.setCell ⟨d,4,none⟩ v'):=(hF.mono fun y hy=>.inl hy).trans (hFs.mono fun y hy=>.inr hy)
 refine ⟨⟨h.hd,by rw [zAe _ ((hF.block d hpl nv).trans h.blk)]; simp,.inl h.gd,fun y hy=>?_,hv2.keep hFs nb (fun y hy=>by rw [hy]; exact .inl h.gd) (zUg _ _),by rw [List.length_append]; exact hr2.keep hFs nv' (fun y hy=>by rw [hy]; exact .inl h.gd) (zUg _ _)⟩,
  hFF.mono fun y hy=>hy.elim (fun e=>⟨h.bnd.row y e,by have:=(h.bnd.lt e).1; omega⟩) fun e=>⟨e ▸ h.gd,Nat.le_of_eq e.symm⟩,hM⟩
 rcases hy with hy | hy
 ·exact ltl (h.gin y hy) hFF.size
 ·have h2:=hr2.lt hy;exact ltl h2.2 hFs.size
end
end Mo
open Go.RowKit Go.Shelf Gj
namespace Mo
abbrev vrL (v:Vr):List Value:=[.bool v.bid,.int .i64 (v.which:Int),.int .i64 (v.step:Int),.int .i64 v.bus,.int .i64 v.s.q,.int .i64 v.s.p,.int .i64 v.sign]
abbrev vrVal (v:Vr):Value:=.agg #[.bool v.bid,.int .i64 (v.which:Int),.int .i64 (v.step:Int),.int .i64 v.bus,.int .i64 v.s.q,.int .i64 v.s.p,.int .i64 v.sign]
def VrC (X:Nat->Prop) (w:World) (a:Addr) (v:Vr):Prop:=X a.block/\w.cell? a=some (.bool v.bid)/\w.cell? ⟨a.block,a.off+1,none⟩=some (.int .i64 (v.which:Int))/\w.cell? ⟨a.block,a.off+2,none⟩=some (.int .i64 (v.step:Int))/\
 w.cell? ⟨a.block,a.off+3,none⟩=some (.int .i64 v.bus)/\w.cell? ⟨a.block,a.off+4,none⟩=some (.int .i64 v.s.q)/\w.cell? ⟨a.block,a.off+5,none⟩=some (.int .i64 v.s.p)/\w.cell? ⟨a.block,a.off+6,none⟩=some (.int .i64 v.sign)
abbrev VarsAt (w:World) (X:Nat->Prop) (s:SV) (vs:List Vr):Prop:=SlAt w 7 (VrC X) vr0 s vs
theorem VrC.keep {X:Nat->Prop} {w w':World} {a:Addr} {v:Vr} (h:VrC X w a v) (hk:∀ p:Addr,X p.block->p.block<w->w'.cell? p=w.cell? p):VrC X w' a v:=by
 obtain ⟨hx,h0,h1,h2,h3,h4,h5,h6⟩:=h;have hl:=zAb h0;exact ⟨hx,(hk a hx hl).trans h0,(hk ⟨a.block,_,none⟩ hx hl).trans h1,(hk ⟨a.block,_,none⟩ hx hl).trans h2,(hk ⟨a.block,_,none⟩ hx hl).trans h3,(hk ⟨a.block,_,none⟩ hx hl).trans h4,(hk ⟨a.block,_,none⟩ hx hl).trans h5,(hk ⟨a.block,_,none⟩ hx hl).trans h6⟩
theorem VarsAt.keep {X:Nat->Prop} {w w':World} {s:SV} {vs:List Vr} (h:VarsAt w X s vs) (hk:∀ p:Addr,X p.block->p.block<w->w'.cell? p=w.cell? p):VarsAt w' X s vs:=SlAt.map h fun _ _ h=>VrC.keep h hk
theorem VarsAt.below {X:Nat->Prop} {w w':World} {s:SV} {vs:List Vr} (h:VarsAt w X s vs) (hb:Below w w w'):VarsAt w' X s vs:=VarsAt.keep h fun _ _ hl=>hb.cell hl
theorem VarsAt.imp {X X':Nat->Prop} {w:World} {s:SV} {vs:List Vr} (h:VarsAt w X s vs) (hx:∀ b,b<w.heap.size->X b->X' b):VarsAt w X' s vs:=SlAt.map h fun _ _ h=>⟨hx _ (zAb h.2.1) h.1,h.2⟩
theorem row_calls {w:World} {d fn:Nat} {caps:Array Value} {X:Nat->Prop} {s:SV} {vs:List Vr} {g:Nat->Rat} (hd:w.cell? d=some (.slice s.A s.n s.c)) (hx:VarsAt w X s vs) (hn:s.n<=1000)
  (hcall:∀ (args:Array Value) (w:World),Sem.run Tryz.prog (callFunc fn args) w = .ok (.enter fn args) w)
  (ht:∀ W k,Below w w W->k<s.n->Calls Tryz.prog fn (#[vrVal (vs.getD k vr0)]++caps) W fun e W'=>QRet W (g k) e W'/\Below W W W') :
  Calls Tryz.prog 45 #[.pointer (some d),.func (.func fn) #[] caps] w fun e w'=>
   (∃ b,e = .returned (.slice (some ⟨b,0,none⟩) s.n s.n)/\w.heap.size<=b/\VecCan w' (New w) (New w) ⟨some ⟨b,0,none⟩,s.n,s.n⟩ ((List.range s.n).map g))/\Below w w w':=by
 obtain ⟨sA,n,c⟩:=s;dsimp only at hd hn ht ⊢;have hmq:=zBZ n (by omega);have HT:=hdq ht;have HC:=hdq hcall;have HX:=hdq hx;have hle:n<=c:=hx.le;have hcap:c<=9223372036854775807:=hx.cap;have hdl:=zAb hd;dsimp only at hdl;clear ht hcall hx;go_enter Tryz.func45,Tryz.ntmps45
 go_wp2
 have H2:FillLoop w w g n n (fun _=>True) (.int .i64 0) (w.alloc (.cells (zeroQ n) 80)):=
  ⟨0,nzl _,rfl,by rw [zEe]; exact RowAt.made w n _ (.inr rfl),bal,trivial⟩
 clear hd;generalize w.alloc (.cells (zeroQ n) 80)=WB at *;go_loopw [19] (fun t W=>FillLoop w w g n n (fun _=>True) t W) (fun t _=>n-(intOf t).toNat)
 case atStart=>exact H2
 case round=>
  clear H2;obtain ⟨k,hk,rfl,hR,hb,-⟩:=hrel;by_cases hlk:k<n
  ·have hkk:(k:Int)<(n:Int):=(by omega);obtain ⟨ad,e,-,q0,q1,q2,q3,q4,q5,q6⟩:=(VarsAt.below HX.out hb).cell k hlk;dsimp only at e;subst e;have tq:=zAb q0;have hcall:=HC.out;have HTk:=hdq (fun W hb=>HT.out W k hb hlk);generalize vs.getD k vr0=v at *;obtain ⟨bid,which,step,bus,⟨q,p⟩⟩:=v;dsimp only at q0 q1 q2 q3 q4 q5 q6;dsimp only [vrVal] at HTk;generalize Vr.sign ⟨bid,which,step,bus,⟨q,p⟩⟩=sg at *;have al:Below wr wr (wr.alloc (.cells #[.bool bid,.int .i64 (which:Int),.int .i64 (step:Int),.int .i64 bus,.int .i64 q,.int .i64 p,.int .i64 sg] 96)):=bal;have hRl:=hR.lt;have HR:=hdq hR;have HB:=hdq hb;have HbA:=hdq (hb.trans (al.mono hb.size));have hA:=hdq al;clear hR hb al;(go_wp2_with fail);refine (HTk.out _ HbA.out).mono ?_;rintro e w5 ⟨⟨z,rfl,hz⟩,h5⟩;have h5':Below wr wr w5:=hA.out.trans (h5.mono hA.out.size);have hR5:=HR.out.below h5';obtain ⟨zv,⟨d0,d1,d2,d3⟩,-⟩:=hR5.elem k (by rw [zBj _ (by omega)]; omega);have fz:=hR5.frozen;dsimp only at d1 d2 d3;have hz2:QCan w5 (New wr) z (g k):=hz.imp fun b _ hx=>nlt hA.out.size hx
   have Hfin:=hdq (FillLoop.step (E:=fun _=>True) (B:=wr) hlk (nlr _) HR.out HB.out h5' HB.out.size hRl (nlr _) hz2 trivial);clear hz hz2 hR5 h5 h5' hA HR HB HbA hcall HTk q0 q1 q2 q3 q4 q5 q6 tq;go_wp2;go_roundw;case rel=>exact fn_ Hfin.out
   case measure=>simp [intOf]; omega
  ·(obtain rfl:k=n:=by omega);rw [zGv] at hR;have hl:((List.range k).map g).length=k:=(by simp);have hv:=hR.vec (by rw [hl]; omega) k (by rw [hl]; exact nlr _) (by omega);rw [hl] at hv;have HZ:=hdq (And.intro (hv.imp (X':=New w) (R':=QCan wr (New w)) (fun y _ hy=>by subst hy; exact nlr _) fun _ _ hq=>hq.imp fun y _ hy=>by simp only [New]; omega) hb);clear hR hv hb;go_wp2;go_ret;exact ⟨⟨_,rfl,nlr _,HZ.out.1⟩,HZ.out.2⟩
end Mo
namespace Mo
abbrev Box7 (W:World) (b:Nat) (v0 v1 v2 v3 v4 v5 v6:Value):Prop:=
 W.cell? b=some v0/\W.cell? ⟨b,1,none⟩=some v1/\W.cell? ⟨b,2,none⟩=some v2/\W.cell? ⟨b,3,none⟩=some v3/\W.cell? ⟨b,4,none⟩=some v4/\W.cell? ⟨b,5,none⟩=some v5/\W.cell? ⟨b,6,none⟩=some v6/\(∀ o,W.frozen? ⟨b,o,none⟩=false)
theorem Box7.below {w w':World} {b:Nat} {v0 v1 v2 v3 v4 v5 v6:Value} (h:Box7 w b v0 v1 v2 v3 v4 v5 v6) {B:Nat} (hb:Below B w w') (hlt:b<B):Box7 w' b v0 v1 v2 v3 v4 v5 v6:=by
 obtain ⟨h0,h1,h2,h3,h4,h5,h6,h9⟩:=h;exact ⟨by rw [hb.cell hlt]; exact h0,by rw [hb.cell hlt]; exact h1,by rw [hb.cell hlt]; exact h2,by rw [hb.cell hlt]; exact h3,by rw [hb.cell hlt]; exact h4,by rw [hb.cell hlt]; exact h5,by rw [hb.cell hlt]; exact h6,fun o=>by rw [hb.frozen hlt]; exact h9 o⟩
theorem zUu (v:Vr):v.sign=1\/v.sign=-1:=by unfold Vr.sign; split <;> simp
theorem zW6 {w:World} {v:Vr} (h1:-1000000<=v.s.p) (h2:v.s.p<=1000000):Calls Tryz.prog 94 #[vrVal v] w fun e w'=>QRet w ((-v.sign*v.s.p:Int):Rat) e w'/\Below w w w':=by
 have hs:=zUu v;have hp:-1000000<=-v.sign*v.s.p/\-v.sign*v.s.p<=1000000:=by rcases hs with e | e <;> rw [e] <;> omega
 dsimp only [vrVal];generalize hx:-v.sign*v.s.p=x at *;have Hx:=hdq hx;generalize v.sign=sg at *;obtain ⟨bid,which,step,bus,⟨q,p⟩⟩:=v;dsimp only at h1 h2 hx Hx ⊢;have hneg:IntKind.i64.wrap (-sg)=-sg:=IntWalk.i64_in _ (by rcases hs with e | e <;> omega);have hw:IntKind.i64.wrap (-sg*p)=x:=by rw [hx]; exact IntWalk.i64_in _ (by omega)
 clear hx;go_enter Tryz.func94,Tryz.ntmps94
 go_upto_region 1 with fail
 refine zAo (fun W=>Below w w W/\Box7 W w (.bool bid) (.int .i64 (which:Int)) (.int .i64 (step:Int)) (.int .i64 bus) (.int .i64 q) (.int .i64 p) (.int .i64 sg)/\Box4 W (w+1) (.bool false) (.slice none 0 0) (.bool false) (.slice none 0 0)/\w.heap.size<W.heap.size/\w.heap.size+1<W.heap.size) ⟨(az (az (brf _ _))),⟨by go_simp,by go_simp,by go_simp,by go_simp,by go_simp,by go_simp,by go_simp,by intro o; go_simp⟩,bx4,by simp <;> omega,by simp <;> omega⟩ ?_;rintro W ⟨hbW,bV,bR,s0,s1⟩;have hBW:=hbW.size;obtain ⟨c0,c1,c2,c3,c4,c5,c6,-⟩:=id bV;go_wp2_with fail
 refine (zAN x (by omega) (by omega) _).mono ?_; rintro e w1 ⟨⟨z,rfl,hz⟩,hb1⟩
 have hb01:=hbW.trans (hb1.mono hBW);have bR1:=bR.below hb1 s1;obtain ⟨v0,v1,v2,v3,-⟩:=bR1.stored (.bool z.num.ng) (.slice z.num.A z.num.n z.num.c) (.bool z.den.ng) (.slice z.den.A z.den.n z.den.c);have HB:=hdq (zAl (x0:=.bool z.num.ng) (x1:=.slice z.num.A z.num.n z.num.c) (x2:=.bool z.den.ng) (x3:=.slice z.den.A z.den.n z.den.c) (b:=w+1) hb01 (by omega));have HZ:=hdq ((hz.set4 (b:=w+1) (x0:=.bool z.num.ng) (x1:=.slice z.num.A z.num.n z.num.c) (x2:=.bool z.den.ng) (x3:=.slice z.den.A z.den.n z.den.c) s1).lower hBW);clear hb1 hb01 hz bR;go_wp2;exact bodyPost_ret (v:=z.val) (by simp [results,Tryz.results94,go_sem,v0,v1,v2,v3]) rfl ⟨⟨z,rfl,HZ.out⟩,HB.out⟩
theorem zXl {w:World} {v:Vr} {i cJ:Nat} (hj:w.cell? cJ=some (.int .i64 (i:Int))):Calls Tryz.prog 101 #[vrVal v,.pointer (some cJ)] w fun e w'=>QRet w (if v.bid=true\/v.which ≠ i then 0 else -1) e w'/\Below w w w':=by
 dsimp only [vrVal];generalize v.sign=sg at *;obtain ⟨bid,which,step,bus,⟨q,p⟩⟩:=v;dsimp only;obtain ⟨R,hR⟩:∃ R:Rat,R=if bid=true\/which ≠ i then 0 else -1:=⟨_,rfl⟩
 rw [<-hR];have HR:=hdq hR;have hjl:=zAb hj;dsimp only at hjl;clear hR;go_enter Tryz.func101,Tryz.ntmps101
 go_upto_region 1 with fail
 refine zAo (fun W=>Below w w W/\Box7 W w (.bool bid) (.int .i64 (which:Int)) (.int .i64 (step:Int)) (.int .i64 bus) (.int .i64 q) (.int .i64 p) (.int .i64 sg)/\Box4 W (w+1) (.bool false) (.slice none 0 0) (.bool false) (.slice none 0 0)/\w.heap.size<W.heap.size/\w.heap.size+1<W.heap.size) ⟨(az (az (brf _ _))),⟨by go_simp,by go_simp,by go_simp,by go_simp,by go_simp,by go_simp,by go_simp,by intro o; go_simp⟩,bx4,by simp <;> omega,by simp <;> omega⟩ ?_;rintro W ⟨hbW,bV,bR,s0,s1⟩;have hBW:=hbW.size;obtain ⟨c0,c1,c2,c3,c4,c5,c6,-⟩:=id bV;have d0:=(hbW.cell (p:=cJ) hjl).trans hj
 cases bid with
 | true=>
  have HE:Hid (R=0):=hdq (HR.out.trans (if_pos (.inl rfl)));obtain ⟨v0,v1,v2,v3,-⟩:=bR.stored (.bool false) (.slice none 0 0) (.bool false) (.slice none 0 0);have HB:=hdq (zAl (x0:=.bool false) (x1:=.slice none 0 0) (x2:=.bool false) (x3:=.slice none 0 0) (b:=w+1) hbW (by omega));go_wp2
  exact bodyPost_ret (v:=.agg #[.bool false,.slice none 0 0,.bool false,.slice none 0 0]) (by simp [results,Tryz.results101,go_sem,v0,v1,v2,v3]) rfl ⟨⟨⟨⟨false,none,0,0⟩,⟨false,none,0,0⟩⟩,rfl,by rw [HE.out]; exact QCan.zero _ _⟩,HB.out⟩
 | false=>
  by_cases hw:which=i
  ·subst hw;have HE:Hid (R=((-1:Int):Rat)):=hdq (HR.out.trans ((if_neg (by simp)).trans (by decide +kernel)));(go_wp2_with fail);refine (zAN (-1) (by omega) (by omega) _).mono ?_; rintro e w1 ⟨⟨z,rfl,hz⟩,hb1⟩
   rw [<-HE.out] at hz;clear HR;have hb01:=hbW.trans (hb1.mono hBW);have bR1:=bR.below hb1 s1;obtain ⟨v0,v1,v2,v3,-⟩:=bR1.stored (.bool z.num.ng) (.slice z.num.A z.num.n z.num.c) (.bool z.den.ng) (.slice z.den.A z.den.n z.den.c);have HB:=hdq (zAl (x0:=.bool z.num.ng) (x1:=.slice z.num.A z.num.n z.num.c) (x2:=.bool z.den.ng) (x3:=.slice z.den.A z.den.n z.den.c) (b:=w+1) hb01 (by omega));have HZ:=hdq ((hz.set4 (b:=w+1) (x0:=.bool z.num.ng) (x1:=.slice z.num.A z.num.n z.num.c) (x2:=.bool z.den.ng) (x3:=.slice z.den.A z.den.n z.den.c) s1).lower hBW);clear hb1 hb01 hz bR;go_wp2;exact bodyPost_ret (v:=z.val) (by simp [results,Tryz.results101,go_sem,v0,v1,v2,v3]) rfl ⟨⟨z,rfl,HZ.out⟩,HB.out⟩
  ·have HE:Hid (R=0):=hdq (HR.out.trans (if_pos (.inr hw)));have hwb:((which:Int) == (i:Int))=false:=beq_false_of_ne (by omega);clear HR;obtain ⟨v0,v1,v2,v3,-⟩:=bR.stored (.bool false) (.slice none 0 0) (.bool false) (.slice none 0 0);have HB:=hdq (zAl (x0:=.bool false) (x1:=.slice none 0 0) (x2:=.bool false) (x3:=.slice none 0 0) (b:=w+1) hbW (by omega));go_wp2;exact bodyPost_ret (v:=.agg #[.bool false,.slice none 0 0,.bool false,.slice none 0 0]) (by simp [results,Tryz.results101,go_sem,v0,v1,v2,v3]) rfl ⟨⟨⟨⟨false,none,0,0⟩,⟨false,none,0,0⟩⟩,rfl,by rw [HE.out]; exact QCan.zero _ _⟩,HB.out⟩
theorem zW7 {w:World} {v:Vr} {cI cJ ib N num b:Nat} {f:Nat->Nat} (hi:w.cell? cI=some (.slice (some ib) N N)) (hj:w.cell? cJ=some (.int .i64 (num:Int))) (hr:NatRow w ib N f) (hb:v.bus=(b:Int)) (hbN:b<N) (hN:N<=6) :
  Calls Tryz.prog 46 #[vrVal v,.pointer (some cI),.pointer (some cJ)] w fun e w'=>QRet w (if f b=num then ((-v.sign:Int):Rat) else 0) e w'/\Below w w w':=by
 have hs:=zUu v;dsimp only [vrVal];generalize v.sign=sg at *;obtain ⟨bid,which,step,bus,⟨q,p⟩⟩:=v;dsimp only at hb ⊢;subst hb;have hneg:IntKind.i64.wrap (-sg)=-sg:=IntWalk.i64_in _ (by rcases hs with e | e <;> omega);obtain ⟨R,hR⟩:∃ R:Rat,R=if f b=num then ((-sg:Int):Rat) else 0:=⟨_,rfl⟩
 rw [<-hR];have HR:=hdq hR;have hil:=zAb hi;have hjl:=zAb hj;dsimp only at hil hjl;have q0:=hr.cell hbN;have hql:=zAb q0;dsimp only at hql;have hbi:(b:Int)<(N:Int):=by omega
 clear hR;go_enter Tryz.func46,Tryz.ntmps46
 go_upto_region 1 with fail
 refine zAo (fun W=>Below w w W/\Box7 W w (.bool bid) (.int .i64 (which:Int)) (.int .i64 (step:Int)) (.int .i64 (b:Int)) (.int .i64 q) (.int .i64 p) (.int .i64 sg)/\Box4 W (w+1) (.bool false) (.slice none 0 0) (.bool false) (.slice none 0 0)/\w.heap.size<W.heap.size/\w.heap.size+1<W.heap.size) ⟨(az (az (brf _ _))),⟨by go_simp,by go_simp,by go_simp,by go_simp,by go_simp,by go_simp,by go_simp,by intro o; go_simp⟩,bx4,by simp <;> omega,by simp <;> omega⟩ ?_;rintro W ⟨hbW,bV,bR,s0,s1⟩;have hBW:=hbW.size;obtain ⟨c0,c1,c2,c3,c4,c5,c6,-⟩:=id bV;have d0:=(hbW.cell (p:=cI) hil).trans hi;have d1:=(hbW.cell (p:=cJ) hjl).trans hj;have d2:=(hbW.cell (p:=⟨ib,_,none⟩) hql).trans q0;have lI:cI<W.heap.size:=by omega
 have lJ:cJ<W.heap.size:=by omega
 have lB:ib<W.heap.size:=by omega
 refine zAp 1000 (fun _ w'=>Sees w [] W w') (by kernel_rfl) ?_;have hS0:Sees w [] W W.drew:=Sees.st (by simp) hBW;refine tx4 0 1 2 3 hS0 ?_;refine tx1 4 hS0 ?_;refine tx1 5 hS0 ?_;refine tx1 6 hS0 ?_;refine zAf (by kernel_rfl) ?_ _;have hdr:Below W W W.drew:=(brf _ _).drew;have bVd:=bV.below hdr s0;have bRd:=bR.below hdr s1;have hbD:Below w w W.drew:=hbW.drew;have s0':w.heap.size<W.drew.heap.size:=s0;have s1':w.heap.size+1<W.drew.heap.size:=s1;have hBW':w.heap.size<=W.drew.heap.size:=hBW;clear bV bR hbW hdr c0 c1 c2 c3 c4 c5 c6 d0 d1 d2 hS0 s0 s1 hBW lI lJ lB;generalize W.drew=W at *;have bV:=bVd;have bR:=bRd;have hbW:=hbD;have s0:=s0';have s1:=s1';have hBW:=hBW';clear bVd bRd hbD s0' s1' hBW';obtain ⟨c0,c1,c2,c3,c4,c5,c6,-⟩:=id bV;by_cases hf:f b=num
 ·have hfb:((f b:Int) != (num:Int))=false:=by rw [hf]; simp
  have HE:Hid (R=((-sg:Int):Rat)):=hdq (HR.out.trans (if_pos hf));clear HR hf hr hi hj q0;generalize f b=fb at *;go_wp2_with fail
  refine (zAN (-sg) (by rcases hs with e | e <;> omega) (by rcases hs with e | e <;> omega) _).mono ?_; rintro e w1 ⟨⟨z,rfl,hz⟩,hb1⟩
  rw [<-HE.out] at hz;have hb01:=hbW.trans (hb1.mono hBW);have bR1:=bR.below hb1 s1;obtain ⟨v0,v1,v2,v3,-⟩:=bR1.stored (.bool z.num.ng) (.slice z.num.A z.num.n z.num.c) (.bool z.den.ng) (.slice z.den.A z.den.n z.den.c);have HB:=hdq (zAl (x0:=.bool z.num.ng) (x1:=.slice z.num.A z.num.n z.num.c) (x2:=.bool z.den.ng) (x3:=.slice z.den.A z.den.n z.den.c) (b:=w+1) hb01 (by omega));have HZ:=hdq ((hz.set4 (b:=w+1) (x0:=.bool z.num.ng) (x1:=.slice z.num.A z.num.n z.num.c) (x2:=.bool z.den.ng) (x3:=.slice z.den.A z.den.n z.den.c) s1).lower hBW);clear hb1 hb01 hz bR;go_wp2;exact bodyPost_ret (v:=z.val) (by simp [results,Tryz.results46,go_sem,v0,v1,v2,v3]) rfl ⟨⟨z,rfl,HZ.out⟩,HB.out⟩
 ·have hfb:((f b:Int) != (num:Int))=true:=by simp; omega
  have HE:Hid (R=0):=hdq (HR.out.trans (if_neg hf));clear HR hr hi hj q0;generalize f b=fb at *;obtain ⟨v0,v1,v2,v3,-⟩:=bR.stored (.bool false) (.slice none 0 0) (.bool false) (.slice none 0 0);have HB:=hdq (zAl (x0:=.bool false) (x1:=.slice none 0 0) (x2:=.bool false) (x3:=.slice none 0 0) (b:=w+1) hbW (by omega));go_wp2;exact bodyPost_ret (v:=.agg #[.bool false,.slice none 0 0,.bool false,.slice none 0 0]) (by simp [results,Tryz.results46,go_sem,v0,v1,v2,v3]) rfl ⟨⟨⟨⟨false,none,0,0⟩,⟨false,none,0,0⟩⟩,rfl,by rw [HE.out]; exact QCan.zero _ _⟩,HB.out⟩
theorem zW8 {w:World} {v:Vr} {cI cJ gm L N k b K0:Nat} {m:Mt} (hi:w.cell? cI=some (.slice (some gm) L L)) (hj:w.cell? cJ=some (.int .i64 (k:Int))) (hm:GjM w gm m) (hml:m.length=L) (hmr:∀ i,i<L->(m.getD i []).length=N) (hf:FitM K0 m) (hK0:K0<32*LM) (hk:k<L) (hb:v.bus=(b:Int)) (hbN:b<N) (hN:N<=6) (hL:L<=10) :
  Calls Tryz.prog 49 #[vrVal v,.pointer (some cI),.pointer (some cJ)] w fun e w'=>QRet w ((v.sign:Rat)*ent m k b) e w'/\Below w w w':=by
 have hs:=zUu v;dsimp only [vrVal];generalize v.sign=sg at *;obtain ⟨bid,which,step,bus,⟨q,p⟩⟩:=v;dsimp only at hb ⊢;subst hb;have hil:=zAb hi;have hjl:=zAb hj;dsimp only at hil hjl;obtain ⟨⟨rA,rn,rc⟩,q0,hrow⟩:=hm.row (i:=k) (by omega);have hrn:rn=N:=by have h1:=hrow.len; have h2:=hmr k hk; dsimp only at h1; omega
 obtain ⟨ab,ao,u,e,-,⟨e0,e1,e2,e3⟩,hu⟩:=elemL hrow (k:=b) (by show b<rn; omega);dsimp only at e q0 e1 e2 e3;subst e;have hrle:rn<=rc:=hrow.le;have hrcap:rc<=9223372036854775807:=hrow.cap;have hql:=zAb q0;have hel:=zAb e0;dsimp only at hql hel;have hbi:(b:Int)<(rn:Int):=by omega
 have hki:(k:Int)<(L:Int):=by omega
 have HU:=hdq hu;have HF:=hdq (zBn (hf k b) hK0);have FS:QFit LM (sg:Rat):=zBn (k:=1) (Lin.Fits.ofInt (by rcases hs with e | e <;> rw [e] <;> decide)) (by decide);have hen:(m.getD k []).getD b 0=ent m k b:=rfl;rw [hen] at HU;generalize ent m k b=R at *;clear hm hrow hu hf hmr;go_enter Tryz.func49,Tryz.ntmps49
 go_upto_region 1 with fail
 refine zAo (fun W=>Below w w W/\Box7 W w (.bool bid) (.int .i64 (which:Int)) (.int .i64 (step:Int)) (.int .i64 (b:Int)) (.int .i64 q) (.int .i64 p) (.int .i64 sg)/\Box4 W (w+1) (.bool false) (.slice none 0 0) (.bool false) (.slice none 0 0)/\w.heap.size<W.heap.size/\w.heap.size+1<W.heap.size) ⟨(az (az (brf _ _))),⟨by go_simp,by go_simp,by go_simp,by go_simp,by go_simp,by go_simp,by go_simp,by intro o; go_simp⟩,bx4,by simp <;> omega,by simp <;> omega⟩ ?_;rintro W ⟨hbW,bV,bR,s0,s1⟩;have hBW:=hbW.size;obtain ⟨c0,c1,c2,c3,c4,c5,c6,-⟩:=id bV;have d0:=(hbW.cell (p:=cI) hil).trans hi;have d1:=(hbW.cell (p:=cJ) hjl).trans hj;have d2:=(hbW.cell (p:=⟨gm,_,none⟩) hql).trans q0;have d3:=(hbW.cell (p:=⟨ab,_,none⟩) hel).trans e0;have d4:=(hbW.cell (p:=⟨ab,_,none⟩) hel).trans e1;have d5:=(hbW.cell (p:=⟨ab,_,none⟩) hel).trans e2;have d6:=(hbW.cell (p:=⟨ab,_,none⟩) hel).trans e3;have HUW:=hdq (HU.out.below hbW);have lI:cI<W.heap.size:=by omega
 have lJ:cJ<W.heap.size:=by omega
 have lB:gm<W.heap.size:=by omega
 have lE:ab<W.heap.size:=by omega
 refine zAp 12 (fun _ w'=>Sees w [w.heap.size+1] W w') (by kernel_rfl) ?_;have hS0:Sees w [w.heap.size+1] W W.drew:=Sees.st (by simp) hBW;have n0:¬ cI=w.heap.size+1:=by omega
 have n1:¬ cJ=w.heap.size+1:=by omega
 have n2:¬ gm=w.heap.size+1:=by omega
 have n3:¬ ab=w.heap.size+1:=by omega
 have n4:¬ w.heap.size=w.heap.size+1:=by omega
 refine tx4 0 1 3 4 hS0 ?_;refine tx4 5 6 7 8 hS0 ?_;refine tx1 9 hS0 ?_;refine tx1 10 hS0 ?_;refine tk1 2 ?_;intro K hK;go_simp;have hdr:Below W W W.drew:=(brf _ _).drew;refine (zAN sg (by rcases hs with e | e <;> omega) (by rcases hs with e | e <;> omega) _).mono ?_; rintro e w5 ⟨⟨y,rfl,hy⟩,hb5⟩
 have hS1:=Kept.call2 hb5 hS0;have hb5':Below W W w5:=hdr.trans hb5;refine hK.out _ _ hS1 ?_;clear hK K;refine tk1 11 ?_;intro K hK;go_simp;refine (zBb (a:=y) (b:=u) (hy.qis FS) ((HUW.out.below hb5').qis HF.out) (nlr _) (nlr _)).mono ?_; rintro e w6 ⟨⟨z,rfl,hz⟩,hb6⟩
 have hS2:=Kept.call2 hb6 hS1;have hb6':Below W W w6:=hb5'.trans (hb6.mono hb5'.size);refine hK.out _ _ hS2 ?_;clear hK K;have bR1:=bR.below hb6' s1;have l6:w.heap.size+1<w6.heap.size:=ltl s1 hb6'.size;obtain ⟨t0,t1,t2,t3,tf⟩:=id bR1;refine tk1 12 ?_;intro K hK;go_simp;refine hK.out _ _ (Sees.k4 (g:=w+1) hS2 (by simp)) ?_;clear hK K;refine zAf (by kernel_rfl) ?_ _;obtain ⟨v0,v1,v2,v3,-⟩:=bR1.stored (.bool z.num.ng) (.slice z.num.A z.num.n z.num.c) (.bool z.den.ng) (.slice z.den.A z.den.n z.den.c);have HB:=hdq (zAl (x0:=.bool z.num.ng) (x1:=.slice z.num.A z.num.n z.num.c) (x2:=.bool z.den.ng) (x3:=.slice z.den.A z.den.n z.den.c) (b:=w+1) (hbW.trans (hb6'.mono hBW)) (by omega));have HZ:=hdq ((hz.set4 (b:=w+1) (x0:=.bool z.num.ng) (x1:=.slice z.num.A z.num.n z.num.c) (x2:=.bool z.den.ng) (x3:=.slice z.den.A z.den.n z.den.c) (ltl s1 hb5'.size)).lower (nlt hBW hb5'.size));clear hb5 hb5' hb6 hb6' hz hy bR bR1 hS0 hS1 hS2 HUW HU hdr;go_wp2;exact bodyPost_ret (v:=z.val) (by simp [results,Tryz.results49,go_sem,v0,v1,v2,v3]) rfl ⟨⟨z,rfl,HZ.out⟩,HB.out⟩
end Mo
namespace Mo
structure AsF (d:Nat) (x o:SV) (vs:List Vr) (m:List (List Rat)) (l:List Rat) (G:Nat->Prop) (vr vb:Value) (ss:List SV) (qs:List QV) (W:World):Prop where
 am:AsM 102 d d x o vs.length G vr vb ss qs m l W
 vars:VarsAt W (fun y=>¬ G y) x vs
 obj:MatCan W (fun y=>¬ G y) (fun y=>¬ G y) o [obj vs]
def AsE (d:Nat) (x o:SV) (vs:List Vr) (m:List (List Rat)) (l:List Rat) (G:Nat->Prop) (W:World):Prop:=∃ vr vb ss qs,AsF d x o vs m l G vr vb ss qs W
section
variable {d:Nat} {x o:SV} {vs:List Vr} {m m':List (List Rat)} {l l':List Rat} {G G':Nat->Prop} {vr vb vr' vb':Value} {ss ss':List SV} {qs qs':List QV} {W W':World}
theorem AsF.step (h:AsF d x o vs m l G vr vb ss qs W) (ha:AsM 102 d d x o vs.length G' vr' vb' ss' qs' m' l' W') (hF:Fr (fun y=>G y/\d<=y) W W') (hM:More W G G'):AsF d x o vs m' l' G' vr' vb' ss' qs' W':=by
 have no:∀ y,¬ G y/\y<W.heap.size->¬ G' y:=fun y hy e=>hy.1 ((hM.new y e).resolve_right (by omega))
 refine ⟨ha,?_,?_⟩
 ·exact VarsAt.imp (VarsAt.keep (VarsAt.imp (X':=fun y=>¬ G y/\y<W.heap.size) h.vars fun b hl hb=>⟨hb,hl⟩) fun p hp hl=>hF.cell hl fun e=>hp.1 e.1) fun b _ hb=>no b hb
 ·exact ((h.obj.imp (X':=fun b=>¬ G b/\b<W.heap.size) (R':=QCan W fun b=>¬ G b/\b<W.heap.size) (fun b hl hb=>⟨hb,hl⟩) fun _ _ hq=>hq.imp fun b hl hb=>⟨hb,hl⟩).keep (R':=QCan W' fun b=>¬ G b/\b<W.heap.size) (fun p hp hl=>hF.cell hl fun e=>hp.1 e.1) fun v q hq=>hq.keep fun p hp hl=>hF.cell hl fun e=>hp.1 e.1).imp
   (fun b _ hb=>no b hb) fun _ _ hq=>hq.imp fun b _ hb=>no b hb
theorem AsF.call (h:AsF d x o vs m l G vr vb ss qs W) (hb:Below W W W'):AsF d x o vs m l G vr vb ss qs W':=h.step (h.am.call hb) (Fr.of_below hb) (zUg _ _)
theorem AsE.call (h:AsE d x o vs m l G W) (hb:Below W W W'):AsE d x o vs m l G W':=by
 obtain ⟨vr,vb,ss,qs,h⟩:=h;exact ⟨vr,vb,ss,qs,h.call hb⟩
theorem AsE.gin (h:AsE d x o vs m l G W):∀ y,G y->y<W.heap.size:=by
 obtain ⟨vr,vb,ss,qs,h⟩:=h;exact h.am.gin
theorem AsE.cell0 (h:AsE d x o vs m l G W):W.cell? d=some (.slice x.A x.n x.c):=by
 obtain ⟨vr,vb,ss,qs,h⟩:=h;exact h.am.cells.1
theorem AsE.vars (h:AsE d x o vs m l G W):VarsAt W (fun y=>¬ G y) x vs:=by
 obtain ⟨vr,vb,ss,qs,h⟩:=h;exact h.vars
theorem More.trans {w w':World} {A B C:Nat->Prop} (h:More w A B) (k:More w' B C) (hs:w.heap.size<=w'.heap.size):More w A C:=
 ⟨fun y hy=>k.old y (h.old y hy),fun y hy=>(k.new y hy).elim (h.new y) fun e=>.inr (nlt hs e)⟩
theorem _root_.Go.Proofs.YtjancagcmghfjaaGreat.More.ge {w:World} {A B:Nat->Prop} {d:Nat} (h:More w A B):More w (fun y=>A y/\d<=y) fun y=>B y/\d<=y:=
 ⟨fun y hy=>⟨h.old y hy.1,hy.2⟩,fun y hy=>(h.new y hy.1).imp (fun e=>⟨e,hy.2⟩) id⟩
theorem Fr.more {w w' w'':World} {A B:Nat->Prop} (h:Fr A w w') (k:Fr B w' w'') (hM:More w A B):Fr A w w'':=
 ⟨k.os.trans h.os,k.tape.trans h.tape,k.output.trans h.output,nlt h.size k.size,fun b hb hn=>(k.block b (ltl hb h.size) fun e=>(hM.new b e).elim hn fun e=>by omega).trans (h.block b hb hn)⟩
end
theorem zUM {w:World} {d:Nat} {x o s:SV} {vs:List Vr} {m:List (List Rat)} {l r:List Rat} {G:Nat->Prop} {z:Int} (h:AsE d x o vs m l G w) (hs:VecCan w (fun y=>¬ G y) (fun y=>¬ G y) s r) (hm:m.length<=10000) (hl:l.length<=10000) (hz1:-9223372036854775808<=z) (hz2:z<=9223372036854775807) :
  Calls Tryz.prog 97 #[.pointer (some d),s.val,.int .i64 z] w fun e w'=>(∃ v,e = .returned v)/\∃ G',AsE d x o vs (m++[r]) (l++[(z:Rat)]) G' w'/\Fr (fun y=>G y/\d<=y) w w'/\More w G G':=by
 obtain ⟨vr,vb,ss,qs,h⟩:=h;obtain ⟨sA,sn,sc⟩:=s;dsimp only [SV.val];obtain ⟨d0,d1,d2,d3,d4⟩:=h.am.cells;obtain ⟨uA,uc,rfl,-,-⟩:=zKU h.am.rows.own;have hdl:=h.am.lt;have hff:=h.am.frozen;have H:=hdq h;have HS:=hdq hs;obtain ⟨j0,hjI,hy0,hy1,hy2⟩:=info_parts zFA;obtain ⟨k0,hk0,hx0,hx1,hx2⟩:=info_parts zEv;clear h hs;go_enter Tryz.func97,Tryz.ntmps97
 go_wp2_with (at_builtin; refine wpList_append_own_at _ rfl _ _ 33 rfl (d+1) 34 j0 (.slice none 0 0) 1 24 Tryz.underlying33 hjI hy0 hy1 hy2 rfl (by decide) (.slice uA m.length uc) m.length (ss.map SV.val) rfl (H.out.am.rows.own.alloc _) ⟨w,0,none⟩ 1 1 [.slice sA sn sc] rfl rfl (cell_one_new _ _ _) (by intro u hu; simp at hu; subst hu; rfl) (by simp [maxLen]; omega) (by omega) (by simp; omega) ?_)
 intro v3 W3 hown3 hg3 hnil3 hat3;obtain ⟨g3,c3',rfl⟩:=ownsRow_succ hown3;have hat3':=hat3.imp (id) fun (e:_=_)=>show (Value.slice (some g3) (m.length+1) c3').ownBlock=some (w.alloc (.cells #[.slice sA sn sc] 34)).heap.size by rw [e]; simp
 have hst:=(H.out.am.rows.step (s:=⟨sA,sn,sc⟩) HS.out hown3 hg3 hat3').2.1;obtain ⟨hA3,hF3,hM3⟩:=H.out.am.addR (s:=⟨sA,sn,sc⟩) HS.out hown3 hg3 hat3';have hb3:=hst.block d hdl fun e=>by have:=(H.out.am.rows.lt e).1; omega
 have e3:W3.cell? ⟨d,3,none⟩=some (.slice uA m.length uc):=(cob (a:=⟨d,3,none⟩) hb3).trans d3;have ef:∀ o,W3.frozen? ⟨d,o,none⟩=false:=fun o=>(World.frozen?_of_block (a:=⟨d,o,none⟩) hb3).trans (hff o)
 have HD:=hdq (H.out.step hA3 hF3 hM3);have HF:=hdq hF3;have HM:=hdq hM3;clear hown3 hg3 hnil3 hat3 hat3' hst hb3 hA3 hF3 hM3 d0 d1 d2 d3 d4 hff;go_upto_region 1 with fail
 obtain ⟨G1,hG1⟩:∃ G1:Nat->Prop,Hid (G1=fun y=>G y\/(Value.slice (some g3) (m.length+1) c3').ownBlock=some y):=⟨_,rfl⟩;rw [<-hG1.out] at HD HM;clear hG1 e3 ef;generalize W3.setCell ⟨d,3,none⟩ (.slice (some g3) (m.length+1) c3')=W4 at *;generalize Value.slice (some g3) (m.length+1) c3'=vr at *;generalize ss++[⟨sA,sn,sc⟩]=ss2 at *;have h4:=HD.out;obtain ⟨d0,d1,d2,d3,d4⟩:=h4.am.cells;obtain ⟨bA,bc,rfl,-,-⟩:=zKU h4.am.bnd.own;have hdl4:=h4.am.lt;have hff4:=h4.am.frozen;clear h4;refine zAp 9 (fun fl w'=>fl=false->Sees 0 [] W4 w') (by kernel_rfl) ?_;have hS0:Sees 0 [] W4 W4.drew:=Sees.st (by simp) (nzl _);refine tkE 0 ?_ (fun w' hSw=>?_) (fun _=>hS0) ?_;rotate_left
 ·(skip; go_simp; try with_reducible rfl)
 simp only [zz];refine tkE 1 ?_ (fun w' hSw=>?_) (fun _=>hS0) ?_;rotate_left
 ·(skip; go_simp; try with_reducible rfl)
 simp only [zz];refine tkE 2 ?_ (fun w' hSw=>?_) (fun _=>hS0) ?_;rotate_left
 ·(skip; go_simp; try with_reducible rfl)
 simp only [zz];refine tkE 3 ?_ (fun w' hSw=>?_) (fun _=>hS0) ?_;rotate_left
 ·(skip; go_simp; try with_reducible rfl)
 simp only [zz];refine tkE 4 ?_ (fun w' hSw=>?_) (fun _=>hS0) ?_;rotate_left
 ·(skip; go_simp; try with_reducible rfl)
 simp only [zz];refine tkE 6 ?_ (fun w' hSw=>?_) (fun _=>hS0) ?_;rotate_left
 ·(skip; go_simp; try with_reducible rfl)
 simp only [zz];refine tkW 5 (.slice bA l.length bc) (fun w' hSw=>?_) (fun _=>hS0) ?_
 ·(replace hSw:=hSw rfl; go_simp; try with_reducible rfl)
 simp only [zz];refine tk1 7 ?_;intro K hK;go_simp;have hdr:Below W4 W4 W4.drew:=(brf _ _).drew;refine (zAN z hz1 hz2 _).mono ?_; rintro e w5 ⟨⟨u,rfl,hu⟩,hb5⟩
 have hS1:=Kept.call2 hb5 hS0;have hb5':Below W4 W4 w5:=hdr.trans hb5;refine hK.out _ _ (fun _=>hS1) ?_;clear hK K;refine tk1 8 ?_;intro K hK;go_simp;refine hK.out _ _ (fun _=>hS1.al) ?_;clear hK K;have HD5:=hdq (HD.out.call hb5');have huG:QCan w5 (fun b=>¬ G1 b) u (z:Rat):=hu.imp fun y _ hy hG=>by have:=HD.out.am.gin y hG; simp only [New] at hy; have:=hdr.size; omega
 refine tk1 9 ?_;intro K hK;refine zVp (.tmp 23) (.tmp 26) 34 rfl (d+1) 80 k0 (.agg #[.bool false,.slice none 0 0,.bool false,.slice none 0 0]) 4 64 Tryz.underlying34 hk0 hx0 hx1 hx2 rfl (by decide) (.slice bA l.length bc) l.length (qs.flatMap cells4q) rfl (HD5.out.am.bnd.own.alloc _) ⟨w5,0,none⟩ 1 1 (cells4q u) rfl rfl (zA1 w5 u) ?one ?b1 ?b2 ?b3 ?_;case one=>intro u hu; simp [cells4q] at hu; rcases hu with rfl | rfl | rfl | rfl <;> rfl
 case b1=>simp [maxLen]; omega
 case b2=>omega
 case b3=>have:=hb5'.size; simp; omega
 intro v' W6 hown hg hat;go_simp;refine hK.out _ _ (fun h=>absurd h (by decide)) ?_;clear hK K;obtain ⟨g9,c9,rfl⟩:=ownsRow_succ hown;have hst:=(HD5.out.am.bnd.step huG hown hg hat).2.1;obtain ⟨hA6,hF6,hM6⟩:=HD5.out.am.addB huG hown hg hat;have HP:=hdq (HD5.out.step hA6 hF6 hM6);have HFr:=hdq (Fr.more (HF.out.trans (Fr.of_below hb5')) hF6 HM.out.ge);have HMr:=hdq (More.trans HM.out hM6 (nlt HF.out.size hb5'.size));have hb6:=hst.block d (by have:=hb5'.size; omega) fun e=>by have:=(HD5.out.am.bnd.lt e).1; omega
 have q4:W6.cell? ⟨d,4,none⟩=some (.slice bA l.length bc):=(cob (a:=⟨d,4,none⟩) hb6).trans HD5.out.am.cells.2.2.2.2;have qf:∀ o,W6.frozen? ⟨d,o,none⟩=false:=fun o=>(World.frozen?_of_block (a:=⟨d,o,none⟩) hb6).trans (HD5.out.am.frozen o)
 clear hown hg hat hst hA6 hF6 hM6 hb6 huG hS0 hS1 hb5 hb5' hdr hu d0 d1 d2 d3 d4 hff4;refine tkE 10 ?_ (fun w' hSw=>?_) (fun h=>absurd h (by decide)) ?_;rotate_left
 ·(skip; go_simp; try with_reducible rfl)
 simp only [zz];refine tkE 11 ?_ (fun w' hSw=>?_) (fun h=>absurd h (by decide)) ?_;rotate_left
 ·(skip; go_simp; try with_reducible rfl)
 simp only [zz];refine tkE 12 ?_ (fun w' hSw=>?_) (fun h=>absurd h (by decide)) ?_;rotate_left
 ·(skip; go_simp; try with_reducible rfl)
 simp only [zz];refine tk1 13 ?_;intro K hK;go_simp;refine hK.out _ _ (fun h=>absurd h (by decide)) ?_;clear hK K;refine zAf (by kernel_rfl) ?_ _;have HN:=hdq (show ∃ G',AsE d x o vs (m++[r]) (l++[(z:Rat)]) G' (W6.setCell ⟨d,4,none⟩ (.slice (some g9) (l.length+1) c9))/\Fr (fun y=>G y/\d<=y) w (W6.setCell ⟨d,4,none⟩ (.slice (some g9) (l.length+1) c9))/\More w G G' from ⟨_,⟨_,_,_,_,HP.out⟩,HFr.out,HMr.out⟩);clear HP HFr HMr HD HD5 HM HF H HS q4 qf;go_wp2;go_end0;exact ⟨⟨_,rfl⟩,HN.out⟩
theorem zXO (r:List Rat):(List.range r.length).map (fun k=>-(r.getD k 0))=neg r:=by
 unfold neg;apply List.ext_getElem
 ·simp
 ·intro k h1 h2;rw [List.length_map] at h2;rw [List.getElem_map,List.getElem_range,List.getElem_map,gdd,gge h2]; rfl
theorem zVI {w:World} {d:Nat} {x o s:SV} {vs:List Vr} {m:List (List Rat)} {l r:List Rat} {G:Nat->Prop} {z:Int} (h:AsE d x o vs m l G w) (hs:VecCan w (fun y=>¬ G y) (fun y=>¬ G y) s r) (hf:∀ k,QFit LM (r.getD k 0)) (hn:s.n<=1000) (hm:m.length<=9999) (hl:l.length<=9999) (hz1:-9223372036854775808<=z) (hz2:z<=9223372036854775807) :
  Calls Tryz.prog 48 #[.pointer (some d),s.val,.int .i64 z] w fun e w'=>(∃ v,e = .returned v)/\∃ G',AsE d x o vs (m++[r,neg r]) (l++[(z:Rat),(z:Rat)]) G' w'/\Fr (fun y=>G y/\d<=y) w w'/\More w G G':=by
 have H:=hdq h;have HS:=hdq hs;have HF:=hdq hf;obtain ⟨sA,n,c⟩:=s;dsimp only at hn;have hrn:r.length=n:=hs.len;have hle:n<=c:=hs.le;have hcap:c<=9223372036854775807:=hs.cap;have hmq:=zBZ n (by omega);have HR:Hid ((List.range n).map (fun k=>-(r.getD k 0))=neg r):=by have:=zXO r; rw [hrn] at this; exact this
 clear h hs hf;dsimp only [SV.val];go_enter Tryz.func48,Tryz.ntmps48
 go_wp2
 have H2:FillLoop w w (fun k=>-(r.getD k 0)) n n (fun _=>True) (.int .i64 0) (w.alloc (.cells (zeroQ n) 80)):=
  ⟨0,nzl _,rfl,by rw [zEe]; exact RowAt.made w n _ (.inr rfl),bal,trivial⟩
 generalize w.alloc (.cells (zeroQ n) 80)=WB at *;go_loopw [14] (fun t W=>FillLoop w w (fun k=>-(r.getD k 0)) n n (fun _=>True) t W) (fun t _=>n-(intOf t).toNat)
 case atStart=>exact H2
 case round=>
  clear H2;obtain ⟨k,hk,rfl,hR,hb,-⟩:=hrel;by_cases hlk:k<n
  ·have hkk:(k:Int)<(n:Int):=(by omega);obtain ⟨ab,ao,u,e,-,⟨q0,q1,q2,q3⟩,hu⟩:=elemL (HS.out.belowC hb) (k:=k) hlk;dsimp only at e q1 q2 q3;subst e;have tq:=zAb q0;have al:Below wr wr (wr.alloc (.cells #[.bool u.num.ng,.slice u.num.A u.num.n u.num.c,.bool u.den.ng,.slice u.den.A u.den.n u.den.c] 80)):=bal;have hRl:=hR.lt;have HRr:=hdq hR;have HB:=hdq hb;have hA:=hdq al;have HC:=hdq (zHK (a:=u) ((hu.below al).qis (HF.out k)) (nlr _));clear hR hb al hu;(go_wp2_with fail);refine HC.out.mono ?_;rintro e w5 ⟨⟨z',rfl,hz'⟩,h5⟩;have h5':Below wr wr w5:=hA.out.trans (h5.mono hA.out.size);have hR5:=HRr.out.below h5';obtain ⟨zv,⟨d0,d1,d2,d3⟩,-⟩:=hR5.elem k (by rw [zBj _ (by omega)]; omega);have fz:=hR5.frozen;dsimp only at d1 d2 d3;have hz2':QCan w5 (New wr) z' (-(r.getD k 0)):=hz'.imp fun b _ hx=>nlt hA.out.size hx
   have Hfin:=hdq (FillLoop.step (E:=fun _=>True) (B:=wr) hlk (nlr _) HRr.out HB.out h5' HB.out.size hRl (nlr _) hz2' trivial);clear hz' hz2' hR5 h5 h5' hA HRr HB HC q0 q1 q2 q3 tq;go_wp2;go_roundw;case rel=>exact fn_ Hfin.out
   case measure=>simp [intOf]; omega
  ·(obtain rfl:k=n:=by omega);rw [zGv,HR.out] at hR;have hln:(neg r).length=k:=by unfold neg; rw [List.length_map,hrn]
   have hv:=hR.vec (by rw [hln]; omega) k (by rw [hln]; exact nlr _) (by omega);rw [hln] at hv;have hvG:VecCan wr (fun y=>¬ G y) (fun y=>¬ G y) ⟨some ⟨w,0,none⟩,k,k⟩ (neg r):=hv.imp (fun y _ hy hG=>by subst hy; have:=H.out.gin _ hG; omega) fun _ _ hq=>hq.imp fun y _ hy hG=>hy (.inl (H.out.gin y hG))
   have HC1:=hdq (zUM (z:=z) (H.out.call hb) (HS.out.belowC hb) (by omega) (by omega) hz1 hz2);have HV:=hdq hvG;have HB:=hdq hb;clear hR hv hvG hb;dsimp only [SV.val] at HC1;(go_wp2_with fail);refine HC1.out.mono ?_;rintro e w5 ⟨⟨v5,rfl⟩,G1,hA1,hF1,hM1⟩;have HC2:=hdq (zUM (s:=⟨some ⟨w,0,none⟩,k,k⟩) (z:=z) hA1 (vecG HV.out hF1 (fun _ h=>h.1) hM1) (by rw [List.length_append,List.length_singleton]; omega) (by rw [List.length_append,List.length_singleton]; omega) hz1 hz2);have HFr1:=hdq ((Fr.of_below HB.out).trans hF1);have HM1:=hdq hM1;clear hA1 hF1 hM1 HC1 HV;dsimp only [SV.val] at HC2;(go_wp2_with fail);refine HC2.out.mono ?_;rintro e w6 ⟨⟨v6,rfl⟩,G2,hA2,hF2,hM2⟩;have hbs:=HB.out.size;have hM0:More w G G1:=⟨HM1.out.old,fun y hy=>(HM1.out.new y hy).imp id fun e=>nlt hbs e⟩;have HN:=hdq (show ∃ G',AsE d x o vs (m++[r,neg r]) (l++[(z:Rat),(z:Rat)]) G' w6/\Fr (fun y=>G y/\d<=y) w w6/\More w G G' from ⟨G2,by rw [List.append_assoc,List.append_assoc] at hA2; exact hA2,Fr.more HFr1.out hF2 hM0.ge,More.trans hM0 hM2 HFr1.out.size⟩);clear hA2 hF2 hM2 hM0 HFr1 HM1 HC2 HB;go_wp2;go_end0;exact ⟨⟨_,rfl⟩,HN.out⟩
end Mo
end Go.Proofs.YtjancagcmghfjaaGreat
