/- Texts Pairs PrC of this claim. -/
import Derived.Deep.Slices
import Derived.Test.YtbpngececjihlaaGreatY19
set_option maxHeartbeats 4000000
set_option maxRecDepth 100000
namespace Go.Proofs.YtbpngececjihlaaGreat
open Go.RowKit Go.Shelf
variable {s sa sb:SV} {X:Nat->Prop} {W W' w:World} {n N:Nat}
attribute [local go_sem] Oper.semAt_some
def QV.zero:QV:=⟨⟨false,none,0,0⟩,⟨false,none,0,0⟩⟩
instance:Inhabited QV:=⟨QV.zero⟩
structure Elems (W:World) (X:Nat->Prop) (s:SV) (v:Nat->QV):Prop where
 le:s.n<=s.c
 cap:s.c<=9223372036854775807
 elem:∀ i,i<s.n->∃ ad,s.A=some ad/\X ad.block/\QCell W (ad.add (i*4)) (v i)
 rest:∀ i,s.n<=i->v i=QV.zero
theorem Elems.carry {v:Nat->QV} (h:Elems W X s v) (hk:Carry X W W'):Elems W' X s v:=
 ⟨h.le,h.cap,fun i hi=>by
  obtain ⟨ad,e,hx,hc⟩:=h.elem i hi;exact ⟨ad,e,hx,hc.carry hk (by rw [zAj]; exact hx)⟩,h.rest⟩
theorem VecAt.elems {R:QV->Rat->Prop} {l:List Rat} (h:VecAt W X R s l) (h0:R QV.zero 0):∃ v,Elems W X s v/\∀ i,R (v i) (l.getD i 0):=by
 obtain ⟨f,hf⟩:=Deep.choose_lt (α:=QV) (n:=s.n) (p:=fun i v=>(∃ ad,s.A=some ad/\X ad.block/\QCell W (ad.add (i*4)) v)/\R v (l.getD i 0)) (fun i hi=>by
  obtain ⟨ad,v,e,hx,hc,hr⟩:=h.elem i hi;exact ⟨v,⟨ad,e,hx,hc⟩,hr⟩)
 refine ⟨fun i=>if i<s.n then f i else QV.zero,⟨h.le,h.cap,fun i hi=>?_,fun i hi=>if_neg (by omega)⟩,fun i=>?_⟩
 ·rw [if_pos hi]; exact (hf i hi).1
 ·by_cases hi:i<s.n
  ·dsimp only; rw [if_pos hi]; exact (hf i hi).2
  ·dsimp only; rw [if_neg hi,zAw _ _ _ (by rw [h.len]; omega)]; exact h0
theorem zFZ (A B:Option Addr) (la ca lb cb:Nat) :
  CallsIn Fence.wide n Tryz.prog 101 #[.slice A la ca,.slice B lb cb] w fun e w'=>e = .returned (.func (.func 171) #[] #[.pointer (some w),.pointer (some ⟨w+1,0,none⟩)])/\
   w'=(w.alloc (.cells #[.slice A la ca] 23)).alloc (.cells #[.slice B lb cb] 23):=by
 refine callsIn_of_wp Tryz.func101 rfl trivial ?_ rfl;simp only [Tryz.ntmps101,List.size_toArray,List.length_cons,List.length_nil,Nat.reduceAdd,Nat.reduceSub,Array.replicate_succ,Array.replicate_zero,List.push_toArray,List.append_toArray,List.nil_append,List.cons_append];gi_wp2;go_ret;exact ⟨by simp,by simp⟩
def PIter (W:World) (X:Nat->Prop) (N:Nat) (J:List Nat->World->Prop) (t:Value) (W':World):Prop:=
 ∃ k:Nat,k<=N/\t = .int .i64 k/\J (List.range k) W'/\Carry X W W'
theorem zHL {l B1 B2:Nat} {va vb:Nat->QV} (hn:1<=n) (J Jx:List Nat->World->Prop) (W:World) (hJ:AbidesFrom W J)
  (hY:∀ pre x W1,J pre W1->pre.length<N->YieldAt Fence.wide (n-1) Tryz.prog l #[(va x).val,(vb x).val] W1 fun e W'=>
   (e = .returned (.bool true)/\J (pre++[x]) W'/\Carry X W1 W')\/(e = .returned (.bool false)/\Jx (pre++[x]) W'))
  (h1:W.heap[B1]?=some (.cells #[sa.val] 23 (0,0))) (h2:W.heap[B2]?=some (.cells #[sb.val] 23 (0,0))) (hb1:X B1) (hb2:X B2)
  (ha:Elems W X sa va) (hb:Elems W X sb vb) (hN:N=max sa.n sb.n) (hN2:N<=1000000) (h0:J [] W) :
  CallsIn Fence.wide n Tryz.prog 171 #[.func (.yield l) #[] #[],.pointer (some B1),.pointer (some B2)] W fun e W'=>(∃ v,e = .returned v)/\
   ((∃ ys,ys=List.range N/\J ys W')\/(∃ pre,pre <+: List.range N/\Jx pre W')):=by
 obtain ⟨A,la,ca⟩:=sa;obtain ⟨B,lb,cb⟩:=sb;dsimp only [SV.val] at h1 h2 hN;have c1:W.cell? B1=some (.slice A la ca):=by simp only [World.cell?,h1]; simp
 have c2:W.cell? B2=some (.slice B lb cb):=by simp only [World.cell?,h2]; simp
 have qa:la<=ca:=ha.le;have qb:lb<=cb:=hb.le;have qa':ca<=9223372036854775807:=ha.cap;have qb':cb<=9223372036854775807:=hb.cap;refine callsIn_of_wp Tryz.func171 rfl trivial ?_ rfl;simp only [Tryz.ntmps171,List.size_toArray,List.length_cons,List.length_nil,Nat.reduceAdd,Nat.reduceSub,Array.replicate_succ,Array.replicate_zero,List.push_toArray,List.append_toArray,List.nil_append,List.cons_append];gi_wp2;rw [show (max (la:Int) (lb:Int))=(N:Int) from by omega];have Ha:=hdq ha;have Hb:=hdq hb;have HN:=hdq hN;have HY:=hdq hY;have HJ:=hdq hJ;clear ha hb hN hY hJ;gi_loopw [12] (fun i wr=>PIter W X N J i wr) (fun i _=>N-(intOf i).toNat)
 case atStart=>exact ⟨0,nzl _,rfl,h0,Carry.refl _ _⟩
 case round=>
  obtain ⟨k,hk,rfl,hJs,hcar⟩:=hrel;have d1:wr.cell? B1=some (.slice A la ca):=hcar.cell (p:=B1) hb1 c1;have d2:wr.cell? B2=some (.slice B lb cb):=hcar.cell (p:=B2) hb2 c2;have t1:B1<wr.heap.size:=zAb d1;have t2:B2<wr.heap.size:=zAb d2;by_cases hlt:k<N
  ·have Hr:=hdq (show List.range (k+1)=List.range k++[k] from List.range_succ);have ha2:=Ha.out.carry hcar;have hb2':=Hb.out.carry hcar;have al:Below wr wr ((wr.alloc (.cells #[(.bool (va k).num.ng),(.slice (va k).num.A (va k).num.n (va k).num.c),(.bool (va k).den.ng),(.slice (va k).den.A (va k).den.n (va k).den.c)] 30)).alloc (.cells #[(.bool (vb k).num.ng),(.slice (vb k).num.A (vb k).num.n (vb k).num.c),(.bool (vb k).den.ng),(.slice (vb k).den.A (vb k).den.n (vb k).den.c)] 30)):=(bal).alloc (by simp) _;have hgb:wr.grownBy _ none:=⟨al.os,al.tape,al.output,al.size,fun k hk _=>al.block k hk⟩;have hJ2:=HJ.out _ wr _ none hJs hgb (fun r e=>by cases e);obtain ⟨fn,tmps,assign,body,hy,hR⟩:=HY.out _ k _ hJ2 (by simpa using hlt);clear hgb hJ2 hJs;by_cases hka:k<la
   ·obtain ⟨a1,e,-,⟨q0,q1,q2,q3⟩⟩:=ha2.elem k hka;dsimp only at e q1 q2 q3;subst e;have tq:(a1.add (k*4)).block<wr:=zAb q0;have hkai:(k:Int)<(la:Int):=(by omega);by_cases hkb:k<lb
    ·obtain ⟨a2,e,-,⟨p0,p1,p2,p3⟩⟩:=hb2'.elem k hkb;dsimp only at e p1 p2 p3;subst e;have tp:(a2.add (k*4)).block<wr:=zAb p0;have hkbi:(k:Int)<(lb:Int):=(by omega);clear ha2 hb2';gi_wp2;refine hR.mono ?_;rintro e W3 (⟨rfl,hJ3,hk3⟩ | ⟨rfl,hJx3⟩)
     ·have Hfin:Hid (PIter W X N J (.int .i64 ((k:Int)+1)) W3):=⟨k+1,by omega,by simp,by rw [Hr.out]; exact hJ3,hcar.trans ((Carry.of_below al).trans hk3)⟩;clear hJ3 hk3 hcar al;gi_wp2;exact ⟨Hfin.out,by simp [intOf]; omega⟩
     ·gi_wp2;refine bodyPost_ret (results_none rfl _ _ _) rfl ?_;exact ⟨⟨_,rfl⟩,.inr ⟨_,by rw [<-Hr.out]; exact zA8 (by omega),hJx3⟩⟩
    ·have ez:vb k=QV.zero:=hb2'.rest k (show lb<=k by omega);rw [ez] at hy hR al;dsimp only [QV.zero] at hy hR al;have hkbi:¬ (k:Int)<(lb:Int):=(by omega);clear ha2 hb2';gi_wp2;refine hR.mono ?_;rintro e W3 (⟨rfl,hJ3,hk3⟩ | ⟨rfl,hJx3⟩)
     ·have Hfin:Hid (PIter W X N J (.int .i64 ((k:Int)+1)) W3):=⟨k+1,by omega,by simp,by rw [Hr.out]; exact hJ3,hcar.trans ((Carry.of_below al).trans hk3)⟩;clear hJ3 hk3 hcar al;gi_wp2;exact ⟨Hfin.out,by simp [intOf]; omega⟩
     ·gi_wp2;refine bodyPost_ret (results_none rfl _ _ _) rfl ?_;exact ⟨⟨_,rfl⟩,.inr ⟨_,by rw [<-Hr.out]; exact zA8 (by omega),hJx3⟩⟩
   ·have ez:va k=QV.zero:=ha2.rest k (show la<=k by omega);rw [ez] at hy hR al;dsimp only [QV.zero] at hy hR al;have hkai:¬ (k:Int)<(la:Int):=(by omega);have hkb:k<lb:=by have:=HN.out; omega
    obtain ⟨a2,e,-,⟨p0,p1,p2,p3⟩⟩:=hb2'.elem k hkb;dsimp only at e p1 p2 p3;subst e;have tp:(a2.add (k*4)).block<wr:=zAb p0;have hkbi:(k:Int)<(lb:Int):=(by omega);clear ha2 hb2';gi_wp2;refine hR.mono ?_;rintro e W3 (⟨rfl,hJ3,hk3⟩ | ⟨rfl,hJx3⟩)
    ·have Hfin:Hid (PIter W X N J (.int .i64 ((k:Int)+1)) W3):=⟨k+1,by omega,by simp,by rw [Hr.out]; exact hJ3,hcar.trans ((Carry.of_below al).trans hk3)⟩;clear hJ3 hk3 hcar al;gi_wp2;exact ⟨Hfin.out,by simp [intOf]; omega⟩
    ·gi_wp2;refine bodyPost_ret (results_none rfl _ _ _) rfl ?_;exact ⟨⟨_,rfl⟩,.inr ⟨_,by rw [<-Hr.out]; exact zA8 (by omega),hJx3⟩⟩
  ·(obtain rfl:k=N:=by omega);gi_wp2;go_end0;exact ⟨⟨_,rfl⟩,.inl ⟨_,rfl,hJs⟩⟩
end Go.Proofs.YtbpngececjihlaaGreat
namespace Go.Proofs.YtbpngececjihlaaGreat
open Go.RowKit Go.Shelf
variable {q:Rat} {b x c k base n d V M E:Nat} {z:QV} {v v':Value} {w W W2:World} {G:Nat->Prop}
def quad (a b c d:Nat) (f:Nat):Nat:=if f=1 then a else if f=2 then b else if f=3 then c else if f=4 then d else 0
section
variable {W W':World} {G G':Nat->Prop}
theorem Step.qcan (s:Step W W' G G') {v:QV} (h:QCan W (fun b=>¬ G b) v q):QCan W' (fun b=>¬ G' b) v q:=by
 have h2:QCan W (fun b=>¬ G b/\¬ G' b) v q:=h.imp fun b hb hx=>⟨hx,fun hg=>hx (s.back b hb hg)⟩
 have h3:QCan W' (fun b=>¬ G b/\¬ G' b) v q:=h2.keep fun a hx hl=>s.cell hl hx.1
 exact h3.imp fun b _ hx=>hx.2
theorem RowP.step {l:List Rat} (h:RowP W G b l) (s:Step W W' G G') (hG:∀ x,G x->G' x) (hb:W'.heap[b]?=W.heap[b]?):RowP W' G' b l:=
 (h.grow hG fun x hx hg=>s.back x hx hg).keep hb fun _p hp hl=>s.cell hl fun hg=>hp (hG _ hg)
end
structure PM (w:World) (d:Nat) (V:Int) (lb lf:List Nat) (sr:List SV) (qs:List QV) (E:Nat) (rf:Nat->Nat->Rat) (cf:Nat->Rat) (va vb vc vd:Value) (G:Nat->Prop) (W:World):Prop where
 pt:PT w d d V va vb vc vd (lists (iv lb) (iv lf) (sr.map SV.val) (qs.flatMap cells4q)) (quad lb.length lf.length sr.length qs.length) G W
 cst:∀ k,k<qs.length->QCan W (fun b=>¬ G b) (qs.getD k QV.zero) (cf k)
 row:∀ i,i<sr.length->∃ b c,sr.getD i ⟨none,0,0⟩=⟨some ⟨b,0,none⟩,E+1,c⟩/\E+1<=c/\c<=9223372036854775807/\RowP W G b (rowL E (rf i))/\vd.ownBlock ≠ some b
 rinj:∀ i j,i<sr.length->j<sr.length->(sr.getD i ⟨none,0,0⟩).A=(sr.getD j ⟨none,0,0⟩).A->i=j
section
variable {w W W1 W2:World} {d:Nat} {V:Int} {lb lf:List Nat} {sr:List SV} {qs:List QV} {E:Nat} {rf:Nat->Nat->Rat} {cf:Nat->Rat} {va vb vc vd v':Value} {G:Nat->Prop} {o:Obj}
theorem PM.call (h:PM w d V lb lf sr qs E rf cf va vb vc vd G W) (hb:Below W W W1):PM w d V lb lf sr qs E rf cf va vb vc vd G W1:=
 ⟨h.pt.call hb,fun k hk=>(h.cst k hk).below hb,fun i hi=>by
  obtain ⟨b,c,x1,x2,x3,x4,x5⟩:=h.row i hi;exact ⟨b,c,x1,x2,x3,x4.below hb,x5⟩,h.rinj⟩
theorem PM.grow (h:PM w d V lb lf sr qs E rf cf va vb vc vd G W) (hb:Below W W W1) (h1:W.heap.size<=b) (h2:b<W1.heap.size):PM w d V lb lf sr qs E rf cf va vb vc vd (fun y=>G y\/y=b) W1:=by
 have hp:=h.pt.call hb;refine ⟨⟨hp.bel,hp.blk,hp.own,hp.apart,hp.nod,fun x hx=>?_,.inl hp.gd,fun f j a c e=>.inl (hp.gf f j a c e),hp.ge,hp.dB⟩,fun k hk=>?_,fun i hi=>?_,h.rinj⟩
 ·rcases hx with hx | rfl
  ·exact hp.gin x hx
  ·exact ⟨by have:=h.pt.dlt; omega,h2⟩
 ·refine ((h.cst k hk).imp (Y:=fun y=>¬ (G y\/y=b)) fun x hx hg hg'=>?_).below hb;rcases hg' with hg' | hg'
  ·exact hg hg'
  ·omega
 ·obtain ⟨c,e,x1,x2,x3,x4,x5⟩:=h.row i hi;exact ⟨c,e,x1,x2,x3,(x4.grow (fun x hx=>.inl hx) fun x hx hg=>hg.resolve_right fun e=>by omega).below hb,x5⟩
theorem PM.rowKeep (h:PM w d V lb lf sr qs E rf cf va vb vc vd G W) {f:Nat} (f1:1<=f) (f4:f<=4) (hg:(W.alloc o).grownBy W2 (four va vb vc vd f).ownBlock) {l:List Rat} (hR:RowP W G b l) (hne:vd.ownBlock ≠ some b) :
  (W2.setCell ⟨d,f,none⟩ v').heap[b]?=W.heap[b]?:=by
 obtain ⟨cs,e,_⟩:=hR.blk;have hbd:b ≠ d:=by rintro rfl; rw [h.pt.blk] at e; cases e
 have hbl:=hR.lt
 have hno:(four va vb vc vd f).ownBlock ≠ some b:=by
  intro hj;by_cases e4:f=4
  ·subst e4; exact hne hj
  ·obtain ⟨_,cs',hh⟩:=zAc (h.pt.own f f1 f4) hj;rw [e] at hh;have:pft f ≠ 30:=by unfold pft; split; decide; rw [if_pos (by omega)]; decide
   simp only [Option.some.injEq,Obj.cells.injEq] at hh;exact this hh.2.1.symm
 exact (bhs _ _ _ _ hbd).trans ((hg.block b (by simp; omega) fun e=>hno e.symm).trans (Below.heap_alloc _ _ _ hbl))
theorem PM.addB (h:PM w d V lb lf sr qs E rf cf va vb vc vd G W) (hown:W2.ownsRow d 3 1 v' (lb.length+1) (iv lb++[.int .i64 (x:Int)])) (hg:(W.alloc o).grownBy W2 va.ownBlock) (hat:v'.ownBlock=va.ownBlock\/v'.ownBlock=some (W.alloc o).heap.size) :
  PM w d V (lb++[x]) lf sr qs E rf cf v' vb vc vd (fun y=>G y\/v'.ownBlock=some y) (W2.setCell ⟨d,1,none⟩ v'):=by
 obtain ⟨hQ2,st⟩:=h.pt.append (f:=1) (by omega) (by omega) (xs:=[.int .i64 (x:Int)]) (v':=v') hown hg hat;have hG:∀ x,G x->G x\/v'.ownBlock=some x:=fun x hx=>.inl hx
 have ea:(fun g=>if g=1 then lists (iv lb) (iv lf) (sr.map SV.val) (qs.flatMap cells4q) 1++[.int .i64 (x:Int)] else lists (iv lb) (iv lf) (sr.map SV.val) (qs.flatMap cells4q) g)=lists (iv (lb++[x])) (iv lf) (sr.map SV.val) (qs.flatMap cells4q):=by
  funext g; unfold lists; by_cases h1:g=1 <;> by_cases h2:g=2 <;> by_cases h3:g=3 <;> by_cases h4:g=4 <;> simp_all [iv]
 have ec:(fun g=>if g=1 then quad lb.length lf.length sr.length qs.length 1+1 else quad lb.length lf.length sr.length qs.length g)=quad (lb++[x]).length lf.length sr.length qs.length:=by
  funext g; unfold quad; by_cases h1:g=1 <;> by_cases h2:g=2 <;> by_cases h3:g=3 <;> by_cases h4:g=4 <;> simp_all
 rw [ea,ec] at hQ2
 exact ⟨hQ2,fun k hk=>st.qcan (h.cst k hk),fun i hi=>by
  obtain ⟨b,c,x1,x2,x3,x4,x5⟩:=h.row i hi;exact ⟨b,c,x1,x2,x3,x4.step st hG (h.rowKeep (by omega) (by omega) hg x4 x5),x5⟩,h.rinj⟩
theorem PM.addF (h:PM w d V lb lf sr qs E rf cf va vb vc vd G W) (hown:W2.ownsRow d 3 1 v' (lf.length+1) (iv lf++[.int .i64 (x:Int)])) (hg:(W.alloc o).grownBy W2 vb.ownBlock) (hat:v'.ownBlock=vb.ownBlock\/v'.ownBlock=some (W.alloc o).heap.size) :
  PM w d V lb (lf++[x]) sr qs E rf cf va v' vc vd (fun y=>G y\/v'.ownBlock=some y) (W2.setCell ⟨d,2,none⟩ v'):=by
 obtain ⟨hQ2,st⟩:=h.pt.append (f:=2) (by omega) (by omega) (xs:=[.int .i64 (x:Int)]) (v':=v') hown hg hat;have hG:∀ x,G x->G x\/v'.ownBlock=some x:=fun x hx=>.inl hx
 have ea:(fun g=>if g=2 then lists (iv lb) (iv lf) (sr.map SV.val) (qs.flatMap cells4q) 2++[.int .i64 (x:Int)] else lists (iv lb) (iv lf) (sr.map SV.val) (qs.flatMap cells4q) g)=lists (iv lb) (iv (lf++[x])) (sr.map SV.val) (qs.flatMap cells4q):=by
  funext g; unfold lists; by_cases h1:g=1 <;> by_cases h2:g=2 <;> by_cases h3:g=3 <;> by_cases h4:g=4 <;> simp_all [iv]
 have ec:(fun g=>if g=2 then quad lb.length lf.length sr.length qs.length 2+1 else quad lb.length lf.length sr.length qs.length g)=quad lb.length (lf++[x]).length sr.length qs.length:=by
  funext g; unfold quad; by_cases h1:g=1 <;> by_cases h2:g=2 <;> by_cases h3:g=3 <;> by_cases h4:g=4 <;> simp_all
 rw [ea,ec] at hQ2
 exact ⟨hQ2,fun k hk=>st.qcan (h.cst k hk),fun i hi=>by
  obtain ⟨b,c,x1,x2,x3,x4,x5⟩:=h.row i hi;exact ⟨b,c,x1,x2,x3,x4.step st hG (h.rowKeep (by omega) (by omega) hg x4 x5),x5⟩,h.rinj⟩
theorem PM.addC (h:PM w d V lb lf sr qs E rf cf va vb vc vd G W) (hz:QCan W (fun b=>¬ G b) z q) (hq:cf qs.length=q) (hown:W2.ownsRow d 30 4 v' (qs.length+1) (qs.flatMap cells4q++cells4q z)) (hg:(W.alloc o).grownBy W2 vd.ownBlock)
  (hat:v'.ownBlock=vd.ownBlock\/v'.ownBlock=some (W.alloc o).heap.size) :
  PM w d V lb lf sr (qs++[z]) E rf cf va vb vc v' (fun y=>G y\/v'.ownBlock=some y) (W2.setCell ⟨d,4,none⟩ v'):=by
 obtain ⟨hQ2,st⟩:=h.pt.append (f:=4) (by omega) (by omega) (xs:=cells4q z) (v':=v') hown hg hat;have hG:∀ x,G x->G x\/v'.ownBlock=some x:=fun x hx=>.inl hx
 have ea:(fun g=>if g=4 then lists (iv lb) (iv lf) (sr.map SV.val) (qs.flatMap cells4q) 4++cells4q z else lists (iv lb) (iv lf) (sr.map SV.val) (qs.flatMap cells4q) g)=lists (iv lb) (iv lf) (sr.map SV.val) ((qs++[z]).flatMap cells4q):=by
  funext g; unfold lists; by_cases h1:g=1 <;> by_cases h2:g=2 <;> by_cases h3:g=3 <;> by_cases h4:g=4 <;> simp_all [iv]
 have ec:(fun g=>if g=4 then quad lb.length lf.length sr.length qs.length 4+1 else quad lb.length lf.length sr.length qs.length g)=quad lb.length lf.length sr.length (qs++[z]).length:=by
  funext g; unfold quad; by_cases h1:g=1 <;> by_cases h2:g=2 <;> by_cases h3:g=3 <;> by_cases h4:g=4 <;> simp_all
 rw [ea,ec] at hQ2;refine ⟨hQ2,fun k hk=>?_,fun i hi=>?_,h.rinj⟩
 ·rw [zBG];by_cases h1:k<qs.length
  ·rw [if_pos h1]; exact st.qcan (h.cst k h1)
  ·rw [List.length_append,List.length_singleton] at hk;(obtain rfl:k=qs.length:=by omega);rw [if_neg h1,if_pos rfl,hq]; exact st.qcan hz
 ·obtain ⟨b,c,x1,x2,x3,x4,x5⟩:=h.row i hi;refine ⟨b,c,x1,x2,x3,x4.step st hG (h.rowKeep (by omega) (by omega) hg x4 x5),fun e=>?_⟩;rcases hat with e' | e'
  ·exact x5 (e'.symm.trans e)
  ·rw [e'] at e; cases e; have:=x4.lt; simp at this; omega
theorem PM.addR (h:PM w d V lb lf sr qs E rf cf va vb vc vd G W) (hc:E+1<=c) (hc2:c<=9223372036854775807) (hR:RowP W G b (rowL E (rf sr.length))) (hbd:vd.ownBlock ≠ some b) (hne:∀ i,i<sr.length->(sr.getD i ⟨none,0,0⟩).A ≠ some ⟨b,0,none⟩)
  (hown:W2.ownsRow d 23 1 v' (sr.length+1) (sr.map SV.val++[.slice (some b) (E+1) c])) (hg:(W.alloc o).grownBy W2 vc.ownBlock) (hat:v'.ownBlock=vc.ownBlock\/v'.ownBlock=some (W.alloc o).heap.size) :
  PM w d V lb lf (sr++[⟨some ⟨b,0,none⟩,E+1,c⟩]) qs E rf cf va vb v' vd (fun y=>G y\/v'.ownBlock=some y) (W2.setCell ⟨d,3,none⟩ v'):=by
 obtain ⟨hQ2,st⟩:=h.pt.append (f:=3) (by omega) (by omega) (xs:=[.slice (some b) (E+1) c]) (v':=v') hown hg hat;have hG:∀ x,G x->G x\/v'.ownBlock=some x:=fun x hx=>.inl hx
 have ea:(fun g=>if g=3 then lists (iv lb) (iv lf) (sr.map SV.val) (qs.flatMap cells4q) 3++[.slice (some b) (E+1) c] else lists (iv lb) (iv lf) (sr.map SV.val) (qs.flatMap cells4q) g)=lists (iv lb) (iv lf) ((sr++[(⟨some ⟨b,0,none⟩,E+1,c⟩:SV)]).map SV.val) (qs.flatMap cells4q):=by
  funext g; unfold lists; by_cases h1:g=1 <;> by_cases h2:g=2 <;> by_cases h3:g=3 <;> by_cases h4:g=4 <;> simp_all [iv]
 have ec:(fun g=>if g=3 then quad lb.length lf.length sr.length qs.length 3+1 else quad lb.length lf.length sr.length qs.length g)=quad lb.length lf.length (sr++[(⟨some ⟨b,0,none⟩,E+1,c⟩:SV)]).length qs.length:=by
  funext g; unfold quad; by_cases h1:g=1 <;> by_cases h2:g=2 <;> by_cases h3:g=3 <;> by_cases h4:g=4 <;> simp_all
 rw [ea,ec] at hQ2;refine ⟨hQ2,fun k hk=>st.qcan (h.cst k hk),fun i hi=>?_,fun i j hi hj e=>?_⟩
 ·rw [zBG];by_cases h1:i<sr.length
  ·rw [if_pos h1];obtain ⟨b',c',x1,x2,x3,x4,x5⟩:=h.row i h1;exact ⟨b',c',x1,x2,x3,x4.step st hG (h.rowKeep (by omega) (by omega) hg x4 x5),x5⟩
  ·rw [List.length_append,List.length_singleton] at hi;(obtain rfl:i=sr.length:=by omega);rw [if_neg h1,if_pos rfl];exact ⟨b,c,rfl,hc,hc2,hR.step st hG (h.rowKeep (by omega) (by omega) hg hR hbd),hbd⟩
 ·rw [zBG,zBG] at e;rw [List.length_append,List.length_singleton] at hi hj;by_cases h1:i<sr.length <;> by_cases h2:j<sr.length
  ·rw [if_pos h1,if_pos h2] at e; exact h.rinj i j h1 h2 e
  ·rw [if_pos h1,if_neg h2,if_pos (by omega)] at e; exact absurd e (hne i h1)
  ·rw [if_neg h1,if_pos (by omega),if_pos h2] at e; exact absurd e.symm (hne j h2)
  ·omega
end
structure GRow (K:Nat->Prop) (w:World) (g:Nat->Rat) (k:Nat) (v:Value) (s:List QV) (W:World):Prop where
 len:s.length=k
 own:W.ownsRow w 30 4 v k (s.flatMap cells4q)
 elem:∀ j,j<k->QCan W (fun b=>v.ownBlock ≠ some b/\K b) (s.getD j QV.zero) (g j)
 bel:Below w w W
theorem GRow.start (K:Nat->Prop) (w:World) (g:Nat->Rat):GRow K w g 0 (.slice none 0 0) [] w:=
 ⟨rfl,⟨rfl,.inl ⟨rfl,rfl⟩⟩,fun j hj=>absurd hj (Nat.not_lt_zero j),brf _ _⟩
theorem GRow.step {K:Nat->Prop} {W1:World} {g:Nat->Rat} {s:List QV} {zq:QV} {o:Obj} (h:GRow K w g k v s W) (hb:Below W W W1) (hz:QCan W1 (fun b=>v.ownBlock ≠ some b/\K b) zq (g k))
  (hown:W2.ownsRow w 30 4 v' (k+1) (s.flatMap cells4q++cells4q zq)) (hg:(W1.alloc o).grownBy W2 v.ownBlock) (hat:v'.ownBlock=v.ownBlock\/v'.ownBlock=some (W1.alloc o).heap.size) :
  GRow K w g (k+1) v' (s++[zq]) W2:=by
 have hsw:=h.bel.size;have hs1:=hb.size;have k1:∀ x,x<W1.heap.size->v.ownBlock ≠ some x->W2.heap[x]?=W1.heap[x]?:=fun x hx h2=>(hg.block x (by simp; omega) fun e=>h2 e.symm).trans (Below.heap_alloc _ _ _ hx)
 have mv:∀ {u:QV} {q:Rat},QCan W1 (fun b=>v.ownBlock ≠ some b/\K b) u q->QCan W2 (fun b=>v'.ownBlock ≠ some b/\K b) u q:=fun hu=>by
  have h2:=hu.imp (Y:=fun b=>v.ownBlock ≠ some b/\v'.ownBlock ≠ some b/\K b) fun b hb' hx=>⟨hx.1,fun e=>by
   rcases hat with e' | e'
   ·exact hx.1 (e'.symm.trans e)
   ·rw [e'] at e; cases e; simp at hb'; omega,hx.2⟩
  exact (h2.keep fun a hx hl=>cob (k1 _ hl hx.1)).imp fun b _ hx=>hx.2
 refine ⟨by rw [List.length_append,h.len]; rfl,by rw [List.flatMap_append]; simpa using hown,fun j hj=>?_,?_⟩
 ·rw [zBG];by_cases h1:j<s.length
  ·rw [if_pos h1]; exact mv ((h.elem j (by rw [<-h.len]; exact h1)).below hb)
  ·have hl:=h.len;(obtain rfl:j=s.length:=by omega);rw [if_neg h1,if_pos rfl,hl]; exact mv hz
 ·have hG1:Below w w W1:=h.bel.trans (hb.mono hsw);exact (hG1.alloc (by omega) _).grown hg (by simp; omega) (fun j hj=>(zAc h.own hj).1)
theorem zFq {qs:List QV} {l:List Rat} (h:W.ownsRow base 30 4 v n (qs.flatMap cells4q)) (hl:qs.length=n) (hm:l.length=n) (hn:0<n) (he:∀ k,k<n->QCan W (fun x=>¬ G x) (qs.getD k QV.zero) (l.getD k 0)) (hG:∀ b,v.ownBlock=some b->G b) :
  ∃ b c,v = .slice (some ⟨b,0,none⟩) n c/\n<=c/\c<=9223372036854775807/\base<=b/\v.ownBlock=some b/\RowP W G b l:=by
 rcases h.2 with ⟨_,h0⟩ | ⟨g,cap,cur,rfl,hbg,hh,hnc,hcap,hcur,ht⟩
 ·omega
 ·refine ⟨g,cap,rfl,hnc,nlt hcap (by decide),hbg,rfl,hG g rfl,⟨cur,hh,by rw [hm,hcur]; omega⟩,fun k hk=>⟨qs.getD k QV.zero,?_,he k (by omega)⟩⟩
  have ec:∀ o,o<4->W.cell? ⟨g,k*4+o,none⟩=(cells4q (qs.getD k QV.zero))[o]?:=fun o ho=>by
   have e2:(cur.toList.take (n*4))[k*4+o]?=(qs.flatMap cells4q)[k*4+o]?:=(by rw [ht]);rw [List.getElem?_take_of_lt (by omega),zCy qs k o (by omega) ho QV.zero] at e2;simp only [World.cell?,hh];simpa using e2
  exact ⟨ec 0 (by omega),ec 1 (by omega),ec 2 (by omega),ec 3 (by omega)⟩
theorem PM.done {sr:List SV} {qs:List QV} {rf:Nat->Nat->Rat} {cf:Nat->Rat} {va vb vc vd:Value} {D:Lin.Dict} (h:PM w d (V:Int) ((List.range M).map (V+·)) (List.range V) sr qs E rf cf va vb vc vd G W) (hM:sr.length=M) (hE:qs.length=E+1)
  (d1:∀ i,i<M->D.basic i=V+i) (d2:∀ j,j<V->D.free j=j) (d3:∀ i j,i<M->j<=E->D.a i j=rf i j) (d4:∀ j,j<=E->D.c 0 j=cf j) :
  ∃ x:PV,x.d=d/\PDA W G x V M E D:=by
 have o1:=h.pt.own 1 (by omega) (by omega);have o2:=h.pt.own 2 (by omega) (by omega);have o3:=h.pt.own 3 (by omega) (by omega);have o4:=h.pt.own 4 (by omega) (by omega);have q1:quad ((List.range M).map (V+·)).length (List.range V).length sr.length qs.length 1=M:=by simp [quad]
 have q2:quad ((List.range M).map (V+·)).length (List.range V).length sr.length qs.length 2=V:=by simp [quad]
 have q3:quad ((List.range M).map (V+·)).length (List.range V).length sr.length qs.length 3=M:=by simp [quad,hM]
 have q4:quad ((List.range M).map (V+·)).length (List.range V).length sr.length qs.length 4=E+1:=by simp [quad,hE]
 rw [q1] at o1; rw [q2] at o2; rw [q3] at o3; rw [q4] at o4
 have hb':∀ i,∃ p:Nat × Nat,i<M->sr.getD i ⟨none,0,0⟩=⟨some ⟨p.1,0,none⟩,E+1,p.2⟩/\E+1<=p.2/\p.2<=9223372036854775807/\RowP W G p.1 (rowL E (rf i))/\vd.ownBlock ≠ some p.1:=fun i=>by
  by_cases hi:i<M
  ·obtain ⟨b,c,h1,h2⟩:=h.row i (by omega);exact ⟨(b,c),fun _=>⟨h1,h2⟩⟩
  ·exact ⟨(0,0),fun h=>absurd h hi⟩
 let pb:Nat->Nat × Nat:=fun i=>Classical.choose (hb' i)
 have hpb:∀ i,i<M->sr.getD i ⟨none,0,0⟩=⟨some ⟨(pb i).1,0,none⟩,E+1,(pb i).2⟩/\E+1<=(pb i).2/\(pb i).2<=9223372036854775807/\RowP W G (pb i).1 (rowL E (rf i))/\vd.ownBlock ≠ some (pb i).1:=fun i=>Classical.choose_spec (hb' i)
 obtain ⟨s1,e1,a1,b1⟩:=own_arr' (f:=fun i=>.int .i64 ((D.basic i:Nat):Int)) o1 fun k hk=>by simp [lists,iv,hk,d1 k hk]
 obtain ⟨s2,e2,a2,b2⟩:=own_arr' (f:=fun j=>.int .i64 ((D.free j:Nat):Int)) o2 fun k hk=>by simp [lists,iv,hk,d2 k hk]
 obtain ⟨s3,e3,a3,b3⟩:=own_arr' (f:=fun i=>.slice (some ⟨(pb i).1,0,none⟩) (E+1) (pb i).2) o3 fun k hk=>by
  have hk':k<sr.length:=by omega
  have:=(hpb k hk).1;rw [gdd,gge hk',Option.getD_some] at this;simp [lists,List.getElem?_map,gge hk',this]
 obtain ⟨cb,cc,e4,c1,c2,_,ob,hC⟩:=zFq (l:=rowL E (D.c 0)) (G:=G) (qs:=qs) (by simpa [lists,pft,pfw,four] using o4) hE (by rw [zAm]) (by omega) (fun k hk=>by
  rw [zAL _ (by omega),d4 k (by omega)]; exact h.cst k (by omega)) (fun b e=>h.pt.gf 4 b (by omega) (by omega) e)
 have hblk:=h.pt.blk;have f1:va=s1.val:=e1;have f2:vb=s2.val:=e2;have f3:vc=s3.val:=e3;have f4:vd = .slice (some cb) (E+1) cc:=e4;have ob':vd.ownBlock=some cb:=ob;rw [f1,f2,f3,f4] at hblk
 refine ⟨⟨d,s1,s2,s3,fun i=>(pb i).1,fun i=>(pb i).2,cb,cc⟩,rfl,⟨hblk,a1,a2,a3,fun i hi=>?_,fun i hi=>⟨(hpb i hi).2.1,(hpb i hi).2.2.1⟩,hC,⟨c1,c2⟩,fun i j hi hj e=>?_,fun i hi e=>?_,fun g e e'=>?_,fun x hx=>(h.pt.gin x hx).2,h.pt.gd,
  fun g e=>h.pt.gf 1 g (by omega) (by omega) (b1 g e),fun g e=>h.pt.gf 2 g (by omega) (by omega) (b2 g e),fun g e=>h.pt.gf 3 g (by omega) (by omega) (b3 g e)⟩⟩
 ·have:=(hpb i hi).2.2.2.1;rw [<-zBs fun j hj=>d3 i j hi hj] at this; exact this
 ·refine h.rinj i j (by omega) (by omega) ?_;rw [(hpb i hi).1,(hpb j hj).1];show some (⟨(pb i).1,0,none⟩:Addr)=some ⟨(pb j).1,0,none⟩;have e':(pb i).1=(pb j).1:=e;rw [e']
 ·exact (hpb i hi).2.2.2.2 (by rw [ob']; exact congrArg some e.symm)
 ·exact h.pt.apart 1 2 g (by omega) (by omega) (by omega) (by omega) (by omega) (b1 g e) (b2 g e')
end Go.Proofs.YtbpngececjihlaaGreat
