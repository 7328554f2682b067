/- Texts MpD MpE of this claim. -/
import Derived.Test.YtjancagcmghfjaaGreatX15
set_option maxHeartbeats 4000000
set_option maxRecDepth 100000
namespace Go.Proofs.YtjancagcmghfjaaGreat
open Go.RowKit Go.Shelf
namespace Mo
attribute [local go_sem] Oper.semAt_some
structure IntsX (W:World) (X:Nat->Prop) (s:SV) (l:List Int):Prop where
 len:l.length=s.n
 le:s.n<=s.c
 cap:s.c<=9223372036854775807
 cell:∀ k,k<s.n->∃ ad,s.A=some ad/\X ad.block/\W.cell? (ad.add k)=some (.int .i64 (l.getD k 0))
theorem IntsX.carry {W W':World} {X:Nat->Prop} {s:SV} {l:List Int} (h:IntsX W X s l) (hk:Carry X W W'):IntsX W' X s l:=
 ⟨h.len,h.le,h.cap,fun i hi=>by
  obtain ⟨ad,e,hx,hc⟩:=h.cell i hi;exact ⟨ad,e,hx,hk.cell (p:=ad.add i) (by rw [zAj]; exact hx) hc⟩⟩
theorem intsX {W:World} {s:SV} {l:List Int} (h:IntsAt W s l) {X:Nat->Prop} (hX:∀ b,b<W.heap.size->X b):IntsX W X s l:=
 ⟨h.len,h.le,h.cap,fun i hi=>by
  obtain ⟨ad,e,hc⟩:=h.cell i hi;exact ⟨ad,e,hX _ (by have:=zAb hc; rwa [zAj] at this),hc⟩⟩
theorem zWJ (out:List Int):∀ {N k:Nat},k<=N->inS k out <+: inS N out
 | 0,k,h=>by
  obtain rfl:k=0:=by omega
  exact List.prefix_rfl
 | N+1,k,h=>by
  by_cases e:k=N+1
  ·subst e; exact List.prefix_rfl
  ·refine (zWJ out (show k<=N by omega)).trans ?_;rw [zV0]
   split
   ·exact List.prefix_rfl
   ·exact List.prefix_append _ _
theorem zYE (out:List Int) (k:Nat):(inS k out).length<=k:=by
 unfold inS;have:=List.length_filter_le (fun k:Nat=>!(out.contains (k:Int))) (List.range k)
 rwa [List.length_range] at this
theorem zYf {out:List Int} {k:Nat} (h:(k:Int) ∉ out):inS (k+1) out=inS k out++[k]:=by rw [zV0,if_neg h]
theorem zYe {out:List Int} {k:Nat} (h:(k:Int) ∈ out):inS (k+1) out=inS k out:=by rw [zV0,if_pos h]
theorem zYO {w:World} {n:Nat} (z:Int) (A B:Option Addr) (la ca lb cb:Nat) :
  CallsIn Fence.wide n Tryz.prog 87 #[.agg #[.int .i64 z,.slice A la ca],.slice B lb cb] w fun e w'=>e = .returned (.func (.func 140) #[] #[.pointer (some w),.pointer (some ⟨w+1,0,none⟩)])/\
   w'=(w.alloc (.cells #[.int .i64 z,.slice A la ca] 24)).alloc (.cells #[.slice B lb cb] 25):=by
 refine callsIn_of_wp Tryz.func87 rfl trivial ?_ rfl;simp only [Tryz.ntmps87,List.size_toArray,List.length_cons,List.length_nil,Nat.reduceAdd,Nat.reduceSub,Array.replicate_succ,Array.replicate_zero,List.push_toArray,List.append_toArray,List.nil_append,List.cons_append];gi_wp2;go_ret;exact ⟨by simp,by simp⟩
def SvIter (W:World) (X:Nat->Prop) (N:Nat) (out:List Int) (J:List Nat->World->Prop) (s i:Value) (wr:World):Prop:=
 ∃ k,k<=N/\i = .int .i64 (k:Int)/\s = .int .i64 (nx out k:Int)/\J (inS k out) wr/\Carry X W wr
theorem zYr {n l B1 B2 N c:Nat} {X:Nat->Prop} {z:Int} {A:Option Addr} {so:SV} {out:List Int} (hn:1<=n) (J Jx:List Nat->World->Prop) (W:World)
  (hY:∀ (pre:List Nat) (x:Nat) W1,J pre W1->pre.length<N->YieldAt Fence.wide (n-1) Tryz.prog l #[.int .i64 (x:Int)] W1 fun e W'=>
   (e = .returned (.bool true)/\J (pre++[x]) W'/\Carry X W1 W')\/(e = .returned (.bool false)/\Jx (pre++[x]) W'))
  (h1:W.heap[B1]?=some (.cells #[.int .i64 z,.slice A N c] 24 (0,0))) (hb1:X B1) (h2:W.heap[B2]?=some (.cells #[.slice so.A so.n so.c] 25 (0,0))) (hb2:X B2)
  (ho:IntsX W X so out) (hok:outOk N none out=true) (hN2:N<=1000000) (h0:J [] W) :
  CallsIn Fence.wide n Tryz.prog 140 #[.func (.yield l) #[] #[],.pointer (some B1),.pointer (some B2)] W fun e W'=>(∃ v,e = .returned v)/\
   ((∃ ys,ys=inS N out/\J ys W')\/(∃ pre,pre <+: inS N out/\Jx pre W')):=by
 obtain ⟨B,m,d⟩:=so;dsimp only at h2;obtain ⟨c0,c1⟩:W.cell? B1=some (.int .i64 z)/\W.cell? ⟨B1,1,none⟩=some (.slice A N c):=by simp [World.cell?,h1]
 have c2:W.cell? B2=some (.slice B m d):=by simp [World.cell?,h2]
 obtain ⟨hrg,hpw⟩:=zUZ hok;have Hz:=hdq (zYH fun x hx=>(hrg x hx).1);have Hin:Hid (∀ {k:Nat},(k:Int) ∈ out->nx out k<out.length/\out.getD (nx out k) 0=k/\nx out (k+1)=nx out k+1):=fun hk=>zY6 hpw hk
 have HL:Hid (out.length=m):=ho.len;have hle:m<=d:=ho.le;have hcap:d<=9223372036854775807:=ho.cap;have HO:=hdq ho;have HY:=hdq hY;clear hrg hpw hok ho hY c0;refine callsIn_of_wp Tryz.func140 rfl trivial ?_ rfl;simp only [Tryz.ntmps140,List.size_toArray,List.length_cons,List.length_nil,Nat.reduceAdd,Nat.reduceSub,Array.replicate_succ,Array.replicate_zero,List.push_toArray,List.append_toArray,List.nil_append,List.cons_append];gi_wp2;gi_loopw [4,9] (fun s i wr=>SvIter W X N out J s i wr) (fun _ i _=>N-(intOf i).toNat)
 case atStart=>exact ⟨0,nzl _,rfl,by rw [Hz.out]; rfl,h0,Carry.refl _ _⟩
 case round=>
  obtain ⟨k,hk,rfl,rfl,hJs,hcar⟩:=hrel;have d1:wr.cell? ⟨B1,1,none⟩=some (.slice A N c):=hcar.cell (p:=⟨B1,1,none⟩) hb1 c1;have d2:wr.cell? B2=some (.slice B m d):=hcar.cell (p:=B2) hb2 c2;clear c1 c2;by_cases hlt:k<N
  ·have hkbi:(k:Int)<(N:Int):=(by omega);have ho2:=HO.out.carry hcar;by_cases hm:(k:Int) ∈ out
   ·obtain ⟨g1,g2,g3⟩:=Hin.out hm;have hnm:nx out k<m:=by have:=HL.out; omega
    obtain ⟨ad,e,-,q0⟩:=ho2.cell _ hnm;dsimp only at e;subst e;rw [g2] at q0;have Hfin:Hid (SvIter W X N out J (.int .i64 ((nx out k:Int)+1)) (.int .i64 ((k:Int)+1)) wr):=⟨k+1,by omega,by simp,by rw [g3]; simp,by rw [zYe hm]; exact hJs,hcar⟩;have hni:(nx out k:Int)<(m:Int):=(by omega);have tq:(ad.add (nx out k)).block<wr:=zAb q0;have hn0:nx out k<=1000000+m:=(by omega);clear g1 g2 g3 ho2 hJs hcar;generalize nx out k=j at *;gi_wp2;exact ⟨Hfin.out,by simp [intOf]; omega⟩
   ·have Hnx:=hdq (zY0 hm);have Hrr:=hdq (zYf hm);obtain ⟨fn,tmps,assign,body,hy,hR⟩:=HY.out _ k wr hJs (Nat.lt_of_le_of_lt (zYE out k) hlt);by_cases hnl:nx out k<m
    ·have hne:=zY1 hm (show nx out k<out.length by rw [HL.out]; exact hnl);obtain ⟨ad,e,-,q0⟩:=ho2.cell _ hnl;dsimp only at e;subst e;have hni:(nx out k:Int)<(m:Int):=(by omega);have tq:(ad.add (nx out k)).block<wr:=zAb q0;have hneb:(out.getD (nx out k) 0 == (k:Int))=false:=beq_false_of_ne hne;clear ho2 hJs hm;generalize out.getD (nx out k) 0=y at *;obtain ⟨j,hj⟩:∃ j,j=nx out k:=⟨_,rfl⟩;rw [<-hj] at hni q0 tq hnl;rw [<-hj];have Hj:=hdq hj;clear hj;gi_wp2;refine hR.mono ?_;rintro e W3 (⟨rfl,hJ3,hk3⟩ | ⟨rfl,hJx3⟩)
     ·have Hfin:Hid (SvIter W X N out J (.int .i64 (j:Int)) (.int .i64 ((k:Int)+1)) W3):=⟨k+1,by omega,by simp,by rw [Hnx.out,Hj.out],by rw [Hrr.out]; exact hJ3,hcar.trans hk3⟩;clear hJ3 hk3 hcar;gi_wp2;exact ⟨Hfin.out,by simp [intOf]; omega⟩
     ·gi_wp2;refine bodyPost_ret (results_none rfl _ _ _) rfl ?_;exact ⟨⟨_,rfl⟩,.inr ⟨_,by rw [<-Hrr.out]; exact zWJ out (by omega),hJx3⟩⟩
    ·have hni:¬ (nx out k:Int)<(m:Int):=(by omega);clear ho2 hJs hm;obtain ⟨j,hj⟩:∃ j,j=nx out k:=⟨_,rfl⟩;rw [<-hj] at hni hnl;rw [<-hj];have Hj:=hdq hj;clear hj;gi_wp2;refine hR.mono ?_;rintro e W3 (⟨rfl,hJ3,hk3⟩ | ⟨rfl,hJx3⟩)
     ·have Hfin:Hid (SvIter W X N out J (.int .i64 (j:Int)) (.int .i64 ((k:Int)+1)) W3):=⟨k+1,by omega,by simp,by rw [Hnx.out,Hj.out],by rw [Hrr.out]; exact hJ3,hcar.trans hk3⟩;clear hJ3 hk3 hcar;gi_wp2;exact ⟨Hfin.out,by simp [intOf]; omega⟩
     ·gi_wp2;refine bodyPost_ret (results_none rfl _ _ _) rfl ?_;exact ⟨⟨_,rfl⟩,.inr ⟨_,by rw [<-Hrr.out]; exact zWJ out (by omega),hJx3⟩⟩
  ·(obtain rfl:k=N:=by omega);gi_wp2;go_end0;exact ⟨⟨_,rfl⟩,.inl ⟨_,rfl,hJs⟩⟩
theorem zXt {n B1 B2 N c:Nat} {X:Nat->Prop} {z:Int} {A:Option Addr} {so:SV} {out:List Int} {w1:World} (hn:1<=n)
  (h1:w1.heap[B1]?=some (.cells #[.int .i64 z,.slice A N c] 24 (0,0))) (hb1:X B1) (h2:w1.heap[B2]?=some (.cells #[.slice so.A so.n so.c] 25 (0,0))) (hb2:X B2)
  (ho:IntsX w1 X so out) (hok:outOk N none out=true) (hN2:N<=1000000) :
  SeqStopsK Fence.wide n Tryz.prog 140 #[.pointer (some B1),.pointer (some B2)] (fun x:Nat=>#[.int .i64 (x:Int)]) (Carry X) (fun ys=>ys=inS N out) (fun pre=>pre <+: inS N out) N w1:=fun _ J Jx W hW _ _ hY h0=>
 zYr hn J Jx W hY ((hW.block B1 (zAa h1)).trans h1) hb1 ((hW.block B2 (zAa h2)).trans h2) hb2 (ho.carry (Carry.of_below hW)) hok hN2 h0
def iv (l:List Nat):List Value:=l.map fun i:Nat=>.int .i64 (i:Int)
def NatsAt (w:World) (s:SV) (l:List Nat):Prop:=IntsAt w s (l.map fun i:Nat=>(i:Int))
def InInv (B c:Nat) (pre:List Nat) (W:World):Prop:=∃ v,Boxed W c 25 v/\W.ownsRow B 3 1 v pre.length (iv pre)
theorem InInv.own {B c:Nat}:Own (InInv B c):=by
 rintro pre W W' row ⟨v,z1,hown⟩ hg hr;exact ⟨v,zAi hg hr z1,zEp hg hr hown⟩
theorem zWU {W w1:World} {n₀ c:Nat} {t e:TypeId} {size:Nat} {v v':Value} {k m:Nat} {xs ys:List Value} {tmp:Obj} (hv:Boxed W c t v) (hrow:W.ownsRow n₀ e size v k xs) (hc:c<n₀) (hn:n₀<=W.heap.size) (hown':w1.ownsRow n₀ e size v' m ys) (hgrow:(W.alloc tmp).grownBy w1 v.ownBlock) :
  Boxed w1 c t v/\Boxed (w1.setCell c v') c t v'/\(w1.setCell c v').ownsRow n₀ e size v' m ys/\KeepsOthers W (w1.setCell c v')/\(∀ b,b<n₀->b ≠ c->(w1.setCell c v').heap[b]?=W.heap[b]?)/\∀ B,B<=c->Below B W (w1.setCell c v'):=by
 have hv1:Boxed w1 c t v:=(hv.alloc tmp).kept hgrow fun e=>by have:=(zAc hrow e.symm).1; omega
 have hnr:some c ≠ v'.ownBlock:=fun e=>by have:=(zAc hown' e.symm).1; omega
 refine ⟨hv1,hv1.set v',hown'.kept (grownBy_setCell' w1 c v') (.inr hnr.symm),?_,fun b hb hbc=>?_,fun B hB=>?_⟩
 ·refine ((KeepsOthers.alloc W tmp).trans (KeepsOthers.of_grownBy hgrow fun j o ej hj=>?_)).trans (KeepsOthers.setCell _ _ _);obtain ⟨_,cs,hh⟩:=zAc (hrow.alloc tmp) ej;rw [hh] at hj; cases hj; rfl
 ·refine (bhs _ _ _ _ hbc).trans ((hgrow.block b (by simp; omega) fun e=>?_).trans (Below.heap_alloc _ _ _ (by omega)));have:=(zAc hrow e.symm).1;omega
 ·exact (((brf B W).alloc (by omega) tmp).grown hgrow (by simp; omega) fun j ej=>by have:=(zAc hrow ej).1; omega).setCell (p:=c) hB v'
theorem zWK (l:List Nat) (k:Nat):iv (l++[k])=iv l++[.int .i64 (k:Int)]:=by simp [iv]
theorem zVc {W:World} {B n:Nat} {v:Value} {l:List Nat} (h:W.ownsRow B 3 1 v n (iv l)) (hl:l.length=n) (hs:∀ x ∈ l,x<=1000000):∃ t:SV,v=t.val/\t.n=n/\NatsAt W t l/\∀ ad,t.A=some ad->B<=ad.block:=by
 rcases h.2 with ⟨e,e2⟩ | ⟨g,cap,cur,e,h1,h2,h3,h4,h5,h6⟩
 ·subst e2;obtain rfl:l=[]:=List.eq_nil_of_length_eq_zero hl;exact ⟨⟨none,0,0⟩,e,rfl,⟨rfl,nlr _,nzl _,fun x hx=>(by cases hx),fun k hk=>absurd hk (Nat.not_lt_zero k)⟩,fun ad e=>(by cases e)⟩
 ·refine ⟨⟨some ⟨g,0,none⟩,n,cap⟩,e,rfl,⟨by rw [List.length_map]; exact hl,h3,by simpa [maxLen] using h4,fun x hx=>?_,fun k hk=>⟨_,rfl,?_⟩⟩,fun ad e=>by cases e; exact h1⟩
  ·obtain ⟨y,hy,rfl⟩:=List.mem_map.1 hx;have:=hs y hy;omega
  ·have hk':k<l.length:=by rw [hl]; exact hk
   subst e;have:=h.cells (g:=g) rfl k (.int .i64 (l.getD k 0:Int)) (by simp [iv,hk']);rw [this];simp [hk']
theorem zV1 {w:World} {n:Int} {s so:SV} {ls:List Ln} {out:List Int} (h:LinesAt w s ls) (ho:IntsAt w so out) (h0:outErr n ls out=0) :
  Calls Tryz.prog 42 #[.agg #[.int .i64 n,.slice s.A s.n s.c],.slice so.A so.n so.c] w fun e w'=>(∃ t:SV,e = .returned (.tuple #[t.val,.int .i64 0])/\NatsAt w' t (inS ls.length out))/\Below w w w':=by
 have HO1:=hdq (fun W (hb:Below w w W)=>zVP (n:=n) (LinesAt.below hb h) (ho.below hb));rw [h0] at HO1
 have hN:s.n<=10:=by
  have:=zUJ.1 h0;have:=this.1;unfold netErr at this;have hl:=h.len
  split at this
  ·omega
  ·split at this <;> omega
 have HOk:=hdq (zUJ.1 h0).2;rw [h.len] at HOk ⊢;have HO:=hdq ho;clear h ho h0;refine (callsIn_wide (n:=6)).1 ?_;refine callsIn_of_wp_marks Tryz.func42 rfl trivial ?_ rfl;simp only [Tryz.ntmps42,List.size_toArray,List.length_cons,List.length_nil,Nat.reduceAdd,Nat.reduceSub,Array.replicate_succ,Array.replicate_zero,List.push_toArray,List.append_toArray,List.nil_append,List.cons_append];gi_wp2;have b0:Below w w (w.alloc (.cells #[.int .i64 n,.slice s.A s.n s.c] 24)):=bal;have e0:(w.alloc (.cells #[.int .i64 n,.slice s.A s.n s.c] 24)).heap[w.heap.size]?=some (.cells #[.int .i64 n,.slice s.A s.n s.c] 24 (0,0)):=zAd _ _ rfl;refine ⟨trivial,?_⟩;refine (callsIn_wide.2 (HO1.out _ b0)).mono ?_;rintro e w1 ⟨rfl,hb1⟩;have hB1:=b0.trans (hb1.mono b0.size);have hb0l:=zAa e0;have e1:=(hb1.block _ hb0l).trans e0;have hs1:w.heap.size<w1.heap.size:=zAa e1;have c0:w1.cell? w=some (.int .i64 n):=by simp [World.cell?,e1]
 have c1:w1.cell? ⟨w.heap.size,1,none⟩=some (.slice s.A s.n s.c):=by simp [World.cell?,e1]
 clear b0 e0 hb1 hb0l;gi_wp2;refine ⟨trivial,?_⟩;refine (zYO n s.A so.A s.n s.c so.n so.c).mono ?_;rintro e w2 ⟨rfl,rfl⟩;gi_wp2;obtain ⟨c,hc⟩:∃ c,c=w1.heap.size:=⟨_,rfl⟩;obtain ⟨W0,hW0⟩:∃ W0,((w1.alloc (.cells #[.slice none 0 0] 25)).alloc (.cells #[.int .i64 n,.slice s.A s.n s.c] 24)).alloc (.cells #[.slice so.A so.n so.c] 25)=W0:=⟨_,rfl⟩;rw [hW0];have z0:Boxed W0 c 25 (.slice none 0 0):=by rw [<-hW0,hc]; exact ((Boxed.new w1 _ _).alloc _).alloc _
 have z1:W0.heap[c+1]?=some (.cells #[.int .i64 n,.slice s.A s.n s.c] 24 (0,0)):=by rw [<-hW0,hc,Below.heap_alloc _ _ _ (by simp)]; exact zAd _ _ (by simp)
 have z2:W0.heap[c+1+1]?=some (.cells #[.slice so.A so.n so.c] 25 (0,0)):=by rw [<-hW0,hc]; exact zAd _ _ (by simp)
 have hb0:Below w1 w1 W0:=by rw [<-hW0]; exact ((bal).alloc (by simp) _).alloc (by simp; omega) _
 have hs0:W0.heap.size=c+3:=by rw [<-hW0,hc]; simp
 have hB0:=hB1.trans (hb0.mono hB1.size);have HX:=hdq (intsX (HO.out.below hB0) (X:=fun y=>y<c+3) fun b hb=>by omega)
 have HOX:Hid (IntsX W0 (fun y=>y<w.heap.size\/y=c+1\/y=c+1+1) so out):=by
  have h1:=intsX HO.out (X:=fun y=>y<w.heap.size) fun b hb=>hb
  obtain ⟨g1,g2,g3,g4⟩:=h1.carry (Carry.of_below hB0)
  exact ⟨g1,g2,g3,fun k hk=>by
   obtain ⟨ad,e,hx,hcc⟩:=g4 k hk;exact ⟨ad,e,.inl hx,hcc⟩⟩
 have hwc:w.heap.size<c:=by omega
 clear hW0 HX;rw [<-hc];clear hb0 hB1 e1 hs1 c0 c1 hc
 refine wpIn_rangeFunc_ownG (F:=Fence.wide) rfl (by omega) (gf:=140) (lb:=#[.pointer (some ⟨c+1,0,none⟩),.pointer (some ⟨c+1+1,0,none⟩)]) rfl trivial (enters_of Tryz.func140 (by kernel_rfl) rfl)
  (zXt (by omega) z1 (.inr (.inl rfl)) z2 (.inr (.inr rfl)) HOX.out HOk.out (by omega))
  (fun h k=>h.trans k) (fun W l o o' _ hl ho _=>Carry.putObj o' hl ho) (brf _ _) (fun _=>rfl)
  (fun pre W=>(InInv (c+3) c pre W/\c+3<=W.heap.size)/\Below w w W)
  (fun _ _ _=>False)
  (OwnFrom.and (OwnFrom.and (Own.from InInv.own _) fun _ _ _ _ h hg _=>nlt h hg.size) (ownFrom_below (nlr _) (by omega)))
  (fun _ _ _ _ _ hs _ _=>hs)
  ⟨⟨⟨_,z0,World.ownsRow_nil _ _ _ _⟩,by omega⟩,hB0⟩
  (fun x=>{tmps:=#[.agg #[.int .i64 n,.slice s.A s.n s.c],.slice so.A so.n so.c,.pointer (some w),undef,.slice none 0 0,.int .i64 0,.int .i64 0,.pointer (some c),.int .i64 (x:Int),.agg #[.int .i64 n,.slice s.A s.n s.c],.slice so.A so.n so.c,.int .i64 0,.int .i64 0,.bool false,undef,.agg #[.int .i64 n,.slice s.A s.n s.c],.slice so.A so.n so.c,.func (.func 140) #[] #[.pointer (some ⟨c+1,0,none⟩),.pointer (some ⟨c+1+1,0,none⟩)],.int .i64 (x:Int),undef,undef,undef,undef,undef],defers:=[]}) ?assign ?body ?done ?stop
 case assign=>
  intro l x W K hK;gi_wp2;exact hK
 case stop=>
  rintro D c pre W _ _ h _;exact h.elim
 case body=>
  rintro l pre x W ⟨⟨⟨v,y0,hown⟩,hn3⟩,hB⟩ hlt;obtain ⟨i0,hiI,hz0,hz1,hz2⟩:=info_parts zUP;have c1:=y0.cell;have Hs:=hdq hs0;have hyl:=y0.lt;clear hs0 z0 z1 z2;gi_wp2_with (gi_at_builtin; refine wpListIn_append_own _ rfl _ _ 25 rfl (c+3) 3 i0 (.int .i64 0) 1 8 Tryz.underlying25 hiI hz0 hz1 hz2 rfl (by decide) v pre.length (iv pre) rfl (hown.alloc _) ⟨W,0,none⟩ 1 1 [.int .i64 (x:Int)] rfl rfl ?cells ?one ?b1 ?b2 ?b3 ?_)
  case cells=>exact cell_one_new _ _ _
  case one=>first | rfl | (intro u hu; simp at hu; subst hu; rfl)
  case b1=>simp [maxLen]; omega
  case b2=>omega
  case b3=>simp; omega
  intro v' W9 hown9 hg9 hnil9;obtain ⟨p1,p2,p3,p4,p5,p6⟩:=zWU y0 hown (by omega) hn3 hown9 hg9;obtain ⟨g9,c9,rfl⟩:=ownsRow_succ hown9;have d1:=p1.cell;have d2:=p1.frozen;rw [<-zWK] at p3;have Hfin:Hid _:=hdq (And.intro (And.intro p2 p3) (And.intro p4 (And.intro p5 p6)));clear p1 p2 p3 p4 p5 p6 hown9 hg9 hnil9 hown y0 c1;gi_wp2;obtain ⟨⟨q2,q3⟩,q4,q5,q6⟩:=Hfin.out;exact ⟨q4.from _,⟨q4.size,fun b cs t f hx hb=>(q5 b (by omega) (by omega)).trans hb⟩,⟨⟨_,q2,by simpa using q3⟩,nlt hn3 q4.size⟩,hB.trans (q6 w (by omega))⟩
 case done=>
  rintro Dd ys W hDd rfl ⟨⟨⟨v,y0,hown⟩,hn3⟩,hB⟩ hK0
  obtain ⟨⟨tA,tn,tc⟩,rfl,ht,hnt,-⟩:=zVc hown rfl fun x hx=>by
   have:=(List.mem_filter.1 hx).1;have:=List.mem_range.1 this;omega
  dsimp only at ht;subst ht;have c1:=y0.cell;have Hs:=hdq hs0;dsimp only [SV.val] at c1;clear hs0 z0 z1 z2;gi_wp2;refine ⟨by simp,.inl ⟨_,_,rfl,run_takeDeferred hK0,?_⟩⟩;have hcr:Carry (fun _=>True) W (W.putObj Dd (.deferred none)):=Carry.grown (grownBy_putObj' W Dd (.deferred none)) (fun r e=>by cases e; exact ⟨_,hK0,rfl⟩);obtain ⟨g1,g2,g3,g4,g5⟩:=hnt
  exact ⟨_,results_tmp2 rfl _ _ _,⟨⟨tA,_,tc⟩,rfl,g1,g2,g3,g4,fun k hk=>by
   obtain ⟨ad,e,hcc⟩:=g5 k hk;exact ⟨ad,e,hcr.cell trivial hcc⟩⟩,hB.trans (belowK_b (w:=w) (nlr _) W Dd _ _ (by have:=Hs.out; omega) hK0 rfl rfl)⟩
end Mo
namespace Mo
theorem zBG (l:List Nat) (v i:Nat):(l++[v]).getD i 0=if i=l.length then v else l.getD i 0:=by
 by_cases h:i<l.length
 ·rw [if_neg (by omega),Gj.getD_append_left _ _ _ h]
 ·by_cases e:i=l.length
  ·rw [if_pos e,e];have:=Gj.getD_append_right l [v] 0 (i:=0);simp
  ·rw [if_neg e];simp only [gdd];rw [List.getElem?_eq_none (by simp; omega),List.getElem?_eq_none (by omega)]
theorem zKU {W:World} {base:Nat} {e:TypeId} {size:Nat} {v:Value} {n:Nat} {xs:List Value} (h:W.ownsRow base e size v n xs):∃ A c,v = .slice A n c/\n<=c/\c<=9223372036854775807:=by
 rcases h.2 with ⟨rfl,rfl⟩ | ⟨g,cap,cur,rfl,hg,hh,hn,hc,_⟩
 ·exact ⟨none,0,rfl,nlr _,by omega⟩
 ·exact ⟨_,cap,rfl,hn,nlt hc (by decide)⟩
def OfA (w0:World) (pb p N:Nat) (t:Value) (W:World):Prop:=∃ k:Nat,k<=N/\t = .int .i64 (k:Int)/\Below w0 w0 W/\W.cell? pb=some (.slice (some p) N N)/\NatRow W p N fun i=>if i<k then i else 0
def OfB (w0:World) (pb p N m:Nat) (ls:List Ln) (ks:List Nat) (t:Value) (W:World):Prop:=∃ k:Nat,k<=m/\t = .int .i64 (k:Int)/\Below w0 w0 W/\W.cell? pb=some (.slice (some p) N N)/\NatRow W p N (joins N ls (ks.take k))
def OfC (w0:World) (pb p q N:Nat) (par:Nat->Nat) (c t:Value) (W:World):Prop:=∃ k:Nat,k<=N/\t = .int .i64 (k:Int)/\c = .int .i64 ((numb N par k).2:Int)/\Below w0 w0 W/\W.cell? pb=some (.slice (some p) N N)/\NatRow W p N par/\NatRow W q N fun i=>(numb N par k).1.getD i 0
theorem zVq {n:Int} {ls:List Ln} {out:List Int} (h:outErr n ls out=0):1<=n/\n<=6/\ls.length<=10/\(∀ l ∈ ls,LnOk n l)/\outOk ls.length none out=true:=by
 obtain ⟨h1,h2⟩:=zUJ.1 h;unfold netErr at h1
 split at h1
 ·omega
 split at h1
 ·omega
 split at h1
 ·exact ⟨by omega,by omega,by omega,by assumption,h2⟩
 ·omega
theorem zCA {w:World} {n:Int} {s so:SV} {ls:List Ln} {out:List Int} (h:LinesAt w s ls) (ho:IntsAt w so out) (h0:outErr n ls out=0) :
  Calls Tryz.prog 40 #[.agg #[.int .i64 n,.slice s.A s.n s.c],.slice so.A so.n so.c] w fun e w'=>
   (∃ b,e = .returned (.tuple #[.slice (some ⟨b,0,none⟩) n.toNat n.toNat,.int .i64 0])/\w.heap.size<=b/\NatRow w' b n.toNat fun i=>(numb n.toNat (joins n.toNat ls (inS ls.length out)) n.toNat).1.getD i 0)/\Below w w w':=by
 obtain ⟨sA,sn,sc⟩:=s;obtain ⟨o1,o2,o3,o4,o5⟩:=zVq h0;obtain ⟨N,hN⟩:∃ N:Nat,n=(N:Int):=⟨n.toNat,by omega⟩;subst hN;have HLn:Hid (∀ i,i<ls.length->LnOk (N:Int) (ls.getD i ⟨0,0,0,0⟩)):=hdq (zVT.1 o4);have HI:=hdq (fun W (hb:Below w w W)=>zV1 (LinesAt.below hb h) (ho.below hb) h0);have HS:=hdq h;have HL:Hid (ls.length=sn):=h.len;have hle2:sn<=sc:=h.le;have hcap2:sc<=9223372036854775807:=h.cap
 have HM:Hid (∀ x ∈ inS ls.length out,x<sn):=hdq fun x hx=>by
  have:=List.mem_range.1 (List.mem_filter.1 hx).1;have hl:ls.length=sn:=h.len;omega
 have hmk:=zVR N (by omega);rw [show ((N:Int)).toNat=N by omega];have hN6:N<=6:=by omega
 have hs10:sn<=10:=by have:ls.length=sn:=h.len; omega
 obtain ⟨ks,hks⟩:∃ ks,ks=inS ls.length out:=⟨_,rfl⟩;rw [<-hks] at HI HM ⊢;have HKs:=hdq hks;clear h ho h0 o1 o2 o3 o4 o5 hks;dsimp only at HI ⊢;go_enter Tryz.func40,Tryz.ntmps40
 go_upto_region 1 with fail
 refine zAo (fun W=>Below w w W/\Box2 W w (.int .i64 (N:Int)) (.slice sA sn sc)/\w.heap.size<W.heap.size) ⟨(az (brf _ _)),bx2,by simp <;> omega⟩ ?_;rintro W ⟨hbW,bN,s0⟩;have hBW:=hbW.size;obtain ⟨c0,c1,-⟩:=id bN;go_wp2_with fail
 refine (HI.out W hbW).mono ?_; rintro e w1 ⟨⟨t,rfl,ht⟩,hb1⟩
 have HB1:=hdq (hbW.trans (hb1.mono hBW));have bN1:=bN.below hb1 s0;have s1:w.heap.size<w1.heap.size:=ltl s0 hb1.size;have hlt:t.n=ks.length:=by have:=ht.len; rw [List.length_map] at this; exact this.symm
 have htle:t.n<=t.c:=ht.le;have htc:t.c<=9223372036854775807:=ht.cap;have HT:=hdq ht;obtain ⟨tA,tn,tc⟩:=t;dsimp only at hlt htle htc;have HTn:=hdq hlt;obtain ⟨c0,c1,-⟩:=id bN1;clear hlt;clear hb1 hbW hBW bN s0 ht HI;dsimp only [SV.val];go_upto_region 5 with fail
 have al:Below w1 w1 ((w1.alloc (.cells (rowN N fun _=>0) 3)).alloc (.cells #[.slice (some w1) N N] 25)):=(bal).alloc (by simp) _;refine zAo (fun W'=>Below w1 w1 W'/\W'.cell? ⟨w1+1,0,none⟩=some (.slice (some w1) N N)/\NatRow W' w1 N fun _=>0) ⟨al,by go_simp,(NatRow.made w1 N).below (bal)⟩ ?_;clear al;rintro W2 ⟨hb2,hpc,hpr⟩;obtain ⟨p,hp⟩:∃ p,p=w1.heap.size:=⟨_,rfl⟩;have hp1:w1.heap.size<=p:=by omega
 rw [<-hp] at hpc hpr ⊢;have HP:=hdq hp;have H1:OfA w1 (p+1) p N (.int .i64 0) W2:=⟨0,nzl _,rfl,hb2,hpc,hpr.congr fun i _=>by rw [if_neg (by omega)]⟩;clear hb2 hpr hmk hp bN1;go_wp2;clear hpc;go_loopw [33] (fun t W=>OfA w1 (p+1) p N t W) (fun t _=>N-(intOf t).toNat)
 case atStart=>exact H1
 case round=>
  clear H1;obtain ⟨k,hk,rfl,hB,hpc,hpr⟩:=hrel;have hpl:=hpr.lt;have hpf:=hpr.frozen;by_cases hlt:k<N
  ·have q0:=hpr.cell hlt;have hki:(k:Int)<(N:Int):=by omega
   have HN:Hid (OfA w1 (p+1) p N (.int .i64 ((k:Int)+1)) (wr.setCell ⟨p,k,none⟩ (.int .i64 (k:Int)))):=⟨k+1,by omega,by simp,hB.setCell (p:=⟨p,k,none⟩) hp1 _,by rw [World.cell?_setCell_far _ _ _ _ (by show p ≠ p+1; omega)]; exact hpc,(hpr.set hlt k).congr fun i hi=>by
    unfold upd;by_cases e:i=k
    ·rw [if_pos e,if_pos (by omega)]; exact e.symm
    ·rw [if_neg e];show (if i<k then i else 0)=_;by_cases e2:i<k
     ·rw [if_pos e2,if_pos (by omega)]
     ·rw [if_neg e2,if_neg (by omega)]⟩
   clear hpr hB;go_wp2;go_roundw;case rel=>exact HN.out
   case measure=>simp [intOf]; omega
  ·(obtain rfl:N=k:=by omega);have H2:OfB w1 (p+1) p N tn ls ks (.int .i64 0) wr:=⟨0,nzl _,rfl,hB,hpc,hpr.congr fun i hi=>if_pos hi⟩;clear hpr hB hpf hpl;go_wp2;clear hpc;(go_loopw [44] (fun t W=>OfB w1 (p+1) p N tn ls ks t W) (fun t _=>tn-(intOf t).toNat));case atStart=>exact H2
   case round=>
    clear H2;obtain ⟨j,hj,rfl,hB,hpc,hpr⟩:=hrel;have hpl:=hpr.lt;have hpf:=hpr.frozen;have hd0:=(hB.cell (p:=w) s1).trans c0;have hd1:=(hB.cell (p:=⟨w.heap.size,1,none⟩) s1).trans c1;have hwl:w.heap.size<wr.heap.size:=ltl s1 hB.size;by_cases hlj:j<tn
    ·obtain ⟨ad,e,q0⟩:=(HT.out.below hB).cell j hlj;dsimp only at e;subst e;have hjl:j<ks.length:=by rw [<-HTn.out]; exact hlj
     have hmem:ks.getD j 0 ∈ ks:=by rw [gdd,gge hjl]; exact List.getElem_mem hjl
     have hx:=HM.out _ hmem;have hg:(ks.map fun i:Nat=>(i:Int)).getD j 0=(ks.getD j 0:Int):=(by simp [hjl]);rw [hg] at q0;have HJ:Hid (joins N ls (ks.take (j+1))=join N (joins N ls (ks.take j)) (ls.getD (ks.getD j 0) d0)):=by show _=_; rw [zUx 0 hjl,zVO]
     have HBW:=hdq (HB1.out.trans (hB.mono HB1.out.size));obtain ⟨la,e,l0,l1,l2,l3⟩:=(LinesAt.below HBW.out HS.out).cell (ks.getD j 0) hx
     have tla:la.block<w:=by
      obtain ⟨la',e',g0,-⟩:=HS.out.cell (ks.getD j 0) hx;dsimp only at e e';rw [e] at e';cases e';have:=zAb g0
      rwa [zAj] at this
     dsimp only at e;subst e;have hok:=HLn.out (ks.getD j 0) (by rw [HL.out]; exact hx);have hdn:=zVa N ls (ks.take j);have hd9:d0=⟨0,0,0,0⟩:=rfl;rw [hd9] at HJ;clear hmem hg hd9;generalize joins N ls (ks.take j)=par at *;generalize ks.getD j 0=x at *;generalize ls.getD x ⟨0,0,0,0⟩=l at *;obtain ⟨f,t,xx,cc⟩:=l;obtain ⟨k1,k2,k3,k4,-⟩:=hok;dsimp only at k1 k2 k3 k4 l0 l1;obtain ⟨f,rfl⟩:∃ f':Nat,f=(f':Int):=⟨f.toNat,by omega⟩;obtain ⟨t,rfl⟩:∃ t':Nat,t=(t':Int):=⟨t.toNat,by omega⟩;unfold join at HJ;rw [show ((f:Int)).toNat=f by omega,show ((t:Int)).toNat=t by omega] at HJ;have tl:=zAb l0;have tq:=zAb q0;have hji:(j:Int)<(tn:Int):=(by omega);have hxi:(x:Int)<(sn:Int):=(by omega);have HD:=hdq hdn;clear hdn l2 l3;(go_upto_region 14 with fail);have hS0:Sees w [] wr wr.drew:=Sees.st (by simp) (Nat.le_of_lt hwl);have hpc1:=zAb hpc;dsimp only at hpc1;refine zAp 1000 (fun _ w'=>Sees w [] wr w') (by kernel_rfl) ?_;refine tx4 0 1 2 3 hS0 ?_;refine tx4 4 5 6 8 hS0 ?_;refine tx4 9 10 11 12 hS0 ?_;refine tx1 13 hS0 ?_;refine tx1 14 hS0 ?_;refine tk1 7 ?_;intro K hK;go_simp;refine (zUW (b:=f) (show wr.drew.cell? ⟨p+1,0,none⟩=_ from hpc) hpr HD.out (by omega) (by omega)).mono ?_;rintro e1 w2 ⟨rfl,rfl⟩;dsimp only;refine hK.out _ _ hS0 ?_;clear hK K;refine tk1 15 ?_;intro K hK;go_simp;refine (zUW (b:=t) (show wr.drew.cell? ⟨p+1,0,none⟩=_ from hpc) hpr HD.out (by omega) (by omega)).mono ?_;rintro e1 w2 ⟨rfl,rfl⟩;dsimp only;refine hK.out _ _ hS0 ?_;clear hK K;refine tx1 16 hS0 ?_;refine tx1 17 hS0 ?_;refine zAf (by kernel_rfl) ?_ _;have hf1:=zVy HD.out N f;have ht1:=zVy HD.out N t;generalize upN par N f=a at *;generalize upN par N t=b at *;obtain ⟨M,hM⟩:∃ M,M=max a b:=⟨_,rfl⟩;obtain ⟨m,hm⟩:∃ m,m=min a b:=⟨_,rfl⟩;rw [<-hM,<-hm] at HJ;have hMi:max (a:Int) (b:Int)=(M:Int):=(by omega);have hmi:min (a:Int) (b:Int)=(m:Int):=(by omega);have hMN:M<N:=(by omega);have hMNi:(M:Int)<(N:Int):=(by omega);have hpr2:NatRow wr.drew p N par:=hpr;have q5:=hpr2.cell hMN;have hNx:Hid (OfB w1 (p+1) p N tn ls ks (.int .i64 ((j:Int)+1)) (wr.drew.setCell ⟨p,M,none⟩ (.int .i64 (m:Int)))):=⟨j+1,by omega,by simp,hB.drew.setCell (p:=⟨p,M,none⟩) hp1 _,by rw [World.cell?_setCell_far _ _ _ _ (by show p ≠ p+1; omega)]; exact hpc,by rw [HJ.out]; exact hpr2.set hMN m⟩;clear hM hm hS0 hpr hpr2 HJ q0 l0 l1 hB HBW HD;go_wp2;go_roundw;case rel=>first | exact hNx.out | ((repeat apply Exists.intro); exact ⟨hNx.out,rfl⟩)
     case measure=>simp [intOf]; omega
    ·(obtain rfl:tn=j:=by omega);have ejs:joins N ls (ks.take tn)=joins N ls ks:=(by rw [HTn.out,List.take_length]);rw [ejs] at hpr;have HD:=hdq (zVa N ls ks);have HBW:=hdq (HB1.out.trans (hB.mono HB1.out.size));generalize hpar:joins N ls ks=par at *;have HPar:=hdq hpar;clear hpar;have hmk:=zVR N (by omega);clear ejs hd1 hpf;(go_upto_region 19 with fail);have al:Below wr wr (wr.alloc (.cells (rowN N fun _=>0) 3)):=bal;have H3:OfC wr (p+1) p wr N par (.int .i64 0) (.int .i64 0) (wr.alloc (.cells (rowN N fun _=>0) 3)):=⟨0,nzl _,rfl,rfl,al,(al.cell (p:=⟨p+1,0,none⟩) (zAb hpc)).trans hpc,hpr.below al,(NatRow.made wr N).congr fun i _=>rfl⟩;have hpq:p<wr.heap.size:=hpl;have hpb:=zAb hpc;dsimp only at hpb;have hwq:w.heap.size<=wr.heap.size:=Nat.le_of_lt hwl;clear al hmk hpr hB;generalize wr.alloc (.cells (rowN N fun _=>0) 3)=W3 at *;generalize hw3:wr=w3 at *;go_wp2;clear hpc;(go_loopw [16,78] (fun c t W=>OfC w3 (p+1) p w3 N par c t W) (fun _ t _=>N-(intOf t).toNat));case atStart=>exact H3
     case round=>
      clear H3;obtain ⟨k,hk,rfl,rfl,hB,hpc,hpr,hqr⟩:=hrel;have hql:=hqr.lt;have hqf:=hqr.frozen;by_cases hlk:k<N
      ·have hki:(k:Int)<(N:Int):=(by omega);(go_upto_region 22 with fail);have hnb:numb N par (k+1)=if upN par N k=k then ((numb N par k).1++[(numb N par k).2],(numb N par k).2+1) else ((numb N par k).1++[(numb N par k).1.getD (upN par N k) 0],(numb N par k).2):=rfl
       have hnl:=zUw N par k;have HNb:=hdq hnb;have hu:=zVy HD.out N k;have hlt1:=(zXP HD.out (n:=N) k).2;clear hnb;(go_wp2_with fail);refine (zUW hpc hpr HD.out hlk (by omega)).mono ?_;rintro e1 w2 ⟨rfl,hw2⟩;obtain rfl:=hw2.symm;have q0:=hqr.cell hlk;by_cases hr:upN par N k=k
       ·rw [hr]
        have HN:Hid (OfC w3 (p+1) p w3 N par (.int .i64 (((numb N par k).2:Int)+1)) (.int .i64 ((k:Int)+1)) (wr.setCell ⟨w3.heap.size,k,none⟩ (.int .i64 ((numb N par k).2:Int)))):=by
         refine ⟨k+1,by omega,by simp,?_,hB.setCell (p:=⟨w3.heap.size,k,none⟩) (nlr _) _,?_,hpr.heap (bhs _ _ _ _ (by show p ≠ w3.heap.size; omega)),(hqr.set hlk _).congr fun i hi=>?_⟩
         ·rw [HNb.out,if_pos hr]; simp
         ·rw [World.cell?_setCell_far _ _ _ _ (by show w3.heap.size ≠ p+1; omega)]; exact hpc
         ·rw [HNb.out,if_pos hr];dsimp only;rw [zBG,hnl];rfl
        generalize (numb N par k).2=cnt at *;clear hB hpc hpr hqr hr HNb hu hnl;go_wp2;go_roundw;case rel=>first | exact HN.out | ((repeat apply Exists.intro); exact ⟨HN.out,rfl⟩)
        case measure=>simp [intOf]; omega
       ·have q1:=hqr.cell (show upN par N k<N by omega)
        have HN:Hid (OfC w3 (p+1) p w3 N par (.int .i64 ((numb N par k).2:Int)) (.int .i64 ((k:Int)+1)) (wr.setCell ⟨w3.heap.size,k,none⟩ (.int .i64 ((numb N par k).1.getD (upN par N k) 0:Int)))):=by
         refine ⟨k+1,by omega,by simp,?_,hB.setCell (p:=⟨w3.heap.size,k,none⟩) (nlr _) _,?_,hpr.heap (bhs _ _ _ _ (by show p ≠ w3.heap.size; omega)),(hqr.set hlk _).congr fun i hi=>?_⟩
         ·rw [HNb.out,if_neg hr]
         ·rw [World.cell?_setCell_far _ _ _ _ (by show w3.heap.size ≠ p+1; omega)]; exact hpc
         ·rw [HNb.out,if_neg hr];dsimp only;rw [zBG,hnl];rfl
        have hri:(upN par N k:Int)<(N:Int):=(by omega);have hrb:((upN par N k:Int) == (k:Int))=false:=beq_false_of_ne (by omega);have hrk:upN par N k<N:=(by omega);clear HNb hnl hr hu;generalize (numb N par k).1.getD (upN par N k) 0=y at *;generalize (numb N par k).2=cnt at *;generalize upN par N k=r at *;clear hB hpc hpr hqr;go_wp2;go_roundw;case rel=>first | exact HN.out | ((repeat apply Exists.intro); exact ⟨HN.out,rfl⟩)
        case measure=>simp [intOf]; omega
      ·(obtain rfl:N=k:=by omega);have HF:=hdq (HBW.out.trans (hB.mono hwq));clear hB hpc hpr;go_wp2;exact bodyPost_ret (results_tmp2 rfl _ _ _) rfl ⟨⟨_,rfl,hwq,by rw [HPar.out]; exact hqr⟩,HF.out⟩
def RfL (w1:World) (b N:Nat) (il:List Nat) (v t:Value) (W:World):Prop:=∃ k:Nat,k<=N/\t = .int .i64 (k:Int)/\Below w1 w1 W/\NatRow W b N (fun i=>il.getD i 0)/\W.ownsRow w1 3 1 v (refsGo 0 0 (il.take k)).length (iv (refsGo 0 0 (il.take k)))
theorem zU0 {w:World} {n:Int} {s so:SV} {ls:List Ln} {out:List Int} (h:LinesAt w s ls) (ho:IntsAt w so out) (h0:outErr n ls out=0) :
  Calls Tryz.prog 16 #[.agg #[.int .i64 n,.slice s.A s.n s.c],.slice so.A so.n so.c] w fun e w'=>
   (∃ t:SV,e = .returned (.tuple #[t.val,.int .i64 0])/\NatsAt w' t (refsGo 0 0 (numb n.toNat (joins n.toNat ls (inS ls.length out)) n.toNat).1))/\Below w w w':=by
 obtain ⟨o1,o2,-⟩:=zVq h0;have HOf:=hdq (fun W (hb:Below w w W)=>zCA (LinesAt.below hb h) (ho.below hb) h0);have hil:=zUw n.toNat (joins n.toNat ls (inS ls.length out)) n.toNat;generalize (numb n.toNat (joins n.toNat ls (inS ls.length out)) n.toNat).1=il at *;obtain ⟨N,hN⟩:∃ N:Nat,n.toNat=N:=⟨_,rfl⟩;rw [hN] at hil HOf;have HIl:=hdq hil;have hN6:N<=6:=by omega
 clear h ho h0 hil hN;go_enter Tryz.func16,Tryz.ntmps16
 go_upto_region 1 with fail
 refine zAo (fun W=>Below w w W/\Box2 W w (.int .i64 n) (.slice s.A s.n s.c)/\w.heap.size<W.heap.size) ⟨(az (brf _ _)),bx2,by simp <;> omega⟩ ?_;rintro W ⟨hbW,bN,s0⟩;have hBW:=hbW.size;obtain ⟨c0,c1,-⟩:=id bN;go_wp2_with fail
 refine (HOf.out W hbW).mono ?_; rintro e w1 ⟨⟨b,rfl,hbw,hrow⟩,hb1⟩
 have HB1:=hdq (hbW.trans (hb1.mono hBW));have hbl:=hrow.lt;have H0:RfL w1 b N il (.slice none 0 0) (.int .i64 0) w1:=⟨0,nzl _,rfl,brf _ _,hrow,World.ownsRow_nil _ _ _ _⟩;clear hb1 hbW hBW bN c0 c1 hrow;go_wp2;go_loopw [8,22] (fun v t W=>RfL w1 b N il v t W) (fun _ t _=>N-(intOf t).toNat)
 case atStart=>exact H0
 case round=>
  clear H0;obtain ⟨k,hk,rfl,hB,hrow,hown⟩:=hrel;obtain ⟨uA,uc,rfl,ho1,ho2⟩:=zKU hown;by_cases hlt:k<N
  ·have hki:(k:Int)<(N:Int):=(by omega);have q0:=hrow.cell hlt;have hkl:k<il.length:=by rw [HIl.out]; exact hlt
   have HT:Hid (refsGo 0 0 (il.take (k+1))=if il.getD k 0=(refsGo 0 0 (il.take k)).length then refsGo 0 0 (il.take k)++[k] else refsGo 0 0 (il.take k)):=by
    show _=_;rw [zUx 0 hkl,zUm,List.length_take,Nat.min_eq_left (by omega),Nat.zero_add,Nat.zero_add]
   have hll:(refsGo 0 0 (il.take k)).length<=6:=by have:=zUE 0 0 (il.take k); rw [List.length_take] at this; omega
   have HR:=hdq (And.intro hB hrow);clear hkl hrow;by_cases he:il.getD k 0=(refsGo 0 0 (il.take k)).length
   ·rw [he] at q0;have hT2:=hdq (HT.out.trans (if_pos he));generalize refsGo 0 0 (il.take k)=rl at *;obtain ⟨i0,hiI,hz0,hz1,hz2⟩:=info_parts zUP;have hbs:=hB.size;clear he HT hB;(go_wp2_with (at_builtin; refine wpList_append_own_at _ rfl _ _ 25 rfl w1 3 i0 (.int .i64 0) 1 8 Tryz.underlying25 hiI hz0 hz1 hz2 rfl (by decide) (.slice uA rl.length uc) rl.length (iv rl) rfl (hown.alloc _) ⟨wr,0,none⟩ 1 1 [.int .i64 (k:Int)] rfl rfl ?cells ?one ?b1 ?b2 ?b3 ?_));case cells=>exact cell_one_new _ _ _
    case one=>first | rfl | (intro u hu; simp at hu; subst hu; rfl)
    case b1=>simp [maxLen]; omega
    case b2=>omega
    case b3=>simp; omega
    intro v' W9 hown9 hg9 hnil9 hat9;obtain ⟨g9,c9,rfl⟩:=ownsRow_succ hown9;have hF:Below w1 wr W9:=((brf w1 wr).alloc hbs _).grown hg9 (by simp; omega) fun j ej=>(zAc hown ej).1
    have HN:Hid (RfL w1 b N il (.slice (some g9) (rl.length+1) c9) (.int .i64 ((k:Int)+1)) W9):=⟨k+1,by omega,by simp,HR.out.1.trans hF,HR.out.2.heap (hF.block _ hbl),by rw [hT2.out,List.length_append,zWK]; exact hown9⟩;clear hown9 hg9 hnil9 hat9 hF hown;go_wp2;go_roundw;case rel=>first | exact HN.out | ((repeat apply Exists.intro); exact ⟨HN.out,rfl⟩)
    case measure=>simp [intOf]; omega
   ·have hT2:=hdq (HT.out.trans (if_neg he));have HN:Hid (RfL w1 b N il (.slice uA (refsGo 0 0 (il.take k)).length uc) (.int .i64 ((k:Int)+1)) wr):=⟨k+1,by omega,by simp,HR.out.1,HR.out.2,by rw [hT2.out]; exact hown⟩;have heb:((il.getD k 0:Int) == ((refsGo 0 0 (il.take k)).length:Int))=false:=beq_false_of_ne (by omega);generalize il.getD k 0=y at *;generalize (refsGo 0 0 (il.take k)).length=m at *;clear HT hB hown he hT2;go_wp2;go_roundw;case rel=>first | exact HN.out | ((repeat apply Exists.intro); exact ⟨HN.out,rfl⟩)
    case measure=>simp [intOf]; omega
  ·(obtain rfl:N=k:=by omega);have hta:il.take N=il:=(by rw [<-HIl.out,List.take_length]);rw [hta] at hown ho1 ⊢;clear hta;have HF:=hdq (HB1.out.trans (hB.mono HB1.out.size))
   obtain ⟨⟨tA,tn,tc⟩,et,ht,hnt,-⟩:=zVc hown rfl fun x hx=>by
    have:=zUR 0 0 il x hx;have:=HIl.out;omega
   dsimp only at ht;subst ht;cases et;have HN:=hdq hnt;clear hB hrow hown ho1 ho2 hnt;go_wp2;exact bodyPost_ret (results_tmp2 rfl _ _ _) rfl ⟨⟨⟨tA,_,tc⟩,rfl,HN.out⟩,HF.out⟩
theorem zWC {w:World} {n:Int} {s so:SV} {ls:List Ln} {out:List Int} (h:LinesAt w s ls) (ho:IntsAt w so out) (h0:outErr n ls out=0) :
  Calls Tryz.prog 41 #[.agg #[.int .i64 n,.slice s.A s.n s.c],.slice so.A so.n so.c] w fun e w'=>
   e = .returned (.tuple #[.int .i64 ((refsGo 0 0 (numb n.toNat (joins n.toNat ls (inS ls.length out)) n.toNat).1).length:Int),.int .i64 0])/\Below w w w':=by
 have HR:=hdq (fun W (hb:Below w w W)=>zU0 (LinesAt.below hb h) (ho.below hb) h0);generalize refsGo 0 0 (numb n.toNat (joins n.toNat ls (inS ls.length out)) n.toNat).1=rl at *;clear h ho h0;go_enter Tryz.func41,Tryz.ntmps41
 go_upto_region 1 with fail
 refine zAo (fun W=>Below w w W/\Box2 W w (.int .i64 n) (.slice s.A s.n s.c)/\w.heap.size<W.heap.size) ⟨(az (brf _ _)),bx2,by simp <;> omega⟩ ?_;rintro W ⟨hbW,bN,s0⟩;have hBW:=hbW.size;obtain ⟨c0,c1,-⟩:=id bN;go_wp2_with fail
 refine (HR.out W hbW).mono ?_; rintro e w1 ⟨⟨⟨tA,tn,tc⟩,rfl,ht⟩,hb1⟩
 have hl:rl.length=tn:=by have:=ht.len; rw [List.length_map] at this; exact this
 have HL:=hdq hl;have HB1:=hdq (hbW.trans (hb1.mono hBW));clear hl ht hb1 hbW;dsimp only [SV.val];go_wp2;exact bodyPost_ret (results_tmp2 rfl _ _ _) rfl ⟨by rw [HL.out]; first | done | rfl,HB1.out⟩
end Mo
end Go.Proofs.YtjancagcmghfjaaGreat
