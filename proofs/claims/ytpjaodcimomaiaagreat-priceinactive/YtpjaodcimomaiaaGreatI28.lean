/- Texts Cons PrJ of this claim. -/
import Derived.Test.YtpjaodcimomaiaaGreatI26
import Derived.Test.YtpjaodcimomaiaaGreatI27
set_option maxHeartbeats 4000000
set_option maxRecDepth 100000
namespace Go.Proofs.YtpjaodcimomaiaaGreat
open Go.RowKit Go.Shelf
variable {s:SV} {X X':Nat->Prop} {W W' w w1:World} {L n B1 N:Nat} {p:LPV}
attribute [local go_sem] Oper.semAt_some
structure RowsE (W:World) (X:Nat->Prop) (s:SV) (rv:Nat->SV):Prop where
 le:s.n<=s.c
 cap:s.c<=9223372036854775807
 elem:∀ i,i<s.n->∃ ad,s.A=some ad/\X ad.block/\W.cell? (ad.add i)=some (rv i).val
instance:Inhabited SV:=⟨⟨none,0,0⟩⟩
theorem RowsE.carry {v:Nat->SV} (h:RowsE W X s v) (hk:Carry X W W'):RowsE W' X s v:=
 ⟨h.le,h.cap,fun i hi=>by
  obtain ⟨ad,e,hx,hc⟩:=h.elem i hi;exact ⟨ad,e,hx,hk.cell (p:=ad.add i) (by rw [zAj]; exact hx) hc⟩⟩
theorem RowsE.imp {v:Nat->SV} (h:RowsE W X s v) (hx:∀ b,X b->X' b):RowsE W X' s v:=
 ⟨h.le,h.cap,fun i hi=>by obtain ⟨ad,e,h1,h2⟩:=h.elem i hi; exact ⟨ad,e,hx _ h1,h2⟩⟩
theorem MatAt.rowsE {R:QV->Rat->Prop} {m:List (List Rat)} (h:MatAt W X R s m):∃ v,RowsE W X s v/\∀ i,VecAt W X R (v i) (m.getD i []):=by
 obtain ⟨f,hf⟩:=Deep.choose_lt (α:=SV) (n:=s.n) (p:=fun i v=>(∃ ad,s.A=some ad/\X ad.block/\W.cell? (ad.add i)=some v.val)/\VecAt W X R v (m.getD i [])) (fun i hi=>by
  obtain ⟨ad,v,e,hx,hc,hr⟩:=h.row i hi;exact ⟨v,⟨ad,e,hx,hc⟩,hr⟩)
 refine ⟨fun i=>if i<s.n then f i else ⟨none,0,0⟩,⟨h.le,h.cap,fun i hi=>?_⟩,fun i=>?_⟩
 ·rw [if_pos hi]; exact (hf i hi).1
 ·by_cases hi:i<s.n
  ·dsimp only; rw [if_pos hi]; exact (hf i hi).2
  ·dsimp only; rw [if_neg hi,zAw _ _ _ (by rw [h.len]; omega)]
   exact ⟨rfl,nlr _,nzl _,fun k hk=>absurd hk (Nat.not_lt_zero k)⟩
theorem VecAt.carryI {l:List Rat} (h:VecIs w X X L s l) (hk:Carry X w W):VecIs W X X L s l:=
 ⟨h.len,h.le,h.cap,fun k hk'=>by
  obtain ⟨ad,v,e,hx,hc,hr⟩:=h.elem k hk';exact ⟨ad,v,e,hx,hc.carry hk (by rw [zAj]; exact hx),hr.carry hk⟩⟩
theorem zIg (z:Int) (A B C:Option Addr) (la ca lb cb lc cc:Nat) :
  CallsIn Fence.wide n Tryz.prog 107 #[.agg #[.int .i64 z,.slice A la ca,.slice B lb cb,.slice C lc cc]] w fun e w'=>e = .returned (.func (.func 175) #[] #[.pointer (some w)])/\
   w'=w.alloc (.cells #[.int .i64 z,.slice A la ca,.slice B lb cb,.slice C lc cc] 28):=by
 refine callsIn_of_wp Tryz.func107 rfl trivial ?_ rfl;simp only [Tryz.ntmps107,List.size_toArray,List.length_cons,List.length_nil,Nat.reduceAdd,Nat.reduceSub,Array.replicate_succ,Array.replicate_zero,List.push_toArray,List.append_toArray,List.nil_append,List.cons_append];gi_wp2;go_ret;exact ⟨by simp,by simp⟩
theorem zI7 {l:Nat} {rv:Nat->SV} {vb:Nat->QV} (hn:1<=n) (J Jx:List Nat->World->Prop) (W:World) (hJ:AbidesFrom W J)
  (hY:∀ pre x W1,J pre W1->pre.length<N->YieldAt Fence.wide (n-1) Tryz.prog l #[(rv x).val,(vb x).val] W1 fun e W'=>
   (e = .returned (.bool true)/\J (pre++[x]) W'/\Carry X W1 W')\/(e = .returned (.bool false)/\Jx (pre++[x]) W'))
  (h1:W.heap[B1]?=some (.cells #[.int .i64 p.n,p.O.val,p.R.val,p.B.val] 28 (0,0))) (hb1:X B1)
  (ha:RowsE W X p.R rv) (hb:Elems W X p.B vb) (hN:p.R.n=N) (hNb:p.B.n=N) (hN2:N<=1000000) (h0:J [] W) :
  CallsIn Fence.wide n Tryz.prog 175 #[.func (.yield l) #[] #[],.pointer (some B1)] W fun e W'=>(∃ v,e = .returned v)/\
   ((∃ ys,ys=List.range N/\J ys W')\/(∃ pre,pre <+: List.range N/\Jx pre W')):=by
 obtain ⟨z,⟨oA,on,oc⟩,⟨A,la,ca⟩,⟨B,lb,cb⟩⟩:=p;dsimp only [SV.val] at h1 hN hNb;subst hN;subst hNb;obtain ⟨c0,c1,c2,c3⟩:W.cell? B1=some (.int .i64 z)/\W.cell? ⟨B1,1,none⟩=some (.slice oA on oc)/\W.cell? ⟨B1,2,none⟩=some (.slice A lb ca)/\W.cell? ⟨B1,3,none⟩=some (.slice B lb cb):=by simp [World.cell?,h1]
 have qa:lb<=ca:=ha.le;have qb:lb<=cb:=hb.le;have qa':ca<=9223372036854775807:=ha.cap;have qb':cb<=9223372036854775807:=hb.cap;have hbl:=zAa h1;refine callsIn_of_wp Tryz.func175 rfl trivial ?_ rfl;simp only [Tryz.ntmps175,List.size_toArray,List.length_cons,List.length_nil,Nat.reduceAdd,Nat.reduceSub,Array.replicate_succ,Array.replicate_zero,List.push_toArray,List.append_toArray,List.nil_append,List.cons_append];gi_wp2;have Ha:=hdq ha;have Hb:=hdq hb;have HY:=hdq hY;have HJ:=hdq hJ;clear ha hb hY hJ;gi_loopw [9] (fun i wr=>PIter W X lb J i wr) (fun i _=>lb-(intOf i).toNat)
 case atStart=>exact ⟨0,nzl _,rfl,h0,Carry.refl _ _⟩
 case round=>
  obtain ⟨k,hk,rfl,hJs,hcar⟩:=hrel;have d2:wr.cell? ⟨B1,2,none⟩=some (.slice A lb ca):=hcar.cell (p:=⟨B1,2,none⟩) hb1 c2;have d3:wr.cell? ⟨B1,3,none⟩=some (.slice B lb cb):=hcar.cell (p:=⟨B1,3,none⟩) hb1 c3;have t1:B1<wr:=zAb d2;clear c0 c1 c2 c3;by_cases hlt:k<lb
  ·have Hr:=hdq (show List.range (k+1)=List.range k++[k] from List.range_succ);have ha2:=Ha.out.carry hcar;have hb2:=Hb.out.carry hcar;have al:Below wr wr (wr.alloc (.cells #[(.bool (vb k).num.ng),(.slice (vb k).num.A (vb k).num.n (vb k).num.c),(.bool (vb k).den.ng),(.slice (vb k).den.A (vb k).den.n (vb k).den.c)] 37)):=bal;have hgb:wr.grownBy _ none:=⟨al.os,al.tape,al.output,al.size,fun k hk _=>al.block k hk⟩;have hJ2:=HJ.out _ wr _ none hJs hgb (fun r e=>by cases e);obtain ⟨fn,tmps,assign,body,hy,hR⟩:=HY.out _ k _ hJ2 (by simpa using hlt);clear hgb hJ2 hJs;obtain ⟨a1,e,-,q0⟩:=ha2.elem k hlt;dsimp only at e q0;subst e;have tq:(a1.add k).block<wr:=zAb q0;obtain ⟨a2,e,-,⟨p0,p1,p2,p3⟩⟩:=hb2.elem k hlt;dsimp only at e p0 p1 p2 p3;subst e;have tp:(a2.add (k*4)).block<wr:=zAb p0;have hkbi:(k:Int)<(lb:Int):=(by omega);clear ha2 hb2;gi_wp2;refine hR.mono ?_;rintro e W3 (⟨rfl,hJ3,hk3⟩ | ⟨rfl,hJx3⟩)
   ·have Hfin:Hid (PIter W X lb J (.int .i64 ((k:Int)+1)) W3):=⟨k+1,by omega,by simp,by rw [Hr.out]; exact hJ3,hcar.trans ((Carry.of_below al).trans hk3)⟩;clear hJ3 hk3 hcar al;gi_wp2;exact ⟨Hfin.out,by simp [intOf]; omega⟩
   ·gi_wp2;refine bodyPost_ret (results_none rfl _ _ _) rfl ?_;exact ⟨⟨_,rfl⟩,.inr ⟨_,by rw [<-Hr.out]; exact zA8 (by omega),hJx3⟩⟩
  ·(obtain rfl:k=lb:=by omega);gi_wp2;go_end0;exact ⟨⟨_,rfl⟩,.inl ⟨_,rfl,hJs⟩⟩
theorem zEQ {rv:Nat->SV} {vb:Nat->QV} (hn:1<=n) (h1:w1.heap[B1]?=some (.cells #[.int .i64 p.n,p.O.val,p.R.val,p.B.val] 28 (0,0))) (hb1:X B1)
  (ha:RowsE w1 X p.R rv) (hb:Elems w1 X p.B vb) (hN:p.R.n=N) (hNb:p.B.n=N) (hN2:N<=1000000) :
  SeqStopsK Fence.wide n Tryz.prog 175 #[.pointer (some B1)] (fun x:Nat=>#[(rv x).val,(vb x).val]) (Carry X) (fun ys=>ys=List.range N) (fun pre=>pre <+: List.range N) N w1:=fun _l J Jx W hW hJ _ hY h0=>
 zI7 hn J Jx W hJ hY ((hW.block B1 (zAa h1)).trans h1) hb1 (ha.carry (Carry.of_below hW)) (hb.carry (Carry.of_below hW)) hN hNb hN2 h0
end Go.Proofs.YtpjaodcimomaiaaGreat
namespace Go.Proofs.YtpjaodcimomaiaaGreat
open Go.RowKit Go.Shelf
variable {V k n L g B1 M kb:Nat} {rs os:List (List Rat)} {w W:World} {s:SV} {X:Nat->Prop} {p:LPV}
attribute [local go_sem] Oper.semAt_some
def psum (y:List Rat) (rs:List (List Rat)) (k:Nat):Rat:=Lin.sum (min rs.length y.length) fun i=>y.getD i 0*(rs.getD i []).getD k 0
theorem zIW {y:List Rat} (hk:k<V):(resize (vmTo y rs (colsOf rs) (min rs.length y.length)) V).getD k 0=psum y rs k:=by
 unfold resize;rw [zAS _ _ hk];by_cases h:k<colsOf rs
 ·exact zHm h
 ·rw [zAw _ _ _ (by simp [vmTo]; omega)]
  have h0:∀ i,(rs.getD i []).getD k 0=0:=fun i=>zAw _ _ _ (by
   by_cases hi:i<rs.length
   ·have:=zAU.1 (nlr (colsOf rs)) (rs.getD i []) (by rw [gdd,gge hi]; exact List.getElem_mem _);omega
   ·rw [zAw rs i [] (by omega)]; exact nzl _)
  unfold psum;generalize min rs.length y.length=n
  induction n with
  | zero=>rfl
  | succ n ih=>rw [Lin.sum,<-ih,h0]; grind
theorem zG9 (z:Int) (A B C D:Option Addr) (la ca lb cb lc cc ld cd:Nat) :
  CallsIn Fence.wide n Tryz.prog 109 #[.agg #[.int .i64 z,.slice A la ca,.slice B lb cb,.slice C lc cc],.slice D ld cd] w fun e w'=>e = .returned (.func (.func 176) #[] #[.pointer (some ⟨w+1,0,none⟩),.pointer (some w)])/\
   w'=(w.alloc (.cells #[.int .i64 z,.slice A la ca,.slice B lb cb,.slice C lc cc] 28)).alloc (.cells #[.slice D ld cd] 24):=by
 refine callsIn_of_wp Tryz.func109 rfl trivial ?_ rfl;simp only [Tryz.ntmps109,List.size_toArray,List.length_cons,List.length_nil,Nat.reduceAdd,Nat.reduceSub,Array.replicate_succ,Array.replicate_zero,List.push_toArray,List.append_toArray,List.nil_append,List.cons_append];gi_wp2;go_ret;exact ⟨by simp,by simp⟩
theorem VecAt.carryQ {l:List Rat} (h:VecCan w X X s l) (hk:Carry X w W):VecCan W X X s l:=
 ⟨h.len,h.le,h.cap,fun k hk'=>by
  obtain ⟨ad,v,e,hx,hc,hr⟩:=h.elem k hk';exact ⟨ad,v,e,hx,hc.carry hk (by rw [zAj]; exact hx),hr.carry hk⟩⟩
theorem MatAt.carryI {m:List (List Rat)} (h:MatIs w X X L s m) (hk:Carry X w W):MatIs W X X L s m:=
 ⟨h.len,h.le,h.cap,fun i hi=>by
  obtain ⟨ad,r,e,hx,hc,hr⟩:=h.row i hi;exact ⟨ad,r,e,hx,hk.cell (p:=ad.add i) (by rw [zAj]; exact hx) hc,hr.carryI hk⟩⟩
def PCIter (W:World) (B g V:Nat) (J:Nat->Nat->World->Prop) (t:Value) (W':World):Prop:=
 ∃ k:Nat,k<=V/\t = .int .i64 k/\J B k W'/\Carry (fun b=>b<B/\b ≠ g) W W'
structure PCons (w:World) (g L M kb V:Nat) (p:LPV) (sy:SV) (os rs:List (List Rat)) (y:List Rat):Prop where
 hy:VecIs w (fun b=>b<w.heap.size/\b ≠ g) (fun b=>b<w.heap.size/\b ≠ g) L sy y
 hO:MatIs w (fun b=>b<w.heap.size/\b ≠ g) (fun b=>b<w.heap.size/\b ≠ g) M p.O os
 hR:MatIs w (fun b=>b<w.heap.size/\b ≠ g) (fun b=>b<w.heap.size/\b ≠ g) M p.R rs
 hV:p.n=V
 hV2:V<=64
 ho:1<=p.O.n
 hny:sy.n<=1000000
 hnr:p.R.n<=1000000
 hC:colsOf rs<=1000000
 hL:L<=LM
 hM:M<=LM
 hf:∀ i j,QFit LM (y.getD i 0*(rs.getD i []).getD j 0)
 hs:∀ k j,Lin.Fits kb (Lin.sum k fun i=>y.getD i 0*(rs.getD i []).getD j 0)
 hk:kb+1<=LM
theorem zFT {B2:Nat} {sy:SV} {y:List Rat} (hn:1<=n) (hg:g<w) (hP:PCons w g L M kb V p sy os rs y)
  (h1:w.heap[B1]?=some (.cells #[sy.val] 24 (0,0))) (h2:w.heap[B2]?=some (.cells #[.int .i64 p.n,p.O.val,p.R.val,p.B.val] 28 (0,0))) (hb1:B1 ≠ g) (hb2:B2 ≠ g) :
  SeqV Fence.wide n Tryz.prog 176 #[.pointer (some B1),.pointer (some B2)] (fun x:QV × QV=>#[x.1.val,x.2.val]) (fun B=>Carry (fun b=>b<B/\b ≠ g))
   (fun B k x W=>QIs W (fun b=>b ≠ g) (kb+1) x.1 (psum y rs k)/\QIs W (fun b=>b ≠ g) (M+1) x.2 ((os.getD 0 []).getD k 0)/\B<=W.heap.size) V w:=by
 intro l J Jx W hwW hJ hY h0;obtain ⟨z,⟨oA,on,oc⟩,⟨rA,rn,rc⟩,⟨bA,bn,bc⟩⟩:=p;obtain ⟨yA,yn,yc⟩:=sy;dsimp only [SV.val] at h1 h2;obtain ⟨hy,hO,hR,hV,hV2,ho,hny,hnr,hC,hL,hM,hf,hs,hk⟩:=hP;dsimp only at hV ho hny hnr;subst hV;have hgW:g<W:=ltl hg hwW.size;have lb1:=zAa h1;have lb2:=zAa h2;have HY1:=hdq (hy.below hwW);have HO:=hdq (hO.below hwW);have HR:=hdq (hR.below hwW);have h1':=(hwW.block _ lb1).trans h1;have h2':=(hwW.block _ lb2).trans h2;have HL:=hdq hL;have HM:=hdq hM;have HF:=hdq hf;have HS:=hdq hs;have HK:=hdq hk;have HC:=hdq hC;have HJ:=hdq hJ;have HY:=hdq hY;have H0:=hdq h0;have ly:y.length=yn:=hy.len;have lr:rs.length=rn:=hR.len;have HLen:Hid (min rn yn=min rs.length y.length):=by show _=_; rw [ly,lr]
 have HFs:Hid (∀ k,k<V->Lin.Fits kb (psum y rs k)):=fun k _=>hs _ k
 have HFc:Hid (∀ k,QFit (M+1) ((os.getD 0 []).getD k 0)):=fun k=>hO.fit 0 k
 have hon:0<on:=by omega
 clear hy hO hR hL hM hf hs hk hC hJ hY h0 ly lr;obtain ⟨c0,c1,c2,c3⟩:W.cell? B2=some (.int .i64 V)/\W.cell? ⟨B2,1,none⟩=some (.slice oA on oc)/\W.cell? ⟨B2,2,none⟩=some (.slice rA rn rc)/\W.cell? ⟨B2,3,none⟩=some (.slice bA bn bc):=by simp [World.cell?,h2']
 have d0:W.cell? B1=some (.slice yA yn yc):=by simp [World.cell?,h1']
 have s1:B1<W:=zAa h1';have s2:B2<W:=zAa h2';clear h1 h2 lb1 lb2 hwW hg;refine callsIn_of_wp Tryz.func176 rfl trivial ?_ rfl;simp only [Tryz.ntmps176,List.size_toArray,List.length_cons,List.length_nil,Nat.reduceAdd,Nat.reduceSub,Array.replicate_succ,Array.replicate_zero,List.push_toArray,List.append_toArray,List.nil_append,List.cons_append];gi_wp2;refine zCW 1000 (fun _ w'=>Sees W [] W w') (by kernel_rfl) ?_;have hS0:Sees W [] W W.drew:=Sees.st (by simp) (nlr _);refine tx4 0 1 2 4 hS0 ?_;refine tx1 5 hS0 ?_;refine tk1 3 ?_;intro K hK;go_simp;have hdr:Below W W W.drew:=(brf _ _).drew;refine (zGb (sy:=⟨yA,yn,yc⟩) (sm:=⟨rA,rn,rc⟩) (HY1.out.below hdr) (HR.out.below hdr) hny hnr HC.out HL.out HM.out HF.out HS.out HK.out).mono ?_;rintro e w3 ⟨⟨z3,rfl,hz3⟩,hb3⟩;dsimp only at hz3;rw [HLen.out] at hz3;have hS1:=Kept.call2 hb3 hS0;refine hK.out _ _ hS1 ?_;clear hK K hS0 hb3;have HZ3:=hdq (hz3.qis' fun j=>zIM HS.out);clear hz3;refine tk1 6 ?_;intro K hK;go_simp;refine (zF0 (s:=z3) HZ3.out V (by omega) HK.out).mono ?_;rintro e w4 ⟨⟨z4,rfl,hz4⟩,hb4⟩;have hS2:=Kept.call2 hb4 hS1;have hw3:=hS1.kept.size;refine hK.out _ _ hS2 ?_;clear hK K hS1 hb4 HZ3;refine tx1 7 hS2 ?_;refine zAf (by kernel_rfl) (NoPanic.normal ?_) _;have hbf:Below W W w4:=hS2.kept.whole;obtain ⟨zA,zn,zc⟩:=z4;have hzn:zn=V:=by have:=hz4.len; simp [resize] at this; exact this.symm
 subst hzn;have hzl:zn<=zc:=hz4.le;have hzc:zc<=9223372036854775807:=hz4.cap
 have HZ:Hid (VecCan w4 (fun b=>b<w4.heap.size/\b ≠ g) (fun b=>b<w4.heap.size/\b ≠ g) ⟨zA,zn,zc⟩ (resize (vmTo y rs (colsOf rs) (min rs.length y.length)) zn)):=
  hz4.imp (fun b hb hx=>⟨hb,by simp only [New] at hx; omega⟩) (fun v q hq=>hq.imp fun b hb hx=>⟨hb,by simp only [New] at hx; omega⟩)
 have HOf:=hdq ((HO.out.below hbf).imp (X':=fun b=>b<w4.heap.size/\b ≠ g) (R':=QIs w4 (fun b=>b<w4.heap.size/\b ≠ g) M) (fun b hb hx=>⟨hb,hx.2⟩) (fun v q hq=>hq.imp fun b hb hx=>⟨hb,hx.2⟩));have H1:PCIter w4 w4 g zn J (.int .i64 0) w4:=⟨0,nzl _,rfl,HJ.out _ _ W w4 none (H0.out _ hbf.size) ⟨hbf.os,hbf.tape,hbf.output,hbf.size,fun k hk _=>hbf.block k hk⟩ (fun r e=>by cases e),Carry.refl _ _⟩;have hBs:=hbf.size;rw [<-hbf.cell (p:=⟨B2,1,none⟩) s2] at c1;clear hz4 hbf hS2 hw3 hdr c0 c2 c3 d0 h1' h2' H0 HY1 HR HO;replace s1:=ltl s1 hBs;replace s2:=ltl s2 hBs;obtain ⟨B,hB⟩:∃ B,B=w4.heap.size:=⟨_,rfl⟩;rw [<-hB] at HZ HOf H1 hBs s1 s2;have HB:=hdq hB;clear hB;dsimp only [SV.val];gi_wp2;gi_loopw [16] (fun i wr=>PCIter w4 B g zn J i wr) (fun i _=>zn-(intOf i).toNat)
 case atStart=>exact H1
 case round=>
  clear H1;obtain ⟨k,hk,rfl,hJs,hcar⟩:=hrel;have d1:wr.cell? ⟨B2,1,none⟩=some (.slice oA on oc):=hcar.cell (p:=⟨B2,1,none⟩) ⟨s2,hb2⟩ c1;have t2:B2<wr:=zAb d1;have hBr:B<=wr:=by rw [HB.out]; exact hcar.size
  by_cases hlt:k<zn
  ·obtain ⟨ad,u,e,hx,⟨q0,q1,q2,q3⟩,hu⟩:=(HZ.out.carryQ hcar).elem k hlt;dsimp only at e q1 q2 q3 hx;subst e;rw [zIW hlt] at hu;have tq:(ad.add (k*4)).block<wr:=zAb q0;have hOc:=hdq (HOf.out.carryI hcar);have HU:=hdq hu;clear hu;have al:Below wr wr (wr.alloc (.cells #[.bool u.num.ng,.slice u.num.A u.num.n u.num.c,.bool u.den.ng,.slice u.den.A u.den.n u.den.c] 37)):=bal;gi_wp2;obtain ⟨w5,hw5⟩:∃ w5,wr.alloc (.cells #[.bool u.num.ng,.slice u.num.A u.num.n u.num.c,.bool u.den.ng,.slice u.den.A u.den.n u.den.c] 37)=w5:=⟨_,rfl⟩;obtain ⟨bx,hbx⟩:∃ bx,bx=wr.heap.size:=⟨_,rfl⟩;have y5:QBlk w5 bx u:=by rw [<-hw5,hbx]; exact zAd _ _ rfl
   have sz5:bx<w5:=zAa y5;rw [<-hbx] at hBr tq t2 ⊢;rw [hw5] at al ⊢;have d5:w5.cell? ⟨B2,1,none⟩=some (.slice oA on oc):=(al.cell (p:=⟨B2,1,none⟩) (by rw [<-hbx]; exact t2)).trans d1;have HAl:=hdq al;have HBx:=hdq hbx;obtain ⟨y0,y1,y2,y3,-⟩:=zAA y5;clear hw5 hbx al q0 q1 q2 q3 d1 y5;refine zH6 6 #[true,true,true,true,true,true,false,false] 2 1000 (fun _ w'=>Sees B [] w5 w') (by kernel_rfl) (by kernel_rfl) (by kernel_rfl) (by kernel_rfl) ?_;simp only [List.take_succ_cons,List.take_zero];have hS0:Sees B [] w5 w5.drew:=Sees.st (by simp) (by omega);have t2':B2<w5:=(by omega);refine tx4 0 1 2 3 hS0 ?_;refine tx1 4 hS0 ?_;refine tk1 5 ?_;intro K hK;go_simp;have h5:Below w5 w5 w5.drew:=(brf _ _).drew;refine (zFd (s:=⟨oA,on,oc⟩) ((hOc.out.below HAl.out).below h5) 0 k hon (by omega) HM.out).mono ?_;rintro e w6 ⟨⟨z,rfl,hz⟩,hb6⟩;have hS1:=Kept.call2 hb6 hS0;refine hK.out _ _ hS1 ?_;clear hK K hS0 hb6 y0 y1 y2 y3 d5;refine zAf (by kernel_rfl) ?_ _;show wpAnyIn _ _ _ _ _ _ _ _ _ _;have hb56:Below w5 w5 w6:=hS1.kept.whole;have hbr6:Below wr wr w6:=HAl.out.trans (hb56.mono HAl.out.size);have hJ6:J B k w6:=HJ.out _ _ wr w6 none hJs ⟨hbr6.os,hbr6.tape,hbr6.output,hbr6.size,fun k hk _=>hbr6.block k hk⟩ (fun r e=>by cases e);have hsz5:W<=(w5:Nat):=by have:=HBx.out; omega
   have hu6:QIs w6 (fun b=>b ≠ g) (kb+1) u (psum y rs k):=((HU.out.qis (zAv (HFs.out k hlt))).below hbr6).imp fun b hb hx=>hx.2
   have hz6:QIs w6 (fun b=>b ≠ g) (M+1) z ((os.getD 0 []).getD k 0):=(hz.qis (HFc.out k)).imp fun b hb hx=>by simp only [New,World.size_drew] at hx; omega
   obtain ⟨fn,tmps,assign,body,hy,hR⟩:=HY.out B k (u,z) w6 hBs hJ6 ⟨hu6,hz6,nlt hBr (nlt (Nat.le_of_lt sz5) hb56.size)⟩ hlt;clear hu6 hz6 hJ6 hJs hz hS1;refine zCV (i:=6) (by kernel_rfl) rfl (by rfl) ?_;intro K hK;dsimp only at hy hR;go_simp;refine hR.mono ?_;rintro e w7 (⟨rfl,hJ7,hk7⟩ | ⟨rfl,hJx7⟩)
   ·have Hfin:Hid (PCIter w4 B g zn J (.int .i64 ((k:Int)+1)) w7):=⟨k+1,by omega,by simp,hJ7,hcar.trans ((Carry.of_below hbr6).trans hk7)⟩;clear hJ7 hk7 hcar hbr6 hR hy HY;refine hK.out _ _ ?_;clear hK K;refine zCV (i:=7) (by kernel_rfl) rfl (by rfl) ?_;intro K hK;go_simp;refine hK.out _ _ ?_;clear hK K;refine zEA (by kernel_rfl) ?_ _;gi_wp2;exact ⟨Hfin.out,by simp [intOf]; omega⟩
   ·have HX7:=hdq hJx7;clear hJx7 hcar hbr6 hR hy HY;refine hK.out _ _ ?_;clear hK K;refine zCV (i:=7) (by kernel_rfl) rfl (by rfl) ?_;intro K hK;go_simp;refine hK.out _ _ ?_;clear hK K;refine zEA (by kernel_rfl) ?_ _;gi_wp2;refine bodyPost_ret (results_none rfl _ _ _) rfl ?_;exact ⟨⟨_,rfl⟩,.inr HX7.out⟩
  ·(obtain rfl:k=zn:=by omega);gi_wp2;go_end0;exact ⟨⟨_,rfl⟩,.inl ⟨_,hBs,hJs⟩⟩
end Go.Proofs.YtpjaodcimomaiaaGreat
