/- Texts Cons PrJ of this claim. -/
import Derived.Test.YtbpngececjihlaaGreatB30
import Derived.Test.YtbpngececjihlaaGreatB31
set_option maxHeartbeats 4000000
set_option maxRecDepth 100000
namespace Go.Proofs.YtbpngececjihlaaGreat
open Go.RowKit Go.Shelf
variable {s:SV} {X X':Nat->Prop} {W W' w w1:World} {l:List Rat} {L n B1 N:Nat} {p:LPV}
attribute [local go_sem] Oper.semAt_some
structure RowsE (W:World) (X:Nat->Prop) (s:SV) (rv:Nat->SV):Prop where
 le:s.n<=s.c
 cap:s.c<=9223372036854775807
 elem:∀ i,i<s.n->∃ ad,s.A=some ad/\X ad.block/\W.cell? (ad.add i)=some (rv i).val
instance:Inhabited SV:=⟨⟨none,0,0⟩⟩
theorem RowsE.carry {v:Nat->SV} (h:RowsE W X s v) (hk:Carry X W W'):RowsE W' X s v:=
 ⟨h.le,h.cap,fun i hi=>by
  obtain ⟨ad,e,hx,hc⟩:=h.elem i hi;exact ⟨ad,e,hx,hk.cell (p:=ad.add i) (by rw [zAj]; exact hx) hc⟩⟩
theorem RowsE.imp {v:Nat->SV} (h:RowsE W X s v) (hx:∀ b,X b->X' b):RowsE W X' s v:=
 ⟨h.le,h.cap,fun i hi=>by obtain ⟨ad,e,h1,h2⟩:=h.elem i hi; exact ⟨ad,e,hx _ h1,h2⟩⟩
theorem MatAt.rowsE {R:QV->Rat->Prop} {m:List (List Rat)} (h:MatAt W X R s m):∃ v,RowsE W X s v/\∀ i,VecAt W X R (v i) (m.getD i []):=by
 obtain ⟨f,hf⟩:=Deep.choose_lt (α:=SV) (n:=s.n) (p:=fun i v=>(∃ ad,s.A=some ad/\X ad.block/\W.cell? (ad.add i)=some v.val)/\VecAt W X R v (m.getD i [])) (fun i hi=>by
  obtain ⟨ad,v,e,hx,hc,hr⟩:=h.row i hi;exact ⟨v,⟨ad,e,hx,hc⟩,hr⟩)
 refine ⟨fun i=>if i<s.n then f i else ⟨none,0,0⟩,⟨h.le,h.cap,fun i hi=>?_⟩,fun i=>?_⟩
 ·rw [if_pos hi]; exact (hf i hi).1
 ·by_cases hi:i<s.n
  ·dsimp only; rw [if_pos hi]; exact (hf i hi).2
  ·dsimp only; rw [if_neg hi,zAw _ _ _ (by rw [h.len]; omega)]
   exact ⟨rfl,nlr _,nzl _,fun k hk=>absurd hk (Nat.not_lt_zero k)⟩
theorem VecAt.carryI (h:VecIs w X X L s l) (hk:Carry X w W):VecIs W X X L s l:=
 ⟨h.len,h.le,h.cap,fun k hk'=>by
  obtain ⟨ad,v,e,hx,hc,hr⟩:=h.elem k hk';exact ⟨ad,v,e,hx,hc.carry hk (by rw [zAj]; exact hx),hr.carry hk⟩⟩
theorem zIg (z:Int) (A B C:Option Addr) (la ca lb cb lc cc:Nat) :
  CallsIn Fence.wide n Tryz.prog 164 #[.agg #[z,.slice A la ca,.slice B lb cb,.slice C lc cc]] w fun e w'=>e = .returned (.func (.func 211) #[] #[.pointer (some w)])/\
   w'=w.alloc (.cells #[z,.slice A la ca,.slice B lb cb,.slice C lc cc] 25):=by
 refine callsIn_of_wp Tryz.func164 rfl trivial ?_ rfl;simp only [Tryz.ntmps164,List.size_toArray,List.length_cons,List.length_nil,Nat.reduceAdd,Nat.reduceSub,Array.replicate_succ,Array.replicate_zero,List.push_toArray,List.append_toArray,List.nil_append,List.cons_append];gi_wp2;go_ret;exact ⟨si,si⟩
theorem zI7 {l:Nat} {rv:Nat->SV} {vb:Nat->QV} (hn:1<=n) (J Jx:List Nat->World->Prop) (W:World) (hJ:AbidesFrom W J)
  (hY:∀ pre x W1,J pre W1->pre.length<N->YieldAt Fence.wide (n-1) Tryz.prog l #[(rv x).val,(vb x).val] W1 fun e W'=>
   (e = .returned true/\J (pre++[x]) W'/\Carry X W1 W')\/(e = .returned false/\Jx (pre++[x]) W'))
  (h1:W.heap[B1]?=some (.cells #[p.n,p.O.val,p.R.val,p.B.val] 25 (0,0))) (hb1:X B1)
  (ha:RowsE W X p.R rv) (hb:Elems W X p.B vb) (hN:p.R.n=N) (hNb:p.B.n=N) (hN2:N<=1000000) (h0:J [] W) :
  CallsIn Fence.wide n Tryz.prog 211 #[.func (.yield l) #[] #[],.pointer (some B1)] W fun e W'=>(∃ v,e = .returned v)/\
   ((∃ ys,ys=List.range N/\J ys W')\/(∃ pre,pre <+: List.range N/\Jx pre W')):=by
 obtain ⟨z,⟨oA,on,oc⟩,⟨A,la,ca⟩,⟨B,lb,cb⟩⟩:=p;dsimp only [SV.val] at h1 hN hNb;subst hN;subst hNb;obtain ⟨c0,c1,c2,c3⟩:W.cell? B1=some (.int .i64 z)/\W.cell? ⟨B1,1,none⟩=some (.slice oA on oc)/\W.cell? ⟨B1,2,none⟩=some (.slice A lb ca)/\W.cell? ⟨B1,3,none⟩=some (.slice B lb cb):=by simp [World.cell?,h1]
 have qa:lb<=ca:=ha.le;have qb:lb<=cb:=hb.le;have qa':ca<=9223372036854775807:=ha.cap;have qb':cb<=9223372036854775807:=hb.cap;have hbl:=zAa h1;refine callsIn_of_wp Tryz.func211 rfl trivial ?_ rfl;simp only [Tryz.ntmps211,List.size_toArray,List.length_cons,List.length_nil,Nat.reduceAdd,Nat.reduceSub,Array.replicate_succ,Array.replicate_zero,List.push_toArray,List.append_toArray,List.nil_append,List.cons_append];gi_wp2;have Ha:=hdq ha;have Hb:=hdq hb;have HY:=hdq hY;have HJ:=hdq hJ;clear ha hb hY hJ;gi_loopw [9] (fun i wr=>PIter W X lb J i wr) (fun i _=>lb-(intOf i).toNat)
 case atStart=>exact ⟨0,nzl _,rfl,h0,Carry.refl _ _⟩
 case round=>
  obtain ⟨k,hk,rfl,hJs,hcar⟩:=hrel;have d2:wr.cell? ⟨B1,2,none⟩=some (.slice A lb ca):=hcar.cell (p:=⟨B1,2,none⟩) hb1 c2;have d3:wr.cell? ⟨B1,3,none⟩=some (.slice B lb cb):=hcar.cell (p:=⟨B1,3,none⟩) hb1 c3;have t1:B1<wr.heap.size:=zAb d2;clear c0 c1 c2 c3;by_cases hlt:k<lb
  ·have Hr:=hdq (show List.range (k+1)=List.range k++[k] from List.range_succ);have ha2:=Ha.out.carry hcar;have hb2:=Hb.out.carry hcar;have al:Below wr wr (wr.alloc (.cells #[(.bool (vb k).num.ng),(.slice (vb k).num.A (vb k).num.n (vb k).num.c),(.bool (vb k).den.ng),(.slice (vb k).den.A (vb k).den.n (vb k).den.c)] 30)):=bal;have hgb:wr.grownBy _ none:=⟨al.os,al.tape,al.output,al.size,fun k hk _=>al.block k hk⟩;have hJ2:=HJ.out _ wr _ none hJs hgb (fun r e=>by cases e);obtain ⟨fn,tmps,assign,body,hy,hR⟩:=HY.out _ k _ hJ2 (by simpa using hlt);clear hgb hJ2 hJs;obtain ⟨a1,e,-,q0⟩:=ha2.elem k hlt;dsimp only at e q0;subst e;have tq:(a1.add k).block<wr:=zAb q0;obtain ⟨a2,e,-,⟨p0,p1,p2,p3⟩⟩:=hb2.elem k hlt;dsimp only at e p0 p1 p2 p3;subst e;have tp:(a2.add (k*4)).block<wr:=zAb p0;have hkbi:(k:Int)<(lb:Int):=om;clear ha2 hb2;gi_wp2;refine hR.mono ?_;rintro e W3 (⟨rfl,hJ3,hk3⟩ | ⟨rfl,hJx3⟩)
   ·have Hfin:Hid (PIter W X lb J (.int .i64 ((k:Int)+1)) W3):=⟨k+1,om,si,by rw [Hr.out]; exact hJ3,hcar.trans ((Carry.of_below al).trans hk3)⟩;clear hJ3 hk3 hcar al;gi_wp2;exact ⟨Hfin.out,by simp [intOf]; omega⟩
   ·gi_wp2;refine bodyPost_ret (results_none rfl _ _ _) rfl ?_;exact ⟨⟨_,rfl⟩,.inr ⟨_,by rw [<-Hr.out]; exact zA8 om,hJx3⟩⟩
  ·(obtain rfl:k=lb:=om);gi_wp2;go_end0;exact ⟨⟨_,rfl⟩,.inl ⟨_,rfl,hJs⟩⟩
theorem zEQ {rv:Nat->SV} {vb:Nat->QV} (hn:1<=n) (h1:w1.heap[B1]?=some (.cells #[p.n,p.O.val,p.R.val,p.B.val] 25 (0,0))) (hb1:X B1)
  (ha:RowsE w1 X p.R rv) (hb:Elems w1 X p.B vb) (hN:p.R.n=N) (hNb:p.B.n=N) (hN2:N<=1000000) :
  SeqStopsK Fence.wide n Tryz.prog 211 #[.pointer (some B1)] (fun x:Nat=>#[(rv x).val,(vb x).val]) (Carry X) (fun ys=>ys=List.range N) (fun pre=>pre <+: List.range N) N w1:=fun _l J Jx W hW hJ _ hY h0=>
 zI7 hn J Jx W hJ hY ((hW.block B1 (zAa h1)).trans h1) hb1 (ha.carry (Carry.of_below hW)) (hb.carry (Carry.of_below hW)) hN hNb hN2 h0
end Go.Proofs.YtbpngececjihlaaGreat
namespace Go.Proofs.YtbpngececjihlaaGreat
open Go.RowKit Go.Shelf
attribute [local go_sem] Oper.semAt_some
end Go.Proofs.YtbpngececjihlaaGreat
