/- Texts Pairs of this claim. -/
import Derived.Test.YtbpngececjihlaaGreatB16
import Derived.Deep.Slices
set_option maxHeartbeats 4000000
set_option maxRecDepth 100000
namespace Go.Proofs.YtbpngececjihlaaGreat
open Go.RowKit Go.Shelf
variable {s sa sb:SV} {X:Nat->Prop} {W W' w:World} {l:List Rat} {n B1 N:Nat}
attribute [local go_sem] Oper.semAt_some
def QV.zero:QV:=⟨⟨false,none,0,0⟩,⟨false,none,0,0⟩⟩
instance:Inhabited QV:=⟨QV.zero⟩
structure Elems (W:World) (X:Nat->Prop) (s:SV) (v:Nat->QV):Prop where
 le:s.n<=s.c
 cap:s.c<=9223372036854775807
 elem:∀ i,i<s.n->∃ ad,s.A=some ad/\X ad.block/\QCell W (ad.add (i*4)) (v i)
 rest:∀ i,s.n<=i->v i=QV.zero
theorem Elems.carry {v:Nat->QV} (h:Elems W X s v) (hk:Carry X W W'):Elems W' X s v:=
 ⟨h.le,h.cap,fun i hi=>by
  obtain ⟨ad,e,hx,hc⟩:=h.elem i hi;exact ⟨ad,e,hx,hc.carry hk (by rw [zAj]; exact hx)⟩,h.rest⟩
theorem VecAt.elems {R:QV->Rat->Prop} (h:VecAt W X R s l) (h0:R QV.zero 0):∃ v,Elems W X s v/\∀ i,R (v i) (l.getD i 0):=by
 obtain ⟨f,hf⟩:=Deep.choose_lt (α:=QV) (n:=s.n) (p:=fun i v=>(∃ ad,s.A=some ad/\X ad.block/\QCell W (ad.add (i*4)) v)/\R v (l.getD i 0)) (fun i hi=>by
  obtain ⟨ad,v,e,hx,hc,hr⟩:=h.elem i hi;exact ⟨v,⟨ad,e,hx,hc⟩,hr⟩)
 refine ⟨fun i=>if i<s.n then f i else QV.zero,⟨h.le,h.cap,fun i hi=>?_,fun i hi=>if_neg om⟩,fun i=>?_⟩
 ·rw [if_pos hi]; exact (hf i hi).1
 ·by_cases hi:i<s.n
  ·dsimp only; rw [if_pos hi]; exact (hf i hi).2
  ·dsimp only; rw [if_neg hi,zAw _ _ _ (by rw [h.len]; omega)]; exact h0
theorem zFZ (A B:Option Addr) (la ca lb cb:Nat) :
  CallsIn Fence.wide n Tryz.prog 101 #[.slice A la ca,.slice B lb cb] w fun e w'=>e = .returned (.func (.func 171) #[] #[.pointer (some w),.pointer (some ⟨w+1,0,none⟩)])/\
   w'=(w.alloc (.cells #[.slice A la ca] 23)).alloc (.cells #[.slice B lb cb] 23):=by
 refine callsIn_of_wp Tryz.func101 rfl trivial ?_ rfl;simp only [Tryz.ntmps101,List.size_toArray,List.length_cons,List.length_nil,Nat.reduceAdd,Nat.reduceSub,Array.replicate_succ,Array.replicate_zero,List.push_toArray,List.append_toArray,List.nil_append,List.cons_append];gi_wp2;go_ret;exact ⟨si,si⟩
def PIter (W:World) (X:Nat->Prop) (N:Nat) (J:List Nat->World->Prop) (t:Value) (W':World):Prop:=
 ∃ k:Nat,k<=N/\t = .int .i64 k/\J (List.range k) W'/\Carry X W W'
theorem zHL {l B2:Nat} {va vb:Nat->QV} (hn:1<=n) (J Jx:List Nat->World->Prop) (W:World) (hJ:AbidesFrom W J)
  (hY:∀ pre x W1,J pre W1->pre.length<N->YieldAt Fence.wide (n-1) Tryz.prog l #[(va x).val,(vb x).val] W1 fun e W'=>
   (e = .returned true/\J (pre++[x]) W'/\Carry X W1 W')\/(e = .returned false/\Jx (pre++[x]) W'))
  (h1:W.heap[B1]?=some (.cells #[sa.val] 23 (0,0))) (h2:W.heap[B2]?=some (.cells #[sb.val] 23 (0,0))) (hb1:X B1) (hb2:X B2)
  (ha:Elems W X sa va) (hb:Elems W X sb vb) (hN:N=max sa.n sb.n) (hN2:N<=1000000) (h0:J [] W) :
  CallsIn Fence.wide n Tryz.prog 171 #[.func (.yield l) #[] #[],.pointer (some B1),.pointer (some B2)] W fun e W'=>(∃ v,e = .returned v)/\
   ((∃ ys,ys=List.range N/\J ys W')\/(∃ pre,pre <+: List.range N/\Jx pre W')):=by
 obtain ⟨A,la,ca⟩:=sa;obtain ⟨B,lb,cb⟩:=sb;dsimp only [SV.val] at h1 h2 hN;have c1:W.cell? B1=some (.slice A la ca):=by simp only [World.cell?,h1]; simp
 have c2:W.cell? B2=some (.slice B lb cb):=by simp only [World.cell?,h2]; simp
 have qa:la<=ca:=ha.le;have qb:lb<=cb:=hb.le;have qa':ca<=9223372036854775807:=ha.cap;have qb':cb<=9223372036854775807:=hb.cap;refine callsIn_of_wp Tryz.func171 rfl trivial ?_ rfl;simp only [Tryz.ntmps171,List.size_toArray,List.length_cons,List.length_nil,Nat.reduceAdd,Nat.reduceSub,Array.replicate_succ,Array.replicate_zero,List.push_toArray,List.append_toArray,List.nil_append,List.cons_append];gi_wp2;rw [show (max (la:Int) (lb:Int))=(N:Int) from by omega];have Ha:=hdq ha;have Hb:=hdq hb;have HN:=hdq hN;have HY:=hdq hY;have HJ:=hdq hJ;clear ha hb hN hY hJ;gi_loopw [12] (fun i wr=>PIter W X N J i wr) (fun i _=>N-(intOf i).toNat)
 case atStart=>exact ⟨0,nzl _,rfl,h0,Carry.refl _ _⟩
 case round=>
  obtain ⟨k,hk,rfl,hJs,hcar⟩:=hrel;have d1:wr.cell? B1=some (.slice A la ca):=hcar.cell (p:=B1) hb1 c1;have d2:wr.cell? B2=some (.slice B lb cb):=hcar.cell (p:=B2) hb2 c2;have t1:B1<wr.heap.size:=zAb d1;have t2:B2<wr.heap.size:=zAb d2;by_cases hlt:k<N
  ·have Hr:=hdq (show List.range (k+1)=List.range k++[k] from List.range_succ);have ha2:=Ha.out.carry hcar;have hb2':=Hb.out.carry hcar;have al:Below wr wr ((wr.alloc (.cells #[(.bool (va k).num.ng),(.slice (va k).num.A (va k).num.n (va k).num.c),(.bool (va k).den.ng),(.slice (va k).den.A (va k).den.n (va k).den.c)] 30)).alloc (.cells #[(.bool (vb k).num.ng),(.slice (vb k).num.A (vb k).num.n (vb k).num.c),(.bool (vb k).den.ng),(.slice (vb k).den.A (vb k).den.n (vb k).den.c)] 30)):=(bal).alloc si _;have hgb:wr.grownBy _ none:=⟨al.os,al.tape,al.output,al.size,fun k hk _=>al.block k hk⟩;have hJ2:=HJ.out _ wr _ none hJs hgb (fun r e=>by cases e);obtain ⟨fn,tmps,assign,body,hy,hR⟩:=HY.out _ k _ hJ2 (by simpa using hlt);clear hgb hJ2 hJs;by_cases hka:k<la
   ·obtain ⟨a1,e,-,⟨q0,q1,q2,q3⟩⟩:=ha2.elem k hka;dsimp only at e q1 q2 q3;subst e;have tq:(a1.add (k*4)).block<wr:=zAb q0;have hkai:(k:Int)<(la:Int):=om;by_cases hkb:k<lb
    ·obtain ⟨a2,e,-,⟨p0,p1,p2,p3⟩⟩:=hb2'.elem k hkb;dsimp only at e p1 p2 p3;subst e;have tp:(a2.add (k*4)).block<wr:=zAb p0;have hkbi:(k:Int)<(lb:Int):=om;clear ha2 hb2';gi_wp2;refine hR.mono ?_;rintro e W3 (⟨rfl,hJ3,hk3⟩ | ⟨rfl,hJx3⟩)
     ·have Hfin:Hid (PIter W X N J (.int .i64 ((k:Int)+1)) W3):=⟨k+1,om,si,by rw [Hr.out]; exact hJ3,hcar.trans ((Carry.of_below al).trans hk3)⟩;clear hJ3 hk3 hcar al;gi_wp2;exact ⟨Hfin.out,by simp [intOf]; omega⟩
     ·gi_wp2;refine bodyPost_ret (results_none rfl _ _ _) rfl ?_;exact ⟨⟨_,rfl⟩,.inr ⟨_,by rw [<-Hr.out]; exact zA8 om,hJx3⟩⟩
    ·have ez:vb k=QV.zero:=hb2'.rest k (show lb<=k by omega);rw [ez] at hy hR al;dsimp only [QV.zero] at hy hR al;have hkbi:¬ (k:Int)<(lb:Int):=om;clear ha2 hb2';gi_wp2;refine hR.mono ?_;rintro e W3 (⟨rfl,hJ3,hk3⟩ | ⟨rfl,hJx3⟩)
     ·have Hfin:Hid (PIter W X N J (.int .i64 ((k:Int)+1)) W3):=⟨k+1,om,si,by rw [Hr.out]; exact hJ3,hcar.trans ((Carry.of_below al).trans hk3)⟩;clear hJ3 hk3 hcar al;gi_wp2;exact ⟨Hfin.out,by simp [intOf]; omega⟩
     ·gi_wp2;refine bodyPost_ret (results_none rfl _ _ _) rfl ?_;exact ⟨⟨_,rfl⟩,.inr ⟨_,by rw [<-Hr.out]; exact zA8 om,hJx3⟩⟩
   ·have ez:va k=QV.zero:=ha2.rest k (show la<=k by omega);rw [ez] at hy hR al;dsimp only [QV.zero] at hy hR al;have hkai:¬ (k:Int)<(la:Int):=om;have hkb:k<lb:=by have:=HN.out; omega
    obtain ⟨a2,e,-,⟨p0,p1,p2,p3⟩⟩:=hb2'.elem k hkb;dsimp only at e p1 p2 p3;subst e;have tp:(a2.add (k*4)).block<wr:=zAb p0;have hkbi:(k:Int)<(lb:Int):=om;clear ha2 hb2';gi_wp2;refine hR.mono ?_;rintro e W3 (⟨rfl,hJ3,hk3⟩ | ⟨rfl,hJx3⟩)
    ·have Hfin:Hid (PIter W X N J (.int .i64 ((k:Int)+1)) W3):=⟨k+1,om,si,by rw [Hr.out]; exact hJ3,hcar.trans ((Carry.of_below al).trans hk3)⟩;clear hJ3 hk3 hcar al;gi_wp2;exact ⟨Hfin.out,by simp [intOf]; omega⟩
    ·gi_wp2;refine bodyPost_ret (results_none rfl _ _ _) rfl ?_;exact ⟨⟨_,rfl⟩,.inr ⟨_,by rw [<-Hr.out]; exact zA8 om,hJx3⟩⟩
  ·(obtain rfl:k=N:=om);gi_wp2;go_end0;exact ⟨⟨_,rfl⟩,.inl ⟨_,rfl,hJs⟩⟩
end Go.Proofs.YtbpngececjihlaaGreat
