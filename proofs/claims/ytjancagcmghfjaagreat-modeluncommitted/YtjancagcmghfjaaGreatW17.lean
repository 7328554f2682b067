/- Texts McPairs McCompare McDot McMatI MqD of this claim. -/
import Derived.Test.YtjancagcmghfjaaGreatW16
import Derived.Deep.Cut
import Derived.Deep.CutRange
import Derived.Deep.DeepCutAuto
import Derived.Test.YtjancagcmghfjaaGreatW10
import Derived.Test.YtjancagcmghfjaaGreatW13
set_option maxHeartbeats 4000000
set_option maxRecDepth 100000
namespace Go.Proofs.YtjancagcmghfjaaGreat
open Go.RowKit Go.Shelf
variable {s sa sb:SV} {X:Nat->Prop} {W W' w:World} {n B1 B2 N:Nat}
attribute [local go_sem] Oper.semAt_some
structure Elems (W:World) (X:Nat->Prop) (s:SV) (v:Nat->QV):Prop where
 le:s.n<=s.c
 cap:s.c<=9223372036854775807
 elem:∀ i,i<s.n->∃ ad,s.A=some ad/\X ad.block/\QCell W (ad.add (i*4)) (v i)
 rest:∀ i,s.n<=i->v i=QV.zero
theorem Elems.carry {v:Nat->QV} (h:Elems W X s v) (hk:Carry X W W'):Elems W' X s v:=
 ⟨h.le,h.cap,fun i hi=>by
  obtain ⟨ad,e,hx,hc⟩:=h.elem i hi;exact ⟨ad,e,hx,hc.carry hk (by rw [zAj]; exact hx)⟩,h.rest⟩
theorem VecAt.elems {R:QV->Rat->Prop} {l:List Rat} (h:VecAt W X R s l) (h0:R QV.zero 0):∃ v,Elems W X s v/\∀ i,R (v i) (l.getD i 0):=by
 obtain ⟨f,hf⟩:=Deep.choose_lt (α:=QV) (n:=s.n) (p:=fun i v=>(∃ ad,s.A=some ad/\X ad.block/\QCell W (ad.add (i*4)) v)/\R v (l.getD i 0)) (fun i hi=>by
  obtain ⟨ad,v,e,hx,hc,hr⟩:=h.elem i hi;exact ⟨v,⟨ad,e,hx,hc⟩,hr⟩)
 refine ⟨fun i=>if i<s.n then f i else QV.zero,⟨h.le,h.cap,fun i hi=>?_,fun i hi=>if_neg (by omega)⟩,fun i=>?_⟩
 ·rw [if_pos hi]; exact (hf i hi).1
 ·by_cases hi:i<s.n
  ·dsimp only; rw [if_pos hi]; exact (hf i hi).2
  ·dsimp only; rw [if_neg hi,zAw _ _ _ (by rw [h.len]; omega)]; exact h0
theorem zFZ (A B:Option Addr) (la ca lb cb:Nat) :
  CallsIn Fence.wide n Tryz.prog 113 #[.slice A la ca,.slice B lb cb] w fun e w'=>e = .returned (.func (.func 160) #[] #[.pointer (some w),.pointer (some ⟨w+1,0,none⟩)])/\
   w'=(w.alloc (.cells #[.slice A la ca] 34)).alloc (.cells #[.slice B lb cb] 34):=by
 refine callsIn_of_wp Tryz.func113 rfl trivial ?_ rfl;simp only [Tryz.ntmps113,List.size_toArray,List.length_cons,List.length_nil,Nat.reduceAdd,Nat.reduceSub,Array.replicate_succ,Array.replicate_zero,List.push_toArray,List.append_toArray,List.nil_append,List.cons_append];gi_wp2;go_ret;exact ⟨by simp,by simp⟩
def PIter (W:World) (X:Nat->Prop) (N:Nat) (J:List Nat->World->Prop) (t:Value) (W':World):Prop:=
 ∃ k:Nat,k<=N/\t = .int .i64 k/\J (List.range k) W'/\Carry X W W'
theorem zHL {l:Nat} {va vb:Nat->QV} (hn:1<=n) (J Jx:List Nat->World->Prop) (W:World) (hJ:AbidesFrom W J)
  (hY:∀ pre x W1,J pre W1->pre.length<N->YieldAt Fence.wide (n-1) Tryz.prog l #[(va x).val,(vb x).val] W1 fun e W'=>
   (e = .returned (.bool true)/\J (pre++[x]) W'/\Carry X W1 W')\/(e = .returned (.bool false)/\Jx (pre++[x]) W'))
  (h1:W.heap[B1]?=some (.cells #[sa.val] 34 (0,0))) (h2:W.heap[B2]?=some (.cells #[sb.val] 34 (0,0))) (hb1:X B1) (hb2:X B2)
  (ha:Elems W X sa va) (hb:Elems W X sb vb) (hN:N=max sa.n sb.n) (hN2:N<=1000000) (h0:J [] W) :
  CallsIn Fence.wide n Tryz.prog 160 #[.func (.yield l) #[] #[],.pointer (some B1),.pointer (some B2)] W fun e W'=>(∃ v,e = .returned v)/\
   ((∃ ys,ys=List.range N/\J ys W')\/(∃ pre,pre <+: List.range N/\Jx pre W')):=by
 obtain ⟨A,la,ca⟩:=sa;obtain ⟨B,lb,cb⟩:=sb;dsimp only [SV.val] at h1 h2 hN;have c1:W.cell? B1=some (.slice A la ca):=by simp only [World.cell?,h1]; simp
 have c2:W.cell? B2=some (.slice B lb cb):=by simp only [World.cell?,h2]; simp
 have qa:la<=ca:=ha.le;have qb:lb<=cb:=hb.le;have qa':ca<=9223372036854775807:=ha.cap;have qb':cb<=9223372036854775807:=hb.cap;refine callsIn_of_wp Tryz.func160 rfl trivial ?_ rfl;simp only [Tryz.ntmps160,List.size_toArray,List.length_cons,List.length_nil,Nat.reduceAdd,Nat.reduceSub,Array.replicate_succ,Array.replicate_zero,List.push_toArray,List.append_toArray,List.nil_append,List.cons_append];gi_wp2;rw [show (max (la:Int) (lb:Int))=(N:Int) from by omega];have Ha:=hdq ha;have Hb:=hdq hb;have HN:=hdq hN;have HY:=hdq hY;have HJ:=hdq hJ;clear ha hb hN hY hJ;gi_loopw [12] (fun i wr=>PIter W X N J i wr) (fun i _=>N-(intOf i).toNat)
 case atStart=>exact ⟨0,nzl _,rfl,h0,Carry.refl _ _⟩
 case round=>
  obtain ⟨k,hk,rfl,hJs,hcar⟩:=hrel;have d1:wr.cell? B1=some (.slice A la ca):=hcar.cell (p:=B1) hb1 c1;have d2:wr.cell? B2=some (.slice B lb cb):=hcar.cell (p:=B2) hb2 c2;have t1:B1<wr.heap.size:=zAb d1;have t2:B2<wr.heap.size:=zAb d2;by_cases hlt:k<N
  ·have Hr:=hdq (show List.range (k+1)=List.range k++[k] from List.range_succ);have ha2:=Ha.out.carry hcar;have hb2':=Hb.out.carry hcar;have al:Below wr wr ((wr.alloc (.cells #[(.bool (va k).num.ng),(.slice (va k).num.A (va k).num.n (va k).num.c),(.bool (va k).den.ng),(.slice (va k).den.A (va k).den.n (va k).den.c)] 80)).alloc (.cells #[(.bool (vb k).num.ng),(.slice (vb k).num.A (vb k).num.n (vb k).num.c),(.bool (vb k).den.ng),(.slice (vb k).den.A (vb k).den.n (vb k).den.c)] 80)):=(bal).alloc (by simp) _;have hgb:wr.grownBy _ none:=⟨al.os,al.tape,al.output,al.size,fun k hk _=>al.block k hk⟩;have hJ2:=HJ.out _ wr _ none hJs hgb (fun r e=>by cases e);obtain ⟨fn,tmps,assign,body,hy,hR⟩:=HY.out _ k _ hJ2 (by simpa using hlt);clear hgb hJ2 hJs;by_cases hka:k<la
   ·obtain ⟨a1,e,-,⟨q0,q1,q2,q3⟩⟩:=ha2.elem k hka;dsimp only at e q1 q2 q3;subst e;have tq:(a1.add (k*4)).block<wr:=zAb q0;have hkai:(k:Int)<(la:Int):=(by omega);by_cases hkb:k<lb
    ·obtain ⟨a2,e,-,⟨p0,p1,p2,p3⟩⟩:=hb2'.elem k hkb;dsimp only at e p1 p2 p3;subst e;have tp:(a2.add (k*4)).block<wr:=zAb p0;have hkbi:(k:Int)<(lb:Int):=(by omega);clear ha2 hb2';gi_wp2;refine hR.mono ?_;rintro e W3 (⟨rfl,hJ3,hk3⟩ | ⟨rfl,hJx3⟩)
     ·have Hfin:Hid (PIter W X N J (.int .i64 ((k:Int)+1)) W3):=⟨k+1,by omega,by simp,by rw [Hr.out]; exact hJ3,hcar.trans ((Carry.of_below al).trans hk3)⟩;clear hJ3 hk3 hcar al;gi_wp2;exact ⟨Hfin.out,by simp [intOf]; omega⟩
     ·gi_wp2;refine bodyPost_ret (results_none rfl _ _ _) rfl ?_;exact ⟨⟨_,rfl⟩,.inr ⟨_,by rw [<-Hr.out]; exact zA8 (by omega),hJx3⟩⟩
    ·have ez:vb k=QV.zero:=hb2'.rest k (show lb<=k by omega);rw [ez] at hy hR al;dsimp only [QV.zero] at hy hR al;have hkbi:¬ (k:Int)<(lb:Int):=(by omega);clear ha2 hb2';gi_wp2;refine hR.mono ?_;rintro e W3 (⟨rfl,hJ3,hk3⟩ | ⟨rfl,hJx3⟩)
     ·have Hfin:Hid (PIter W X N J (.int .i64 ((k:Int)+1)) W3):=⟨k+1,by omega,by simp,by rw [Hr.out]; exact hJ3,hcar.trans ((Carry.of_below al).trans hk3)⟩;clear hJ3 hk3 hcar al;gi_wp2;exact ⟨Hfin.out,by simp [intOf]; omega⟩
     ·gi_wp2;refine bodyPost_ret (results_none rfl _ _ _) rfl ?_;exact ⟨⟨_,rfl⟩,.inr ⟨_,by rw [<-Hr.out]; exact zA8 (by omega),hJx3⟩⟩
   ·have ez:va k=QV.zero:=ha2.rest k (show la<=k by omega);rw [ez] at hy hR al;dsimp only [QV.zero] at hy hR al;have hkai:¬ (k:Int)<(la:Int):=(by omega);have hkb:k<lb:=by have:=HN.out; omega
    obtain ⟨a2,e,-,⟨p0,p1,p2,p3⟩⟩:=hb2'.elem k hkb;dsimp only at e p1 p2 p3;subst e;have tp:(a2.add (k*4)).block<wr:=zAb p0;have hkbi:(k:Int)<(lb:Int):=(by omega);clear ha2 hb2';gi_wp2;refine hR.mono ?_;rintro e W3 (⟨rfl,hJ3,hk3⟩ | ⟨rfl,hJx3⟩)
    ·have Hfin:Hid (PIter W X N J (.int .i64 ((k:Int)+1)) W3):=⟨k+1,by omega,by simp,by rw [Hr.out]; exact hJ3,hcar.trans ((Carry.of_below al).trans hk3)⟩;clear hJ3 hk3 hcar al;gi_wp2;exact ⟨Hfin.out,by simp [intOf]; omega⟩
    ·gi_wp2;refine bodyPost_ret (results_none rfl _ _ _) rfl ?_;exact ⟨⟨_,rfl⟩,.inr ⟨_,by rw [<-Hr.out]; exact zA8 (by omega),hJx3⟩⟩
  ·(obtain rfl:k=N:=by omega);gi_wp2;go_end0;exact ⟨⟨_,rfl⟩,.inl ⟨_,rfl,hJs⟩⟩
end Go.Proofs.YtjancagcmghfjaaGreat
namespace Go.Proofs.YtjancagcmghfjaaGreat
open Go.RowKit Go.Shelf
variable {w1 W w:World} {sa sb s:SV} {X X' Y Y':Nat->Prop} {n B1 B2 N L M:Nat} {p q:Rat}
theorem zKD (p q:Rat):(p<q/\qcmp p q=-1)\/(p=q/\qcmp p q=0)\/(q<p/\qcmp p q=1):=by
 unfold qcmp;by_cases h:p<q
 ·exact .inl ⟨h,if_pos h⟩
 ·by_cases h2:p=q
  ·exact .inr (.inl ⟨h2,by rw [if_neg h,if_pos h2]⟩)
  ·exact .inr (.inr ⟨by grind,by rw [if_neg h,if_neg h2]⟩)
attribute [local go_sem] Oper.semAt_some
theorem zDL {va vb:Nat->QV} (hn:1<=n) (h1:w1.heap[B1]?=some (.cells #[sa.val] 34 (0,0))) (h2:w1.heap[B2]?=some (.cells #[sb.val] 34 (0,0))) (hb1:X B1) (hb2:X B2)
  (ha:Elems w1 X sa va) (hb:Elems w1 X sb vb) (hN:N=max sa.n sb.n) (hN2:N<=1000000) :
  SeqStopsK Fence.wide n Tryz.prog 160 #[.pointer (some B1),.pointer (some B2)] (fun x:Nat=>#[(va x).val,(vb x).val]) (Carry X) (fun ys=>ys=List.range N) (fun pre=>pre <+: List.range N) N w1:=fun _ J Jx W hW hJ _ hY h0=>
 zHL hn J Jx W hJ hY ((hW.block B1 (zAa h1)).trans h1) ((hW.block B2 (zAa h2)).trans h2) hb1 hb2 (ha.carry (Carry.of_below hW)) (hb.carry (Carry.of_below hW)) hN hN2 h0
theorem Elems.imp {v:Nat->QV} (h:Elems W X s v) (hx:∀ b,X b->X' b):Elems W X' s v:=
 ⟨h.le,h.cap,fun i hi=>by obtain ⟨ad,e,h1,h2⟩:=h.elem i hi; exact ⟨ad,e,hx _ h1,h2⟩,h.rest⟩
def vcmp (a b:Nat->Rat):Nat->Int
 | 0=>0
 | n+1=>if vcmp a b n=0 then qcmp (a n) (b n) else vcmp a b n
theorem zKE (p:Rat):qcmp p p=0:=by unfold qcmp; rw [if_neg (by grind),if_pos rfl]
theorem zKy (h:p ≠ q):qcmp p q ≠ 0:=by
 rcases zKD p q with ⟨_,e⟩ | ⟨h',_⟩ | ⟨_,e⟩
 ·rw [e]; decide
 ·exact absurd h' h
 ·rw [e]; decide
theorem zKq {a b:Nat->Rat}:∀ {n:Nat},(∀ i,i<n->a i=b i)->vcmp a b n=0
 | 0,_=>rfl
 | n+1,h=>by
  show (if vcmp a b n=0 then qcmp (a n) (b n) else vcmp a b n)=0;rw [if_pos (zKq fun i hi=>h i (by omega)),h n (by omega),zKE]
theorem zKr {a b:Nat->Rat} {x:Nat} (h:∀ i,i<x->a i=b i) (hx:a x ≠ b x):∀ {n:Nat},x<n->vcmp a b n=qcmp (a x) (b x)
 | 0,h'=>by omega
 | n+1,h'=>by
  show (if vcmp a b n=0 then qcmp (a n) (b n) else vcmp a b n)=_;by_cases e:x=n
  ·subst e; rw [if_pos (zKq h)]
  ·have ih:=zKr h hx (n:=n) (by omega);rw [if_neg (by rw [ih]; exact zKy hx),ih]
theorem zKA {a b:Nat->Rat} :vcmp a b n=0 ↔ ∀ i,i<n->a i=b i:=by
 refine ⟨fun h=>?_,zKq⟩
 induction n with
 | zero=>intro i hi; omega
 | succ n ih=>
  have h':(if vcmp a b n=0 then qcmp (a n) (b n) else vcmp a b n)=0:=h;by_cases e:vcmp a b n=0
  ·rw [if_pos e] at h';intro i hi;by_cases ei:i=n
   ·subst ei;by_cases hne:a i=b i
    ·exact hne
    ·exact absurd h' (zKy hne)
   ·exact ih e i (by omega)
  ·rw [if_neg e] at h'; exact absurd h' e
theorem zGD {pre:List Nat} {pr:List Nat} {x:Nat} (h:pre <+: List.range N) (e:pre=pr++[x]):x<N/\pr=List.range x:=by
 subst e;obtain ⟨t,ht⟩:=h
 have hl:pr.length<N:=by
  have:=congrArg List.length ht;simp at this; omega
 have hx:x=pr.length:=by
  have:(pr++[x]++t)[pr.length]?=(List.range N)[pr.length]?:=by rw [ht]
  rw [List.append_assoc,List.getElem?_append_right (nlr _),List.getElem?_range hl] at this;simpa using this
 refine ⟨by omega,?_⟩;apply List.ext_getElem
 ·simp [hx]
 ·intro i h1 h2;have:(pr++[x]++t)[i]?=(List.range N)[i]?:=by rw [ht]
  rw [List.append_assoc,List.getElem?_append_left h1,List.getElem?_range (by omega),gge h1] at this;simpa using this
def CmpInv (w:World) (a b:Nat->Rat) (pre:List Nat) (W:World):Prop:=
 Boxed W w 3 (.int .i64 0)/\Carry (fun y=>y ≠ w.heap.size) w W/\∀ x ∈ pre,a x=b x
def CmpOut (w:World) (a b:Nat->Rat) (c:Code) (pre:List Nat) (W:World):Prop:=
 c = .ret/\∃ pr x,pre=pr++[x]/\a x ≠ b x/\(∀ y ∈ pr,a y=b y)/\Boxed W w 3 (.int .i64 (qcmp (a x) (b x)))/\Below w w W
theorem CmpInv.own {a b:Nat->Rat}:Own (CmpInv w a b):=fun _s _W _W' _row hs hg hr=>⟨zAi hg hr hs.1,hs.2.1.trans (Carry.grown hg hr),hs.2.2⟩
theorem zKw {la lb:List Rat} (ha:VecIs w X Y L sa la) (hb:VecIs w X' Y' M sb lb) (hL:L<=LM) (hM:M<=LM) (hna:sa.n<=1000000) (hnb:sb.n<=1000000) :
  Calls Tryz.prog 106 #[sa.val,sb.val] w fun e w'=>e = .returned (.int .i64 (vcmp (fun i=>la.getD i 0) (fun i=>lb.getD i 0) (max sa.n sb.n)))/\Below w w w':=by
 refine (callsIn_wide (n:=6)).1 ?_;have HL:=hdq hL;have HM:=hdq hM;have h0a:QIs w (fun _=>True) L QV.zero 0:=⟨0,0,⟨[],WordsAt.nil _ _ _ _ (nzl _),nzl _,rfl⟩,⟨[],WordsAt.nil _ _ _ _ (nzl _),nzl _,rfl⟩,by simp [qv]⟩;have h0b:QIs w (fun _=>True) M QV.zero 0:=⟨0,0,⟨[],WordsAt.nil _ _ _ _ (nzl _),nzl _,rfl⟩,⟨[],WordsAt.nil _ _ _ _ (nzl _),nzl _,rfl⟩,by simp [qv]⟩;obtain ⟨va,hva,hqa⟩:=(ha.imp (X':=fun y=>y<w.heap.size) (R':=QIs w (fun _=>True) L) (fun b hb _=>hb) (fun _ _ h=>h.any)).elems h0a;obtain ⟨vb,hvb,hqb⟩:=(hb.imp (X':=fun y=>y<w.heap.size) (R':=QIs w (fun _=>True) M) (fun b hb _=>hb) (fun _ _ h=>h.any)).elems h0b;have HA:=hdq hva;have HB:=hdq hvb;have HQA:Hid (∀ i,QIs w (fun y=>y<w.heap.size) L (va i) (la.getD i 0)):=fun i=>(hqa i).imp fun b hb _=>hb
 have HQB:Hid (∀ i,QIs w (fun y=>y<w.heap.size) M (vb i) (lb.getD i 0)):=fun i=>(hqb i).imp fun b hb _=>hb
 obtain ⟨A,la',ca⟩:=sa;obtain ⟨B,lb',cb⟩:=sb;obtain ⟨fa,hfa⟩:∃ fa:Nat->Rat,fa=fun i=>la.getD i 0:=⟨_,rfl⟩
 obtain ⟨fb,hfb⟩:∃ fb:Nat->Rat,fb=fun i=>lb.getD i 0:=⟨_,rfl⟩
 replace HQA:Hid (∀ i,QIs w (fun y=>y<w.heap.size) L (va i) (fa i)):=by rw [hfa]; exact HQA
 replace HQB:Hid (∀ i,QIs w (fun y=>y<w.heap.size) M (vb i) (fb i)):=by rw [hfb]; exact HQB
 rw [<-hfa,<-hfb];clear hfa hfb;clear ha hb hL hM h0a h0b hva hvb hqa hqb;dsimp only [SV.val] at hna hnb ⊢;obtain ⟨N,hN⟩:∃ N,N=max la' lb':=⟨_,rfl⟩;rw [<-hN];have HN:=hdq hN;clear hN;refine callsIn_of_wp_marks Tryz.func106 rfl trivial ?_ rfl;simp only [Tryz.ntmps106,List.size_toArray,List.length_cons,List.length_nil,Nat.reduceAdd,Nat.reduceSub,Array.replicate_succ,Array.replicate_zero,List.push_toArray,List.append_toArray,List.nil_append,List.cons_append];gi_wp2;refine ⟨trivial,?_⟩;refine (zFZ A B la' ca lb' cb).mono ?_;rintro e w2 ⟨rfl,rfl⟩;gi_wp2;obtain ⟨W0,hW0⟩:∃ W0,((w.alloc (.cells #[.int .i64 0] 3)).alloc (.cells #[.slice A la' ca] 34)).alloc (.cells #[.slice B lb' cb] 34)=W0:=⟨_,rfl⟩;rw [hW0];have hk0:Below w w W0:=by rw [<-hW0]; exact (((brf _ w).alloc (nlr _) _).alloc (by simp) _).alloc (by simp; omega) _
 have hs0:W0.heap.size=w.heap.size+3:=by rw [<-hW0]; simp
 have x0:Boxed W0 w 3 (.int .i64 0):=by rw [<-hW0]; exact ((Boxed.new w _ _).alloc _).alloc _
 have x1:Boxed W0 (w+1) 34 (.slice A la' ca):=by
  have:=(Boxed.new (w.alloc (.cells #[.int .i64 0] 3)) 34 (.slice A la' ca)).alloc (.cells #[.slice B lb' cb] 34);rw [World.size_alloc,hW0] at this; exact this
 have x2:Boxed W0 (w+1+1) 34 (.slice B lb' cb):=by
  have:=Boxed.new ((w.alloc (.cells #[.int .i64 0] 3)).alloc (.cells #[.slice A la' ca] 34)) 34 (.slice B lb' cb);rw [World.size_alloc,World.size_alloc,hW0] at this; exact this
 clear hW0
 refine wpIn_rangeFunc_ownH (F:=Fence.wide) rfl (by omega) (gf:=160) (lb:=#[.pointer (some ⟨w+1,0,none⟩),.pointer (some ⟨w+1+1,0,none⟩)]) rfl trivial (enters_of Tryz.func160 (by kernel_rfl) rfl)
  (zDL (X:=fun y=>y ≠ w.heap.size) (sa:=⟨A,la',ca⟩) (sb:=⟨B,lb',cb⟩) (va:=va) (vb:=vb) (N:=N) (by omega) x1 x2 (by omega) (by omega)
   ((HA.out.carry (Carry.of_below hk0)).imp fun b hb=>by omega) ((HB.out.carry (Carry.of_below hk0)).imp fun b hb=>by omega) HN.out (by have:=HN.out; omega))
  (fun h k=>h.trans k) (fun W l o o' _ hl ho _=>Carry.putObj o' hl ho) (brf _ _) (fun _=>rfl)
  (fun pre W=>CmpInv w fa fb pre W/\Below w w W)
  (fun c pre W=>CmpOut w fa fb c pre W)
  (OwnFrom.and (Own.from CmpInv.own _) (ownFrom_below (nlr _) (by omega)))
  (fun c s W W' row hs hg hr=>?hIx)
  ⟨⟨x0,Carry.of_below hk0,fun x hx=>by cases hx⟩,hk0⟩
  (fun x a' W=>∃ g,a'={tmps:=#[.slice A la' ca,.slice B lb' cb,undef,undef,.pointer (some w),.pointer (some ⟨g,0,none⟩),.pointer (some ⟨g+1,0,none⟩),undef,.slice A la' ca,.slice B lb' cb,.func (.func 160) #[] #[.pointer (some ⟨w+1,0,none⟩),.pointer (some ⟨w+1+1,0,none⟩)],(va x).val,(vb x).val,undef,undef,undef,undef,undef,undef],defers:=[]}/\W.heap[g]?=some (.cells #[.bool (va x).num.ng,.slice (va x).num.A (va x).num.n (va x).num.c,.bool (va x).den.ng,.slice (va x).den.A (va x).den.n (va x).den.c] 80 (0,0))/\W.heap[g+1]?=some (.cells #[.bool (vb x).num.ng,.slice (vb x).num.A (vb x).num.n (vb x).num.c,.bool (vb x).den.ng,.slice (vb x).den.A (vb x).den.n (vb x).den.c] 80 (0,0)))
  (fun x a' _ W W' row hs hg hr=>?hAx) ?assign ?body ?done ?stop
 case hAx=>
  obtain ⟨g,e,g1,g2⟩:=hs;exact ⟨g,e,zAi hg (fun r e=>(hr r e).2) g1,zAi hg (fun r e=>(hr r e).2) g2⟩
 case hIx=>
  obtain ⟨rfl,pr,x,e,h1,h2,h3,h4⟩:=hs;exact ⟨rfl,pr,x,e,h1,h2,zAi hg (fun r e=>(hr r e).2) h3,(ownFrom_below (nlr _) (show w.heap.size<=W0.heap.size by omega)) s W W' row h4 hg hr⟩
 case assign=>
  intro l pre x W K hI hK;gi_wp2;have al:Below W W ((W.alloc (.cells #[.bool (va x).num.ng,.slice (va x).num.A (va x).num.n (va x).num.c,.bool (va x).den.ng,.slice (va x).den.A (va x).den.n (va x).den.c] 80)).alloc (.cells #[.bool (vb x).num.ng,.slice (vb x).num.A (vb x).num.n (vb x).num.c,.bool (vb x).den.ng,.slice (vb x).den.A (vb x).den.n (vb x).den.c] 80)):=(bal).alloc (by simp) _;obtain ⟨⟨i1,i2,i3⟩,hB⟩:=hI;exact hK _ _ ⟨al.size,fun k o _ hk _=>(al.block k (zAa hk)).trans hk⟩ (Carry.of_below al) ⟨⟨(al.block _ (zAa i1)).trans i1,i2.trans (Carry.of_below al),i3⟩,hB.trans (al.mono hB.size)⟩ ⟨W.heap.size,rfl,(Below.heap_alloc _ _ _ (by simp)).trans (zAd _ _ rfl),zAd _ _ (by simp)⟩
 case body=>
  rintro l pre x a' W _ _ ⟨⟨i1,i2,i3⟩,hB⟩ ⟨g,rfl,g1,g2⟩ hlt;have hqa:=(HQA.out x).carry (i2.mono fun y hy=>by omega);have hqb:=(HQB.out x).carry (i2.mono fun y hy=>by omega);obtain ⟨a0,a1,a2,a3⟩:W.cell? g=some (.bool (va x).num.ng)/\W.cell? ⟨g,1,none⟩=some (.slice (va x).num.A (va x).num.n (va x).num.c)/\W.cell? ⟨g,2,none⟩=some (.bool (va x).den.ng)/\W.cell? ⟨g,3,none⟩=some (.slice (va x).den.A (va x).den.n (va x).den.c):=by simp [World.cell?,g1]
  obtain ⟨b0,b1,b2,b3⟩:W.cell? ⟨g+1,0,none⟩=some (.bool (vb x).num.ng)/\W.cell? ⟨g+1,1,none⟩=some (.slice (vb x).num.A (vb x).num.n (vb x).num.c)/\W.cell? ⟨g+1,2,none⟩=some (.bool (vb x).den.ng)/\W.cell? ⟨g+1,3,none⟩=some (.slice (vb x).den.A (vb x).den.n (vb x).den.c):=by simp [World.cell?,g2]
  have Hs:=hdq hs0;have I3:=hdq i3;clear hs0 x0 x1 x2 hk0 i3;gi_wp2;refine ⟨trivial,?_⟩;refine CallsIn.inRound l (callsIn_wide.2 ((zBg (a:=va x) (b:=vb x) hqa hqb HL.out HM.out).mono ?_));rintro e w3 ⟨rfl,hb3⟩;have z3:Boxed w3 w 3 (.int .i64 0):=(hb3.block _ (zAa i1)).trans i1;have hB3:=hB.trans (hb3.mono hB.size);have f3:∀ o,w3.frozen? ⟨w.heap.size,o,none⟩=false:=fun o=>by simp [World.frozen?,show w3.heap[w.heap.size]?=_ from z3]
  have c3:=z3.cell;by_cases he:fa x=fb x
  ·have hq:qcmp (fa x) (fb x)=0:=(by rw [he,zKE]);rw [hq];clear a0 a1 a2 a3 b0 b1 b2 b3;gi_wp2;refine ⟨⟨hb3.size,fun k o _ hk _=>(hb3.block k (zAa hk)).trans hk⟩,Carry.of_below hb3,⟨z3,i2.trans (Carry.of_below hb3),fun y hy=>?_⟩,hB3⟩;rw [List.mem_append,List.mem_singleton] at hy;rcases hy with hy | rfl
   ·exact I3.out y hy
   ·exact he
  ·have hq:(qcmp (fa x) (fb x) == 0)=false:=(by simpa using zKy he);have hq2:¬ (qcmp (fa x) (fb x)=0):=zKy he;clear a0 a1 a2 a3 b0 b1 b2 b3;gi_wp2;refine ⟨⟨by simpa [World.setCell] using hb3.size,fun k o _ hk ho=>?_⟩,rfl,pre,x,rfl,he,I3.out,Boxed.set _ z3,hB3.setCell (p:=w) (nlr _) _⟩;refine (bhs _ _ _ _ (fun e=>?_)).trans ((hb3.block k (zAa hk)).trans hk);dsimp only at e;rw [e,show W.heap[w.heap.size]?=_ from i1] at hk; cases hk; cases ho
 case done=>
  rintro Dd ys W hDd rfl ⟨⟨i1,i2,i3⟩,hB⟩ hK0;have c1:=i1.cell;have f1:∀ o,W.frozen? ⟨w.heap.size,o,none⟩=false:=fun o=>by simp [World.frozen?,show W.heap[w.heap.size]?=_ from i1]
  have Hs:=hdq hs0;have Hz:=hdq (zKq (n:=N) (a:=fa) (b:=fb) fun i hi=>i3 i (by simpa using hi));clear hs0 x0 x1 x2 i3;have hne:Dd ≠ w.heap.size:=by have:=Hs.out; omega
  gi_wp2;have hK1:(W.setCell w (.int .i64 0)).heap[Dd]?=some (.deferred (some [])):=(bhs _ _ _ _ hne).trans hK0;refine ⟨by simp,.inl ⟨_,_,rfl,run_takeDeferred hK1,?_⟩⟩;have g1:=zAi (grownBy_putObj' (W.setCell w (.int .i64 0)) Dd (.deferred none)) (fun r e=>by cases e; exact ⟨_,hK1,rfl⟩) (Boxed.set (.int .i64 0) i1);have g2:((W.setCell w (.int .i64 0)).putObj Dd (.deferred none)).cell? w=some (.int .i64 0):=Boxed.cell g1;refine ⟨.int .i64 0,by simp [results,Tryz.results106,go_sem,g2],by rw [Hz.out],?_⟩;exact (hB.setCell (p:=w) (nlr _) _).trans (belowK_b (w:=w) (nlr _) _ Dd _ _ (by have:=Hs.out; omega) hK1 rfl rfl)
 case stop=>
  rintro Dd c pre W hDd hpre ⟨rfl,pr,x,e,h1,h2,h3,h4⟩ hK0;obtain ⟨hx,hpr⟩:=zGD hpre e;have Hz:=hdq (zKr (a:=fa) (b:=fb) (x:=x) (fun i hi=>h2 i (by rw [hpr]; simpa using hi)) h1 hx);have c1:=h3.cell;have Hs:=hdq hs0;clear hs0 x0 x1 x2;gi_wp2;refine ⟨by simp,.inl ⟨_,_,rfl,run_takeDeferred hK0,?_⟩⟩;have g1:=zAi (grownBy_putObj' W Dd (.deferred none)) (fun r e=>by cases e; exact ⟨_,hK0,rfl⟩) h3;have g2:(W.putObj Dd (.deferred none)).cell? w=some (.int .i64 (qcmp (fa x) (fb x))):=Boxed.cell g1;refine ⟨.int .i64 (qcmp (fa x) (fb x)),by simp [results,Tryz.results106,go_sem,g2],by rw [Hz.out],?_⟩;exact h4.trans (belowK_b (w:=w) (nlr _) _ Dd _ _ (by have:=Hs.out; omega) hK0 rfl rfl)
end Go.Proofs.YtjancagcmghfjaaGreat
namespace Go.Proofs.YtjancagcmghfjaaGreat
open Go.RowKit Go.Shelf
variable {q:Rat} {k L b:Nat} {W w:World}
theorem zBn (h:Lin.Fits k q) (hk:k<32*L):QFit L q:=by
 have e:Num.base ^ L=2 ^ (32*L):=by rw [Nat.pow_mul]; rfl
 have h2:2 ^ k<2 ^ (32*L):=Nat.pow_lt_pow_right (by omega) hk;exact ⟨by rw [e]; exact Nat.lt_of_le_of_lt h.1 h2,by rw [e]; exact Nat.lt_of_le_of_lt h.2 h2⟩
attribute [local go_sem] Oper.semAt_some
theorem zBX :qsign q=0 ↔ q=0:=by
 unfold qsign; grind
abbrev QBlk (W:World) (b:Nat) (v:QV):Prop:=W.heap[b]?=some (.cells #[.bool v.num.ng,.slice v.num.A v.num.n v.num.c,.bool v.den.ng,.slice v.den.A v.den.n v.den.c] 80 (0,0))
theorem zAA {v:QV} (h:QBlk W b v):Box4 W b (.bool v.num.ng) (.slice v.num.A v.num.n v.num.c) (.bool v.den.ng) (.slice v.den.A v.den.n v.den.c):=by
 refine ⟨?_,?_,?_,?_,fun o=>?_⟩ <;> simp [World.cell?,World.frozen?,h]
theorem alk {x o:Obj} (h:w.heap[b]?=some x):(w.alloc o).heap[b]?=some x:=(Below.heap_alloc _ _ _ (zAa h)).trans h
end Go.Proofs.YtjancagcmghfjaaGreat
namespace Go.Proofs.YtjancagcmghfjaaGreat
open Go.RowKit Go.Shelf Gj
variable {sa sb:SV} {L M:Nat} {X Y X' Y':Nat->Prop} {w:World}
theorem zFA:(Tryz.prog.info? 34).map (fun i=>(i.zero,i.size,i.bytes))=some (some (.slice none 0 0),1,24):=by kernel_rfl
def zeroS (n:Nat):Array Value:=madeCells #[Value.slice none 0 0] n
theorem zIb (n:Nat):(zeroS n).size=n:=by simp [zeroS,madeCells]
theorem zHV (n:Nat) (hn:n<=1000000) (w:World) :
  (Instr.makeSlice 33 (.int .i64 (n:Int)) (.int .i64 (n:Int))).run Tryz.prog w = .ok (.slice (some w) n n) (w.alloc (.cells (zeroS n) 34)):=by
 obtain ⟨i0,hi,hz0,hz1,hz2⟩:=info_parts zFA;have hr:=run_make (P:=Tryz.prog) w 33 34 i0 (.slice none 0 0) Tryz.underlying33 hi hz0 .i64 .i64 n n (by omega) (by omega) (by rw [hz2]; omega) (by omega);rw [hz1] at hr;simpa [zeroS,Value.cells] using hr
theorem zNQ {la lb:List Rat} (ha:VecIs w X Y L sa la) (hb:VecIs w X' Y' M sb lb) (hL:L<=LM) (hM:M<=LM) (hna:sa.n<=1000000) (hnb:sb.n<=1000000) :
  Calls Tryz.prog 59 #[sa.val,sb.val] w fun e w'=>e = .returned (.bool (vcmp (fun i=>la.getD i 0) (fun i=>lb.getD i 0) (max sa.n sb.n) == 0))/\Below w w w':=by
 have HC:=hdq (zKw ha hb hL hM hna hnb);clear ha hb hL hM;generalize vcmp (fun i=>la.getD i 0) (fun i=>lb.getD i 0) (max sa.n sb.n)=z at *;go_enter Tryz.func59,Tryz.ntmps59
 go_wp2_with fail
 refine HC.out.mono ?_; rintro e w1 ⟨rfl,hb1⟩
 go_wp2;go_ret;exact ⟨rfl,hb1⟩
open Go.RowKit Go.Shelf
namespace Mo
theorem zOF {w:World} {X Y X' Y':Nat->Prop} {L M:Nat} {sa sb:SV} {l:List Rat} (ha:VecIs w X Y L sa l) (hb:VecIs w X' Y' M sb l) (hL:L<=LM) (hM:M<=LM) (hna:sa.n<=1000000) (hnb:sb.n<=1000000) :
  Calls Tryz.prog 59 #[sa.val,sb.val] w fun e w'=>e = .returned (.bool true)/\Below w w w':=by
 refine (zNQ ha hb hL hM hna hnb).mono ?_;rintro e w' ⟨rfl,hb⟩;rw [zKA.2 (fun i _=>rfl)];exact ⟨rfl,hb⟩
theorem zXS (z:Int) (h1:-9223372036854775808<=z) (h2:z<=9223372036854775807):QFit LM (z:Rat):=zBn (k:=64) (Lin.Fits.ofInt (by omega)) (by decide)
theorem zWW {l:List Int} (h:∀ x ∈ l,-9223372036854775808<=x/\x<=9223372036854775807) (k:Nat):QFit LM ((l.map (fun x:Int=>(x:Rat))).getD k 0):=by
 rw [gdd,List.getElem?_map]
 cases hk:l[k]? with
 | none=>exact zXS 0 (by decide) (by decide)
 | some x=>
  have:=h x (List.mem_of_getElem? hk);exact zXS x this.1 this.2
theorem zUj {w:World} {X Y:Nat->Prop} {s t:SV} {l:List Int} (hs:VecCan w X Y s (l.map (fun x:Int=>(x:Rat)))) (ht:IntsAt w t l) (hn:t.n<=1000) :
  Calls Tryz.prog 22 #[s.val,t.val] w fun e w'=>e = .returned (.bool true)/\Below w w w':=by
 have HF:=hdq (zBP ht hn);have HE:=hdq fun (W:World) (hb:Below w w W) (b:SV) (hv:VecCan W (New w) (New w) b (l.map (fun x:Int=>(x:Rat))))=>zOF (L:=LM) (M:=LM) ((hs.belowC hb).loose (zWW ht.range)) (hv.loose (zWW ht.range)) (nlr _) (nlr _) (by have h1:=hs.len; have h2:=ht.len; rw [List.length_map] at h1; omega) (by have h1:=hv.len; have h2:=ht.len; rw [List.length_map] at h1; omega)
 have h1:l.length=s.n:=by have:=hs.len; rwa [List.length_map] at this
 have h2:l.length=t.n:=ht.len;have h3:=hs.le;have h4:=hs.cap;have h5:=ht.le;have h6:=ht.cap;obtain ⟨A,n,c⟩:=s;obtain ⟨B,m,d⟩:=t;dsimp only at h1 h2 h3 h4 h5 h6 hn;obtain rfl:m=n:=by omega
 clear hs ht h1 h2;dsimp only [SV.val] at HF HE ⊢;go_enter Tryz.func22,Tryz.ntmps22
 go_wp2_with fail
 refine HF.out.mono ?_;rintro e w1 ⟨⟨b,rfl,hv⟩,hb1⟩;have HE1:=hdq (HE.out w1 hb1 b hv);have Hb1:=hdq hb1;obtain ⟨bA,bn,bc⟩:=b;dsimp only [SV.val] at HE1 ⊢;clear hv hb1 HE;go_wp2_with fail
 refine HE1.out.mono ?_;rintro e w2 ⟨rfl,hb2⟩;have HC:=hdq (Hb1.out.trans (hb2.mono Hb1.out.size));clear hb2 Hb1;go_wp2;go_ret;exact ⟨rfl,HC.out⟩
end Mo
end Go.Proofs.YtjancagcmghfjaaGreat
