/- Texts McPairs McCompare McDot McComb of this claim. -/
import Derived.Test.YtjancagcmghfjaaGreatX09
import Derived.Deep.Slices
import Derived.Deep.Cut
import Derived.Deep.CutRange
import Derived.Deep.DeepCutAuto
set_option maxHeartbeats 4000000
set_option maxRecDepth 100000
namespace Go.Proofs.YtjancagcmghfjaaGreat
open Go.RowKit Go.Shelf
variable {s sa sb:SV} {X:Nat->Prop} {W W' w:World} {n B1 B2 N:Nat}
attribute [local go_sem] Oper.semAt_some
structure Elems (W:World) (X:Nat->Prop) (s:SV) (v:Nat->QV):Prop where
 le:s.n<=s.c
 cap:s.c<=9223372036854775807
 elem:∀ i,i<s.n->∃ ad,s.A=some ad/\X ad.block/\QCell W (ad.add (i*4)) (v i)
 rest:∀ i,s.n<=i->v i=QV.zero
theorem Elems.carry {v:Nat->QV} (h:Elems W X s v) (hk:Carry X W W'):Elems W' X s v:=
 ⟨h.le,h.cap,fun i hi=>by
  obtain ⟨ad,e,hx,hc⟩:=h.elem i hi;exact ⟨ad,e,hx,hc.carry hk (by rw [zAj]; exact hx)⟩,h.rest⟩
theorem VecAt.elems {R:QV->Rat->Prop} {l:List Rat} (h:VecAt W X R s l) (h0:R QV.zero 0):∃ v,Elems W X s v/\∀ i,R (v i) (l.getD i 0):=by
 obtain ⟨f,hf⟩:=Deep.choose_lt (α:=QV) (n:=s.n) (p:=fun i v=>(∃ ad,s.A=some ad/\X ad.block/\QCell W (ad.add (i*4)) v)/\R v (l.getD i 0)) (fun i hi=>by
  obtain ⟨ad,v,e,hx,hc,hr⟩:=h.elem i hi;exact ⟨v,⟨ad,e,hx,hc⟩,hr⟩)
 refine ⟨fun i=>if i<s.n then f i else QV.zero,⟨h.le,h.cap,fun i hi=>?_,fun i hi=>if_neg (by omega)⟩,fun i=>?_⟩
 ·rw [if_pos hi]; exact (hf i hi).1
 ·by_cases hi:i<s.n
  ·dsimp only; rw [if_pos hi]; exact (hf i hi).2
  ·dsimp only; rw [if_neg hi,zAw _ _ _ (by rw [h.len]; omega)]; exact h0
theorem zFZ (A B:Option Addr) (la ca lb cb:Nat) :
  CallsIn Fence.wide n Tryz.prog 113 #[.slice A la ca,.slice B lb cb] w fun e w'=>e = .returned (.func (.func 160) #[] #[.pointer (some w),.pointer (some ⟨w+1,0,none⟩)])/\
   w'=(w.alloc (.cells #[.slice A la ca] 34)).alloc (.cells #[.slice B lb cb] 34):=by
 refine callsIn_of_wp Tryz.func113 rfl trivial ?_ rfl;simp only [Tryz.ntmps113,List.size_toArray,List.length_cons,List.length_nil,Nat.reduceAdd,Nat.reduceSub,Array.replicate_succ,Array.replicate_zero,List.push_toArray,List.append_toArray,List.nil_append,List.cons_append];gi_wp2;go_ret;exact ⟨by simp,by simp⟩
def PIter (W:World) (X:Nat->Prop) (N:Nat) (J:List Nat->World->Prop) (t:Value) (W':World):Prop:=
 ∃ k:Nat,k<=N/\t = .int .i64 k/\J (List.range k) W'/\Carry X W W'
theorem zHL {l:Nat} {va vb:Nat->QV} (hn:1<=n) (J Jx:List Nat->World->Prop) (W:World) (hJ:AbidesFrom W J)
  (hY:∀ pre x W1,J pre W1->pre.length<N->YieldAt Fence.wide (n-1) Tryz.prog l #[(va x).val,(vb x).val] W1 fun e W'=>
   (e = .returned (.bool true)/\J (pre++[x]) W'/\Carry X W1 W')\/(e = .returned (.bool false)/\Jx (pre++[x]) W'))
  (h1:W.heap[B1]?=some (.cells #[sa.val] 34 (0,0))) (h2:W.heap[B2]?=some (.cells #[sb.val] 34 (0,0))) (hb1:X B1) (hb2:X B2)
  (ha:Elems W X sa va) (hb:Elems W X sb vb) (hN:N=max sa.n sb.n) (hN2:N<=1000000) (h0:J [] W) :
  CallsIn Fence.wide n Tryz.prog 160 #[.func (.yield l) #[] #[],.pointer (some B1),.pointer (some B2)] W fun e W'=>(∃ v,e = .returned v)/\
   ((∃ ys,ys=List.range N/\J ys W')\/(∃ pre,pre <+: List.range N/\Jx pre W')):=by
 obtain ⟨A,la,ca⟩:=sa;obtain ⟨B,lb,cb⟩:=sb;dsimp only [SV.val] at h1 h2 hN;have c1:W.cell? B1=some (.slice A la ca):=by simp only [World.cell?,h1]; simp
 have c2:W.cell? B2=some (.slice B lb cb):=by simp only [World.cell?,h2]; simp
 have qa:la<=ca:=ha.le;have qb:lb<=cb:=hb.le;have qa':ca<=9223372036854775807:=ha.cap;have qb':cb<=9223372036854775807:=hb.cap;refine callsIn_of_wp Tryz.func160 rfl trivial ?_ rfl;simp only [Tryz.ntmps160,List.size_toArray,List.length_cons,List.length_nil,Nat.reduceAdd,Nat.reduceSub,Array.replicate_succ,Array.replicate_zero,List.push_toArray,List.append_toArray,List.nil_append,List.cons_append];gi_wp2;rw [show (max (la:Int) (lb:Int))=(N:Int) from by omega];have Ha:=hdq ha;have Hb:=hdq hb;have HN:=hdq hN;have HY:=hdq hY;have HJ:=hdq hJ;clear ha hb hN hY hJ;gi_loopw [12] (fun i wr=>PIter W X N J i wr) (fun i _=>N-(intOf i).toNat)
 case atStart=>exact ⟨0,nzl _,rfl,h0,Carry.refl _ _⟩
 case round=>
  obtain ⟨k,hk,rfl,hJs,hcar⟩:=hrel;have d1:wr.cell? B1=some (.slice A la ca):=hcar.cell (p:=B1) hb1 c1;have d2:wr.cell? B2=some (.slice B lb cb):=hcar.cell (p:=B2) hb2 c2;have t1:B1<wr.heap.size:=zAb d1;have t2:B2<wr.heap.size:=zAb d2;by_cases hlt:k<N
  ·have Hr:=hdq (show List.range (k+1)=List.range k++[k] from List.range_succ);have ha2:=Ha.out.carry hcar;have hb2':=Hb.out.carry hcar;have al:Below wr wr ((wr.alloc (.cells #[(.bool (va k).num.ng),(.slice (va k).num.A (va k).num.n (va k).num.c),(.bool (va k).den.ng),(.slice (va k).den.A (va k).den.n (va k).den.c)] 80)).alloc (.cells #[(.bool (vb k).num.ng),(.slice (vb k).num.A (vb k).num.n (vb k).num.c),(.bool (vb k).den.ng),(.slice (vb k).den.A (vb k).den.n (vb k).den.c)] 80)):=(bal).alloc (by simp) _;have hgb:wr.grownBy _ none:=⟨al.os,al.tape,al.output,al.size,fun k hk _=>al.block k hk⟩;have hJ2:=HJ.out _ wr _ none hJs hgb (fun r e=>by cases e);obtain ⟨fn,tmps,assign,body,hy,hR⟩:=HY.out _ k _ hJ2 (by simpa using hlt);clear hgb hJ2 hJs;by_cases hka:k<la
   ·obtain ⟨a1,e,-,⟨q0,q1,q2,q3⟩⟩:=ha2.elem k hka;dsimp only at e q1 q2 q3;subst e;have tq:(a1.add (k*4)).block<wr:=zAb q0;have hkai:(k:Int)<(la:Int):=(by omega);by_cases hkb:k<lb
    ·obtain ⟨a2,e,-,⟨p0,p1,p2,p3⟩⟩:=hb2'.elem k hkb;dsimp only at e p1 p2 p3;subst e;have tp:(a2.add (k*4)).block<wr:=zAb p0;have hkbi:(k:Int)<(lb:Int):=(by omega);clear ha2 hb2';gi_wp2;refine hR.mono ?_;rintro e W3 (⟨rfl,hJ3,hk3⟩ | ⟨rfl,hJx3⟩)
     ·have Hfin:Hid (PIter W X N J (.int .i64 ((k:Int)+1)) W3):=⟨k+1,by omega,by simp,by rw [Hr.out]; exact hJ3,hcar.trans ((Carry.of_below al).trans hk3)⟩;clear hJ3 hk3 hcar al;gi_wp2;exact ⟨Hfin.out,by simp [intOf]; omega⟩
     ·gi_wp2;refine bodyPost_ret (results_none rfl _ _ _) rfl ?_;exact ⟨⟨_,rfl⟩,.inr ⟨_,by rw [<-Hr.out]; exact zA8 (by omega),hJx3⟩⟩
    ·have ez:vb k=QV.zero:=hb2'.rest k (show lb<=k by omega);rw [ez] at hy hR al;dsimp only [QV.zero] at hy hR al;have hkbi:¬ (k:Int)<(lb:Int):=(by omega);clear ha2 hb2';gi_wp2;refine hR.mono ?_;rintro e W3 (⟨rfl,hJ3,hk3⟩ | ⟨rfl,hJx3⟩)
     ·have Hfin:Hid (PIter W X N J (.int .i64 ((k:Int)+1)) W3):=⟨k+1,by omega,by simp,by rw [Hr.out]; exact hJ3,hcar.trans ((Carry.of_below al).trans hk3)⟩;clear hJ3 hk3 hcar al;gi_wp2;exact ⟨Hfin.out,by simp [intOf]; omega⟩
     ·gi_wp2;refine bodyPost_ret (results_none rfl _ _ _) rfl ?_;exact ⟨⟨_,rfl⟩,.inr ⟨_,by rw [<-Hr.out]; exact zA8 (by omega),hJx3⟩⟩
   ·have ez:va k=QV.zero:=ha2.rest k (show la<=k by omega);rw [ez] at hy hR al;dsimp only [QV.zero] at hy hR al;have hkai:¬ (k:Int)<(la:Int):=(by omega);have hkb:k<lb:=by have:=HN.out; omega
    obtain ⟨a2,e,-,⟨p0,p1,p2,p3⟩⟩:=hb2'.elem k hkb;dsimp only at e p1 p2 p3;subst e;have tp:(a2.add (k*4)).block<wr:=zAb p0;have hkbi:(k:Int)<(lb:Int):=(by omega);clear ha2 hb2';gi_wp2;refine hR.mono ?_;rintro e W3 (⟨rfl,hJ3,hk3⟩ | ⟨rfl,hJx3⟩)
    ·have Hfin:Hid (PIter W X N J (.int .i64 ((k:Int)+1)) W3):=⟨k+1,by omega,by simp,by rw [Hr.out]; exact hJ3,hcar.trans ((Carry.of_below al).trans hk3)⟩;clear hJ3 hk3 hcar al;gi_wp2;exact ⟨Hfin.out,by simp [intOf]; omega⟩
    ·gi_wp2;refine bodyPost_ret (results_none rfl _ _ _) rfl ?_;exact ⟨⟨_,rfl⟩,.inr ⟨_,by rw [<-Hr.out]; exact zA8 (by omega),hJx3⟩⟩
  ·(obtain rfl:k=N:=by omega);gi_wp2;go_end0;exact ⟨⟨_,rfl⟩,.inl ⟨_,rfl,hJs⟩⟩
end Go.Proofs.YtjancagcmghfjaaGreat
namespace Go.Proofs.YtjancagcmghfjaaGreat
open Go.RowKit Go.Shelf
variable {w1 W w:World} {sa sb s:SV} {X X' Y Y':Nat->Prop} {n B1 B2 N L M:Nat} {p q:Rat}
theorem zKD (p q:Rat):(p<q/\qcmp p q=-1)\/(p=q/\qcmp p q=0)\/(q<p/\qcmp p q=1):=by
 unfold qcmp;by_cases h:p<q
 ·exact .inl ⟨h,if_pos h⟩
 ·by_cases h2:p=q
  ·exact .inr (.inl ⟨h2,by rw [if_neg h,if_pos h2]⟩)
  ·exact .inr (.inr ⟨by grind,by rw [if_neg h,if_neg h2]⟩)
attribute [local go_sem] Oper.semAt_some
theorem zDL {va vb:Nat->QV} (hn:1<=n) (h1:w1.heap[B1]?=some (.cells #[sa.val] 34 (0,0))) (h2:w1.heap[B2]?=some (.cells #[sb.val] 34 (0,0))) (hb1:X B1) (hb2:X B2)
  (ha:Elems w1 X sa va) (hb:Elems w1 X sb vb) (hN:N=max sa.n sb.n) (hN2:N<=1000000) :
  SeqStopsK Fence.wide n Tryz.prog 160 #[.pointer (some B1),.pointer (some B2)] (fun x:Nat=>#[(va x).val,(vb x).val]) (Carry X) (fun ys=>ys=List.range N) (fun pre=>pre <+: List.range N) N w1:=fun _ J Jx W hW hJ _ hY h0=>
 zHL hn J Jx W hJ hY ((hW.block B1 (zAa h1)).trans h1) ((hW.block B2 (zAa h2)).trans h2) hb1 hb2 (ha.carry (Carry.of_below hW)) (hb.carry (Carry.of_below hW)) hN hN2 h0
theorem Elems.imp {v:Nat->QV} (h:Elems W X s v) (hx:∀ b,X b->X' b):Elems W X' s v:=
 ⟨h.le,h.cap,fun i hi=>by obtain ⟨ad,e,h1,h2⟩:=h.elem i hi; exact ⟨ad,e,hx _ h1,h2⟩,h.rest⟩
def vcmp (a b:Nat->Rat):Nat->Int
 | 0=>0
 | n+1=>if vcmp a b n=0 then qcmp (a n) (b n) else vcmp a b n
theorem zKE (p:Rat):qcmp p p=0:=by unfold qcmp; rw [if_neg (by grind),if_pos rfl]
theorem zKy (h:p ≠ q):qcmp p q ≠ 0:=by
 rcases zKD p q with ⟨_,e⟩ | ⟨h',_⟩ | ⟨_,e⟩
 ·rw [e]; decide
 ·exact absurd h' h
 ·rw [e]; decide
theorem zKq {a b:Nat->Rat}:∀ {n:Nat},(∀ i,i<n->a i=b i)->vcmp a b n=0
 | 0,_=>rfl
 | n+1,h=>by
  show (if vcmp a b n=0 then qcmp (a n) (b n) else vcmp a b n)=0;rw [if_pos (zKq fun i hi=>h i (by omega)),h n (by omega),zKE]
theorem zKr {a b:Nat->Rat} {x:Nat} (h:∀ i,i<x->a i=b i) (hx:a x ≠ b x):∀ {n:Nat},x<n->vcmp a b n=qcmp (a x) (b x)
 | 0,h'=>by omega
 | n+1,h'=>by
  show (if vcmp a b n=0 then qcmp (a n) (b n) else vcmp a b n)=_;by_cases e:x=n
  ·subst e; rw [if_pos (zKq h)]
  ·have ih:=zKr h hx (n:=n) (by omega);rw [if_neg (by rw [ih]; exact zKy hx),ih]
theorem zKA {a b:Nat->Rat} :vcmp a b n=0 ↔ ∀ i,i<n->a i=b i:=by
 refine ⟨fun h=>?_,zKq⟩
 induction n with
 | zero=>intro i hi; omega
 | succ n ih=>
  have h':(if vcmp a b n=0 then qcmp (a n) (b n) else vcmp a b n)=0:=h;by_cases e:vcmp a b n=0
  ·rw [if_pos e] at h';intro i hi;by_cases ei:i=n
   ·subst ei;by_cases hne:a i=b i
    ·exact hne
    ·exact absurd h' (zKy hne)
   ·exact ih e i (by omega)
  ·rw [if_neg e] at h'; exact absurd h' e
theorem zGD {pre:List Nat} {pr:List Nat} {x:Nat} (h:pre <+: List.range N) (e:pre=pr++[x]):x<N/\pr=List.range x:=by
 subst e;obtain ⟨t,ht⟩:=h
 have hl:pr.length<N:=by
  have:=congrArg List.length ht;simp at this; omega
 have hx:x=pr.length:=by
  have:(pr++[x]++t)[pr.length]?=(List.range N)[pr.length]?:=by rw [ht]
  rw [List.append_assoc,List.getElem?_append_right (nlr _),List.getElem?_range hl] at this;simpa using this
 refine ⟨by omega,?_⟩;apply List.ext_getElem
 ·simp [hx]
 ·intro i h1 h2;have:(pr++[x]++t)[i]?=(List.range N)[i]?:=by rw [ht]
  rw [List.append_assoc,List.getElem?_append_left h1,List.getElem?_range (by omega),gge h1] at this;simpa using this
def CmpInv (w:World) (a b:Nat->Rat) (pre:List Nat) (W:World):Prop:=
 Boxed W w 3 (.int .i64 0)/\Carry (fun y=>y ≠ w.heap.size) w W/\∀ x ∈ pre,a x=b x
def CmpOut (w:World) (a b:Nat->Rat) (c:Code) (pre:List Nat) (W:World):Prop:=
 c = .ret/\∃ pr x,pre=pr++[x]/\a x ≠ b x/\(∀ y ∈ pr,a y=b y)/\Boxed W w 3 (.int .i64 (qcmp (a x) (b x)))/\Below w w W
theorem CmpInv.own {a b:Nat->Rat}:Own (CmpInv w a b):=fun _s _W _W' _row hs hg hr=>⟨zAi hg hr hs.1,hs.2.1.trans (Carry.grown hg hr),hs.2.2⟩
theorem zKw {la lb:List Rat} (ha:VecIs w X Y L sa la) (hb:VecIs w X' Y' M sb lb) (hL:L<=LM) (hM:M<=LM) (hna:sa.n<=1000000) (hnb:sb.n<=1000000) :
  Calls Tryz.prog 106 #[sa.val,sb.val] w fun e w'=>e = .returned (.int .i64 (vcmp (fun i=>la.getD i 0) (fun i=>lb.getD i 0) (max sa.n sb.n)))/\Below w w w':=by
 refine (callsIn_wide (n:=6)).1 ?_;have HL:=hdq hL;have HM:=hdq hM;have h0a:QIs w (fun _=>True) L QV.zero 0:=⟨0,0,⟨[],WordsAt.nil _ _ _ _ (nzl _),nzl _,rfl⟩,⟨[],WordsAt.nil _ _ _ _ (nzl _),nzl _,rfl⟩,by simp [qv]⟩;have h0b:QIs w (fun _=>True) M QV.zero 0:=⟨0,0,⟨[],WordsAt.nil _ _ _ _ (nzl _),nzl _,rfl⟩,⟨[],WordsAt.nil _ _ _ _ (nzl _),nzl _,rfl⟩,by simp [qv]⟩;obtain ⟨va,hva,hqa⟩:=(ha.imp (X':=fun y=>y<w.heap.size) (R':=QIs w (fun _=>True) L) (fun b hb _=>hb) (fun _ _ h=>h.any)).elems h0a;obtain ⟨vb,hvb,hqb⟩:=(hb.imp (X':=fun y=>y<w.heap.size) (R':=QIs w (fun _=>True) M) (fun b hb _=>hb) (fun _ _ h=>h.any)).elems h0b;have HA:=hdq hva;have HB:=hdq hvb;have HQA:Hid (∀ i,QIs w (fun y=>y<w.heap.size) L (va i) (la.getD i 0)):=fun i=>(hqa i).imp fun b hb _=>hb
 have HQB:Hid (∀ i,QIs w (fun y=>y<w.heap.size) M (vb i) (lb.getD i 0)):=fun i=>(hqb i).imp fun b hb _=>hb
 obtain ⟨A,la',ca⟩:=sa;obtain ⟨B,lb',cb⟩:=sb;obtain ⟨fa,hfa⟩:∃ fa:Nat->Rat,fa=fun i=>la.getD i 0:=⟨_,rfl⟩
 obtain ⟨fb,hfb⟩:∃ fb:Nat->Rat,fb=fun i=>lb.getD i 0:=⟨_,rfl⟩
 replace HQA:Hid (∀ i,QIs w (fun y=>y<w.heap.size) L (va i) (fa i)):=by rw [hfa]; exact HQA
 replace HQB:Hid (∀ i,QIs w (fun y=>y<w.heap.size) M (vb i) (fb i)):=by rw [hfb]; exact HQB
 rw [<-hfa,<-hfb];clear hfa hfb;clear ha hb hL hM h0a h0b hva hvb hqa hqb;dsimp only [SV.val] at hna hnb ⊢;obtain ⟨N,hN⟩:∃ N,N=max la' lb':=⟨_,rfl⟩;rw [<-hN];have HN:=hdq hN;clear hN;refine callsIn_of_wp_marks Tryz.func106 rfl trivial ?_ rfl;simp only [Tryz.ntmps106,List.size_toArray,List.length_cons,List.length_nil,Nat.reduceAdd,Nat.reduceSub,Array.replicate_succ,Array.replicate_zero,List.push_toArray,List.append_toArray,List.nil_append,List.cons_append];gi_wp2;refine ⟨trivial,?_⟩;refine (zFZ A B la' ca lb' cb).mono ?_;rintro e w2 ⟨rfl,rfl⟩;gi_wp2;obtain ⟨W0,hW0⟩:∃ W0,((w.alloc (.cells #[.int .i64 0] 3)).alloc (.cells #[.slice A la' ca] 34)).alloc (.cells #[.slice B lb' cb] 34)=W0:=⟨_,rfl⟩;rw [hW0];have hk0:Below w w W0:=by rw [<-hW0]; exact (((brf _ w).alloc (nlr _) _).alloc (by simp) _).alloc (by simp; omega) _
 have hs0:W0.heap.size=w.heap.size+3:=by rw [<-hW0]; simp
 have x0:Boxed W0 w 3 (.int .i64 0):=by rw [<-hW0]; exact ((Boxed.new w _ _).alloc _).alloc _
 have x1:Boxed W0 (w+1) 34 (.slice A la' ca):=by
  have:=(Boxed.new (w.alloc (.cells #[.int .i64 0] 3)) 34 (.slice A la' ca)).alloc (.cells #[.slice B lb' cb] 34);rw [World.size_alloc,hW0] at this; exact this
 have x2:Boxed W0 (w+1+1) 34 (.slice B lb' cb):=by
  have:=Boxed.new ((w.alloc (.cells #[.int .i64 0] 3)).alloc (.cells #[.slice A la' ca] 34)) 34 (.slice B lb' cb);rw [World.size_alloc,World.size_alloc,hW0] at this; exact this
 clear hW0
 refine wpIn_rangeFunc_ownH (F:=Fence.wide) rfl (by omega) (gf:=160) (lb:=#[.pointer (some ⟨w+1,0,none⟩),.pointer (some ⟨w+1+1,0,none⟩)]) rfl trivial (enters_of Tryz.func160 (by kernel_rfl) rfl)
  (zDL (X:=fun y=>y ≠ w.heap.size) (sa:=⟨A,la',ca⟩) (sb:=⟨B,lb',cb⟩) (va:=va) (vb:=vb) (N:=N) (by omega) x1 x2 (by omega) (by omega)
   ((HA.out.carry (Carry.of_below hk0)).imp fun b hb=>by omega) ((HB.out.carry (Carry.of_below hk0)).imp fun b hb=>by omega) HN.out (by have:=HN.out; omega))
  (fun h k=>h.trans k) (fun W l o o' _ hl ho _=>Carry.putObj o' hl ho) (brf _ _) (fun _=>rfl)
  (fun pre W=>CmpInv w fa fb pre W/\Below w w W)
  (fun c pre W=>CmpOut w fa fb c pre W)
  (OwnFrom.and (Own.from CmpInv.own _) (ownFrom_below (nlr _) (by omega)))
  (fun c s W W' row hs hg hr=>?hIx)
  ⟨⟨x0,Carry.of_below hk0,fun x hx=>by cases hx⟩,hk0⟩
  (fun x a' W=>∃ g,a'={tmps:=#[.slice A la' ca,.slice B lb' cb,undef,undef,.pointer (some w),.pointer (some ⟨g,0,none⟩),.pointer (some ⟨g+1,0,none⟩),undef,.slice A la' ca,.slice B lb' cb,.func (.func 160) #[] #[.pointer (some ⟨w+1,0,none⟩),.pointer (some ⟨w+1+1,0,none⟩)],(va x).val,(vb x).val,undef,undef,undef,undef,undef,undef],defers:=[]}/\W.heap[g]?=some (.cells #[.bool (va x).num.ng,.slice (va x).num.A (va x).num.n (va x).num.c,.bool (va x).den.ng,.slice (va x).den.A (va x).den.n (va x).den.c] 80 (0,0))/\W.heap[g+1]?=some (.cells #[.bool (vb x).num.ng,.slice (vb x).num.A (vb x).num.n (vb x).num.c,.bool (vb x).den.ng,.slice (vb x).den.A (vb x).den.n (vb x).den.c] 80 (0,0)))
  (fun x a' _ W W' row hs hg hr=>?hAx) ?assign ?body ?done ?stop
 case hAx=>
  obtain ⟨g,e,g1,g2⟩:=hs;exact ⟨g,e,zAi hg (fun r e=>(hr r e).2) g1,zAi hg (fun r e=>(hr r e).2) g2⟩
 case hIx=>
  obtain ⟨rfl,pr,x,e,h1,h2,h3,h4⟩:=hs;exact ⟨rfl,pr,x,e,h1,h2,zAi hg (fun r e=>(hr r e).2) h3,(ownFrom_below (nlr _) (show w.heap.size<=W0.heap.size by omega)) s W W' row h4 hg hr⟩
 case assign=>
  intro l pre x W K hI hK;gi_wp2;have al:Below W W ((W.alloc (.cells #[.bool (va x).num.ng,.slice (va x).num.A (va x).num.n (va x).num.c,.bool (va x).den.ng,.slice (va x).den.A (va x).den.n (va x).den.c] 80)).alloc (.cells #[.bool (vb x).num.ng,.slice (vb x).num.A (vb x).num.n (vb x).num.c,.bool (vb x).den.ng,.slice (vb x).den.A (vb x).den.n (vb x).den.c] 80)):=(bal).alloc (by simp) _;obtain ⟨⟨i1,i2,i3⟩,hB⟩:=hI;exact hK _ _ ⟨al.size,fun k o _ hk _=>(al.block k (zAa hk)).trans hk⟩ (Carry.of_below al) ⟨⟨(al.block _ (zAa i1)).trans i1,i2.trans (Carry.of_below al),i3⟩,hB.trans (al.mono hB.size)⟩ ⟨W.heap.size,rfl,(Below.heap_alloc _ _ _ (by simp)).trans (zAd _ _ rfl),zAd _ _ (by simp)⟩
 case body=>
  rintro l pre x a' W _ _ ⟨⟨i1,i2,i3⟩,hB⟩ ⟨g,rfl,g1,g2⟩ hlt;have hqa:=(HQA.out x).carry (i2.mono fun y hy=>by omega);have hqb:=(HQB.out x).carry (i2.mono fun y hy=>by omega);obtain ⟨a0,a1,a2,a3⟩:W.cell? g=some (.bool (va x).num.ng)/\W.cell? ⟨g,1,none⟩=some (.slice (va x).num.A (va x).num.n (va x).num.c)/\W.cell? ⟨g,2,none⟩=some (.bool (va x).den.ng)/\W.cell? ⟨g,3,none⟩=some (.slice (va x).den.A (va x).den.n (va x).den.c):=by simp [World.cell?,g1]
  obtain ⟨b0,b1,b2,b3⟩:W.cell? ⟨g+1,0,none⟩=some (.bool (vb x).num.ng)/\W.cell? ⟨g+1,1,none⟩=some (.slice (vb x).num.A (vb x).num.n (vb x).num.c)/\W.cell? ⟨g+1,2,none⟩=some (.bool (vb x).den.ng)/\W.cell? ⟨g+1,3,none⟩=some (.slice (vb x).den.A (vb x).den.n (vb x).den.c):=by simp [World.cell?,g2]
  have Hs:=hdq hs0;have I3:=hdq i3;clear hs0 x0 x1 x2 hk0 i3;gi_wp2;refine ⟨trivial,?_⟩;refine CallsIn.inRound l (callsIn_wide.2 ((zBg (a:=va x) (b:=vb x) hqa hqb HL.out HM.out).mono ?_));rintro e w3 ⟨rfl,hb3⟩;have z3:Boxed w3 w 3 (.int .i64 0):=(hb3.block _ (zAa i1)).trans i1;have hB3:=hB.trans (hb3.mono hB.size);have f3:∀ o,w3.frozen? ⟨w.heap.size,o,none⟩=false:=fun o=>by simp [World.frozen?,show w3.heap[w.heap.size]?=_ from z3]
  have c3:=z3.cell;by_cases he:fa x=fb x
  ·have hq:qcmp (fa x) (fb x)=0:=(by rw [he,zKE]);rw [hq];clear a0 a1 a2 a3 b0 b1 b2 b3;gi_wp2;refine ⟨⟨hb3.size,fun k o _ hk _=>(hb3.block k (zAa hk)).trans hk⟩,Carry.of_below hb3,⟨z3,i2.trans (Carry.of_below hb3),fun y hy=>?_⟩,hB3⟩;rw [List.mem_append,List.mem_singleton] at hy;rcases hy with hy | rfl
   ·exact I3.out y hy
   ·exact he
  ·have hq:(qcmp (fa x) (fb x) == 0)=false:=(by simpa using zKy he);have hq2:¬ (qcmp (fa x) (fb x)=0):=zKy he;clear a0 a1 a2 a3 b0 b1 b2 b3;gi_wp2;refine ⟨⟨by simpa [World.setCell] using hb3.size,fun k o _ hk ho=>?_⟩,rfl,pre,x,rfl,he,I3.out,Boxed.set _ z3,hB3.setCell (p:=w) (nlr _) _⟩;refine (bhs _ _ _ _ (fun e=>?_)).trans ((hb3.block k (zAa hk)).trans hk);dsimp only at e;rw [e,show W.heap[w.heap.size]?=_ from i1] at hk; cases hk; cases ho
 case done=>
  rintro Dd ys W hDd rfl ⟨⟨i1,i2,i3⟩,hB⟩ hK0;have c1:=i1.cell;have f1:∀ o,W.frozen? ⟨w.heap.size,o,none⟩=false:=fun o=>by simp [World.frozen?,show W.heap[w.heap.size]?=_ from i1]
  have Hs:=hdq hs0;have Hz:=hdq (zKq (n:=N) (a:=fa) (b:=fb) fun i hi=>i3 i (by simpa using hi));clear hs0 x0 x1 x2 i3;have hne:Dd ≠ w.heap.size:=by have:=Hs.out; omega
  gi_wp2;have hK1:(W.setCell w (.int .i64 0)).heap[Dd]?=some (.deferred (some [])):=(bhs _ _ _ _ hne).trans hK0;refine ⟨by simp,.inl ⟨_,_,rfl,run_takeDeferred hK1,?_⟩⟩;have g1:=zAi (grownBy_putObj' (W.setCell w (.int .i64 0)) Dd (.deferred none)) (fun r e=>by cases e; exact ⟨_,hK1,rfl⟩) (Boxed.set (.int .i64 0) i1);have g2:((W.setCell w (.int .i64 0)).putObj Dd (.deferred none)).cell? w=some (.int .i64 0):=Boxed.cell g1;refine ⟨.int .i64 0,by simp [results,Tryz.results106,go_sem,g2],by rw [Hz.out],?_⟩;exact (hB.setCell (p:=w) (nlr _) _).trans (belowK_b (w:=w) (nlr _) _ Dd _ _ (by have:=Hs.out; omega) hK1 rfl rfl)
 case stop=>
  rintro Dd c pre W hDd hpre ⟨rfl,pr,x,e,h1,h2,h3,h4⟩ hK0;obtain ⟨hx,hpr⟩:=zGD hpre e;have Hz:=hdq (zKr (a:=fa) (b:=fb) (x:=x) (fun i hi=>h2 i (by rw [hpr]; simpa using hi)) h1 hx);have c1:=h3.cell;have Hs:=hdq hs0;clear hs0 x0 x1 x2;gi_wp2;refine ⟨by simp,.inl ⟨_,_,rfl,run_takeDeferred hK0,?_⟩⟩;have g1:=zAi (grownBy_putObj' W Dd (.deferred none)) (fun r e=>by cases e; exact ⟨_,hK0,rfl⟩) h3;have g2:(W.putObj Dd (.deferred none)).cell? w=some (.int .i64 (qcmp (fa x) (fb x))):=Boxed.cell g1;refine ⟨.int .i64 (qcmp (fa x) (fb x)),by simp [results,Tryz.results106,go_sem,g2],by rw [Hz.out],?_⟩;exact h4.trans (belowK_b (w:=w) (nlr _) _ Dd _ _ (by have:=Hs.out; omega) hK0 rfl rfl)
end Go.Proofs.YtjancagcmghfjaaGreat
namespace Go.Proofs.YtjancagcmghfjaaGreat
open Go.RowKit Go.Shelf
variable {q:Rat} {k L b:Nat} {W w:World}
theorem zBn (h:Lin.Fits k q) (hk:k<32*L):QFit L q:=by
 have e:Num.base ^ L=2 ^ (32*L):=by rw [Nat.pow_mul]; rfl
 have h2:2 ^ k<2 ^ (32*L):=Nat.pow_lt_pow_right (by omega) hk;exact ⟨by rw [e]; exact Nat.lt_of_le_of_lt h.1 h2,by rw [e]; exact Nat.lt_of_le_of_lt h.2 h2⟩
attribute [local go_sem] Oper.semAt_some
theorem zBX :qsign q=0 ↔ q=0:=by
 unfold qsign; grind
abbrev QBlk (W:World) (b:Nat) (v:QV):Prop:=W.heap[b]?=some (.cells #[.bool v.num.ng,.slice v.num.A v.num.n v.num.c,.bool v.den.ng,.slice v.den.A v.den.n v.den.c] 80 (0,0))
theorem zAA {v:QV} (h:QBlk W b v):Box4 W b (.bool v.num.ng) (.slice v.num.A v.num.n v.num.c) (.bool v.den.ng) (.slice v.den.A v.den.n v.den.c):=by
 refine ⟨?_,?_,?_,?_,fun o=>?_⟩ <;> simp [World.cell?,World.frozen?,h]
theorem alk {x o:Obj} (h:w.heap[b]?=some x):(w.alloc o).heap[b]?=some x:=(Below.heap_alloc _ _ _ (zAa h)).trans h
end Go.Proofs.YtjancagcmghfjaaGreat
namespace Go.Proofs.YtjancagcmghfjaaGreat
open Go.RowKit Go.Shelf Gj
variable {w W W2 W' w':World} {G X Y X' Y':Nat->Prop} {v v':Value} {s sa sb:SV} {base n b B L M f:Nat}
theorem zA1 (w:World) (v:QV):∀ j u,(cells4q v)[j]?=some u->(w.alloc (.cells #[.bool v.num.ng,.slice v.num.A v.num.n v.num.c,.bool v.den.ng,.slice v.den.A v.den.n v.den.c] 80)).cell? (Addr.add ⟨w,0,none⟩ j)=some u:=by
 intro j u h;rw [zA4,Nat.zero_add];have e:(w.alloc (.cells #[.bool v.num.ng,.slice v.num.A v.num.n v.num.c,.bool v.den.ng,.slice v.den.A v.den.n v.den.c] 80)).heap[w.heap.size]?=some (.cells #[.bool v.num.ng,.slice v.num.A v.num.n v.num.c,.bool v.den.ng,.slice v.den.A v.den.n v.den.c] 80 (0,0)):=zAd _ _ rfl;simp only [World.cell?,e];simpa [cells4q] using h
theorem zA6 {α:Type} (f:Nat->α) (d:α) (n k:Nat) (h:k<n):((List.range n).map f).getD k d=f k:=by
 simp [h]
attribute [local go_sem] Oper.semAt_some
theorem zGJ (n:Nat) (hn:n<=1000000) (w:World) :
  (Instr.makeSlice 34 (.int .i64 0) (.int .i64 (n:Int))).run Tryz.prog w = .ok (.slice (some w) 0 n) (w.alloc (.cells (zeroQ n) 80)):=by
 obtain ⟨i0,hi,hz0,hz1,hz2⟩:=info_parts zEv;have hr:=run_make (P:=Tryz.prog) w 34 80 i0 (.agg #[.bool false,.slice none 0 0,.bool false,.slice none 0 0]) Tryz.underlying34 hi hz0 .i64 .i64 0 n (by omega) (by omega) (by rw [hz2]; omega) (by omega);rw [hz1] at hr;simpa [zeroQ,Value.cells] using hr
structure CbS (w:World) (fv:Value) (g:Nat->Rat) (pre:List Nat) (v:Value) (G:Nat->Prop) (s:List QV) (W:World):Prop where
 len:s.length=pre.length
 box:Boxed W (w+1+1) 34 v
 fnb:Boxed W w 88 fv
 own:W.ownsRow (w+1) 80 4 v pre.length (s.flatMap cells4q)
 row:∀ j,v.ownBlock=some j->G j
 gb:G (w+1+1)
 gin:∀ x,G x->(x=w.heap.size+1\/x=w.heap.size+1+1\/w.heap.size+5<=x)/\x<W.heap.size
 elem:∀ k,k<pre.length->QCan W (fun b=>¬ G b/\w.heap.size<=b) (s.getD k QV.zero) (g (pre.getD k 0))
 four:w.heap.size+4<W.heap.size
 car:Carry (fun y=>y<=w.heap.size\/y=w.heap.size+3\/y=w.heap.size+4) w W
def CInv (w:World) (fv:Value) (g:Nat->Rat) (pre:List Nat) (W:World):Prop:=∃ v G s,CbS w fv g pre v G s W
theorem CInv.own {fv:Value} {g:Nat->Rat}:Own (CInv w fv g):=fun _ W W' _ hs hg hr=>by
 obtain ⟨v,G,s,h⟩:=hs;exact ⟨v,G,s,h.len,zAi hg hr h.box,zAi hg hr h.fnb,zEp hg hr h.own,h.row,h.gb,fun x hx=>⟨(h.gin x hx).1,ltl (h.gin x hx).2 hg.size⟩,fun k hk=>(h.elem k hk).carry (Carry.grown hg hr),ltl h.four hg.size,h.car.trans (Carry.grown hg hr)⟩
theorem CbS.step {W1:World} {fv:Value} {g:Nat->Rat} {pre:List Nat} {s:List QV} {x:Nat} {zq:QV} {o:Obj} (h:CbS w fv g pre v G s W) (hb:Below W W W1) (hz:QCan W1 (New W) zq (g x))
  (hown:W2.ownsRow (w+1) 80 4 v' (pre.length+1) (s.flatMap cells4q++cells4q zq)) (hg:(W1.alloc o).grownBy W2 v.ownBlock) (hat:v'.ownBlock=v.ownBlock\/v'.ownBlock=some (W1.alloc o).heap.size) :
  CInv w fv g (pre++[x]) (W2.setCell ⟨w+1+1,0,none⟩ v')/\Carry (fun y=>y<=w.heap.size\/y=w.heap.size+3\/y=w.heap.size+4) W (W2.setCell ⟨w+1+1,0,none⟩ v')/\
   (∀ (k:Nat) (o:Obj),W.heap[k]?=some o->o.isCells=false->(W2.setCell ⟨w+1+1,0,none⟩ v').heap[k]?=some o)/\W.heap.size<=(W2.setCell ⟨w+1+1,0,none⟩ v').heap.size/\Below w W (W2.setCell ⟨w+1+1,0,none⟩ v'):=by
 have hbl:=zAa h.box;have hsz:W1.heap.size+1<=W2.heap.size:=by have:=hg.size; simpa using this
 have hs1:=hb.size;have hss:(W2.setCell ⟨w+1+1,0,none⟩ v').heap.size=W2.heap.size:=by simp [World.setCell]
 have hvl:∀ j,v.ownBlock=some j->w.heap.size+1<=j/\j<W.heap.size/\j ≠ w.heap.size+1+1/\G j:=fun j hj=>by
  obtain ⟨h1,cs,hh⟩:=zAc h.own hj;exact ⟨h1,zAa hh,zAy hh h.box (by decide),h.row j hj⟩
 have k1:∀ k,k<W1.heap.size->k ≠ w.heap.size+1+1->some k ≠ v.ownBlock->(W2.setCell ⟨w+1+1,0,none⟩ v').heap[k]?=W1.heap[k]?:=fun k hk h1 h2=>
  (bhs _ _ _ _ h1).trans ((hg.block k (by simp; omega) h2).trans (Below.heap_alloc _ _ _ hk))
 have keep:∀ k,k<W.heap.size->k ≠ w.heap.size+1+1->some k ≠ v.ownBlock->(W2.setCell ⟨w+1+1,0,none⟩ v').heap[k]?=W.heap[k]?:=fun k hk h1 h2=>(k1 k (by omega) h1 h2).trans (hb.block k hk)
 have keepG:∀ k,k<W.heap.size->¬ G k->(W2.setCell ⟨w+1+1,0,none⟩ v').heap[k]?=W.heap[k]?:=fun k hk hn=>keep k hk (fun e=>hn (by rw [e]; exact h.gb)) fun e=>hn (h.row k e.symm)
 have hv':∀ j,v'.ownBlock=some j->w.heap.size+1<=j/\j<W2.heap.size/\j ≠ w.heap.size+1+1/\(G j\/j=W1.heap.size+1):=fun j hj=>by
  obtain ⟨h1,cs,hh⟩:=zAc hown hj;refine ⟨h1,zAa hh,?_⟩;rcases hat with e | e
  ·have:=hvl j (e.symm.trans hj); exact ⟨this.2.2.1,.inl this.2.2.2⟩
  ·rw [e] at hj; cases hj; exact ⟨by simp; omega,.inr (by simp)⟩
 have carX:Carry (fun y=>y<=w.heap.size\/y=w.heap.size+3\/y=w.heap.size+4) W (W2.setCell ⟨w+1+1,0,none⟩ v'):=⟨by omega,fun k cs t f hx hk=>(keepG k (zAa hk) fun hgk=>by have:=(h.gin k hgk).1; omega).trans hk⟩;refine ⟨⟨v',fun y=>G y\/v'.ownBlock=some y,s++[zq],?_,?_,?_,?_,fun j hj=>.inr hj,.inl h.gb,?_,?_,by have:=h.four; omega,h.car.trans carX⟩,carX,fun k o hk ho=>?_,by omega,?_⟩
 ·rw [List.length_append,List.length_append,h.len]; rfl
 ·have hB:Boxed W2 (w+1+1) 34 v:=(hg.block _ (by simp; omega) (fun e=>(hvl _ e.symm).2.2.1 rfl)).trans ((Below.heap_alloc _ _ _ (by omega)).trans ((hb.block _ hbl).trans h.box));exact Boxed.set v' hB
 ·exact (keepG _ (zAa h.fnb) fun hgk=>by have:=(h.gin _ hgk).1; omega).trans h.fnb
 ·rw [List.length_append,List.flatMap_append];refine zAr (v:=v') (n:=pre.length+1) ?_ fun j hj=>bhs _ _ _ _ (hv' j hj).2.2.1
  simpa using hown
 ·intro y hy;rcases hy with hy | hy
  ·have:=h.gin y hy; omega
  ·have:=hv' y hy;rcases this.2.2.2 with hg' | e
   ·have:=h.gin y hg'; omega
   ·have:=(h.gin _ h.gb).2;have h4:=h.car.size;refine ⟨.inr (.inr ?_),by omega⟩;have h5:w.heap.size+4<W.heap.size:=h.four;omega
 ·intro k hk;rw [List.length_append] at hk;have hk':k<pre.length+1:=hk
  have e1:(pre++[x]).getD k 0=if k<pre.length then pre.getD k 0 else x:=by
   by_cases hkl:k<pre.length
   ·rw [if_pos hkl,getD_append_left _ _ _ hkl]
   ·rw [if_neg hkl,show k=pre.length by omega]; simp
  have e2:(s++[zq]).getD k QV.zero=if k<pre.length then s.getD k QV.zero else zq:=by
   rw [<-h.len];by_cases hkl:k<s.length
   ·rw [if_pos hkl,getD_append_left _ _ _ hkl]
   ·rw [if_neg hkl,show k=s.length by rw [h.len]; rw [h.len] at hkl; omega]; simp
  rw [e1,e2];by_cases hkl:k<pre.length
  ·rw [if_pos hkl,if_pos hkl];have q1:=(h.elem k hkl).imp (Y:=fun b=>(¬ G b/\¬ v'.ownBlock=some b)/\w.heap.size<=b) fun b hb' hx=>⟨⟨hx.1,fun e=>(hv' b e).2.2.2.elim hx.1 fun h'=>by omega⟩,hx.2⟩
   exact (q1.keep fun a hx hl=>cob (keepG _ hl hx.1.1)).imp fun b _ hx=>⟨fun hg'=>hg'.elim hx.1.1 hx.1.2,hx.2⟩
  ·rw [if_neg hkl,if_neg hkl];have q1:=hz.imp (Y:=fun b=>W.heap.size<=b/\b<W1.heap.size) fun b hb' hx=>⟨hx,hb'⟩
   (refine (q1.keep fun a hx hl=>cob (k1 _ hx.2 (by omega) fun e=>by have:=(hvl _ e.symm).2.1; omega)).imp fun b _ hx=>⟨fun hg'=>?_,by have:=h.car.size; omega⟩);rcases hg' with hg' | hg'
   ·have:=(h.gin b hg').2; omega
   ·rcases (hv' b hg').2.2.2 with h' | h'
    ·have:=(h.gin b h').2; omega
    ·omega
 ·refine (keep k (zAa hk) (fun e=>?_) fun e=>?_).trans hk
  ·rw [e,show W.heap[w.heap.size+1+1]?=_ from h.box] at hk; cases hk; cases ho
  ·obtain ⟨_,cs,hh⟩:=zAc h.own e.symm;rw [hh] at hk; cases hk; cases ho
 ·have hG1:Below w W W1:=hb.mono h.car.size;have h3:Below w (W1.alloc o) W2:=(brf _ _).grown hg (by have:=h.car.size; simp; omega) (fun j hj=>by have:=(hvl j hj).1; omega);exact ((hG1.alloc (by have:=h.car.size; omega) _).trans h3).setCell (p:=⟨w+1+1,0,none⟩) (by show w.heap.size<=w.heap.size+1+1; omega) _
theorem VecAt.keep' {l:List Rat} (h:VecCan W X Y s l) (hk:Carry (fun _=>True) W W'):VecCan W' X Y s l:=
 ⟨h.len,h.le,h.cap,fun k hkn=>by
  obtain ⟨ad,v,e,hx,hc,hq⟩:=h.elem k hkn;exact ⟨ad,v,e,hx,hc.carry (X:=fun _=>True) hk trivial,hq.carry (hk.mono fun _ _=>trivial)⟩⟩
theorem zFr {qs:List QV} {l:List Rat} (h:W.ownsRow base 80 4 v n (qs.flatMap cells4q)) (hl:qs.length=n) (hm:l.length=n) (he:∀ k,k<n->QCan W X (qs.getD k ⟨⟨false,none,0,0⟩,⟨false,none,0,0⟩⟩) (l.getD k 0)) :
  ∃ s:SV,v=s.val/\s.n=n/\VecCan W (fun b=>base<=b) X s l:=by
 rcases h.2 with ⟨rfl,rfl⟩ | ⟨g,cap,cur,rfl,hbg,hh,hnc,hcap,hcur,ht⟩
 ·exact ⟨⟨none,0,0⟩,rfl,rfl,hm,nlr _,nzl _,fun k hk=>absurd hk (Nat.not_lt_zero k)⟩
 ·refine ⟨⟨some ⟨g,0,none⟩,n,cap⟩,rfl,rfl,hm,hnc,(by show cap<=_; exact nlt ‹_› (show maxLen<=9223372036854775807 by decide)),fun k hk=>⟨⟨g,0,none⟩,qs.getD k ⟨⟨false,none,0,0⟩,⟨false,none,0,0⟩⟩,rfl,hbg,?_,he k hk⟩⟩;have hk':k<n:=hk
  have ec:∀ o,o<4->W.cell? ⟨g,k*4+o,none⟩=(cells4q (qs.getD k ⟨⟨false,none,0,0⟩,⟨false,none,0,0⟩⟩))[o]?:=fun o ho=>by
   have e2:(cur.toList.take (n*4))[k*4+o]?=(qs.flatMap cells4q)[k*4+o]?:=(by rw [ht]);rw [List.getElem?_take_of_lt (by omega),zCy qs k o (by omega) ho ⟨⟨false,none,0,0⟩,⟨false,none,0,0⟩⟩] at e2;simp only [World.cell?,hh];simpa using e2
  rw [zA4,Nat.zero_add];exact ⟨ec 0 (by omega),ec 1 (by omega),ec 2 (by omega),ec 3 (by omega)⟩
def CbRet (w:World) (l:List Rat) (e:Ending) (w':World):Prop:=
 ∃ s:SV,e = .returned s.val/\VecCan w' (New w) (New w) s l/\(0<l.length->∃ b c,s=⟨some ⟨b,0,none⟩,l.length,c⟩/\l.length<=c/\c<=9223372036854775807/\w.heap.size<=b/\RowP w' (fun x=>x<w.heap.size\/x=b) b l)
theorem RowP.carry {l:List Rat} (h:RowP w G b l) (hc:Carry (fun _=>True) w w'):RowP w' G b l:=by
 obtain ⟨cs,e,hs⟩:=h.blk;have e':=hc.blk _ _ _ _ trivial e
 exact ⟨h.mem,⟨cs,e',hs⟩,fun k hk=>by
  obtain ⟨v,h1,h2⟩:=h.elem k hk;refine ⟨v,h1.keep (fun a ha _=>cob (by rw [ha]; exact e'.trans e.symm)),(h2.carry (hc.mono fun _ _=>trivial))⟩⟩
theorem zMV {qs:List QV} {l:List Rat} (h:W.ownsRow base 80 4 v n (qs.flatMap cells4q)) (hl:qs.length=n) (hm:l.length=n) (hrow:∀ j,v.ownBlock=some j->G j) (he:∀ k,k<n->QCan W (fun b=>¬ G b/\B<=b) (qs.getD k ⟨⟨false,none,0,0⟩,⟨false,none,0,0⟩⟩) (l.getD k 0)) :
  ∃ s:SV,v=s.val/\s.n=n/\VecCan W (fun b=>base<=b) (fun b=>¬ G b/\B<=b) s l/\(0<l.length->∃ b c,s=⟨some ⟨b,0,none⟩,l.length,c⟩/\l.length<=c/\c<=9223372036854775807/\base<=b/\RowP W (fun x=>x<B\/x=b) b l):=by
 obtain ⟨s,e1,e2,e3⟩:=zFr h hl hm he;refine ⟨s,e1,e2,e3,fun hp=>?_⟩;rcases h.2 with ⟨_,h0⟩ | ⟨g,cap,cur,rfl,hbg,hh,hnc,hcap,hcur,ht⟩
 ·omega
 ·obtain ⟨A,sn,sc⟩:=s;dsimp only [SV.val] at e1 e2;simp only [Value.slice.injEq] at e1;obtain ⟨rfl,rfl,rfl⟩:=e1;have hG:G g:=hrow g rfl;refine ⟨g,cap,by rw [hm],by omega,nlt hcap (by decide),hbg,.inr rfl,⟨cur,hh,by rw [hm,hcur]; omega⟩,fun k hk=>⟨qs.getD k ⟨⟨false,none,0,0⟩,⟨false,none,0,0⟩⟩,?_,(he k (by omega)).imp fun b _ hb e=>e.elim (fun h=>by have:=hb.2; omega) fun e=>hb.1 (e ▸ hG)⟩⟩
  have ec:∀ o,o<4->W.cell? ⟨g,k*4+o,none⟩=(cells4q (qs.getD k ⟨⟨false,none,0,0⟩,⟨false,none,0,0⟩⟩))[o]?:=fun o ho=>by
   have e2:(cur.toList.take (n*4))[k*4+o]?=(qs.flatMap cells4q)[k*4+o]?:=(by rw [ht]);rw [List.getElem?_take_of_lt (by omega),zCy qs k o (by omega) ho ⟨⟨false,none,0,0⟩,⟨false,none,0,0⟩⟩] at e2;simp only [World.cell?,hh];simpa using e2
  exact ⟨ec 0 (by omega),ec 1 (by omega),ec 2 (by omega),ec 3 (by omega)⟩
theorem zLa {caps:Array Value} {g:Nat->Rat} {la lb:List Rat} (ha:VecIs w X Y L sa la) (hb:VecIs w X' Y' M sb lb) (hna:sa.n<=1000000) (hnb:sb.n<=1000000) (hcall:∀ (args:Array Value) (w:World),Sem.run Tryz.prog (callFunc f args) w = .ok (.enter f args) w)
  (hA:∀ W x y i,Carry (fun b=>b<w.heap.size) w W->QIs W AllB L x (la.getD i 0)->QIs W AllB M y (lb.getD i 0)->Calls Tryz.prog f (#[x.val,y.val]++caps) W fun e w'=>QRet W (g i) e w'/\Below W W w') :
  Calls Tryz.prog 225 #[sa.val,sb.val,(.func (.func f) #[] caps)] w fun e w'=>CbRet w ((List.range (max sa.n sb.n)).map g) e w'/\Below w w w':=by
 refine (callsIn_wide (n:=6)).1 ?_;obtain ⟨iq0,hiq,hzq0,hzq1,hzq2⟩:=info_parts zEv;have h0a:QIs w (fun _=>True) L QV.zero 0:=⟨0,0,⟨[],WordsAt.nil _ _ _ _ (nzl _),nzl _,rfl⟩,⟨[],WordsAt.nil _ _ _ _ (nzl _),nzl _,rfl⟩,by simp [qv]⟩;have h0b:QIs w (fun _=>True) M QV.zero 0:=⟨0,0,⟨[],WordsAt.nil _ _ _ _ (nzl _),nzl _,rfl⟩,⟨[],WordsAt.nil _ _ _ _ (nzl _),nzl _,rfl⟩,by simp [qv]⟩;obtain ⟨va,hva,hqa⟩:=(ha.imp (X':=fun y=>y<w.heap.size) (R':=QIs w (fun _=>True) L) (fun b hb _=>hb) (fun _ _ h=>h.any)).elems h0a;obtain ⟨vb,hvb,hqb⟩:=(hb.imp (X':=fun y=>y<w.heap.size) (R':=QIs w (fun _=>True) M) (fun b hb _=>hb) (fun _ _ h=>h.any)).elems h0b;have HA:=hdq hva;have HB:=hdq hvb;have HQA:Hid (∀ i,QIs w (fun y=>y<w.heap.size) L (va i) (la.getD i 0)):=fun i=>(hqa i).imp fun b hb _=>hb
 have HQB:Hid (∀ i,QIs w (fun y=>y<w.heap.size) M (vb i) (lb.getD i 0)):=fun i=>(hqb i).imp fun b hb _=>hb
 have HF:=hdq hA;obtain ⟨A,la',ca⟩:=sa;obtain ⟨B,lb',cb⟩:=sb;have cpa:la'<=ca:=ha.le;have cpb:lb'<=cb:=hb.le;have cpa2:ca<=9223372036854775807:=ha.cap;have cpb2:cb<=9223372036854775807:=hb.cap;clear ha hb h0a h0b hva hvb hqa hqb hA;dsimp only [SV.val] at hna hnb ⊢;obtain ⟨N,hN⟩:∃ N,N=max la' lb':=⟨_,rfl⟩;rw [<-hN];have HN:=hdq hN;have hmax:max (la':Int) (lb':Int)=(N:Int):=by omega
 have hNl:N<=1000000:=by omega
 have hmk:=zGJ N hNl;clear hN;refine callsIn_of_wp_marks Tryz.func225 rfl trivial ?_ rfl;simp only [Tryz.ntmps225,List.size_toArray,List.length_cons,List.length_nil,Nat.reduceAdd,Nat.reduceSub,Array.replicate_succ,Array.replicate_zero,List.push_toArray,List.append_toArray,List.nil_append,List.cons_append];gi_wp2;refine ⟨trivial,?_⟩;refine (zFZ A B la' ca lb' cb).mono ?_;rintro e w2 ⟨rfl,rfl⟩;gi_wp2;clear hmk;obtain ⟨W0,hW0⟩:∃ W0,((((w.alloc (.cells #[(.func (.func f) #[] caps)] 88)).alloc (.cells (zeroQ N) 80)).alloc (.cells #[.slice (some ⟨w+1,0,none⟩) 0 N] 34)).alloc (.cells #[.slice A la' ca] 34)).alloc (.cells #[.slice B lb' cb] 34)=W0:=⟨_,rfl⟩;rw [hW0];have hk0:Below w w W0:=by rw [<-hW0]; exact (((((brf _ w).alloc (nlr _) _).alloc (by simp) _).alloc (by simp; omega) _).alloc (by simp; omega) _).alloc (by simp; omega) _
 have hs0:W0.heap.size=w.heap.size+5:=by rw [<-hW0]; simp
 have x0:Boxed W0 w 88 (.func (.func f) #[] caps):=by rw [<-hW0]; exact alk (alk (alk (alk (zAd _ _ rfl))))
 have x1:W0.heap[w.heap.size+1]?=some (.cells (zeroQ N) 80 (0,0)):=by rw [<-hW0]; exact alk (alk (alk (zAd _ _ (by simp))))
 have x2:Boxed W0 (w+1+1) 34 (.slice (some ⟨w+1,0,none⟩) 0 N):=by rw [<-hW0]; exact alk (alk (zAd _ _ (by simp)))
 have x3:Boxed W0 (w+1+1+1) 34 (.slice A la' ca):=by rw [<-hW0]; exact alk (zAd _ _ (by simp))
 have x4:Boxed W0 (w+1+1+1+1) 34 (.slice B lb' cb):=by rw [<-hW0]; exact zAd _ _ (by simp)
 clear hW0
 have hC0:CbS w (.func (.func f) #[] caps) g [] (.slice (some ⟨w+1,0,none⟩) 0 N) (fun y=>y=w.heap.size+1\/y=w.heap.size+1+1) [] W0:=
  ⟨rfl,x2,x0,⟨rfl,.inr ⟨w.heap.size+1,N,zeroQ N,rfl,nlr _,x1,nzl _,by simp only [maxLen]; omega,by rw [zCG]; omega,rfl⟩⟩,fun j hj=>.inl (by simpa [Value.ownBlock] using hj.symm),.inr rfl,fun x hx=>by omega,fun k hk=>absurd hk (Nat.not_lt_zero _),by omega,Carry.of_below hk0⟩
 have HC0:=hdq hC0;clear hC0 x1
 refine wpIn_rangeFunc_ownH (F:=Fence.wide) rfl (by omega) (gf:=160) (lb:=#[.pointer (some ⟨w+1+1+1,0,none⟩),.pointer (some ⟨w+1+1+1+1,0,none⟩)]) rfl trivial (enters_of Tryz.func160 (by kernel_rfl) rfl)
  (zDL (X:=fun y=>y<=w.heap.size\/y=w.heap.size+3\/y=w.heap.size+4) (sa:=⟨A,la',ca⟩) (sb:=⟨B,lb',cb⟩) (va:=va) (vb:=vb) (N:=N) (by omega) x3 x4 (.inr (.inl rfl)) (.inr (.inr rfl))
   ((HA.out.carry (Carry.of_below hk0)).imp fun b hb=>.inl (by omega)) ((HB.out.carry (Carry.of_below hk0)).imp fun b hb=>.inl (by omega)) HN.out hNl)
  (fun h k=>h.trans k) (fun W l o o' _ hl ho _=>Carry.putObj o' hl ho) (brf _ _) (fun _=>rfl)
  (fun pre W=>CInv w (.func (.func f) #[] caps) g pre W/\Below w w W)
  (fun _ _ _=>False)
  (OwnFrom.and (Own.from CInv.own _) (ownFrom_below (nlr _) (by omega)))
  (fun _ _ _ _ _ hs _ _=>hs)
  ⟨⟨_,_,_,HC0.out⟩,hk0⟩
  (fun x a' W=>∃ d,a'={tmps:=#[.slice A la' ca,.slice B lb' cb,(.func (.func f) #[] caps),undef,undef,.pointer (some w),.slice none 0 0,.pointer (some ⟨w+1+1,0,none⟩),.pointer (some ⟨d,0,none⟩),.pointer (some ⟨d+1,0,none⟩),.slice A la' ca,.int .i64 la',.slice B lb' cb,.int .i64 lb',.int .i64 N,.slice (some ⟨w+1,0,none⟩) 0 N,.slice A la' ca,.slice B lb' cb,.func (.func 160) #[] #[.pointer (some ⟨w+1+1+1,0,none⟩),.pointer (some ⟨w+1+1+1+1,0,none⟩)],(va x).val,(vb x).val,undef,undef,undef,undef,undef,undef,undef,undef],defers:=[]}/\QBlk W d (va x)/\QBlk W (d+1) (vb x))
  (fun x a' _ W W' row hs hg hr=>?hAx) ?assign ?body ?done ?stop
 case hAx=>
  obtain ⟨d,e,g1,g2⟩:=hs;exact ⟨d,e,zAi hg (fun r e=>(hr r e).2) g1,zAi hg (fun r e=>(hr r e).2) g2⟩
 case stop=>
  rintro D c pre W _ _ h _;exact h.elim
 case assign=>
  intro l pre x W K hI hK;gi_wp2;have al:Below W W ((W.alloc (.cells #[.bool (va x).num.ng,.slice (va x).num.A (va x).num.n (va x).num.c,.bool (va x).den.ng,.slice (va x).den.A (va x).den.n (va x).den.c] 80)).alloc (.cells #[.bool (vb x).num.ng,.slice (vb x).num.A (vb x).num.n (vb x).num.c,.bool (vb x).den.ng,.slice (vb x).den.A (vb x).den.n (vb x).den.c] 80)):=(bal).alloc (by simp) _;obtain ⟨⟨v,G,s,h⟩,hB⟩:=hI;have hgb:W.grownBy ((W.alloc (.cells #[.bool (va x).num.ng,.slice (va x).num.A (va x).num.n (va x).num.c,.bool (va x).den.ng,.slice (va x).den.A (va x).den.n (va x).den.c] 80)).alloc (.cells #[.bool (vb x).num.ng,.slice (vb x).num.A (vb x).num.n (vb x).num.c,.bool (vb x).den.ng,.slice (vb x).den.A (vb x).den.n (vb x).den.c] 80)) none:=⟨al.os,al.tape,al.output,al.size,fun k hk _=>al.block k hk⟩;exact hK _ _ ⟨al.size,fun k o _ hk _=>(al.block k (zAa hk)).trans hk⟩ (Carry.of_below al) ⟨CInv.own _ _ _ _ ⟨v,G,s,h⟩ hgb (fun r e=>by cases e),hB.trans (al.mono hB.size)⟩ ⟨W.heap.size,rfl,alk (zAd _ _ rfl),zAd _ _ (by simp)⟩
 case body=>
  rintro l pre x a' W _ _ ⟨⟨v,G,s,h⟩,hB⟩ ⟨d,rfl,g1,g2⟩ hlt;have hqa:=((HQA.out x).carry (h.car.mono fun y hy=>.inl (by omega))).any;have hqb:=((HQB.out x).carry (h.car.mono fun y hy=>.inl (by omega))).any;obtain ⟨a0,a1,a2,a3,-⟩:=zAA g1;obtain ⟨b0,b1,b2,b3,-⟩:=zAA g2;have c4:=h.fnb.cell;have c2:=h.box.cell;have lb1:=zAa g1;have lb2:=zAa g2;have lb3:=zAa h.box;have lb4:=zAa h.fnb;have Hs:=hdq hs0;have HH:=hdq h;clear hs0 x0 x2 x3 x4 hk0 h HC0;have hBs:=hB.size;have hdr:Below W W W.drew:=(brf _ _).drew;gi_wp2;refine zBi 6 (fun f w'=>f=false->Sees w [] W w') (by kernel_rfl) (by kernel_rfl) (by rintro ⟨_,_,h⟩; exact h) ?_;have hS0:Sees w [] W W.drew:=Sees.st (by simp) hBs;refine tkW 0 (v) (fun w' hSw=>?_) (fun _=>hS0) ?_
  ·(replace hSw:=hSw rfl; go_simp; try with_reducible rfl)
  simp only [zz];refine tkV 1 4 ((.func (.func f) #[] caps)) (fun w' hSw=>?_) (fun _=>hS0) ?_
  ·(replace hSw:=hSw rfl; go_simp; try with_reducible rfl)
  simp only [zz];refine tkV 2 4 ((va x).val) (fun w' hSw=>?_) (fun _=>hS0) ?_
  ·(replace hSw:=hSw rfl; go_simp; try with_reducible rfl)
  simp only [zz];refine tkV 3 4 ((vb x).val) (fun w' hSw=>?_) (fun _=>hS0) ?_
  ·(replace hSw:=hSw rfl; go_simp; try with_reducible rfl)
  simp only [zz];refine tk1 4 ?_;intro K hK;go_simp;refine (HF.out W.drew (va x) (vb x) x ?cr (hqa.below hdr) (hqb.below hdr)).mono ?_;case cr=>exact ((HH.out.car.mono fun y hy=>.inl (by omega)).trans (Carry.of_below hdr))
  rintro e w1 ⟨⟨zq,rfl,hz⟩,hb1⟩;have hS1:=Kept.call2 hb1 hS0;have hb1':Below W W w1:=hdr.trans hb1;refine hK.out _ _ (fun _=>hS1) ?_;clear hK K a0 a1 a2 a3 b0 b1 b2 b3 c4 hqa hqb;refine tk1 5 ?_;intro K hK;go_simp;refine hK.out _ _ (fun _=>Sees.al hS1) ?_;clear hK K;have hown:=zAr HH.out.own fun j hj=>hb1'.block j (by obtain ⟨_,cs,hh⟩:=zAc HH.out.own hj; exact zAa hh)
  refine tk1 6 ?_;intro K hK;refine zAq _ _ 34 rfl (w+1) 80 iq0 (.agg #[.bool false,.slice none 0 0,.bool false,.slice none 0 0]) 4 64 Tryz.underlying34 hiq hzq0 hzq1 hzq2 rfl (by decide) v pre.length (s.flatMap cells4q) rfl (hown.alloc _) ⟨w1,0,none⟩ 1 1 (cells4q zq) rfl rfl (zA1 _ _) (by intro u hu; simp [cells4q] at hu; rcases hu with rfl | rfl | rfl | rfl <;> rfl) (by simp [maxLen]; omega) (by omega) (by have:=hb1'.size; simp; omega) ?_;intro v' W5 hown5 hg5 hnil5 hat5;have Hst:=hdq (HH.out.step hb1' hz hown5 hg5 hat5)
  have hlv:∀ j,v.ownBlock=some j->j ≠ w.heap.size+1+1:=fun j hj=>by
   obtain ⟨_,cs,hh⟩:=zAc HH.out.own hj;exact zAy hh HH.out.box (by decide)
  have d1:Boxed W5 (w+1+1) 34 v:=(hg5.block _ (by have:=hb1'.size; simp; omega) (fun e=>hlv _ e.symm rfl)).trans ((Below.heap_alloc _ _ _ (by have:=hb1'.size; omega)).trans ((hb1'.block _ lb3).trans HH.out.box));have d2:=d1.cell;have d3:=d1.frozen;obtain ⟨g5,c5,rfl⟩:=ownsRow_succ hown5;simp only [Act.put,zz];refine hK.out _ _ (fun h=>absurd h (by decide)) ?_;clear hK K hown hown5 hg5 hat5 hnil5 hS0 hS1 hb1' hz hb1 hlv d1;refine tk1 7 ?_;intro K hK;go_simp;refine hK.out _ _ (fun h=>absurd h (by decide)) ?_;clear hK K d2 d3;refine zAf (by kernel_rfl) ?_ _;gi_wp2;obtain ⟨s1,s2,s3,s4,s5⟩:=Hst.out;exact ⟨⟨s4,fun k o _ hk ho=>s3 k o hk ho⟩,s2,s1,hB.trans s5⟩
 case done=>
  rintro Dd ys W hDd rfl ⟨⟨v,G,s,h⟩,hB⟩ hK0;have c1:=h.box.cell;have Hs:=hdq hs0;have HH:=hdq h;clear hs0 x0 x2 x3 x4 h HC0;gi_wp2;refine ⟨by simp,.inl ⟨_,_,rfl,run_takeDeferred hK0,?_⟩⟩;have hcr:Carry (fun _=>True) W (W.putObj Dd (.deferred none)):=Carry.grown (grownBy_putObj' W Dd (.deferred none)) (fun r e=>by cases e; exact ⟨_,hK0,rfl⟩);have hl:(List.range N).length=N:=List.length_range;have hown:W.ownsRow (w+1) 80 4 v N (s.flatMap cells4q):=by have:=HH.out.own; rw [hl] at this; exact this
  obtain ⟨sv,e1,e2,e3,e4⟩:=zMV (G:=G) (B:=w) (l:=(List.range N).map g) hown (by rw [HH.out.len,hl]) (by rw [List.length_map,hl]) HH.out.row (fun k hk=>by
   have:=HH.out.elem k (by rw [hl]; exact hk);rw [show (List.range N).getD k 0=k by simp [hk]] at this;rw [zA6 _ _ _ _ hk];exact this)
  subst e1;refine ⟨_,results_tmp rfl _ _ _,⟨sv,rfl,?_,fun hp=>?_⟩,?_⟩
  ·exact (e3.keep' hcr).imp (fun b _ hb=>by simp only [New]; omega) fun v q hq=>hq.imp fun b _ hb=>hb.2
  ·obtain ⟨b,c,q1,q2,q3,q4,q5⟩:=e4 hp;exact ⟨b,c,q1,q2,q3,by omega,q5.carry hcr⟩
  ·exact hB.trans (belowK_b (w:=w) (nlr _) W Dd _ _ (by have:=Hs.out; omega) hK0 rfl rfl)
end Go.Proofs.YtjancagcmghfjaaGreat
