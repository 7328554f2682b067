/- Texts Leave Compare MatI of this claim. -/
import Derived.Test.YtpjaodcimomaiaaGreatL19
import Derived.Deep.CutRange
import Derived.Test.YtpjaodcimomaiaaGreatL18
set_option maxHeartbeats 4000000
set_option maxRecDepth 100000
namespace Go.Proofs.YtpjaodcimomaiaaGreat
open Go.RowKit Go.Shelf
variable {q p:Rat} {w1 W w:World} {sa sb:SV} {X X' Y Y':Nat->Prop} {n B1 N x L M:Nat}
def ratio (D:Lin.Dict) (V col j:Nat):Rat:=D.a j V / D.a j col
def LPick (D:Lin.Dict) (V col i:Nat) (v:Value):Prop:=
 (v = .int .i64 (-1)/\∀ j,j<i->¬ 0<D.a j col)\/∃ r:Nat,r<i/\v = .int .i64 (r:Int)/\0<D.a r col/\(∀ j,j<i->0<D.a j col->ratio D V col r<=ratio D V col j)/\∀ j,j<i->0<D.a j col->ratio D V col r=ratio D V col j->D.basic r<=D.basic j
section
variable {D:Lin.Dict} {V col i:Nat} {v:Value}
theorem LPick.skip (h:LPick D V col i v) (hp:¬ 0<D.a i col):LPick D V col (i+1) v:=by
 rcases h with ⟨e,h⟩ | ⟨r,hr,e,h1,h2,h3⟩
 ·exact .inl ⟨e,fun j hj=>by by_cases h':j=i; subst h'; exact hp; exact h j (by omega)⟩
 ·refine .inr ⟨r,by omega,e,h1,fun j hj hpj=>?_,fun j hj hpj=>?_⟩
  ·by_cases h':j=i
   ·subst h'; exact absurd hpj hp
   ·exact h2 j (by omega) hpj
  ·by_cases h':j=i
   ·subst h'; exact absurd hpj hp
   ·exact h3 j (by omega) hpj
theorem LPick.first (h:∀ j,j<i->¬ 0<D.a j col) (hp:0<D.a i col):LPick D V col (i+1) (.int .i64 (i:Int)):=by
 refine .inr ⟨i,by omega,rfl,hp,fun j hj hpj=>?_,fun j hj hpj _=>?_⟩
 ·by_cases h':j=i
  ·subst h'; exact Rat.le_refl
  ·exact absurd hpj (h j (by omega))
 ·by_cases h':j=i
  ·subst h'; exact nlr _
  ·exact absurd hpj (h j (by omega))
variable {r:Nat}
theorem LPick.less (h2:∀ j,j<i->0<D.a j col->ratio D V col r<=ratio D V col j) (hp:0<D.a i col) (hl:ratio D V col i<ratio D V col r):LPick D V col (i+1) (.int .i64 (i:Int)):=by
 refine .inr ⟨i,by omega,rfl,hp,fun j hj hpj=>?_,fun j hj hpj e=>?_⟩
 ·by_cases h':j=i
  ·subst h'; exact Rat.le_refl
  ·have:=h2 j (by omega) hpj; grind
 ·by_cases h':j=i
  ·subst h'; exact nlr _
  ·have:=h2 j (by omega) hpj; grind
theorem LPick.same (h2:∀ j,j<i->0<D.a j col->ratio D V col r<=ratio D V col j) (h3:∀ j,j<i->0<D.a j col->ratio D V col r=ratio D V col j->D.basic r<=D.basic j) (hp:0<D.a i col) (hl:ratio D V col i=ratio D V col r) (hb:D.basic i<D.basic r):LPick D V col (i+1) (.int .i64 (i:Int)):=by
 refine .inr ⟨i,by omega,rfl,hp,fun j hj hpj=>?_,fun j hj hpj e=>?_⟩
 ·by_cases h':j=i
  ·subst h'; exact Rat.le_refl
  ·have:=h2 j (by omega) hpj; grind
 ·by_cases h':j=i
  ·subst h'; exact nlr _
  ·have:=h3 j (by omega) hpj (by grind); omega
theorem LPick.stay (hr:r<i) (h1:0<D.a r col) (h2:∀ j,j<i->0<D.a j col->ratio D V col r<=ratio D V col j) (h3:∀ j,j<i->0<D.a j col->ratio D V col r=ratio D V col j->D.basic r<=D.basic j) (hl:ratio D V col r<ratio D V col i\/(ratio D V col i=ratio D V col r/\¬ D.basic i<D.basic r)):LPick D V col (i+1) (.int .i64 (r:Int)):=by
 refine .inr ⟨r,by omega,rfl,h1,fun j hj hpj=>?_,fun j hj hpj e=>?_⟩
 ·by_cases h':j=i
  ·subst h'; grind
  ·exact h2 j (by omega) hpj
 ·by_cases h':j=i
  ·subst h'; rcases hl with hl | ⟨hl,hb⟩
   ·grind
   ·omega
  ·exact h3 j (by omega) hpj e
end
theorem zKD (p q:Rat):(p<q/\qcmp p q=-1)\/(p=q/\qcmp p q=0)\/(q<p/\qcmp p q=1):=by
 unfold qcmp;by_cases h:p<q
 ·exact .inl ⟨h,if_pos h⟩
 ·by_cases h2:p=q
  ·exact .inr (.inl ⟨h2,by rw [if_neg h,if_pos h2]⟩)
  ·exact .inr (.inr ⟨by grind,by rw [if_neg h,if_neg h2]⟩)
theorem zLD (h:0<q):qsign q=1:=by
 unfold qsign; rw [if_neg (by grind),if_neg (by grind)]
theorem zL1 (h:¬ 0<q):qsign q<=0:=by
 unfold qsign;by_cases h1:q<0
 ·rw [if_pos h1]; decide
 ·rw [if_neg h1,if_pos (by grind)]; decide
attribute [local go_sem] Oper.semAt_some
theorem zDL {B2:Nat} {va vb:Nat->QV} (hn:1<=n) (h1:w1.heap[B1]?=some (.cells #[sa.val] 24 (0,0))) (h2:w1.heap[B2]?=some (.cells #[sb.val] 24 (0,0))) (hb1:X B1) (hb2:X B2)
  (ha:Elems w1 X sa va) (hb:Elems w1 X sb vb) (hN:N=max sa.n sb.n) (hN2:N<=1000000) :
  SeqStopsK Fence.wide n Tryz.prog 143 #[.pointer (some ⟨B1,0,none⟩),.pointer (some ⟨B2,0,none⟩)] (fun x:Nat=>#[(va x).val,(vb x).val]) (Carry X) (fun ys=>ys=List.range N) (fun pre=>pre <+: List.range N) N w1:=fun _l J Jx W hW hJ _ hY h0=>
 zHL hn J Jx W hJ hY ((hW.block B1 (zAa h1)).trans h1) ((hW.block B2 (zAa h2)).trans h2) hb1 hb2 (ha.carry (Carry.of_below hW)) (hb.carry (Carry.of_below hW)) hN hN2 h0
theorem Elems.imp {s:SV} {v:Nat->QV} (h:Elems W X s v) (hx:∀ b,X b->X' b):Elems W X' s v:=
 ⟨h.le,h.cap,fun i hi=>by obtain ⟨ad,e,h1,h2⟩:=h.elem i hi; exact ⟨ad,e,hx _ h1,h2⟩,h.rest⟩
def vcmp (a b:Nat->Rat):Nat->Int
 | 0=>0
 | n+1=>if vcmp a b n=0 then qcmp (a n) (b n) else vcmp a b n
theorem zKE (p:Rat):qcmp p p=0:=by unfold qcmp; rw [if_neg (by grind),if_pos rfl]
theorem zKy (h:p ≠ q):qcmp p q ≠ 0:=by
 rcases zKD p q with ⟨_,e⟩ | ⟨h',_⟩ | ⟨_,e⟩
 ·rw [e]; decide
 ·exact absurd h' h
 ·rw [e]; decide
theorem zKq {a b:Nat->Rat}:∀ {n:Nat},(∀ i,i<n->a i=b i)->vcmp a b n=0
 | 0,_=>rfl
 | n+1,h=>by
  show (if vcmp a b n=0 then qcmp (a n) (b n) else vcmp a b n)=0;rw [if_pos (zKq fun i hi=>h i (by omega)),h n (by omega),zKE]
theorem zKr {a b:Nat->Rat} (h:∀ i,i<x->a i=b i) (hx:a x ≠ b x):∀ {n:Nat},x<n->vcmp a b n=qcmp (a x) (b x)
 | 0,h'=>by omega
 | n+1,h'=>by
  show (if vcmp a b n=0 then qcmp (a n) (b n) else vcmp a b n)=_;by_cases e:x=n
  ·subst e; rw [if_pos (zKq h)]
  ·have ih:=zKr h hx (n:=n) (by omega);rw [if_neg (by rw [ih]; exact zKy hx),ih]
theorem zKA {a b:Nat->Rat} :vcmp a b n=0 ↔ ∀ i,i<n->a i=b i:=by
 refine ⟨fun h=>?_,zKq⟩
 induction n with
 | zero=>intro i hi; omega
 | succ n ih=>
  have h':(if vcmp a b n=0 then qcmp (a n) (b n) else vcmp a b n)=0:=h;by_cases e:vcmp a b n=0
  ·rw [if_pos e] at h';intro i hi;by_cases ei:i=n
   ·subst ei;by_cases hne:a i=b i
    ·exact hne
    ·exact absurd h' (zKy hne)
   ·exact ih e i (by omega)
  ·rw [if_neg e] at h'; exact absurd h' e
theorem zGD {pre:List Nat} {pr:List Nat} (h:pre <+: List.range N) (e:pre=pr++[x]):x<N/\pr=List.range x:=by
 subst e;obtain ⟨t,ht⟩:=h
 have hl:pr.length<N:=by
  have:=congrArg List.length ht;simp at this; omega
 have hx:x=pr.length:=by
  have:(pr++[x]++t)[pr.length]?=(List.range N)[pr.length]?:=by rw [ht]
  rw [List.append_assoc,List.getElem?_append_right (nlr _),List.getElem?_range hl] at this;simpa using this
 refine ⟨by omega,?_⟩;apply List.ext_getElem
 ·simp [hx]
 ·intro i h1 h2;have:(pr++[x]++t)[i]?=(List.range N)[i]?:=by rw [ht]
  rw [List.append_assoc,List.getElem?_append_left h1,List.getElem?_range (by omega),gge h1] at this;simpa using this
def CmpInv (w:World) (a b:Nat->Rat) (pre:List Nat) (W:World):Prop:=
 Boxed W w.heap.size 3 (.int .i64 0)/\Carry (fun y=>y ≠ w.heap.size) w W/\∀ x ∈ pre,a x=b x
def CmpOut (w:World) (a b:Nat->Rat) (c:Code) (pre:List Nat) (W:World):Prop:=
 c = .ret/\∃ pr x,pre=pr++[x]/\a x ≠ b x/\(∀ y ∈ pr,a y=b y)/\Boxed W w.heap.size 3 (.int .i64 (qcmp (a x) (b x)))/\Below w.heap.size w W
theorem CmpInv.own {a b:Nat->Rat}:Own (CmpInv w a b):=fun _s _W _W' _row hs hg hr=>⟨zAi hg hr hs.1,hs.2.1.trans (Carry.grown hg hr),hs.2.2⟩
theorem zKw {la lb:List Rat} (ha:VecIs w X Y L sa la) (hb:VecIs w X' Y' M sb lb) (hL:L<=LM) (hM:M<=LM) (hna:sa.n<=1000000) (hnb:sb.n<=1000000) :
  Calls Tryz.prog 68 #[sa.val,sb.val] w fun e w'=>e = .returned (.int .i64 (vcmp (fun i=>la.getD i 0) (fun i=>lb.getD i 0) (max sa.n sb.n)))/\Below w.heap.size w w':=by
 refine (callsIn_wide (n:=6)).1 ?_;have HL:=hdq hL;have HM:=hdq hM;have h0a:QIs w (fun _=>True) L QV.zero 0:=⟨0,0,⟨[],WordsAt.nil _ _ _ _ (nzl _),nzl _,rfl⟩,⟨[],WordsAt.nil _ _ _ _ (nzl _),nzl _,rfl⟩,by simp [qv]⟩;have h0b:QIs w (fun _=>True) M QV.zero 0:=⟨0,0,⟨[],WordsAt.nil _ _ _ _ (nzl _),nzl _,rfl⟩,⟨[],WordsAt.nil _ _ _ _ (nzl _),nzl _,rfl⟩,by simp [qv]⟩;obtain ⟨va,hva,hqa⟩:=(ha.imp (X':=fun y=>y<w.heap.size) (R':=QIs w (fun _=>True) L) (fun b hb _=>hb) (fun _ _ h=>h.any)).elems h0a;obtain ⟨vb,hvb,hqb⟩:=(hb.imp (X':=fun y=>y<w.heap.size) (R':=QIs w (fun _=>True) M) (fun b hb _=>hb) (fun _ _ h=>h.any)).elems h0b;have HA:=hdq hva;have HB:=hdq hvb;have HQA:Hid (∀ i,QIs w (fun y=>y<w.heap.size) L (va i) (la.getD i 0)):=fun i=>(hqa i).imp fun b hb _=>hb
 have HQB:Hid (∀ i,QIs w (fun y=>y<w.heap.size) M (vb i) (lb.getD i 0)):=fun i=>(hqb i).imp fun b hb _=>hb
 obtain ⟨A,la',ca⟩:=sa;obtain ⟨B,lb',cb⟩:=sb;obtain ⟨fa,hfa⟩:∃ fa:Nat->Rat,fa=fun i=>la.getD i 0:=⟨_,rfl⟩
 obtain ⟨fb,hfb⟩:∃ fb:Nat->Rat,fb=fun i=>lb.getD i 0:=⟨_,rfl⟩
 replace HQA:Hid (∀ i,QIs w (fun y=>y<w.heap.size) L (va i) (fa i)):=by rw [hfa]; exact HQA
 replace HQB:Hid (∀ i,QIs w (fun y=>y<w.heap.size) M (vb i) (fb i)):=by rw [hfb]; exact HQB
 rw [<-hfa,<-hfb];clear hfa hfb;clear ha hb hL hM h0a h0b hva hvb hqa hqb;dsimp only [SV.val] at hna hnb ⊢;obtain ⟨N,hN⟩:∃ N,N=max la' lb':=⟨_,rfl⟩;rw [<-hN];have HN:=hdq hN;clear hN;refine callsIn_of_wp_marks Tryz.func68 rfl trivial ?_ rfl;simp only [Tryz.ntmps68,List.size_toArray,List.length_cons,List.length_nil,Nat.reduceAdd,Nat.reduceSub,Array.replicate_succ,Array.replicate_zero,List.push_toArray,List.append_toArray,List.nil_append,List.cons_append];gi_wp2;refine ⟨trivial,?_⟩;refine (zFZ A B la' ca lb' cb).mono ?_;rintro e w2 ⟨rfl,rfl⟩;gi_wp2;obtain ⟨W0,hW0⟩:∃ W0,((w.alloc (.cells #[.int .i64 0] 3)).alloc (.cells #[.slice A la' ca] 24)).alloc (.cells #[.slice B lb' cb] 24)=W0:=⟨_,rfl⟩;rw [hW0];have hk0:Below w.heap.size w W0:=by rw [<-hW0]; exact (((brf _ w).alloc (nlr _) _).alloc (by simp) _).alloc (by simp; omega) _
 have hs0:W0.heap.size=w.heap.size+3:=by rw [<-hW0]; simp
 have x0:Boxed W0 w.heap.size 3 (.int .i64 0):=by rw [<-hW0]; exact ((Boxed.new w _ _).alloc _).alloc _
 have x1:Boxed W0 (w.heap.size+1) 24 (.slice A la' ca):=by
  have:=(Boxed.new (w.alloc (.cells #[.int .i64 0] 3)) 24 (.slice A la' ca)).alloc (.cells #[.slice B lb' cb] 24);rw [World.size_alloc,hW0] at this; exact this
 have x2:Boxed W0 (w.heap.size+1+1) 24 (.slice B lb' cb):=by
  have:=Boxed.new ((w.alloc (.cells #[.int .i64 0] 3)).alloc (.cells #[.slice A la' ca] 24)) 24 (.slice B lb' cb);rw [World.size_alloc,World.size_alloc,hW0] at this; exact this
 clear hW0
 refine wpIn_rangeFunc_ownH (F:=Fence.wide) rfl (by omega) (gf:=143) (lb:=#[.pointer (some ⟨w.heap.size+1,0,none⟩),.pointer (some ⟨w.heap.size+1+1,0,none⟩)]) rfl trivial (enters_of Tryz.func143 (by kernel_rfl) rfl)
  (zDL (X:=fun y=>y ≠ w.heap.size) (sa:=⟨A,la',ca⟩) (sb:=⟨B,lb',cb⟩) (va:=va) (vb:=vb) (N:=N) (by omega) x1 x2 (by omega) (by omega)
   ((HA.out.carry (Carry.of_below hk0)).imp fun b hb=>by omega) ((HB.out.carry (Carry.of_below hk0)).imp fun b hb=>by omega) HN.out (by have:=HN.out; omega))
  (fun h k=>h.trans k) (fun W l o o' _ hl ho _=>Carry.putObj o' hl ho) (brf _ _) (fun _=>rfl)
  (fun pre W=>CmpInv w fa fb pre W/\Below w.heap.size w W)
  (fun c pre W=>CmpOut w fa fb c pre W)
  (OwnFrom.and (Own.from CmpInv.own _) (ownFrom_below (nlr _) (by omega)))
  (fun c s W W' row hs hg hr=>?hIx)
  ⟨⟨x0,Carry.of_below hk0,fun x hx=>by cases hx⟩,hk0⟩
  (fun x a' W=>∃ g,a'={tmps:=#[.slice A la' ca,.slice B lb' cb,undef,undef,.pointer (some ⟨w.heap.size,0,none⟩),.pointer (some ⟨g,0,none⟩),.pointer (some ⟨g+1,0,none⟩),undef,.slice A la' ca,.slice B lb' cb,.func (.func 143) #[] #[.pointer (some ⟨w.heap.size+1,0,none⟩),.pointer (some ⟨w.heap.size+1+1,0,none⟩)],(va x).val,(vb x).val,undef,undef,undef,undef,undef,undef],defers:=[]}/\W.heap[g]?=some (.cells #[.bool (va x).num.ng,.slice (va x).num.A (va x).num.n (va x).num.c,.bool (va x).den.ng,.slice (va x).den.A (va x).den.n (va x).den.c] 37 (0,0))/\W.heap[g+1]?=some (.cells #[.bool (vb x).num.ng,.slice (vb x).num.A (vb x).num.n (vb x).num.c,.bool (vb x).den.ng,.slice (vb x).den.A (vb x).den.n (vb x).den.c] 37 (0,0)))
  (fun x a' _ W W' row hs hg hr=>?hAx) ?assign ?body ?done ?stop
 case hAx=>
  obtain ⟨g,e,g1,g2⟩:=hs;exact ⟨g,e,zAi hg (fun r e=>(hr r e).2) g1,zAi hg (fun r e=>(hr r e).2) g2⟩
 case hIx=>
  obtain ⟨rfl,pr,x,e,h1,h2,h3,h4⟩:=hs;exact ⟨rfl,pr,x,e,h1,h2,zAi hg (fun r e=>(hr r e).2) h3,(ownFrom_below (nlr _) (show w.heap.size<=W0.heap.size by omega)) s W W' row h4 hg hr⟩
 case assign=>
  intro l pre x W K hI hK;gi_wp2;have al:Below W.heap.size W ((W.alloc (.cells #[.bool (va x).num.ng,.slice (va x).num.A (va x).num.n (va x).num.c,.bool (va x).den.ng,.slice (va x).den.A (va x).den.n (va x).den.c] 37)).alloc (.cells #[.bool (vb x).num.ng,.slice (vb x).num.A (vb x).num.n (vb x).num.c,.bool (vb x).den.ng,.slice (vb x).den.A (vb x).den.n (vb x).den.c] 37)):=((brf _ _).alloc (nlr _) _).alloc (by simp) _;obtain ⟨⟨i1,i2,i3⟩,hB⟩:=hI;exact hK _ _ ⟨al.size,fun k o _ hk _=>(al.block k (zAa hk)).trans hk⟩ (Carry.of_below al) ⟨⟨(al.block _ (zAa i1)).trans i1,i2.trans (Carry.of_below al),i3⟩,hB.trans (al.mono hB.size)⟩ ⟨W.heap.size,rfl,(Below.heap_alloc _ _ _ (by simp)).trans (zAd _ _ rfl),zAd _ _ (by simp)⟩
 case body=>
  rintro l pre x a' W _ _ ⟨⟨i1,i2,i3⟩,hB⟩ ⟨g,rfl,g1,g2⟩ hlt;have hqa:=(HQA.out x).carry (i2.mono fun y hy=>by omega);have hqb:=(HQB.out x).carry (i2.mono fun y hy=>by omega);obtain ⟨a0,a1,a2,a3⟩:W.cell? ⟨g,0,none⟩=some (.bool (va x).num.ng)/\W.cell? ⟨g,1,none⟩=some (.slice (va x).num.A (va x).num.n (va x).num.c)/\W.cell? ⟨g,2,none⟩=some (.bool (va x).den.ng)/\W.cell? ⟨g,3,none⟩=some (.slice (va x).den.A (va x).den.n (va x).den.c):=by simp [World.cell?,g1]
  obtain ⟨b0,b1,b2,b3⟩:W.cell? ⟨g+1,0,none⟩=some (.bool (vb x).num.ng)/\W.cell? ⟨g+1,1,none⟩=some (.slice (vb x).num.A (vb x).num.n (vb x).num.c)/\W.cell? ⟨g+1,2,none⟩=some (.bool (vb x).den.ng)/\W.cell? ⟨g+1,3,none⟩=some (.slice (vb x).den.A (vb x).den.n (vb x).den.c):=by simp [World.cell?,g2]
  have Hs:=hdq hs0;have I3:=hdq i3;clear hs0 x0 x1 x2 hk0 i3;gi_wp2;refine ⟨trivial,?_⟩;refine CallsIn.inRound l (callsIn_wide.2 ((zBg (a:=va x) (b:=vb x) hqa hqb HL.out HM.out).mono ?_));rintro e w3 ⟨rfl,hb3⟩;have z3:Boxed w3 w.heap.size 3 (.int .i64 0):=(hb3.block _ (zAa i1)).trans i1;have hB3:=hB.trans (hb3.mono hB.size);have f3:∀ o,w3.frozen? ⟨w.heap.size,o,none⟩=false:=fun o=>by simp [World.frozen?,show w3.heap[w.heap.size]?=_ from z3]
  have c3:=z3.cell;by_cases he:fa x=fb x
  ·have hq:qcmp (fa x) (fb x)=0:=(by rw [he,zKE]);rw [hq];clear a0 a1 a2 a3 b0 b1 b2 b3;gi_wp2;refine ⟨⟨hb3.size,fun k o _ hk _=>(hb3.block k (zAa hk)).trans hk⟩,Carry.of_below hb3,⟨z3,i2.trans (Carry.of_below hb3),fun y hy=>?_⟩,hB3⟩;rw [List.mem_append,List.mem_singleton] at hy;rcases hy with hy | rfl
   ·exact I3.out y hy
   ·exact he
  ·have hq:(qcmp (fa x) (fb x) == 0)=false:=(by simpa using zKy he);have hq2:¬ (qcmp (fa x) (fb x)=0):=zKy he;clear a0 a1 a2 a3 b0 b1 b2 b3;gi_wp2;refine ⟨⟨by simpa [World.setCell] using hb3.size,fun k o _ hk ho=>?_⟩,rfl,pre,x,rfl,he,I3.out,Boxed.set _ z3,hB3.setCell (p:=⟨w.heap.size,0,none⟩) (nlr _) _⟩;refine (bhs _ _ _ _ (fun e=>?_)).trans ((hb3.block k (zAa hk)).trans hk);dsimp only at e;rw [e,show W.heap[w.heap.size]?=_ from i1] at hk; cases hk; cases ho
 case done=>
  rintro Dd ys W hDd rfl ⟨⟨i1,i2,i3⟩,hB⟩ hK0;have c1:=i1.cell;have f1:∀ o,W.frozen? ⟨w.heap.size,o,none⟩=false:=fun o=>by simp [World.frozen?,show W.heap[w.heap.size]?=_ from i1]
  have Hs:=hdq hs0;have Hz:=hdq (zKq (n:=N) (a:=fa) (b:=fb) fun i hi=>i3 i (by simpa using hi));clear hs0 x0 x1 x2 i3;have hne:Dd ≠ w.heap.size:=by have:=Hs.out; omega
  gi_wp2;have hK1:(W.setCell ⟨w.heap.size,0,none⟩ (.int .i64 0)).heap[Dd]?=some (.deferred (some [])):=(bhs _ _ _ _ hne).trans hK0;refine ⟨by simp,.inl ⟨_,_,rfl,run_takeDeferred hK1,?_⟩⟩;have g1:=zAi (grownBy_putObj' (W.setCell ⟨w.heap.size,0,none⟩ (.int .i64 0)) Dd (.deferred none)) (fun r e=>by cases e; exact ⟨_,hK1,rfl⟩) (Boxed.set (.int .i64 0) i1);have g2:((W.setCell ⟨w.heap.size,0,none⟩ (.int .i64 0)).putObj Dd (.deferred none)).cell? ⟨w.heap.size,0,none⟩=some (.int .i64 0):=Boxed.cell g1;refine ⟨.int .i64 0,by simp [results,Tryz.results68,go_sem,g2],by rw [Hz.out],?_⟩;exact (hB.setCell (p:=⟨w.heap.size,0,none⟩) (nlr _) _).trans (belowK_b (w:=w) (nlr _) _ Dd _ _ (by have:=Hs.out; omega) hK1 rfl rfl)
 case stop=>
  rintro Dd c pre W hDd hpre ⟨rfl,pr,x,e,h1,h2,h3,h4⟩ hK0;obtain ⟨hx,hpr⟩:=zGD hpre e;have Hz:=hdq (zKr (a:=fa) (b:=fb) (x:=x) (fun i hi=>h2 i (by rw [hpr]; simpa using hi)) h1 hx);have c1:=h3.cell;have Hs:=hdq hs0;clear hs0 x0 x1 x2;gi_wp2;refine ⟨by simp,.inl ⟨_,_,rfl,run_takeDeferred hK0,?_⟩⟩;have g1:=zAi (grownBy_putObj' W Dd (.deferred none)) (fun r e=>by cases e; exact ⟨_,hK0,rfl⟩) h3;have g2:(W.putObj Dd (.deferred none)).cell? ⟨w.heap.size,0,none⟩=some (.int .i64 (qcmp (fa x) (fb x))):=Boxed.cell g1;refine ⟨.int .i64 (qcmp (fa x) (fb x)),by simp [results,Tryz.results68,go_sem,g2],by rw [Hz.out],?_⟩;exact h4.trans (belowK_b (w:=w) (nlr _) _ Dd _ _ (by have:=Hs.out; omega) hK0 rfl rfl)
end Go.Proofs.YtpjaodcimomaiaaGreat
namespace Go.Proofs.YtpjaodcimomaiaaGreat
open Go.RowKit Go.Shelf
variable {sa sb:SV} {L M:Nat} {X Y X' Y':Nat->Prop} {w w':World}
theorem zNQ {la lb:List Rat} (ha:VecIs w X Y L sa la) (hb:VecIs w X' Y' M sb lb) (hL:L<=LM) (hM:M<=LM) (hna:sa.n<=1000000) (hnb:sb.n<=1000000) :
  Calls Tryz.prog 17 #[sa.val,sb.val] w fun e w'=>e = .returned (.bool (vcmp (fun i=>la.getD i 0) (fun i=>lb.getD i 0) (max sa.n sb.n) == 0))/\Below w.heap.size w w':=by
 have HC:=hdq (zKw ha hb hL hM hna hnb);clear ha hb hL hM;generalize vcmp (fun i=>la.getD i 0) (fun i=>lb.getD i 0) (max sa.n sb.n)=z at *;go_enter Tryz.func17,Tryz.ntmps17
 go_wp2_with fail
 refine HC.out.mono ?_; rintro e w1 ⟨rfl,hb1⟩
 go_wp2;go_ret;exact ⟨rfl,hb1⟩
structure IntsMat (w:World) (s:SV) (m:List (List Int)):Prop where
 len:m.length=s.n
 le:s.n<=s.c
 cap:s.c<=9223372036854775807
 row:∀ i,i<s.n->∃ ad r,s.A=some ad/\w.cell? (ad.add i)=some (SV.val r)/\IntsAt w r (m.getD i [])/\r.n<=1000
theorem IntsMat.below {s:SV} {m:List (List Int)} (h:IntsMat w s m) (hb:Below w.heap.size w w'):IntsMat w' s m:=
 ⟨h.len,h.le,h.cap,fun i hi=>by
  obtain ⟨ad,r,e,hc,hr,hn⟩:=h.row i hi;exact ⟨ad,r,e,(hb.cell (zAb hc)).trans hc,hr.below hb,hn⟩⟩
def MRet (w:World) (m:List (List Rat)) (e:Ending) (w':World):Prop:=∃ s:SV,e = .returned s.val/\MatCan w' (New w.heap.size) (New w.heap.size) s m
def rats (l:List Int):List Rat:=l.map fun x:Int=>(x:Rat)
def MILoop (w:World) (m:List (List Int)) (n:Nat) (t:Value) (W:World):Prop:=
 ∃ i:Nat,i<=n/\t = .int .i64 i/\Below w.heap.size w W/\∃ (cs:Array Value) (sv:Nat->SV),W.heap[w.heap.size]?=some (.cells cs 24 (0,0))/\cs.size=n/\∀ j,j<i->cs[j]?=some (sv j).val/\VecCan W (New (w.heap.size+1)) (New (w.heap.size+1)) (sv j) (rats (m.getD j []))
theorem zBa {s:SV} {m:List (List Int)} (h:IntsMat w s m) (hn:s.n<=1000) :
  Calls Tryz.prog 99 #[s.val] w fun e w'=>MRet w (m.map rats) e w'/\Below w.heap.size w w':=by
 obtain ⟨A,n,c⟩:=s;dsimp only at hn;have HLen:Hid (m.length=n):=h.len;have hle:n<=c:=h.le;have hcap:c<=9223372036854775807:=h.cap;have hmk:=zHV n (by omega);show Calls _ _ #[.slice A n c] _ _;go_enter Tryz.func99,Tryz.ntmps99
 go_wp2
 have H0:MILoop w m n (.int .i64 0) (w.alloc (.cells (zeroS n) 24)):=
  ⟨0,nzl _,rfl,(brf _ _).alloc (nlr _) _,zeroS n,fun _=>⟨none,0,0⟩,zAd _ _ rfl,zIb n,fun j hj=>absurd hj (by omega)⟩
 clear hmk;generalize w.alloc (.cells (zeroS n) 24)=W0 at *;go_loopw [11] (fun t W=>MILoop w m n t W) (fun t _=>n-(intOf t).toNat)
 case atStart=>exact H0
 case round=>
  clear H0;obtain ⟨i,hi,rfl,hB,cs,sv,h1,h2,h3⟩:=hrel;by_cases hlt:i<n
  ·obtain ⟨ad,r,e,r0,hr,hr2⟩:=(h.below hB).row i hlt;dsimp only at e;subst e;obtain ⟨rA,rn,rc⟩:=r;have hyl:=zAa h1;(go_wp2_with fail);refine (zBP hr hr2).mono ?_; rintro e w1 ⟨⟨z,rfl,hz⟩,hb1⟩
   obtain ⟨zA,zn,zc⟩:=z;have h1':w1.heap[w.heap.size]?=some (.cells cs 24 (0,0)):=(hb1.block _ hyl).trans h1;have y0:(w1.cell? ⟨w.heap.size,i,none⟩).isSome=true:=by simp only [World.cell?,h1']; simp [h2,hlt]
   obtain ⟨yv,hyv⟩:=Option.isSome_iff_exists.1 y0;have yf:∀ o,w1.frozen? ⟨w.heap.size,o,none⟩=false:=fun o=>by simp [World.frozen?,h1']
   have Hfin:Hid (MILoop w m n (.int .i64 ((i:Int)+1)) (w1.setCell ⟨w.heap.size,i,none⟩ (.slice zA zn zc))):=by
    have k:∀ p:Addr,New (w.heap.size+1) p.block->(w1.setCell ⟨w.heap.size,i,none⟩ (.slice zA zn zc)).cell? p=w1.cell? p:=(fun p hp=>cob (bhs _ _ _ _ (by simp only [New] at hp; show p.block ≠ w.heap.size; omega)));have kv:∀ {s:SV} {l:List Rat},VecCan w1 (New (w.heap.size+1)) (New (w.heap.size+1)) s l->VecCan (w1.setCell ⟨w.heap.size,i,none⟩ (.slice zA zn zc)) (New (w.heap.size+1)) (New (w.heap.size+1)) s l:=(fun hv=>hv.keep (fun a ha _=>k a ha) fun v q hq=>hq.keep fun p hp _=>k p hp);refine ⟨i+1,by omega,by simp,(hB.trans (hb1.mono hB.size)).setCell (p:=⟨w.heap.size,i,none⟩) (nlr _) _,cs.setIfInBounds i (.slice zA zn zc),fun j=>if j=i then ⟨zA,zn,zc⟩ else sv j,zAe _ h1',by simpa using h2,fun j hj=>?_⟩;rw [Array.getElem?_setIfInBounds];by_cases e:i=j
    ·subst e;rw [if_pos rfl,if_pos (by omega)];dsimp only;rw [if_pos rfl];exact ⟨rfl,kv (hz.imp (fun b _ hb=>by simp only [New] at hb ⊢; omega) fun v q hq=>hq.imp fun b _ hb=>by simp only [New] at hb ⊢; omega)⟩
    ·rw [if_neg e];dsimp only;rw [if_neg (Ne.symm e)];obtain ⟨g1,g2⟩:=h3 j (by omega);exact ⟨g1,kv (g2.belowC hb1)⟩
   clear h1 h2 h3 h1' hz hb1 hB hr r0 y0;go_wp2;go_roundw;case rel=>exact fn_ Hfin.out
   case measure=>simp [intOf]; omega
  ·have hin:i=n:=(by omega);rw [hin] at h3
   have HF:Hid (MRet w (m.map rats) (.returned (.slice (some ⟨w.heap.size,0,none⟩) n n)) wr):=by
    refine ⟨⟨some ⟨w.heap.size,0,none⟩,n,n⟩,rfl,by rw [List.length_map]; exact HLen.out,nlr _,by show n<=_; omega,fun j hj=>?_⟩;have hj':j<n:=hj;obtain ⟨g1,g2⟩:=h3 j hj';refine ⟨⟨w.heap.size,0,none⟩,sv j,rfl,nlr _,?_,?_⟩
    ·rw [zA4,Nat.zero_add]; simp only [World.cell?,h1]; simpa using g1
    ·have e:(m.map rats).getD j []=rats (m.getD j []):=by
      have:=HLen.out;simp [List.getElem?_map,gge (show j<m.length by omega)]
     rw [e];exact g2.imp (fun b _ hb=>by simp only [New] at hb ⊢; omega) fun v q hq=>hq.imp fun b _ hb=>by simp only [New] at hb ⊢; omega
   clear h1 h2 h3;go_wp2;go_ret;exact ⟨HF.out,hB⟩
end Go.Proofs.YtpjaodcimomaiaaGreat
