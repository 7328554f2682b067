/- Texts Feas PrK PrL PrT SpA of this claim. -/
import Derived.Test.YtpjaodcimomaiaaGreatI28
set_option maxHeartbeats 4000000
set_option maxRecDepth 100000
namespace Go.Proofs.YtpjaodcimomaiaaGreat
open Go.RowKit Go.Shelf
variable {w:World} {n g L M V kb:Nat} {s:SV} {bs:List Rat} {os rs:List (List Rat)} {p:LPV} {X Y X' Y':Nat->Prop}
attribute [local go_sem] Oper.semAt_some
theorem zH7 {P:Program} {c:Code} {Q:Exit->Act->World->Prop} {a:Act} (h:c.wpIn Fence.wide n P (Exit.noGoto Q) a w):(Code.scope c).wpIn Fence.wide n P Q a w:=wpIn_wide.2 (wp_scope_straight (wpIn_wide.1 h))
theorem zHi (w:World) (L:Nat):QIs w (fun _=>True) L QV.zero 0:=⟨0,0,⟨[],WordsAt.nil _ _ _ _ (nzl _),nzl _,rfl⟩,⟨[],WordsAt.nil _ _ _ _ (nzl _),nzl _,rfl⟩,by simp [qv]⟩
def FeasX (w:World) (_V:Nat) (z:Int) (O R:SV) (_lb:Nat) (B:SV) (xA:Option Addr) (xn xc:Nat) (x:List Rat) (t:Value) (W:World):Prop:=
 ∃ k:Nat,k<=xn/\t = .int .i64 k/\Below w w W/\Box4 W w (.int .i64 z) O.val R.val B.val/\Boxed W (w+1) 24 (.slice xA xn xc)/\w+1<(W:Nat)/\∀ j,j<k->0<=x.getD j 0
def FInv (W0:World) (g:Nat) (ok:Nat->Prop) (pre:List Nat) (W:World):Prop:=
 Boxed W g 4 (.bool true)/\Carry (fun y=>y ≠ g) W0 W/\∀ x ∈ pre,ok x
def FOut (w:World) (g:Nat) (ok:Nat->Prop) (c:Code) (pre:List Nat) (W:World):Prop:=
 c = .exit 2/\∃ pr x,pre=pr++[x]/\¬ ok x/\Boxed W g 4 (.bool false)/\Below w w W
theorem FInv.own {W0:World} {ok:Nat->Prop}:Own (FInv W0 g ok):=fun _s _W _W' _row hs hg hr=>⟨zAi hg hr hs.1,hs.2.1.trans (Carry.grown hg hr),hs.2.2⟩
theorem zEE {x:List Rat} (b:Bool) (h:LPIs w X Y L p os rs bs) (hV:p.n=V) (hV2:V<=64) (ho1:1<=p.O.n) (ho2:p.O.n<=4) (hr:p.R.n<=128) (hb:p.B.n=p.R.n) (hco:colsOf os<=V) (hcr:colsOf rs<=V)
  (hx:VecIs w X' Y' M s x) (hxl:x.length<=V) (hL:L<=LM) (hM:M<=LM) (hkb:1000000*(kb+1)<32*LM) (hf:∀ i k,Lin.Fits kb ((rs.getD i []).getD k 0*x.getD k 0))
  (hbb:((∀ k,k<x.length->0<=x.getD k 0)/\∀ i,i<rs.length->dotL (rs.getD i []) x<=bs.getD i 0) ↔ b=true) :
  Calls Tryz.prog 47 #[p.val,s.val] w fun e w'=>e = .returned (.bool b)/\Below w w w':=by
 refine (callsIn_wide (n:=6)).1 ?_;obtain ⟨z,⟨oA,on,oc⟩,⟨A,la,ca⟩,⟨B,lb,cb⟩⟩:=p;obtain ⟨xA,xn,xc⟩:=s;dsimp only [LPV.val,SV.val] at *;subst hV;subst hb;have HP:=hdq h;have HX:=hdq hx;have HL:=hdq hL;have HM:=hdq hM;have HK:=hdq hkb;have HF:=hdq hf;have HBB:=hdq hbb;have HXL:Hid (x.length=xn):=hx.len;have HRL:Hid (rs.length=lb):=h.rows.len;have HCo:=hdq hco;have HCr:=hdq hcr;have hxv:xn<=V:=by rw [<-HXL.out]; exact hxl
 have hxle:xn<=xc:=hx.le;have hxcap:xc<=9223372036854775807:=hx.cap;clear h hx hL hM hkb hf hbb hco hcr hxl;refine callsIn_of_wp_marks Tryz.func47 rfl trivial ?_ rfl;simp only [Tryz.ntmps47,List.size_toArray,List.length_cons,List.length_nil,Nat.reduceAdd,Nat.reduceSub,Array.replicate_succ,Array.replicate_zero,List.push_toArray,List.append_toArray,List.nil_append,List.cons_append];gi_wp2;refine zH7 ?_;gi_wp2;refine ⟨trivial,?_⟩;have hk0:Below w w ((w.alloc (.cells #[.int .i64 V,.slice oA on oc,.slice A lb ca,.slice B lb cb] 28)).alloc (.cells #[.slice xA xn xc] 24)):=((brf _ w).alloc (nlr _) _).alloc (by simp) _;have hs0:((w.alloc (.cells #[.int .i64 V,.slice oA on oc,.slice A lb ca,.slice B lb cb] 28)).alloc (.cells #[.slice xA xn xc] 24)).heap.size=w.heap.size+2:=by simp
 have b0:Box4 ((w.alloc (.cells #[.int .i64 V,.slice oA on oc,.slice A lb ca,.slice B lb cb] 28)).alloc (.cells #[.slice xA xn xc] 24)) w (.int .i64 V) (.slice oA on oc) (.slice A lb ca) (.slice B lb cb):=bx4;have b1:Boxed ((w.alloc (.cells #[.int .i64 V,.slice oA on oc,.slice A lb ca,.slice B lb cb] 28)).alloc (.cells #[.slice xA xn xc] 24)) (w+1) 24 (.slice xA xn xc):=zAd _ _ (by simp);generalize ((w.alloc (.cells #[.int .i64 V,.slice oA on oc,.slice A lb ca,.slice B lb cb] 28)).alloc (.cells #[.slice xA xn xc] 24))=W0 at *;refine (callsIn_wide.2 (zBv (p:=⟨V,⟨oA,on,oc⟩,⟨A,lb,ca⟩,⟨B,lb,cb⟩⟩) (HP.out.below hk0) rfl hV2 ho1 ho2 hr rfl HCo.out HCr.out)).mono ?_;rintro e w1 ⟨rfl,hb1⟩;have hB1:=hk0.trans (hb1.mono hk0.size);replace b0:=b0.below hb1 (by omega);replace b1:Boxed w1 (w+1) 24 (.slice xA xn xc):=(hb1.block _ (zAa b1)).trans b1;have l1:w+1<(w1:Nat):=zAa b1;obtain ⟨q0,q1,q2,q3,qf⟩:=id b0;have c1:=b1.cell;have hxvi:¬ (V:Int)<(xn:Int):=by omega
 have hxvd:decide (V<xn)=false:=by simp; omega
 have H0:Hid (FeasX w V V ⟨oA,on,oc⟩ ⟨A,lb,ca⟩ lb ⟨B,lb,cb⟩ xA xn xc x (.int .i64 0) w1):=⟨0,nzl _,rfl,hB1,b0,b1,l1,fun j hj=>absurd hj (Nat.not_lt_zero j)⟩;clear hk0 hs0 hb1 hB1 b0 b1;gi_wp2;gi_loopw [22] (fun t W=>FeasX w V V ⟨oA,on,oc⟩ ⟨A,lb,ca⟩ lb ⟨B,lb,cb⟩ xA xn xc x t W) (fun t _=>xn-(intOf t).toNat)
 case atStart=>exact H0.out
 case round=>
  clear H0 q0 q1 q2 q3 qf c1;obtain ⟨k,hk,rfl,hB,b0,b1,l2,hnn⟩:=hrel;have hBs:=hB.size;by_cases hlt:k<xn
  ·obtain ⟨ad,u,e,-,⟨q0,q1,q2,q3⟩,hu⟩:=(HX.out.below hB).elem k hlt;dsimp only at e q0 q1 q2 q3;subst e;have tq:(ad.add (k*4)).block<wr:=zAb q0;have hkbi:(k:Int)<(xn:Int):=(by omega);obtain ⟨q,hqe⟩:∃ q,x.getD k 0=q:=⟨_,rfl⟩;rw [hqe] at hu;have HQE:=hdq hqe;have HU:=hdq hu;have HNN:=hdq hnn;clear hu hnn hqe;have al:Below wr wr (wr.alloc (.cells #[.bool u.num.ng,.slice u.num.A u.num.n u.num.c,.bool u.den.ng,.slice u.den.A u.den.n u.den.c] 37)):=bal;by_cases hneg:q<0
   ·gi_wp2;refine ⟨trivial,?_⟩;refine (callsIn_wide.2 (zAn (HU.out.below al))).mono ?_;rintro e w2 ⟨rfl,hb2⟩;have hq:=zDe hneg;rw [hq];clear hq;have hbf:=hB.trans ((al.trans (hb2.mono al.size)).mono hBs)
    have hb:b=false:=by
     cases b with
     | false=>rfl
     | true=>exact absurd ((HBB.out.2 rfl).1 k (by rw [HXL.out]; exact hlt)) (by rw [HQE.out]; exact Rat.not_le.2 hneg)
    subst hb;gi_wp2;refine ⟨.bool false,by simp [results,Tryz.results47,go_sem],?_⟩;exact ⟨rfl,hbf⟩
   ·gi_wp2;refine ⟨trivial,?_⟩;refine (callsIn_wide.2 (zAn (HU.out.below al))).mono ?_;rintro e w2 ⟨rfl,hb2⟩;have hq:=zD0 hneg;have hbf:=al.trans (hb2.mono al.size)
    have Hfin:Hid (FeasX w V V ⟨oA,on,oc⟩ ⟨A,lb,ca⟩ lb ⟨B,lb,cb⟩ (some ad) xn xc x (.int .i64 ((k:Int)+1)) w2):=⟨k+1,by omega,by simp,hB.trans (hbf.mono hBs),b0.below hbf (by omega),(hbf.block _ (zAa b1)).trans b1,ltl l2 hbf.size,fun j hj=>by
     by_cases e:j=k
     ·subst e; rw [HQE.out]; exact Rat.not_lt.1 hneg
     ·exact HNN.out j (by omega)⟩
    clear b0 b1 hB;gi_wp2;exact ⟨Hfin.out,by simp [intOf]; omega⟩
  ·(obtain rfl:k=xn:=by omega);have HNN:=hdq hnn;clear hnn;obtain ⟨q0,q1,q2,q3,qf⟩:=id b0;have c1:=b1.cell;have l3:w<(wr:Nat):=(by omega);gi_wp2;refine wpIn_label ?_;gi_wp2;refine ⟨trivial,?_⟩;refine (zIg V oA A B on oc lb ca lb cb).mono ?_;rintro e w2 ⟨rfl,rfl⟩;gi_wp2;dsimp only [SV.val];have hk0:Below w w ((wr.alloc (.cells #[.bool true] 4)).alloc (.cells #[.int .i64 V,.slice oA on oc,.slice A lb ca,.slice B lb cb] 28)):=(hB.alloc hBs _).alloc (by simp; omega) _;have hs0:((wr.alloc (.cells #[.bool true] 4)).alloc (.cells #[.int .i64 V,.slice oA on oc,.slice A lb ca,.slice B lb cb] 28)).heap.size=wr.heap.size+2:=(by simp);have x0:Boxed ((wr.alloc (.cells #[.bool true] 4)).alloc (.cells #[.int .i64 V,.slice oA on oc,.slice A lb ca,.slice B lb cb] 28)) wr 4 (.bool true):=(Boxed.new wr _ _).alloc _;have x1:((wr.alloc (.cells #[.bool true] 4)).alloc (.cells #[.int .i64 V,.slice oA on oc,.slice A lb ca,.slice B lb cb] 28)).heap[wr.heap.size+1]?=some (.cells #[.int .i64 V,.slice oA on oc,.slice A lb ca,.slice B lb cb] 28 (0,0)):=zAd _ _ (by simp);have x2:Boxed ((wr.alloc (.cells #[.bool true] 4)).alloc (.cells #[.int .i64 V,.slice oA on oc,.slice A lb ca,.slice B lb cb] 28)) (w+1) 24 (.slice xA k xc):=(b1.alloc _).alloc _;generalize (wr.alloc (.cells #[.bool true] 4)).alloc (.cells #[.int .i64 V,.slice oA on oc,.slice A lb ca,.slice B lb cb] 28)=W0 at *;obtain ⟨g,hg⟩:∃ g,wr.heap.size=g:=⟨_,rfl⟩;rw [hg] at hs0 x0 x1 l2 l3 hBs ⊢;have Hg:=hdq hg;clear hg b0 b1 q0 q1 q2 q3 qf c1 hB;obtain ⟨rv,hrE,hrV⟩:=(HP.out.rows.imp (X':=fun y=>y<w.heap.size) (R':=QIs w (fun y=>y<w.heap.size) L) (fun b hb _=>hb) (fun _ _ h=>h.imp fun b hb _=>hb)).rowsE;obtain ⟨vb,hbE,hbV⟩:=(HP.out.bounds.imp (X':=fun y=>y<w.heap.size) (R':=QIs w (fun _=>True) L) (fun b hb _=>hb) (fun _ _ h=>h.any)).elems (zHi w L);have HRE:=hdq hrE;have HRV:=hdq hrV;have HBE:=hdq hbE;have HBV:Hid (∀ i,QIs w (fun y=>y<w.heap.size) L (vb i) (bs.getD i 0)):=(fun i=>(hbV i).imp fun b hb _=>hb);have HK0:=hdq hk0;have Hs:=hdq hs0;have HX0:=hdq x0;have HX1:=hdq x1;have HX2:=hdq x2;clear hrE hrV hbE hbV hk0 hs0 x0 x1 x2
   refine wpIn_rangeFunc_ownH (F:=Fence.wide) rfl (by omega) (gf:=175) (lb:=#[.pointer (some ⟨g+1,0,none⟩)]) rfl trivial (enters_of Tryz.func175 (by kernel_rfl) rfl)
    (zEQ (X:=fun y=>y ≠ g) (p:=⟨V,⟨oA,on,oc⟩,⟨A,lb,ca⟩,⟨B,lb,cb⟩⟩) (rv:=rv) (vb:=vb) (N:=lb) (by omega) HX1.out (by omega)
     ((HRE.out.carry (Carry.of_below HK0.out)).imp fun b hb=>by omega) ((HBE.out.carry (Carry.of_below HK0.out)).imp fun b hb=>by omega) rfl rfl (by omega))
    (fun h k=>h.trans k) (fun W l o o' _ hl ho _=>Carry.putObj o' hl ho) (brf _ _) (fun _=>rfl)
    (fun pre W=>FInv W0 g (fun i=>dotL (rs.getD i []) x<=bs.getD i 0) pre W/\Below w w W)
    (fun c pre W=>FOut w g (fun i=>dotL (rs.getD i []) x<=bs.getD i 0) c pre W)
    (OwnFrom.and (Own.from FInv.own _) (ownFrom_below (nlr _) (by have:=Hs.out; omega)))
    (fun c s W W' row hs hg hr=>?hIx)
    ⟨⟨HX0.out,Carry.refl _ _,fun x hx=>by cases hx⟩,HK0.out⟩
    (fun x a' W=>∃ d,a'={tmps:=#[.agg #[.int .i64 V,.slice oA on oc,.slice A lb ca,.slice B lb cb],.slice xA k xc,.pointer (some w),.pointer (some ⟨w+1,0,none⟩),u4,undef,u6,.pointer (some g),(rv x).val,.pointer (some ⟨d,0,none⟩),.agg #[.int .i64 V,.slice oA on oc,.slice A lb ca,.slice B lb cb],.bool true,.bool false,.bool false,.slice xA k xc,.int .i64 k,.pointer (some w),.int .i64 V,.bool false,.bool false,.slice xA k xc,.int .i64 k,.int .i64 k,.bool false,u24,u25,u26,u27,u28,u29,.agg #[.int .i64 V,.slice oA on oc,.slice A lb ca,.slice B lb cb],.func (.func 175) #[] #[.pointer (some ⟨g+1,0,none⟩)],(rv x).val,(vb x).val,undef,undef,undef,undef,undef,undef,undef,undef],defers:=[]}/\QBlk W d (vb x))
    (fun x a' _ W W' row hs hg hr=>?hAx) ?assign ?body ?done ?stop
   case hAx=>
    obtain ⟨d,e,g1⟩:=hs;exact ⟨d,e,zAi hg (fun r e=>(hr r e).2) g1⟩
   case hIx=>
    obtain ⟨rfl,pr,x,e,h1,h3,h4⟩:=hs;exact ⟨rfl,pr,x,e,h1,zAi hg (fun r e=>(hr r e).2) h3,(ownFrom_below (nlr _) (show w<=(W0:Nat) by have:=Hs.out; omega)) s W W' row h4 hg hr⟩
   case assign=>
    intro l pre x W K hI hK;gi_wp2;have al:Below W W (W.alloc (.cells #[.bool (vb x).num.ng,.slice (vb x).num.A (vb x).num.n (vb x).num.c,.bool (vb x).den.ng,.slice (vb x).den.A (vb x).den.n (vb x).den.c] 37)):=bal;obtain ⟨⟨i1,i2,i3⟩,hB⟩:=hI;exact hK _ _ ⟨al.size,fun k o _ hk _=>(al.block k (zAa hk)).trans hk⟩ (Carry.of_below al) ⟨⟨(al.block _ (zAa i1)).trans i1,i2.trans (Carry.of_below al),i3⟩,hB.trans (al.mono hB.size)⟩ ⟨W.heap.size,rfl,zAd _ _ rfl⟩
   case body=>
    rintro l pre x1 a' W _ _ ⟨⟨i1,i2,i3⟩,hB⟩ ⟨d,rfl,g1⟩ hlt;have h2:=(HX2.out:Boxed W0 (w+1) 24 (.slice xA k xc));have b2:Boxed W (w+1) 24 (.slice xA k xc):=i2.blk _ _ _ _ (by omega) h2;have cr:Carry (fun y=>y<w.heap.size) w W:=(Carry.of_below HK0.out).trans (i2.mono fun y hy=>by omega);have HRow:=hdq ((HRV.out x1).carryI cr);have HBnd:=hdq ((HBV.out x1).carry cr);have HXv:Hid (VecIs W (fun y=>y<w.heap.size) (fun y=>y<w.heap.size) M ⟨xA,k,xc⟩ x):=((HX.out.imp (X':=fun y=>y<w.heap.size) (R':=QIs w (fun y=>y<w.heap.size) M) (fun b hb _=>hb) (fun _ _ h=>h.imp fun b hb _=>hb))).carryI cr;obtain ⟨ρ,hρ⟩:∃ ρ,rv x1=ρ:=⟨_,rfl⟩;obtain ⟨β,hβ⟩:∃ β,vb x1=β:=⟨_,rfl⟩;rw [hρ] at HRow;rw [hβ] at HBnd g1;rw [hρ,hβ];clear hρ hβ;obtain ⟨rA,rn,rc⟩:=ρ;dsimp only [SV.val] at *;obtain ⟨y0,y1,y2,y3,-⟩:=zAA g1;have c1:=b2.cell;have c4:=i1.cell;have f4:∀ o,W.frozen? ⟨g,o,none⟩=false:=(fun o=>by simp [World.frozen?,show W.heap[g]?=_ from i1]);have t1:=zAa g1;have t2:=zAa b2;have t3:=zAa i1;have hdr:Below W W W.drew:=(brf _ _).drew;have HRn:Hid ((rs.getD x1 []).length=rn):=HRow.out.len;have hrn6:rn<=1000000:=by have:=zBT HCr.out x1; rw [HRn.out] at this; omega
    have HI3:=hdq i3;have HI1:=hdq i1;have HBs:=hB.size;obtain ⟨q1,hq1⟩:∃ q,dotL (rs.getD x1 []) x=q:=⟨_,rfl⟩;obtain ⟨q2,hq2⟩:∃ q,bs.getD x1 0=q:=⟨_,rfl⟩;have e1:(Lin.sum (min rn k) fun i=>(rs.getD x1 []).getD i 0*x.getD i 0)=q1:=by rw [<-hq1]; unfold dotL; rw [HRn.out,HXL.out]
    have hfit:QFit LM q1:=by rw [<-hq1]; exact zEa (by rw [HRn.out]; exact hrn6) HK.out (HF.out x1)
    rw [hq2] at HBnd;have HE1:=hdq e1;have HFit:=hdq hfit;have HQ:=hdq (And.intro hq1 hq2);clear i3 i1 e1 hfit hq1 hq2 g1 b2 h2;gi_wp2;refine zBi 1000 (fun _ w'=>Sees w [] W w') (by kernel_rfl) (by kernel_rfl) (by rintro ⟨_,_,h⟩; exact h) ?_;have hS0:Sees w [] W W.drew:=Sees.st (by simp) HBs;refine tx1 0 hS0 ?_;refine tx1 1 hS0 ?_;refine tx1 3 hS0 ?_;refine tk1 2 ?_;intro K hK;go_simp;refine (zEb (kb:=kb) (sa:=⟨rA,rn,rc⟩) (sb:=⟨xA,k,xc⟩) (HRow.out.below hdr) (HXv.out.below hdr) HL.out HM.out hrn6 HK.out (HF.out x1)).mono ?_;rintro e w3 ⟨⟨z,rfl,hz⟩,hb3⟩;dsimp only at hz;rw [HE1.out] at hz;have hS1:=Kept.call2 hb3 hS0;refine hK.out _ _ hS1 ?_;clear hK K hS0 hb3;by_cases hok:q1<=q2
    ·obtain ⟨o,ho,hle⟩:∃ o,qcmp q1 q2=o/\¬ (o=1):=⟨_,rfl,by unfold qcmp; grind⟩;have HO:=hdq ho;have hle1:(o == 1)=false:=(by simpa using hle);clear ho;refine tk1 4 ?_;intro K hK;go_simp;refine (zBg (a:=z) (b:=β) (hz.qis HFit.out) (HBnd.out.below hS1.kept.whole) (nlr _) HL.out).mono ?_;rw [HO.out];rintro e w4 ⟨rfl,hb4⟩;have hS2:=Kept.call2 hb4 hS1;refine hK.out _ _ hS2 ?_;clear hK K hS1 hb4 hz y0 y1 y2 y3 c1 c4 f4;refine zAf (by kernel_rfl) ?_ _;have hbf:Below W W w4:=hS2.kept.whole;clear hS2;gi_wp2;refine ⟨⟨hbf.size,fun k o _ hk _=>(hbf.block k (zAa hk)).trans hk⟩,Carry.of_below hbf,⟨(hbf.block _ t3).trans HI1.out,i2.trans (Carry.of_below hbf),fun y hy=>?_⟩,hB.trans (hbf.mono HBs)⟩;rw [List.mem_append,List.mem_singleton] at hy;rcases hy with hy | rfl
     ·exact HI3.out y hy
     ·show dotL (rs.getD y []) x<=bs.getD y 0; rw [HQ.out.1,HQ.out.2]; exact hok
    ·have HO:Hid (qcmp q1 q2=1):=by show qcmp q1 q2=1; unfold qcmp; grind
     refine tk1 4 ?_;intro K hK;go_simp;refine (zBg (a:=z) (b:=β) (hz.qis HFit.out) (HBnd.out.below hS1.kept.whole) (nlr _) HL.out).mono ?_;rw [HO.out];rintro e w4 ⟨rfl,hb4⟩;have hS2:=Kept.call2 hb4 hS1;refine hK.out _ _ hS2 ?_;clear hK K hS1 hb4 hz y0 y1 y2 y3 c1;refine zAf (by kernel_rfl) ?_ _;have hbf:Below W W w4:=hS2.kept.whole;have z3:Boxed w4 g 4 (.bool true):=(hbf.block _ t3).trans HI1.out;have c5:=z3.cell;have f5:∀ o,w4.frozen? ⟨g,o,none⟩=false:=(fun o=>by simp [World.frozen?,show w4.heap[g]?=_ from z3]);clear hS2 c4 f4;gi_wp2;refine ⟨⟨by simpa [World.setCell] using hbf.size,fun k o _ hk ho=>?_⟩,rfl,pre,x1,rfl,by show ¬ (dotL (rs.getD x1 []) x<=bs.getD x1 0); rw [HQ.out.1,HQ.out.2]; exact hok,Boxed.set _ z3,(hB.trans (hbf.mono HBs)).setCell (p:=g) (by show w<=g; omega) _⟩;refine (bhs _ _ _ _ (fun e=>?_)).trans ((hbf.block k (zAa hk)).trans hk);dsimp only at e;rw [e,show W.heap[g]?=_ from HI1.out] at hk; cases hk; cases ho
   case done=>
    rintro Dd ys W hDd rfl ⟨⟨i1,i2,i3⟩,hB⟩ hK0;have c1:=i1.cell;have hDs:g<Dd:=by have:=Hs.out; omega
    have hb:b=true:=HBB.out.1 ⟨fun j hj=>HNN.out j (by rw [HXL.out] at hj; exact hj),fun i hi=>i3 i (by rw [HRL.out] at hi; simpa using hi)⟩;subst hb;clear i3;gi_wp2;refine ⟨by simp,.inl ⟨_,_,rfl,run_takeDeferred hK0,?_⟩⟩;refine ⟨.bool true,by simp [results,Tryz.results47,go_sem],rfl,?_⟩;exact hB.trans (belowK_b (w:=w) (nlr _) W Dd _ _ (by omega) hK0 rfl rfl)
   case stop=>
    rintro Dd c pre W hDd hpre ⟨rfl,pr,x1,e,h1,h3,h4⟩ hK0;obtain ⟨hx,hpr⟩:=zGD hpre e
    have hb:b=false:=by
     cases b with
     | false=>rfl
     | true=>exact absurd ((HBB.out.2 rfl).2 x1 (by rw [HRL.out]; exact hx)) h1
    subst hb;have c1:=h3.cell;have hDs:g<Dd:=by have:=Hs.out; omega
    clear h1 hpre hpr e;gi_wp2;refine ⟨by simp,.inl ⟨_,_,rfl,run_takeDeferred hK0,?_⟩⟩;refine ⟨.bool false,by simp [results,Tryz.results47,go_sem],rfl,?_⟩;exact h4.trans (belowK_b (w:=w) (nlr _) W Dd _ _ (by omega) hK0 rfl rfl)
end Go.Proofs.YtpjaodcimomaiaaGreat
namespace Go.Proofs.YtpjaodcimomaiaaGreat
open Go.RowKit Go.Shelf
variable {s:SV} {L g b V M kb:Nat} {X Y X' Y':Nat->Prop} {w W:World} {os rs:List (List Rat)} {bs:List Rat} {p:LPV}
attribute [local go_sem] Oper.semAt_some
def dualOk (y:List Rat) (os rs:List (List Rat)) (V:Nat):Prop:=y.length=rs.length/\(∀ i,i<y.length->0<=y.getD i 0)/\∀ k,k<V->(os.getD 0 []).getD k 0<=psum y rs k
def DfX (w:World) (p:LPV) (yn:Nat) (y:List Rat) (t:Value) (W:World):Prop:=
 ∃ k:Nat,k<=yn/\t = .int .i64 k/\Below w w W/\Box4 W w (.int .i64 p.n) p.O.val p.R.val p.B.val/\Boxed W (w+1) 4 (.bool false)/\w+1<(W:Nat)/\∀ j,j<k->0<=y.getD j 0
def DfI (w:World) (y:List Rat) (os rs:List (List Rat)) (k:Nat) (W:World):Prop:=
 Boxed W (w+1) 4 (.bool false)/\Below w w W/\∀ j,j<k->(os.getD 0 []).getD j 0<=psum y rs j
def DfO (w:World) (y:List Rat) (os rs:List (List Rat)) (V:Nat) (c:Code) (W:World):Prop:=
 c = .ret/\(∃ j,j<V/\¬ (os.getD 0 []).getD j 0<=psum y rs j)/\Boxed W (w+1) 4 (.bool false)/\Below w w W
theorem VecAt.lay {l:List Rat} (h:VecIs w X Y L s l) (hb:Below w w W) (hg:w<=g):VecIs W (fun b=>b<W.heap.size/\b ≠ g) (fun b=>b<W.heap.size/\b ≠ g) L s l:=
 ((h.imp (X':=fun b=>b<w.heap.size) (R':=QIs w (fun b=>b<w.heap.size) L) (fun b hb _=>hb) (fun _ _ h=>h.imp fun b hb _=>hb)).below hb).imp (fun b _ hx=>⟨ltl hx hb.size,by omega⟩) (fun _ _ h=>h.imp fun b _ hx=>⟨ltl hx hb.size,by omega⟩)
theorem MatAt.lay {m:List (List Rat)} (h:MatIs w X Y L s m) (hb:Below w w W) (hg:w<=g):MatIs W (fun b=>b<W.heap.size/\b ≠ g) (fun b=>b<W.heap.size/\b ≠ g) L s m:=
 ((h.imp (X':=fun b=>b<w.heap.size) (R':=QIs w (fun b=>b<w.heap.size) L) (fun b hb _=>hb) (fun _ _ h=>h.imp fun b hb _=>hb)).below hb).imp (fun b _ hx=>⟨ltl hx hb.size,by omega⟩) (fun _ _ h=>h.imp fun b _ hx=>⟨ltl hx hb.size,by omega⟩)
theorem DfI.own {y:List Rat} (h1:w<=b):OwnFrom b (DfI w y os rs):=fun s W W' row hs hg hr=>
 ⟨zAi hg (fun r e=>(hr r e).2) hs.1,ownFrom_below (nlr _) h1 s W W' row hs.2.1 hg hr,hs.2.2⟩
theorem DfO.own {y:List Rat} (h1:w<=b):OwnFrom b (DfO w y os rs V):=fun s W W' row hs hg hr=>
 ⟨hs.1,hs.2.1,zAi hg (fun r e=>(hr r e).2) hs.2.2.1,ownFrom_below (nlr _) h1 s W W' row hs.2.2.2 hg hr⟩
theorem zCP {y:List Rat} (b:Bool) (h:LPIs w X Y M p os rs bs) (hV:p.n=V) (hV2:V<=64) (ho1:1<=p.O.n) (hr:p.R.n<=128) (hcr:colsOf rs<=V)
  (hy:VecIs w X' Y' L s y) (hL:L<=LM) (hM:M+1<=LM) (hk:kb+1<=LM)
  (hf:y.length=rs.length->(∀ i j,QFit LM (y.getD i 0*(rs.getD i []).getD j 0))/\∀ k j,Lin.Fits kb (Lin.sum k fun i=>y.getD i 0*(rs.getD i []).getD j 0))
  (hbb:dualOk y os rs V ↔ b=true) :
  Calls Tryz.prog 108 #[p.val,s.val] w fun e w'=>e = .returned (.bool b)/\Below w w w':=by
 refine (callsIn_wide (n:=6)).1 ?_;obtain ⟨z,⟨oA,on,oc⟩,⟨A,la,ca⟩,⟨B,lb,cb⟩⟩:=p;obtain ⟨yA,yn,yc⟩:=s;dsimp only [LPV.val,SV.val] at *;subst hV;have HP:=hdq h;have HY:=hdq hy;have HL:=hdq hL;have HM:=hdq hM;have HK:=hdq hk;have HF:=hdq hf;have HBB:=hdq hbb;have HYL:Hid (y.length=yn):=hy.len;have HRL:Hid (rs.length=la):=h.rows.len;have HCr:=hdq hcr;have hyle:yn<=yc:=hy.le;have hycap:yc<=9223372036854775807:=hy.cap;have hrle:la<=ca:=h.rows.le;have hrcap:ca<=9223372036854775807:=h.rows.cap;clear h hy hL hM hk hf hbb hcr;refine callsIn_of_wp_marks Tryz.func108 rfl trivial ?_ rfl;simp only [Tryz.ntmps108,List.size_toArray,List.length_cons,List.length_nil,Nat.reduceAdd,Nat.reduceSub,Array.replicate_succ,Array.replicate_zero,List.push_toArray,List.append_toArray,List.nil_append,List.cons_append];have hk0:Below w w ((w.alloc (.cells #[.int .i64 V,.slice oA on oc,.slice A la ca,.slice B lb cb] 28)).alloc (.cells #[.bool false] 4)):=((brf _ w).alloc (nlr _) _).alloc (by simp) _;have b0:Box4 ((w.alloc (.cells #[.int .i64 V,.slice oA on oc,.slice A la ca,.slice B lb cb] 28)).alloc (.cells #[.bool false] 4)) w (.int .i64 V) (.slice oA on oc) (.slice A la ca) (.slice B lb cb):=bx4;have b1:Boxed ((w.alloc (.cells #[.int .i64 V,.slice oA on oc,.slice A la ca,.slice B lb cb] 28)).alloc (.cells #[.bool false] 4)) (w+1) 4 (.bool false):=zAd _ _ (by simp);by_cases hln:yn=la
 ·subst hln;obtain ⟨HF1,HF2⟩:=HF.out (by rw [HYL.out,HRL.out]);replace HF1:=hdq HF1;replace HF2:=hdq HF2;gi_wp2;have l1:=zAa b1;have H0:Hid (DfX w ⟨V,⟨oA,on,oc⟩,⟨A,yn,ca⟩,⟨B,lb,cb⟩⟩ yn y (.int .i64 0) _):=⟨0,nzl _,rfl,hk0,b0,b1,l1,fun j hj=>absurd hj (Nat.not_lt_zero j)⟩;clear hk0 b0 b1 l1;generalize ((w.alloc (.cells #[.int .i64 V,.slice oA on oc,.slice A yn ca,.slice B lb cb] 28)).alloc (.cells #[.bool false] 4))=W0 at *;gi_loopw [17] (fun t W=>DfX w ⟨V,⟨oA,on,oc⟩,⟨A,yn,ca⟩,⟨B,lb,cb⟩⟩ yn y t W) (fun t _=>yn-(intOf t).toNat)
  case atStart=>exact H0.out
  case round=>
   clear H0;obtain ⟨k,hk,rfl,hB,b0,b1,l2,hnn⟩:=hrel;have hBs:=hB.size;have c1:=b1.cell;have f1:∀ o,wr.frozen? ⟨w+1,o,none⟩=false:=(fun o=>by simp [World.frozen?,show wr.heap[w.heap.size+1]?=_ from b1]);by_cases hlt:k<yn
   ·obtain ⟨ad,u,e,-,⟨q0,q1,q2,q3⟩,hu⟩:=(HY.out.below hB).elem k hlt;dsimp only at e q1 q2 q3;subst e;have tq:(ad.add (k*4)).block<wr:=zAb q0;have hkbi:(k:Int)<(yn:Int):=(by omega);obtain ⟨q,hqe⟩:∃ q,y.getD k 0=q:=⟨_,rfl⟩;rw [hqe] at hu;have HQE:=hdq hqe;have HU:=hdq hu;have HNN:=hdq hnn;clear hu hnn hqe;have al:Below wr wr (wr.alloc (.cells #[.bool u.num.ng,.slice u.num.A u.num.n u.num.c,.bool u.den.ng,.slice u.den.A u.den.n u.den.c] 37)):=bal;by_cases hneg:q<0
    ·gi_wp2;refine ⟨trivial,?_⟩;refine (callsIn_wide.2 (zAn (HU.out.below al))).mono ?_;rintro e w2 ⟨rfl,hb2⟩;have hq:=zDe hneg;rw [hq];clear hq;have h12:=al.trans (hb2.mono al.size);have hbf:=hB.trans (h12.mono hBs);have b1':Boxed w2 (w+1) 4 (.bool false):=(h12.block _ l2).trans b1;have c1':=b1'.cell;have f1':∀ o,w2.frozen? ⟨w+1,o,none⟩=false:=fun o=>by simp [World.frozen?,show w2.heap[w.heap.size+1]?=_ from b1']
     have hb:b=false:=by
      cases b with
      | false=>rfl
      | true=>exact absurd ((HBB.out.2 rfl).2.1 k (by rw [HYL.out]; exact hlt)) (by rw [HQE.out]; exact Rat.not_le.2 hneg)
     subst hb;clear c1 f1 b1 b0 al hB q0 q1 q2 q3 hb2;gi_wp2;refine ⟨.bool false,by simp [results,Tryz.results108,go_sem,c1'],rfl,?_⟩;exact hbf.setCell (p:=⟨w+1,0,none⟩) (by show w<=(w+1:Nat); omega) _
    ·gi_wp2;refine ⟨trivial,?_⟩;refine (callsIn_wide.2 (zAn (HU.out.below al))).mono ?_;rintro e w2 ⟨rfl,hb2⟩;have hq:=zD0 hneg;have hbf:=al.trans (hb2.mono al.size)
     have Hfin:Hid (DfX w ⟨V,⟨oA,on,oc⟩,⟨A,yn,ca⟩,⟨B,lb,cb⟩⟩ yn y (.int .i64 ((k:Int)+1)) w2):=⟨k+1,by omega,by simp,hB.trans (hbf.mono hBs),b0.below hbf (by omega),(hbf.block _ (zAa b1)).trans b1,ltl l2 hbf.size,fun j hj=>by
      by_cases e:j=k
      ·subst e; rw [HQE.out]; exact Rat.not_lt.1 hneg
      ·exact HNN.out j (by omega)⟩
     clear b0 b1 hB;gi_wp2;exact ⟨Hfin.out,by simp [intOf]; omega⟩
   ·(obtain rfl:k=yn:=by omega);have HNN:=hdq hnn;clear hnn;obtain ⟨q0,q1,q2,q3,qf⟩:=id b0;gi_wp2;refine ⟨trivial,?_⟩;dsimp only [SV.val];refine (zG9 V oA A B yA on oc k ca lb cb k yc).mono ?_;rintro e w2 ⟨rfl,rfl⟩;have hk0:Below w w ((wr.alloc (.cells #[.int .i64 V,.slice oA on oc,.slice A k ca,.slice B lb cb] 28)).alloc (.cells #[.slice yA k yc] 24)):=(hB.alloc hBs _).alloc (by simp; omega) _;have x0:Boxed ((wr.alloc (.cells #[.int .i64 V,.slice oA on oc,.slice A k ca,.slice B lb cb] 28)).alloc (.cells #[.slice yA k yc] 24)) (w+1) 4 (.bool false):=(b1.alloc _).alloc _;have x1:((wr.alloc (.cells #[.int .i64 V,.slice oA on oc,.slice A k ca,.slice B lb cb] 28)).alloc (.cells #[.slice yA k yc] 24)).heap[wr.heap.size]?=some (.cells #[.int .i64 V,.slice oA on oc,.slice A k ca,.slice B lb cb] 28 (0,0)):=alk (zAd _ _ rfl);have x2:((wr.alloc (.cells #[.int .i64 V,.slice oA on oc,.slice A k ca,.slice B lb cb] 28)).alloc (.cells #[.slice yA k yc] 24)).heap[wr.heap.size+1]?=some (.cells #[.slice yA k yc] 24 (0,0)):=zAd _ _ (by simp);have hs0:((wr.alloc (.cells #[.int .i64 V,.slice oA on oc,.slice A k ca,.slice B lb cb] 28)).alloc (.cells #[.slice yA k yc] 24)).heap.size=wr.heap.size+2:=(by simp);generalize (wr.alloc (.cells #[.int .i64 V,.slice oA on oc,.slice A k ca,.slice B lb cb] 28)).alloc (.cells #[.slice yA k yc] 24)=W0 at *;obtain ⟨G,hG⟩:∃ G,wr.heap.size=G:=⟨_,rfl⟩;rw [hG] at hs0 x1 x2 l2 hBs;have HS0:=hdq hs0;have HX0:=hdq x0;have HX1:=hdq x1;have HX2:=hdq x2;have HK0:=hdq hk0
    have HP1:Hid (PCons W0 (w+1) L M kb V ⟨V,⟨oA,on,oc⟩,⟨A,k,ca⟩,⟨B,lb,cb⟩⟩ ⟨yA,k,yc⟩ os rs y):=
     ⟨HY.out.lay hk0 (by omega),HP.out.obj.lay hk0 (by omega),HP.out.rows.lay hk0 (by omega),rfl,hV2,ho1,by dsimp only; omega,by dsimp only; omega,nlt HCr.out (by omega),HL.out,by have:=HM.out; omega,HF1.out,HF2.out,HK.out⟩
    clear hs0 x0 x1 x2 hk0 b0 b1 q0 q1 q2 q3 qf c1 f1 hB;gi_wp2;clear hG
    refine zGd (F:=Fence.wide) rfl (by omega) (gf:=176) (lb:=#[.pointer (some ⟨G+1,0,none⟩),.pointer (some G)]) rfl trivial (enters_of Tryz.func176 (by kernel_rfl) rfl)
     (zFT (g:=w+1) (p:=⟨V,⟨oA,on,oc⟩,⟨A,k,ca⟩,⟨B,lb,cb⟩⟩) (sy:=⟨yA,k,yc⟩) (by omega) (by rw [HS0.out]; omega) HP1.out HX2.out HX1.out (by omega) (by omega))
     (fun h k=>h.trans k) (fun B W l o o' hl ho=>Carry.putObj o' hl ho) (brf _ _) (fun _=>rfl)
     (fun _=>DfI w y os rs) (DfO w y os rs V)
     (fun _ j1 x a' W=>∃ d1 d2,a'={tmps:=#[.agg #[.int .i64 V,.slice oA on oc,.slice A k ca,.slice B lb cb],.slice yA k yc,.pointer (some w),undef,.pointer (some ⟨w+1,0,none⟩),undef,u6,.pointer (some ⟨d1,0,none⟩),.pointer (some ⟨d2,0,none⟩),.slice yA k yc,.int .i64 k,.pointer (some ⟨w,2,none⟩),.slice A k ca,.int .i64 k,.bool false,.slice yA k yc,.int .i64 k,.int .i64 k,.bool false,u19,u20,u21,u22,u23,u24,.agg #[.int .i64 V,.slice oA on oc,.slice A k ca,.slice B lb cb],.slice yA k yc,.func (.func 176) #[] #[.pointer (some ⟨G+1,0,none⟩),.pointer (some G)],x.1.val,x.2.val,undef,undef,undef,undef],defers:=[]}
      /\QBlk W d1 x.1/\QBlk W d2 x.2/\QIs W (fun b=>b ≠ w.heap.size+1) (kb+1) x.1 (psum y rs j1)/\QIs W (fun b=>b ≠ w.heap.size+1) (M+1) x.2 ((os.getD 0 []).getD j1 0))
     (fun _=>DfI.own (by rw [HS0.out]; omega)) (DfO.own (by rw [HS0.out]; omega))
     (fun _ k x a' _ W W' row hs hg hr=>?hAx) (fun _ _=>⟨HX0.out,HK0.out,fun j hj=>absurd hj (Nat.not_lt_zero j)⟩) ?assign ?body ?done ?stop
    case hAx=>
     obtain ⟨d1,d2,e,g1,g2,g3,g4⟩:=hs;have cr:Carry (fun b=>b ≠ w.heap.size+1) W W':=Carry.grown hg (fun r e=>(hr r e).2);exact ⟨d1,d2,e,zAi hg (fun r e=>(hr r e).2) g1,zAi hg (fun r e=>(hr r e).2) g2,g3.carry cr,g4.carry cr⟩
    case assign=>
     rintro l B1 k1 ⟨u,v⟩ W K hB1 hI ⟨hu,hv,-⟩ hlt1 hK;dsimp only at hu hv;gi_wp2;have al:Below W W ((W.alloc (.cells #[.bool u.num.ng,.slice u.num.A u.num.n u.num.c,.bool u.den.ng,.slice u.den.A u.den.n u.den.c] 37)).alloc (.cells #[.bool v.num.ng,.slice v.num.A v.num.n v.num.c,.bool v.den.ng,.slice v.den.A v.den.n v.den.c] 37)):=(bal).alloc (by simp) _;refine hK _ _ ⟨al.size,fun k o _ hk _=>(al.block k (zAa hk)).trans hk⟩ (Carry.of_below al) ⟨(al.block _ (zAa hI.1)).trans hI.1,hI.2.1.trans (al.mono hI.2.1.size),hI.2.2⟩ ⟨W.heap.size,W.heap.size+1,rfl,alk (zAd _ _ rfl),zAd _ _ (by simp),hu.below al,hv.below al⟩
    case body=>
     rintro l B1 k1 ⟨u,v⟩ a' W hB1 ⟨i1,hB,hj⟩ ⟨d1,d2,rfl,g1,g2,g3,g4⟩ hlt1;dsimp only at g1 g2 g3 g4;obtain ⟨y0,y1,y2,y3,-⟩:=zAA g1;obtain ⟨z0,z1,z2,z3,-⟩:=zAA g2;have c4:=i1.cell;have f4:∀ o,W.frozen? ⟨w+1,o,none⟩=false:=(fun o=>by simp [World.frozen?,show W.heap[w.heap.size+1]?=_ from i1]);have t1:=zAa g1;have t2:=zAa g2;have t3:=zAa i1;have HJ:=hdq hj;have HI1:=hdq i1;obtain ⟨q1,hq1⟩:∃ q,psum y rs k1=q:=⟨_,rfl⟩;obtain ⟨q2,hq2⟩:∃ q,(os.getD 0 []).getD k1 0=q:=⟨_,rfl⟩;rw [hq1] at g3;rw [hq2] at g4;have HQ:=hdq (And.intro hq1 hq2);have HG3:=hdq g3;have HG4:=hdq g4;clear hj i1 g1 g2 g3 g4 hq1 hq2;gi_wp2;refine ⟨trivial,?_⟩;refine CallsIn.inRound l (callsIn_wide.2 ((zBg (a:=u) (b:=v) HG3.out HG4.out HK.out HM.out).mono ?_));rintro e w4 ⟨rfl,hb4⟩;have hBw:=hB.trans (hb4.mono hB.size);have z4:Boxed w4 (w+1) 4 (.bool false):=(hb4.block _ t3).trans HI1.out;clear y0 y1 y2 y3 z0 z1 z2 z3 c4 f4;have c5:=z4.cell;have f5:∀ o,w4.frozen? ⟨w+1,o,none⟩=false:=(fun o=>by simp [World.frozen?,show w4.heap[w.heap.size+1]?=_ from z4]);have t4:=zAa z4;by_cases hok:q2<=q1
     ·obtain ⟨o,ho,hle⟩:∃ o,qcmp q1 q2=o/\¬ (o<0):=⟨_,rfl,by unfold qcmp; grind⟩;rw [ho];clear ho;gi_wp2;refine ⟨⟨hb4.size,fun k o _ hk _=>(hb4.block k (zAa hk)).trans hk⟩,Carry.of_below hb4,z4,hBw,fun j hj=>?_⟩;rcases Nat.lt_succ_iff_lt_or_eq.1 hj with h | rfl
      ·exact HJ.out j h
      ·rw [HQ.out.1,HQ.out.2]; exact hok
     ·have ho:qcmp q1 q2=-1:=by unfold qcmp; grind
      rw [ho];clear ho;gi_wp2;refine ⟨⟨by simpa [World.setCell] using hb4.size,fun k o _ hk ho=>?_⟩,rfl,⟨k1,hlt1,by rw [HQ.out.1,HQ.out.2]; exact hok⟩,Boxed.set _ z4,hBw.setCell (p:=⟨w+1,0,none⟩) (by show w<=(w+1:Nat); omega) _⟩;refine (bhs _ _ _ _ (fun e=>?_)).trans ((hb4.block k (zAa hk)).trans hk);dsimp only at e;rw [e,show W.heap[w.heap.size+1]?=_ from HI1.out] at hk; cases hk; cases ho
    case done=>
     rintro Dd B1 W hDd _ ⟨i1,hB,hj⟩ hK0;have c1:=i1.cell;have f1:∀ o,W.frozen? ⟨w+1,o,none⟩=false:=(fun o=>by simp [World.frozen?,show W.heap[w.heap.size+1]?=_ from i1]);have t1:=zAa i1;have hDs:w+1<Dd:=by have:=HS0.out; omega
     have hb:b=true:=HBB.out.1 ⟨by rw [HYL.out,HRL.out],fun j hj=>HNN.out j (by rw [HYL.out] at hj; exact hj),fun j hj'=>hj j hj'⟩;subst hb;have cP:((W.setCell ⟨w+1,0,none⟩ (.bool true)).putObj Dd (.deferred none)).cell? ⟨w+1,0,none⟩=some (.bool true):=(cob (World.putObj_heap_other (by dsimp only; omega))).trans (Boxed.set _ i1).cell;clear hj i1;gi_wp2;refine ⟨by simp,.inl ⟨_,_,rfl,run_takeDeferred (b:=Dd) ((bhs _ _ _ _ (by dsimp only; omega)).trans hK0),?_⟩⟩;refine ⟨.bool true,by simp [results,Tryz.results108,go_sem,cP],rfl,?_⟩;exact (hB.setCell (p:=⟨w+1,0,none⟩) (by show w<=(w+1:Nat); omega) _).trans (belowK_b (w:=w) (nlr _) _ Dd _ _ (by omega) ((bhs _ _ _ _ (by dsimp only; omega)).trans hK0) rfl rfl)
    case stop=>
     rintro Dd i W hDd ⟨rfl,⟨j,hj,hbad⟩,i1,hB⟩ hK0;have c1:=i1.cell;have f1:∀ o,W.frozen? ⟨w+1,o,none⟩=false:=(fun o=>by simp [World.frozen?,show W.heap[w.heap.size+1]?=_ from i1]);have t1:=zAa i1;have hDs:w+1<Dd:=by have:=HS0.out; omega
     have hb:b=false:=by
      cases b with
      | false=>rfl
      | true=>exact absurd ((HBB.out.2 rfl).2.2 j hj) hbad
     subst hb;have cP:(W.putObj Dd (.deferred none)).cell? ⟨w+1,0,none⟩=some (.bool false):=(cob (World.putObj_heap_other (by dsimp only; omega))).trans i1.cell;clear hbad hj i1;gi_wp2;refine ⟨by simp,.inl ⟨_,_,rfl,run_takeDeferred hK0,?_⟩⟩;refine ⟨.bool false,by simp [results,Tryz.results108,go_sem,cP],rfl,?_⟩;exact hB.trans (belowK_b (w:=w) (nlr _) W Dd _ _ (by omega) hK0 rfl rfl)
 ·have hb:b=false:=by
   cases b with
   | false=>rfl
   | true=>exact absurd (HBB.out.2 rfl).1 (by rw [HYL.out,HRL.out]; exact hln)
  subst hb;have hd:((yn:Int) != (la:Int))=true:=by rw [bne_iff_ne]; omega
  clear b0 b1;gi_wp2;refine ⟨.bool false,by simp [results,Tryz.results108,go_sem],rfl,hk0⟩
end Go.Proofs.YtpjaodcimomaiaaGreat
namespace Go.Proofs.YtpjaodcimomaiaaGreat
open Go.RowKit Go.Shelf
variable {q:Rat} {L M V kb N i row E:Nat} {X Y X' Y':Nat->Prop} {w:World} {bs:List Rat} {os rs:List (List Rat)} {D:Lin.Dict} {s:SV} {p:LPV} {f:Nat->Rat} {ch:Option (Nat->Rat)} {P:Lin.Prob}
theorem zFY {a b:QV} {p:Rat} (ha:QIs w X L a p) (hb:QIs w Y M b q) (hL:L<=LM) (hM:M<=LM) :
  Calls Tryz.prog 22 #[a.val,b.val] w fun e w'=>e = .returned (.bool (decide (p=q)))/\Below w w w':=by
 have HL:=hdq hL;have HM:=hdq hM;clear hL hM;go_enter Tryz.func22,Tryz.ntmps22
 go_wp2_with fail
 refine zAg (fun W=>Below w w W/\Box4 W w (.bool a.num.ng) (.slice a.num.A a.num.n a.num.c) (.bool a.den.ng) (.slice a.den.A a.den.n a.den.c)/\Box4 W (w+1) (.bool b.num.ng) (.slice b.num.A b.num.n b.num.c) (.bool b.den.ng) (.slice b.den.A b.den.n b.den.c)/\w<(W:Nat)/\w+1<(W:Nat)) ⟨(az (az (brf _ _))),bx4,bx4,by simp <;> omega,by simp <;> omega⟩ ?_;rintro W ⟨hbW,bA,bB,s0,s1⟩;have hBW:=hbW.size;refine (zBg (ha.below hbW) (hb.below hbW) HL.out HM.out).mono ?_; rintro e w1 ⟨rfl,hb1⟩
 have HB:=hdq (hbW.trans (hb1.mono hBW))
 have HE:Hid ((qcmp p q == 0)=decide (p=q)):=by
  show _=_;rw [Bool.eq_iff_iff,beq_iff_eq,decide_eq_true_iff];unfold qcmp
  split
  ·rename_i h; exact ⟨fun h=>by omega,fun e=>by subst e; exact absurd h (Rat.lt_irrefl)⟩
  ·split
   ·rename_i h; exact ⟨fun _=>h,fun _=>rfl⟩
   ·rename_i h; exact ⟨fun h=>by omega,fun e=>absurd e h⟩
 clear hb1 hbW hBW bA bB s0 s1 ha hb;go_wp2;go_ret;exact ⟨by rw [<-HE.out]; rfl,HB.out⟩
def PValid (P:Lin.Prob) (y:Nat->Rat):Prop:=P.Dual y/\∃ x,P.Feasible x/\(Lin.sum P.n fun k=>P.O 0 k*x k)=Lin.sum P.m fun i=>y i*P.b i
theorem zDm {y:List Rat} :dualOk y os rs V ↔ y.length=rs.length/\(prob1 V os rs bs).Dual fun i=>y.getD i 0:=by
 unfold dualOk;refine ⟨fun ⟨h1,h2,h3⟩=>⟨h1,fun i hi=>h2 i (by rw [h1]; exact hi),fun k hk=>?_⟩,fun ⟨h1,h2,h3⟩=>⟨h1,fun i hi=>h2 i (by show i<rs.length; rw [<-h1]; exact hi),fun k hk=>?_⟩⟩
 ·have:=h3 k hk;unfold psum at this;rw [h1,Nat.min_self] at this;exact this
 ·have:=h3 k hk;unfold psum;rw [h1,Nat.min_self];exact this
theorem zJb {P:Lin.Prob} {y:Nat->Rat} (hI:PInv P none D) (hE:Ends P none D 1) (hK:0<P.K) (_hn:P.n=P.n) (hy:P.Dual y):PValid P y ↔ D.c 0 P.n=Lin.sum P.m fun i=>y i*P.b i:=by
 have G:=hI.1;rcases hE with ⟨h,_⟩ | ⟨_,hF,hc⟩ | ⟨h,_⟩
 ·omega
 ·obtain ⟨hfe,hobj⟩:=G.attained hK (hF.feas G);refine ⟨fun ⟨_,x,hx,e⟩=>?_,fun e=>⟨hy,_,hfe,hobj.trans e⟩⟩;have h1:=Lin.weak hx (G.dual_ok hK hc);rw [<-G.value_dual hK] at h1;have h2:=Lin.weak hfe hy;rw [hobj] at h2;rw [e] at h1;exact Rat.le_antisymm h2 h1
 ·omega
theorem zJc {P:Lin.Prob} {y:Nat->Rat} (hI:PInv P none D) (hE:Ends P none D 2):¬ PValid P y:=by
 rcases hE with ⟨_,h⟩ | ⟨h,_⟩ | ⟨h,_⟩
 ·rintro ⟨_,x,hx,_⟩; exact Lin.zJI hI.1 h x hx
 ·omega
 ·omega
theorem zHu {P:Lin.Prob} {y:Nat->Rat} (hI:PInv P none D) (hE:Ends P none D 3) (hK:0<P.K):¬ PValid P y:=by
 rcases hE with ⟨h,_⟩ | ⟨h,_⟩ | ⟨_,hF,s,hs,hc,ha⟩
 ·omega
 ·omega
 ·rintro ⟨hy,_⟩; exact hI.1.no_dual hK hs hc ha y hy
theorem zFW {kd:Nat} {y:List Rat} (b:Bool) (h:LPIs w X Y M p os rs bs) (hV:p.n=V) (hV2:V<=8) (ho1:1<=p.O.n) (ho2:p.O.n<=4) (hr:p.R.n<=128) (hb:p.B.n=p.R.n) (hco:colsOf os<=V) (hcr:colsOf rs<=V) (hM:M<=100)
  (hy:VecIs w X' Y' L s y) (hL:L<=LM) (hk:kb+1<=LM) (hkd:1000000*(kd+1)<32*LM)
  (hf:y.length=rs.length->(∀ i j,QFit LM (y.getD i 0*(rs.getD i []).getD j 0))/\(∀ k j,Lin.Fits kb (Lin.sum k fun i=>y.getD i 0*(rs.getD i []).getD j 0))/\∀ i,Lin.Fits kd (y.getD i 0*bs.getD i 0))
  (hbb:(y.length=rs.length/\PValid (prob1 V os rs bs) fun i=>y.getD i 0) ↔ b=true) :
  Calls Tryz.prog 48 #[p.val,s.val] w fun e w'=>e = .returned (.bool b)/\Below w w w':=by
 obtain ⟨n,O,R,⟨BA,Bn,Bc⟩⟩:=p;obtain ⟨yA,yn,yc⟩:=s;dsimp only at hV ho1 ho2 hr hb;subst hV hb;have HM1:Hid (M+1<=LM):=by show M+1<=LM; rw [zAZ]; omega
 have HL:=hdq hL;have HK:=hdq hk;have HKD:=hdq hkd;have HF:=hdq hf;have HBB:=hdq hbb;have HYL:Hid (y.length=yn):=hy.len;have HRL:Hid (rs.length=R.n):=h.rows.len;have HV2:=hdq (zDZ (L:=M) hV2 hM);have HFit:Hid (∀ D,PInv (prob1 V os rs bs) none D->QFit (5 ^ V*(32*(M+1))+1) (D.c 0 V)):=fun D hD=>zAv ((zBE h (ch:=none) (E:=V) (by simp [Lin.given]) (fun c hc=>by cases hc) D hD).c V (nlr _))
 clear hL hk hkd hf hbb;go_enter Tryz.func48,Tryz.ntmps48
 go_wp2_with fail
 refine zAg (fun W=>Below w w W/\Box4 W w (.int .i64 V) (.slice O.A O.n O.c) (.slice R.A R.n R.c) (.slice BA R.n Bc)/\w<(W:Nat)) ⟨(az (brf _ _)),bx4,by simp <;> omega⟩ ?_;rintro W ⟨hbW,bP,s0⟩;have hBW:=hbW.size;refine (zBv (h.below hbW) rfl (by omega) ho1 ho2 hr rfl hco hcr).mono ?_; rintro e w1 ⟨rfl,hb1⟩
 have hb01:=hbW.trans (hb1.mono hBW);have bP1:=bP.below hb1 s0;obtain ⟨p0,p1,p2,p3,p4⟩:=id bP1;have s1:=ltl s0 hb1.size;go_wp2_with fail
 by_cases hd:dualOk y os rs V
 ·refine (zCP (kb:=kb) (p:=⟨V,O,R,⟨BA,R.n,Bc⟩⟩) true (h.below hb01) rfl (by omega) ho1 hr hcr (hy.below hb01) HL.out HM1.out HK.out (fun e=>⟨(HF.out e).1,(HF.out e).2.1⟩) ⟨fun _=>rfl,fun _=>hd⟩).mono ?_;rintro e w2 ⟨rfl,hb2⟩;have hb02:=hb01.trans (hb2.mono hb01.size);have bP2:=bP1.below hb2 s1;have s2:=ltl s1 hb2.size;have HD:=hdq hd;obtain ⟨p0,p1,p2,p3,p4⟩:=id bP2;clear hb1 hb2 hb01 bP bP1 hd hbW hBW s0 s1;go_wp2_with fail
  refine (zBd (p:=⟨V,O,R,⟨BA,R.n,Bc⟩⟩) (h.below hb02) rfl hV2 ho1 ho2 hr rfl hco hcr hM).mono ?_;have hy2:=hdq (hy.below hb02);have hB2:=hdq (h.bounds.below hb02);have HLy:Hid (yn=R.n):=by show _=_; rw [<-HYL.out,<-HRL.out]; exact HD.out.1
  rintro e w3 ⟨⟨D,z,hI,hE,rfl,hz⟩ | ⟨D,hI,hE,rfl⟩ | ⟨D,hI,hE,rfl⟩,hb3⟩
  ·have hy3:=hdq (hy2.out.below hb3);have hB3:=hdq (hB2.out.below hb3);have hb03:=hb02.trans (hb3.mono hb02.size);have bP3:=bP2.below hb3 s2;have s3:=ltl s2 hb3.size;have HZ:Hid (QIs w3 (New w2) (5 ^ V*(32*(M+1))+1) z (D.c 0 V)):=hz.qis (HFit.out D hI);have hv:=zJb hI hE Nat.one_pos rfl (zDm.1 HD.out).2
   have HBV:Hid (decide (D.c 0 V=Lin.sum (min yn R.n) fun i=>y.getD i 0*bs.getD i 0)=b):=by
    show _=_;rw [HLy.out,Nat.min_self];rw [Bool.eq_iff_iff,decide_eq_true_iff,<-HBB.out]
    have e1:(D.c 0 V=Lin.sum R.n fun i=>y.getD i 0*bs.getD i 0) ↔ (D.c 0 (prob1 V os rs bs).n=Lin.sum (prob1 V os rs bs).m fun i=>(fun i=>y.getD i 0) i*(prob1 V os rs bs).b i):=by
     rw [show (prob1 V os rs bs).m=R.n from HRL.out]; exact Iff.rfl
    rw [e1,<-hv];exact ⟨fun h=>⟨HD.out.1,h⟩,fun h=>h.2⟩
   obtain ⟨p0,p1,p2,p3,p4⟩:=id bP3;clear hb3 hb02 bP2 hz hv hI hE;(go_upto_region 4 with fail);have al:Below w3 w3 (w3.alloc (.cells #[.bool z.num.ng,.slice z.num.A z.num.n z.num.c,.bool z.den.ng,.slice z.den.A z.den.n z.den.c] 37)):=bal;obtain ⟨w4,hw4⟩:∃ w4,w3.alloc (.cells #[.bool z.num.ng,.slice z.num.A z.num.n z.num.c,.bool z.den.ng,.slice z.den.A z.den.n z.den.c] 37)=w4:=⟨_,rfl⟩;rw [hw4] at al ⊢;have y5:QBlk w4 w3 z:=by rw [<-hw4]; exact zAd _ _ rfl
   have bP4:=bP3.below al s3;obtain ⟨p0,p1,p2,p3,p4⟩:=id bP4;obtain ⟨y0,y1,y2,y3,-⟩:=zAA y5;have t5:=zAa y5;have t1:w<(w4:Nat):=(by omega);have HB4:=hdq (hb03.trans (al.mono hb03.size));have HA:=hdq al;clear hw4 al hb03 bP3;refine zAp 1000 (fun _ w'=>Sees w [] w4 w') (by kernel_rfl) ?_;have hS0:Sees w [] w4 w4.drew:=Sees.st (by simp) (by omega);refine tx4 0 1 2 3 hS0 ?_;refine tx1 4 hS0 ?_;refine tx1 5 hS0 ?_;refine tx1 6 hS0 ?_;refine tk1 7 ?_;intro K hK;go_simp;have hdr:Below w4 w4 w4.drew:=(brf _ _).drew;refine (zEb (kb:=kd) (sa:=⟨yA,yn,yc⟩) (sb:=⟨BA,R.n,Bc⟩) ((hy3.out.below HA.out).below hdr) ((hB3.out.below HA.out).below hdr) HL.out (by have:=HM1.out; omega) (by dsimp only; have:=HLy.out; omega) HKD.out ((HF.out HD.out.1).2.2)).mono ?_;rintro e w5 ⟨⟨u,rfl,hu⟩,hb5⟩
   have hfit:QFit LM (Lin.sum (min yn R.n) fun i=>y.getD i 0*bs.getD i 0):=by
    have e1:bs.length=R.n:=hB3.out.len;have:=zEa (r:=y) (x:=bs) (by rw [HYL.out,HLy.out]; omega) HKD.out ((HF.out HD.out.1).2.2);unfold dotL at this;rw [HYL.out,e1] at this;exact this
   have hS1:=Kept.call2 hb5 hS0;have HU:=hdq (hu.qis hfit);refine hK.out _ _ hS1 ?_;clear hK K hS0 hb5 hfit hu;refine tk1 8 ?_;intro K hK;go_simp;refine (zFY (a:=z) (b:=u) (HZ.out.below (HA.out.trans (hS1.kept.whole.mono HA.out.size))) HU.out (by have:=HV2.out; omega) (nlr _)).mono ?_;rintro e w6 ⟨rfl,hb6⟩;rw [HBV.out];have hS2:=Kept.call2 hb6 hS1;refine hK.out _ _ hS2 ?_;clear hK K hS1 hb6;refine tx1 9 hS2 ?_;refine tx1 10 hS2 ?_;refine zAf (by kernel_rfl) ?_ _;have HB:=hdq (HB4.out.trans (hS2.kept.whole.mono HB4.out.size));clear hS2 y0 y1 y2 y3 p0 p1 p2 p3 p4;go_wp2;(try rw [Exit.noGoto_ret]);go_ret;exact ⟨rfl,HB.out⟩
  ·have hb:b=false:=by
    cases b with
    | false=>rfl
    | true=>exact absurd (HBB.out.2 rfl).2 (zJc hI hE)
   subst hb;have hb03:=hb02.trans (hb3.mono hb02.size);clear hb3 hb02 hI hE bP2 p0 p1 p2 p3 p4;(go_upto_region 4 with fail);refine zAp 1000 (fun _ _=>True) (by kernel_rfl) ?_;refine tx1 0 trivial ?_;refine tx1 1 trivial ?_;refine tx1 2 trivial ?_;refine tn4 3 4 5 6 trivial ?_;refine tn1 7 trivial ?_;refine tn1 8 trivial ?_;refine tx1 9 trivial ?_;refine tx1 10 trivial ?_;refine zAf (by kernel_rfl) ?_ _;have HB:=hdq ((hb03.alloc hb03.size (.cells #[.bool false,.slice none 0 0,.bool false,.slice none 0 0] 37)).drew);clear hb03;go_wp2;(try rw [Exit.noGoto_ret]);go_ret;exact ⟨rfl,HB.out⟩
  ·have hb:b=false:=by
    cases b with
    | false=>rfl
    | true=>exact absurd (HBB.out.2 rfl).2 (zHu hI hE Nat.one_pos)
   subst hb;have hb03:=hb02.trans (hb3.mono hb02.size);clear hb3 hb02 hI hE bP2 p0 p1 p2 p3 p4;(go_upto_region 4 with fail);refine zAp 1000 (fun _ _=>True) (by kernel_rfl) ?_;refine tx1 0 trivial ?_;refine tx1 1 trivial ?_;refine tx1 2 trivial ?_;refine tn4 3 4 5 6 trivial ?_;refine tn1 7 trivial ?_;refine tn1 8 trivial ?_;refine tx1 9 trivial ?_;refine tx1 10 trivial ?_;refine zAf (by kernel_rfl) ?_ _;have HB:=hdq ((hb03.alloc hb03.size (.cells #[.bool false,.slice none 0 0,.bool false,.slice none 0 0] 37)).drew);clear hb03;go_wp2;(try rw [Exit.noGoto_ret]);go_ret;exact ⟨rfl,HB.out⟩
 ·have hb:b=false:=by
   cases b with
   | false=>rfl
   | true=>obtain ⟨h1,h2⟩:=HBB.out.2 rfl; exact absurd (zDm.2 ⟨h1,h2.1⟩) hd
  subst hb;refine (zCP (kb:=kb) (p:=⟨V,O,R,⟨BA,R.n,Bc⟩⟩) false (h.below hb01) rfl (by omega) ho1 hr hcr (hy.below hb01) HL.out HM1.out HK.out (fun e=>⟨(HF.out e).1,(HF.out e).2.1⟩) ⟨fun e=>absurd e hd,fun e=>by cases e⟩).mono ?_;rintro e w2 ⟨rfl,hb2⟩;have HB:=hdq (hb01.trans (hb2.mono hb01.size));clear hb1 hb2 hb01 bP bP1 p0 p1 p2 p3 p4 hbW hBW hd;go_wp2;try rw [Exit.noGoto_ret]
  go_ret;exact ⟨rfl,HB.out⟩
theorem zKg (h:Lin.LexNN N f) (hi:i<N) (h0:∀ j,j<i->f j=0):0<=f i:=by
 rcases h with h | ⟨k,hk,hp,hz⟩
 ·rw [h i hi]; exact Rat.le_refl
 ·by_cases h1:i<k
  ·rw [hz i h1]; exact Rat.le_refl
  ·by_cases h2:k<i
   ·have:=h0 k h2; grind
   ·(obtain rfl:i=k:=by omega);exact Rat.le_of_lt hp
theorem zD4 (m i:Nat) (z:Nat->Rat) (hi:i<m):(Lin.sum m fun j=>z j*Lin.unit i j)=z i:=by
 induction m with
 | zero=>omega
 | succ m ih=>
  show (Lin.sum m fun j=>z j*Lin.unit i j)+z m*Lin.unit i m=z i;by_cases h:i=m
  ·subst h;rw [Lin.zAC (fun j hj=>by unfold Lin.unit; rw [if_neg (by omega)]; grind)];unfold Lin.unit;rw [if_pos rfl]; grind
  ·rw [ih (by omega)];unfold Lin.unit;rw [if_neg (by omega)]; grind
theorem zFB (m i:Nat) (up:Bool) (z:Nat->Rat) (hi:i<m):(Lin.sum m fun j=>z j*mch i up j)=if up then z i else-z i:=by
 cases up with
 | true=>exact zD4 m i z hi
 | false=>
  have h:=zD4 m i (fun j=>- z j) hi;rw [if_neg (by decide)];rw [<-h];exact Lin.zAh fun j _=>by unfold mch Lin.unit; split <;> grind
section
variable {P:Lin.Prob} {ch:Option (Nat->Rat)} {D:Lin.Dict}
theorem ends1 (hI:PInv P ch D) (hE:Ends P ch D 1) (hK:0<P.K) :
  P.Dual (D.dual P)/\(∃ x,P.Feasible x/\(Lin.sum P.n fun k=>P.O 0 k*x k)=D.c 0 P.n)/\D.c 0 P.n=(Lin.sum P.m fun i=>D.dual P i*P.b i)/\
  ∀ z,P.Dual z->Lin.LexNN (Lin.given ch+P.m) fun k=>(Lin.sum P.m fun i=>z i*Lin.levels P ch k i)-Lin.sum P.m fun i=>D.dual P i*Lin.levels P ch k i:=by
 have G:=hI.1;rcases hE with ⟨h,_⟩ | ⟨_,hF,hc⟩ | ⟨h,_⟩
 ·omega
 ·obtain ⟨hfe,hobj⟩:=G.attained hK (hF.feas G);exact ⟨G.dual_ok hK hc,⟨_,hfe,hobj⟩,G.value_dual hK,fun z hz=>G.dual_least hK (fun i hi=>.inr (hF i hi)) hz⟩
 ·omega
theorem ends2 (hI:PInv P none D) (hE:Ends P none D 2) (x:Nat->Rat):¬ P.Feasible x:=by
 rcases hE with ⟨_,h⟩ | ⟨h,_⟩ | ⟨h,_⟩
 ·exact Lin.zJI hI.1 h x
 ·omega
 ·omega
theorem ends3 (hI:PInv P ch D) (hE:Ends P ch D 3) (hK:0<P.K) (y:Nat->Rat):¬ P.Dual y:=by
 rcases hE with ⟨h,_⟩ | ⟨h,_⟩ | ⟨_,_,s,hs,hc,h⟩
 ·omega
 ·omega
 ·exact hI.1.no_dual hK hs hc h y
theorem ends2c {c:Nat->Rat} (hI:PInv P (some c) D) (hE:Ends P (some c) D 2) {x:Nat->Rat} (hx:P.Feasible x) {t:Rat} (ht:0<t) (y:Nat->Rat):¬ (P.re fun i=>P.b i+t*c i).Feasible y:=by
 rcases hE with ⟨_,h⟩ | ⟨h,_⟩ | ⟨h,_⟩
 ·exact Lin.zHy hI.1 h hx ht y
 ·omega
 ·omega
theorem zA5 (hI:PInv P ch D) (hE:Ends P ch D 1) (hK:0<P.K):PValid P (D.dual P):=by
 obtain ⟨h1,⟨x,hx,e⟩,h3,_⟩:=ends1 hI hE hK;exact ⟨h1,x,hx,e.trans h3⟩
theorem zBW {y z:Nat->Rat} (h:PValid P y) (k:PValid P z):(Lin.sum P.m fun i=>y i*P.b i)=Lin.sum P.m fun i=>z i*P.b i:=by
 obtain ⟨hy,x,hx,e⟩:=h;obtain ⟨hz,x',hx',e'⟩:=k;have h1:=Lin.weak hx hz;have h2:=Lin.weak hx' hy;grind
theorem zEU {c:Nat->Rat} (hI:PInv P (some c) D) (hE:Ends P (some c) D 1) (hK:0<P.K) {z:Nat->Rat} (hz:PValid P z):(Lin.sum P.m fun i=>D.dual P i*c i)<=Lin.sum P.m fun i=>z i*c i:=by
 have h:=(ends1 hI hE hK).2.2.2 z hz.1
 have h1:=zKg (i:=1) h (by simp [Lin.given]; omega) (fun j hj=>by
  obtain rfl:j=0:=by omega
  have:=zBW hz (zA5 hI hE hK);simp only [Lin.zBp];grind)
 simp only [Lin.levels,if_true,if_neg (show ¬ (1=0) by decide)] at h1;grind
theorem zII (hI:PInv P none D) (hE:Ends P none D 1) (hK:0<P.K) {z:Nat->Rat} (hz:PValid P z):(∀ i,i<P.m->D.dual P i=z i)\/∃ i,i<P.m/\D.dual P i<z i/\∀ j,j<i->D.dual P j=z j:=by
 have h:=(ends1 hI hE hK).2.2.2 z hz.1;have h0:=zBW hz (zA5 hI hE hK)
 have hu:∀ (i:Nat) (y:Nat->Rat),i<P.m->(Lin.sum P.m fun j=>y j*Lin.levels P none (i+1) j)=y i:=fun i y hi=>by
  rw [<-zD4 P.m i y hi];exact Lin.zAh fun j _=>by simp only [Lin.levels,Nat.add_sub_cancel,if_neg (Nat.succ_ne_zero i)]
 rcases h with h | ⟨k,hk,hp,hzr⟩
 ·refine .inl fun i hi=>?_
  have:=h (i+1) (by simp [Lin.given]; omega);simp only [hu i _ hi] at this;grind
 ·cases k with
  | zero=>simp only [Lin.zBp] at hp; exfalso; grind
  | succ k=>
   have hk':k<P.m:=by simp [Lin.given] at hk; omega
   refine .inr ⟨k,hk',?_,fun j hj=>?_⟩
   ·simp only [hu k _ hk'] at hp; grind
   ·have:=hzr (j+1) (by omega);simp only [hu j _ (by omega)] at this;grind
end
theorem zJg {P:Lin.Prob} (hK:0<P.K) (hrow:row<P.m) (ID:PInv P (some (mch row true)) D) (ED:Ends P (some (mch row true)) D 1) {z:Nat->Rat} (hz:PValid P z):D.dual P row<=z row:=by
 have h:=zEU ID ED hK hz;rw [zFB _ _ _ _ hrow,zFB _ _ _ _ hrow] at h;exact h
theorem zET {P:Lin.Prob} (hK:0<P.K) (hrow:row<P.m) (ID:PInv P (some (mch row false)) D) (ED:Ends P (some (mch row false)) D 1) {z:Nat->Rat} (hz:PValid P z):z row<=D.dual P row:=by
 have h:=zEU ID ED hK hz;rw [zFB _ _ _ _ hrow,zFB _ _ _ _ hrow,if_neg (by decide),if_neg (by decide)] at h;grind
theorem zJZ (h:V<=4):5 ^ V*N<=625*N:=Nat.mul_le_mul_right _ (Nat.pow_le_pow_right (by decide) h)
theorem zEc (h:LPIs w X Y L p os rs bs) (hV:V<=4) (hE:E+1-V=Lin.given ch) (hVE:V<=E) (hc:∀ c,ch=some c->∀ i,Lin.Fits (32*(L+1)) (c i)) (hD:PInv (prob1 V os rs bs) ch D) :
  (∀ i,Lin.Fits (625*(32*(L+1))) (D.dual (prob1 V os rs bs) i))/\Lin.Fits (625*(32*(L+1))) (D.c 0 V):=by
 have hf:=zBE h hE hc D hD;have hm:∀ j,j<=E->Lin.Fits (625*(32*(L+1))) (D.c 0 j):=fun j hj=>(hf.c j hj).mono (zJZ hV)
 refine ⟨fun i=>?_,hm V hVE⟩;by_cases he:∃ j,j<V/\D.free j=V+i
 ·obtain ⟨j,hj,e⟩:=he;rw [hD.1.dual_free (P:=prob1 V os rs bs) hj e];exact hm j (by omega)
 ·rw [Lin.zER (P:=prob1 V os rs bs) fun j hj e=>he ⟨j,hj,e⟩];exact Lin.Fits.zero _
open Lin
def PMax (P:Prob) (v:Rat):Prop:=(∃ x,P.Feasible x/\(sum P.n fun k=>P.O 0 k*x k)=v)/\∃ y,P.Dual y/\(sum P.m fun i=>y i*P.b i)=v
theorem zQK {D:Dict} (hI:PInv P ch D) (hE:Ends P ch D 1) (hK:0<P.K):PMax P (D.c 0 P.n):=by
 obtain ⟨h1,h2,h3,_⟩:=ends1 hI hE hK;exact ⟨h2,_,h1,h3.symm⟩
theorem PMax.le {v:Rat} (h:PMax P v) {x:Nat->Rat} (hx:P.Feasible x):(sum P.n fun k=>P.O 0 k*x k)<=v:=by
 obtain ⟨_,y,hy,e⟩:=h;rw [<-e]; exact weak hx hy
theorem grows {D:Dict} (hI:PInv P none D) (hE:Ends P none D 3) (hK:P.K=1) (r:Rat):∃ z,P.Feasible z/\r<=sum P.n fun k=>P.O 0 k*z k:=by
 have G:=hI.1;rcases hE with ⟨h,_⟩ | ⟨h,_⟩ | ⟨_,hF,s,hs,hc,hn⟩
 ·omega
 ·omega
 ·have hU:=zLG G (hF.feas G) hs ⟨0,by omega,by show D.cost P 0 s<0; unfold Dict.cost; rw [if_pos (by omega)]; exact hc,fun j hj=>absurd hj (Nat.not_lt_zero j)⟩ hn;obtain ⟨hx,hd,-,j,hj,hp,-⟩:=id hU;obtain rfl:j=0:=by omega
  simp only at hp;generalize hc0:(sum P.n fun k=>P.O 0 k*D.dir P s k)=c at *;by_cases h:r<=sum P.n fun k=>P.O 0 k*D.point P k
  ·exact ⟨_,hx,h⟩
  ·have ht:0<=(r-sum P.n fun k=>P.O 0 k*D.point P k)*c⁻¹:=mul_nonneg (by grind) (Rat.le_of_lt (inv_pos hp));refine ⟨_,hU.move hx ht,?_⟩;rw [zLo,hc0]
   have:(r-sum P.n fun k=>P.O 0 k*D.point P k)*c⁻¹*c=r-sum P.n fun k=>P.O 0 k*D.point P k:=by
    rw [Rat.mul_assoc,Rat.inv_mul_cancel _ (by grind)]; grind
   grind
section
variable {P Q:Prob} {i:Nat} {a o:Nat->Rat} {b:Rat}
end
end Go.Proofs.YtpjaodcimomaiaaGreat
