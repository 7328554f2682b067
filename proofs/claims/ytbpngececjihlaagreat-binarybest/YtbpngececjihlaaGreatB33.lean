/- Texts Feas PrK PrL PrT PrU of this claim. -/
import Derived.Test.YtbpngececjihlaaGreatB32
set_option maxHeartbeats 4000000
set_option maxRecDepth 100000
namespace Go.Proofs.YtbpngececjihlaaGreat
open Go.RowKit Go.Shelf
variable {w:World} {n g L M V kb:Nat} {s:SV} {bs:List Rat} {os rs:List (List Rat)} {p:LPV} {X Y X' Y':Nat->Prop}
attribute [local go_sem] Oper.semAt_some
theorem zH7 {P:Program} {c:Code} {Q:Exit->Act->World->Prop} {a:Act} (h:c.wpIn Fence.wide n P (Exit.noGoto Q) a w):(Code.scope c).wpIn Fence.wide n P Q a w:=wpIn_wide.2 (wp_scope_straight (wpIn_wide.1 h))
theorem zHi (w:World) (L:Nat):QIs w (fun _=>True) L QV.zero 0:=⟨0,0,⟨[],WordsAt.nil _ _ _ _ (nzl _),nzl _,rfl⟩,⟨[],WordsAt.nil _ _ _ _ (nzl _),nzl _,rfl⟩,by simp [qv]⟩
def FeasX (w:World) (_V:Nat) (z:Int) (O R:SV) (_lb:Nat) (B:SV) (xA:Option Addr) (xn xc:Nat) (x:List Rat) (t:Value) (W:World):Prop:=
 ∃ k:Nat,k<=xn/\t = .int .i64 k/\Below w w W/\Box4 W w (.int .i64 z) O.val R.val B.val/\Boxed W (w+1) 23 (.slice xA xn xc)/\w.heap.size+1<W.heap.size/\∀ j,j<k->0<=x.getD j 0
def FInv (W0:World) (g:Nat) (ok:Nat->Prop) (pre:List Nat) (W:World):Prop:=
 Boxed W g 4 (.bool true)/\Carry (fun y=>y ≠ g) W0 W/\∀ x ∈ pre,ok x
def FOut (w:World) (g:Nat) (ok:Nat->Prop) (c:Code) (pre:List Nat) (W:World):Prop:=
 c = .exit 2/\∃ pr x,pre=pr++[x]/\¬ ok x/\Boxed W g 4 (.bool false)/\Below w w W
theorem FInv.own {W0:World} {ok:Nat->Prop}:Own (FInv W0 g ok):=fun _s _W _W' _row hs hg hr=>⟨zAi hg hr hs.1,hs.2.1.trans (Carry.grown hg hr),hs.2.2⟩
theorem zEE {x:List Rat} (b:Bool) (h:LPIs w X Y L p os rs bs) (hV:p.n=V) (hV2:V<=64) (ho1:1<=p.O.n) (ho2:p.O.n<=4) (hr:p.R.n<=128) (hb:p.B.n=p.R.n) (hco:colsOf os<=V) (hcr:colsOf rs<=V)
  (hx:VecIs w X' Y' M s x) (hxl:x.length<=V) (hL:L<=LM) (hM:M<=LM) (hkb:1000000*(kb+1)<32*LM) (hf:∀ i k,Lin.Fits kb ((rs.getD i []).getD k 0*x.getD k 0))
  (hbb:((∀ k,k<x.length->0<=x.getD k 0)/\∀ i,i<rs.length->dotL (rs.getD i []) x<=bs.getD i 0) ↔ b=true) :
  Calls Tryz.prog 89 #[p.val,s.val] w fun e w'=>e = .returned (.bool b)/\Below w w w':=by
 refine (callsIn_wide (n:=6)).1 ?_;obtain ⟨z,⟨oA,on,oc⟩,⟨A,la,ca⟩,⟨B,lb,cb⟩⟩:=p;obtain ⟨xA,xn,xc⟩:=s;dsimp only [LPV.val,SV.val] at *;subst hV;subst hb;have HP:=hdq h;have HX:=hdq hx;have HL:=hdq hL;have HM:=hdq hM;have HK:=hdq hkb;have HF:=hdq hf;have HBB:=hdq hbb;have HXL:Hid (x.length=xn):=hx.len;have HRL:Hid (rs.length=lb):=h.rows.len;have HCo:=hdq hco;have HCr:=hdq hcr;have hxv:xn<=V:=by rw [<-HXL.out]; exact hxl
 have hxle:xn<=xc:=hx.le;have hxcap:xc<=9223372036854775807:=hx.cap;clear h hx hL hM hkb hf hbb hco hcr hxl;refine callsIn_of_wp_marks Tryz.func89 rfl trivial ?_ rfl;simp only [Tryz.ntmps89,List.size_toArray,List.length_cons,List.length_nil,Nat.reduceAdd,Nat.reduceSub,Array.replicate_succ,Array.replicate_zero,List.push_toArray,List.append_toArray,List.nil_append,List.cons_append];gi_wp2;refine zH7 ?_;gi_wp2;refine ⟨trivial,?_⟩;have hk0:Below w w ((w.alloc (.cells #[V,.slice oA on oc,.slice A lb ca,.slice B lb cb] 25)).alloc (.cells #[.slice xA xn xc] 23)):=((brf _ w).alloc (nlr _) _).alloc si _;have hs0:((w.alloc (.cells #[V,.slice oA on oc,.slice A lb ca,.slice B lb cb] 25)).alloc (.cells #[.slice xA xn xc] 23)).heap.size=w.heap.size+2:=si
 have b0:Box4 ((w.alloc (.cells #[V,.slice oA on oc,.slice A lb ca,.slice B lb cb] 25)).alloc (.cells #[.slice xA xn xc] 23)) w V (.slice oA on oc) (.slice A lb ca) (.slice B lb cb):=bx4;have b1:Boxed ((w.alloc (.cells #[V,.slice oA on oc,.slice A lb ca,.slice B lb cb] 25)).alloc (.cells #[.slice xA xn xc] 23)) (w+1) 23 (.slice xA xn xc):=zAd _ _ si;generalize ((w.alloc (.cells #[V,.slice oA on oc,.slice A lb ca,.slice B lb cb] 25)).alloc (.cells #[.slice xA xn xc] 23))=W0 at *;refine (callsIn_wide.2 (zBv (p:=⟨V,⟨oA,on,oc⟩,⟨A,lb,ca⟩,⟨B,lb,cb⟩⟩) (HP.out.below hk0) rfl hV2 ho1 ho2 hr rfl HCo.out HCr.out)).mono ?_;rintro e w1 ⟨rfl,hb1⟩;have hB1:=hk0.trans (hb1.mono hk0.size);replace b0:=b0.below hb1 om;replace b1:Boxed w1 (w+1) 23 (.slice xA xn xc):=(hb1.block _ (zAa b1)).trans b1;have l1:w.heap.size+1<w1.heap.size:=zAa b1;obtain ⟨q0,q1,q2,q3,qf⟩:=id b0;have c1:=b1.cell;have hxvi:¬ (V:Int)<(xn:Int):=om
 have hxvd:decide (V<xn)=false:=by simp; omega
 have H0:Hid (FeasX w V V ⟨oA,on,oc⟩ ⟨A,lb,ca⟩ lb ⟨B,lb,cb⟩ xA xn xc x (.int .i64 0) w1):=⟨0,nzl _,rfl,hB1,b0,b1,l1,fun j hj=>absurd hj (Nat.not_lt_zero j)⟩;clear hk0 hs0 hb1 hB1 b0 b1;gi_wp2;gi_loopw [22] (fun t W=>FeasX w V V ⟨oA,on,oc⟩ ⟨A,lb,ca⟩ lb ⟨B,lb,cb⟩ xA xn xc x t W) (fun t _=>xn-(intOf t).toNat)
 case atStart=>exact H0.out
 case round=>
  clear H0 q0 q1 q2 q3 qf c1;obtain ⟨k,hk,rfl,hB,b0,b1,l2,hnn⟩:=hrel;have hBs:=hB.size;by_cases hlt:k<xn
  ·obtain ⟨ad,u,e,-,⟨q0,q1,q2,q3⟩,hu⟩:=(HX.out.below hB).elem k hlt;dsimp only at e q0 q1 q2 q3;subst e;have tq:(ad.add (k*4)).block<wr:=zAb q0;have hkbi:(k:Int)<(xn:Int):=om;obtain ⟨q,hqe⟩:∃ q,x.getD k 0=q:=⟨_,rfl⟩;rw [hqe] at hu;have HQE:=hdq hqe;have HU:=hdq hu;have HNN:=hdq hnn;clear hu hnn hqe;have al:Below wr wr (wr.alloc (.cells #[u.num.ng,u.num,u.den.ng,u.den] 30)):=bal;by_cases hneg:q<0
   ·gi_wp2;refine ⟨trivial,?_⟩;refine (callsIn_wide.2 (zAn (HU.out.below al))).mono ?_;rintro e w2 ⟨rfl,hb2⟩;have hq:=zDe hneg;rw [hq];clear hq;have hbf:=hB.trans ((al.trans (hb2.mono al.size)).mono hBs)
    have hb:b=false:=by
     cases b with
     | false=>rfl
     | true=>exact absurd ((HBB.out.2 rfl).1 k (by rw [HXL.out]; exact hlt)) (by rw [HQE.out]; exact Rat.not_le.2 hneg)
    subst hb;gi_wp2;refine ⟨.bool false,by simp [results,Tryz.results89,go_sem],?_⟩;exact ⟨rfl,hbf⟩
   ·gi_wp2;refine ⟨trivial,?_⟩;refine (callsIn_wide.2 (zAn (HU.out.below al))).mono ?_;rintro e w2 ⟨rfl,hb2⟩;have hq:=zD0 hneg;have hbf:=al.trans (hb2.mono al.size)
    have Hfin:Hid (FeasX w V V ⟨oA,on,oc⟩ ⟨A,lb,ca⟩ lb ⟨B,lb,cb⟩ (some ad) xn xc x (.int .i64 ((k:Int)+1)) w2):=⟨k+1,om,si,hB.trans (hbf.mono hBs),b0.below hbf om,(hbf.block _ (zAa b1)).trans b1,ltl l2 hbf.size,fun j hj=>by
     by_cases e:j=k
     ·subst e; rw [HQE.out]; exact Rat.not_lt.1 hneg
     ·exact HNN.out j om⟩
    clear b0 b1 hB;gi_wp2;exact ⟨Hfin.out,by simp [intOf]; omega⟩
  ·(obtain rfl:k=xn:=om);have HNN:=hdq hnn;clear hnn;obtain ⟨q0,q1,q2,q3,qf⟩:=id b0;have c1:=b1.cell;have l3:w.heap.size<wr.heap.size:=om;gi_wp2;refine wpIn_label ?_;gi_wp2;refine ⟨trivial,?_⟩;refine (zIg V oA A B on oc lb ca lb cb).mono ?_;rintro e w2 ⟨rfl,rfl⟩;gi_wp2;dsimp only [SV.val];have hk0:Below w w ((wr.alloc (.cells #[true] 4)).alloc (.cells #[V,.slice oA on oc,.slice A lb ca,.slice B lb cb] 25)):=(hB.alloc hBs _).alloc (by simp; omega) _;have hs0:((wr.alloc (.cells #[true] 4)).alloc (.cells #[V,.slice oA on oc,.slice A lb ca,.slice B lb cb] 25)).heap.size=wr.heap.size+2:=si;have x0:Boxed ((wr.alloc (.cells #[true] 4)).alloc (.cells #[V,.slice oA on oc,.slice A lb ca,.slice B lb cb] 25)) wr 4 true:=(Boxed.new wr _ _).alloc _;have x1:((wr.alloc (.cells #[true] 4)).alloc (.cells #[V,.slice oA on oc,.slice A lb ca,.slice B lb cb] 25)).heap[wr.heap.size+1]?=some (.cells #[V,.slice oA on oc,.slice A lb ca,.slice B lb cb] 25 (0,0)):=zAd _ _ si;have x2:Boxed ((wr.alloc (.cells #[true] 4)).alloc (.cells #[V,.slice oA on oc,.slice A lb ca,.slice B lb cb] 25)) (w+1) 23 (.slice xA k xc):=(b1.alloc _).alloc _;generalize (wr.alloc (.cells #[true] 4)).alloc (.cells #[V,.slice oA on oc,.slice A lb ca,.slice B lb cb] 25)=W0 at *;obtain ⟨g,hg⟩:∃ g,wr.heap.size=g:=⟨_,rfl⟩;rw [hg] at hs0 x0 x1 l2 l3 hBs ⊢;have Hg:=hdq hg;clear hg b0 b1 q0 q1 q2 q3 qf c1 hB;obtain ⟨rv,hrE,hrV⟩:=(HP.out.rows.imp (X':=fun y=>y<w.heap.size) (R':=QIs w (fun y=>y<w.heap.size) L) (fun b hb _=>hb) (fun _ _ h=>h.imp fun b hb _=>hb)).rowsE;obtain ⟨vb,hbE,hbV⟩:=(HP.out.bounds.imp (X':=fun y=>y<w.heap.size) (R':=QIs w (fun _=>True) L) (fun b hb _=>hb) (fun _ _ h=>h.any)).elems (zHi w L);have HRE:=hdq hrE;have HRV:=hdq hrV;have HBE:=hdq hbE;have HBV:Hid (∀ i,QIs w (fun y=>y<w.heap.size) L (vb i) (bs.getD i 0)):=(fun i=>(hbV i).imp fun b hb _=>hb);have HK0:=hdq hk0;have Hs:=hdq hs0;have HX0:=hdq x0;have HX1:=hdq x1;have HX2:=hdq x2;clear hrE hrV hbE hbV hk0 hs0 x0 x1 x2
   refine wpIn_rangeFunc_ownH (F:=Fence.wide) rfl om (gf:=211) (lb:=#[.pointer (some ⟨g+1,0,none⟩)]) rfl trivial (enters_of Tryz.func211 kj rfl)
    (zEQ (X:=fun y=>y ≠ g) (p:=⟨V,⟨oA,on,oc⟩,⟨A,lb,ca⟩,⟨B,lb,cb⟩⟩) (rv:=rv) (vb:=vb) (N:=lb) om HX1.out om
     ((HRE.out.carry (Carry.of_below HK0.out)).imp fun b hb=>om) ((HBE.out.carry (Carry.of_below HK0.out)).imp fun b hb=>om) rfl rfl om)
    (fun h k=>h.trans k) (fun W l o o' _ hl ho _=>Carry.putObj o' hl ho) (brf _ _) (fun _=>rfl)
    (fun pre W=>FInv W0 g (fun i=>dotL (rs.getD i []) x<=bs.getD i 0) pre W/\Below w w W)
    (fun c pre W=>FOut w g (fun i=>dotL (rs.getD i []) x<=bs.getD i 0) c pre W)
    (OwnFrom.and (Own.from FInv.own _) (ownFrom_below (nlr _) (by have:=Hs.out; omega)))
    (fun c s W W' row hs hg hr=>?hIx)
    ⟨⟨HX0.out,Carry.refl _ _,fun x hx=>by cases hx⟩,HK0.out⟩
    (fun x a' W=>∃ d,a'={tmps:=#[.agg #[V,.slice oA on oc,.slice A lb ca,.slice B lb cb],.slice xA k xc,.pointer (some w),.pointer (some ⟨w+1,0,none⟩),u4,undef,u6,.pointer (some g),(rv x).val,.pointer (some ⟨d,0,none⟩),.agg #[V,.slice oA on oc,.slice A lb ca,.slice B lb cb],.bool true,.bool false,.bool false,.slice xA k xc,.int .i64 k,.pointer (some w),.int .i64 V,.bool false,.bool false,.slice xA k xc,.int .i64 k,.int .i64 k,.bool false,u24,u25,u26,u27,u28,u29,.agg #[V,.slice oA on oc,.slice A lb ca,.slice B lb cb],.func (.func 211) #[] #[.pointer (some ⟨g+1,0,none⟩)],(rv x).val,(vb x).val,undef,undef,undef,undef,undef,undef,undef,undef],defers:=[]}/\QBlk W d (vb x))
    (fun x a' _ W W' row hs hg hr=>?hAx) ?assign ?body ?done ?stop
   case hAx=>
    obtain ⟨d,e,g1⟩:=hs;exact ⟨d,e,zAi hg (fun r e=>(hr r e).2) g1⟩
   case hIx=>
    obtain ⟨rfl,pr,x,e,h1,h3,h4⟩:=hs;exact ⟨rfl,pr,x,e,h1,zAi hg (fun r e=>(hr r e).2) h3,(ownFrom_below (nlr _) (show w.heap.size<=W0.heap.size by have:=Hs.out; omega)) s W W' row h4 hg hr⟩
   case assign=>
    intro l pre x W K hI hK;gi_wp2;have al:Below W W (W.alloc (.cells #[.bool (vb x).num.ng,.slice (vb x).num.A (vb x).num.n (vb x).num.c,.bool (vb x).den.ng,.slice (vb x).den.A (vb x).den.n (vb x).den.c] 30)):=bal;obtain ⟨⟨i1,i2,i3⟩,hB⟩:=hI;exact hK _ _ ⟨al.size,fun k o _ hk _=>(al.block k (zAa hk)).trans hk⟩ (Carry.of_below al) ⟨⟨(al.block _ (zAa i1)).trans i1,i2.trans (Carry.of_below al),i3⟩,hB.trans (al.mono hB.size)⟩ ⟨W.heap.size,rfl,zAd _ _ rfl⟩
   case body=>
    rintro l pre x1 a' W _ _ ⟨⟨i1,i2,i3⟩,hB⟩ ⟨d,rfl,g1⟩ hlt;have h2:=(HX2.out:Boxed W0 (w+1) 23 (.slice xA k xc));have b2:Boxed W (w+1) 23 (.slice xA k xc):=i2.blk _ _ _ _ om h2;have cr:Carry (fun y=>y<w.heap.size) w W:=(Carry.of_below HK0.out).trans (i2.mono fun y hy=>om);have HRow:=hdq ((HRV.out x1).carryI cr);have HBnd:=hdq ((HBV.out x1).carry cr);have HXv:Hid (VecIs W (fun y=>y<w.heap.size) (fun y=>y<w.heap.size) M ⟨xA,k,xc⟩ x):=((HX.out.imp (X':=fun y=>y<w.heap.size) (R':=QIs w (fun y=>y<w.heap.size) M) (fun b hb _=>hb) (fun _ _ h=>h.imp fun b hb _=>hb))).carryI cr;obtain ⟨ρ,hρ⟩:∃ ρ,rv x1=ρ:=⟨_,rfl⟩;obtain ⟨β,hβ⟩:∃ β,vb x1=β:=⟨_,rfl⟩;rw [hρ] at HRow;rw [hβ] at HBnd g1;rw [hρ,hβ];clear hρ hβ;obtain ⟨rA,rn,rc⟩:=ρ;dsimp only [SV.val] at *;obtain ⟨y0,y1,y2,y3,-⟩:=zAA g1;have c1:=b2.cell;have c4:=i1.cell;have f4:∀ o,W.frozen? ⟨g,o,none⟩=false:=(fun o=>by simp [World.frozen?,show W.heap[g]?=_ from i1]);have t1:=zAa g1;have t2:=zAa b2;have t3:=zAa i1;have hdr:Below W W W.drew:=(brf _ _).drew;have HRn:Hid ((rs.getD x1 []).length=rn):=HRow.out.len;have hrn6:rn<=1000000:=by have:=zBT HCr.out x1; rw [HRn.out] at this; omega
    have HI3:=hdq i3;have HI1:=hdq i1;have HBs:=hB.size;obtain ⟨q1,hq1⟩:∃ q,dotL (rs.getD x1 []) x=q:=⟨_,rfl⟩;obtain ⟨q2,hq2⟩:∃ q,bs.getD x1 0=q:=⟨_,rfl⟩;have e1:(Lin.sum (min rn k) fun i=>(rs.getD x1 []).getD i 0*x.getD i 0)=q1:=by rw [<-hq1]; unfold dotL; rw [HRn.out,HXL.out]
    have hfit:QFit LM q1:=by rw [<-hq1]; exact zEa (by rw [HRn.out]; exact hrn6) HK.out (HF.out x1)
    rw [hq2] at HBnd;have HE1:=hdq e1;have HFit:=hdq hfit;have HQ:=hdq (And.intro hq1 hq2);clear i3 i1 e1 hfit hq1 hq2 g1 b2 h2;gi_wp2;refine zBi 1000 (fun _ w'=>Sees w [] W w') kj kj (by rintro ⟨_,_,h⟩; exact h) ?_;have hS0:Sees w [] W W.drew:=Sees.st si HBs;refine tx1 0 hS0 ?_;refine tx1 1 hS0 ?_;refine tx1 3 hS0 ?_;refine tk1 2 ?_;intro K hK;go_simp;refine (zEb (kb:=kb) (sa:=⟨rA,rn,rc⟩) (sb:=⟨xA,k,xc⟩) (HRow.out.below hdr) (HXv.out.below hdr) HL.out HM.out hrn6 HK.out (HF.out x1)).mono ?_;rintro e w3 ⟨⟨z,rfl,hz⟩,hb3⟩;dsimp only at hz;rw [HE1.out] at hz;have hS1:=Kept.call2 hb3 hS0;refine hK.out _ _ hS1 ?_;clear hK K hS0 hb3;by_cases hok:q1<=q2
    ·obtain ⟨o,ho,hle⟩:∃ o,qcmp q1 q2=o/\¬ (o=1):=⟨_,rfl,by unfold qcmp; grind⟩;have HO:=hdq ho;have hle1:(o == 1)=false:=(by simpa using hle);clear ho;refine tk1 4 ?_;intro K hK;go_simp;refine (zBg (a:=z) (b:=β) (hz.qis HFit.out) (HBnd.out.below hS1.kept.whole) (nlr _) HL.out).mono ?_;rw [HO.out];rintro e w4 ⟨rfl,hb4⟩;have hS2:=Kept.call2 hb4 hS1;refine hK.out _ _ hS2 ?_;clear hK K hS1 hb4 hz y0 y1 y2 y3 c1 c4 f4;refine zAf kj ?_ _;have hbf:Below W W w4:=hS2.kept.whole;clear hS2;gi_wp2;refine ⟨⟨hbf.size,fun k o _ hk _=>(hbf.block k (zAa hk)).trans hk⟩,Carry.of_below hbf,⟨(hbf.block _ t3).trans HI1.out,i2.trans (Carry.of_below hbf),fun y hy=>?_⟩,hB.trans (hbf.mono HBs)⟩;rw [List.mem_append,List.mem_singleton] at hy;rcases hy with hy | rfl
     ·exact HI3.out y hy
     ·show dotL (rs.getD y []) x<=bs.getD y 0; rw [HQ.out.1,HQ.out.2]; exact hok
    ·have HO:Hid (qcmp q1 q2=1):=by show qcmp q1 q2=1; unfold qcmp; grind
     refine tk1 4 ?_;intro K hK;go_simp;refine (zBg (a:=z) (b:=β) (hz.qis HFit.out) (HBnd.out.below hS1.kept.whole) (nlr _) HL.out).mono ?_;rw [HO.out];rintro e w4 ⟨rfl,hb4⟩;have hS2:=Kept.call2 hb4 hS1;refine hK.out _ _ hS2 ?_;clear hK K hS1 hb4 hz y0 y1 y2 y3 c1;refine zAf kj ?_ _;have hbf:Below W W w4:=hS2.kept.whole;have z3:Boxed w4 g 4 true:=(hbf.block _ t3).trans HI1.out;have c5:=z3.cell;have f5:∀ o,w4.frozen? ⟨g,o,none⟩=false:=(fun o=>by simp [World.frozen?,show w4.heap[g]?=_ from z3]);clear hS2 c4 f4;gi_wp2;refine ⟨⟨by simpa [World.setCell] using hbf.size,fun k o _ hk ho=>?_⟩,rfl,pre,x1,rfl,by show ¬ (dotL (rs.getD x1 []) x<=bs.getD x1 0); rw [HQ.out.1,HQ.out.2]; exact hok,Boxed.set _ z3,(hB.trans (hbf.mono HBs)).setCell (p:=g) (by show w.heap.size<=g; omega) _⟩;refine (bhs _ _ _ _ (fun e=>?_)).trans ((hbf.block k (zAa hk)).trans hk);dsimp only at e;rw [e,show W.heap[g]?=_ from HI1.out] at hk; cases hk; cases ho
   case done=>
    rintro Dd ys W hDd rfl ⟨⟨i1,i2,i3⟩,hB⟩ hK0;have c1:=i1.cell;have hDs:g<Dd:=by have:=Hs.out; omega
    have hb:b=true:=HBB.out.1 ⟨fun j hj=>HNN.out j (by rw [HXL.out] at hj; exact hj),fun i hi=>i3 i (by rw [HRL.out] at hi; simpa using hi)⟩;subst hb;clear i3;gi_wp2;refine ⟨si,.inl ⟨_,_,rfl,run_takeDeferred hK0,?_⟩⟩;refine ⟨.bool true,by simp [results,Tryz.results89,go_sem],rfl,?_⟩;exact hB.trans (belowK_b (w:=w) (nlr _) W Dd _ _ om hK0 rfl rfl)
   case stop=>
    rintro Dd c pre W hDd hpre ⟨rfl,pr,x1,e,h1,h3,h4⟩ hK0;obtain ⟨hx,hpr⟩:=zGD hpre e
    have hb:b=false:=by
     cases b with
     | false=>rfl
     | true=>exact absurd ((HBB.out.2 rfl).2 x1 (by rw [HRL.out]; exact hx)) h1
    subst hb;have c1:=h3.cell;have hDs:g<Dd:=by have:=Hs.out; omega
    clear h1 hpre hpr e;gi_wp2;refine ⟨si,.inl ⟨_,_,rfl,run_takeDeferred hK0,?_⟩⟩;refine ⟨.bool false,by simp [results,Tryz.results89,go_sem],rfl,?_⟩;exact h4.trans (belowK_b (w:=w) (nlr _) W Dd _ _ om hK0 rfl rfl)
end Go.Proofs.YtbpngececjihlaaGreat
namespace Go.Proofs.YtbpngececjihlaaGreat
open Go.RowKit Go.Shelf
attribute [local go_sem] Oper.semAt_some
end Go.Proofs.YtbpngececjihlaaGreat
namespace Go.Proofs.YtbpngececjihlaaGreat
open Go.RowKit Go.Shelf
variable {q:Rat} {L M:Nat} {X Y:Nat->Prop} {w:World}
theorem zFY {a b:QV} {p:Rat} (ha:QIs w X L a p) (hb:QIs w Y M b q) (hL:L<=LM) (hM:M<=LM) :
  Calls Tryz.prog 17 #[a.val,b.val] w fun e w'=>e = .returned (.bool (decide (p=q)))/\Below w w w':=by
 have HL:=hdq hL;have HM:=hdq hM;clear hL hM;go_enter Tryz.func17,Tryz.ntmps17
 go_wp2_with fail
 refine zAg (fun W=>Below w w W/\Box4 W w a.num.ng a.num a.den.ng a.den/\Box4 W (w+1) b.num.ng b.num b.den.ng b.den/\w.heap.size<W.heap.size/\w.heap.size+1<W.heap.size) ⟨(az (az (brf _ _))),bx4,bx4,by simp <;> omega,by simp <;> omega⟩ ?_;rintro W ⟨hbW,bA,bB,s0,s1⟩;have hBW:=hbW.size;refine (zBg (ha.below hbW) (hb.below hbW) HL.out HM.out).mono ?_; rintro e w1 ⟨rfl,hb1⟩
 have HB:=hdq (hbW.trans (hb1.mono hBW))
 have HE:Hid ((qcmp p q == 0)=decide (p=q)):=by
  show _=_;rw [Bool.eq_iff_iff,beq_iff_eq,decide_eq_true_iff];unfold qcmp
  split
  ·rename_i h; exact ⟨fun h=>om,fun e=>by subst e; exact absurd h (Rat.lt_irrefl)⟩
  ·split
   ·rename_i h; exact ⟨fun _=>h,fun _=>rfl⟩
   ·rename_i h; exact ⟨fun h=>om,fun e=>absurd e h⟩
 clear hb1 hbW hBW bA bB s0 s1 ha hb;go_wp2;go_ret;exact ⟨by rw [<-HE.out]; rfl,HB.out⟩
section
variable {P:Lin.Prob} {ch:Option (Nat->Rat)} {D:Lin.Dict}
end
end Go.Proofs.YtbpngececjihlaaGreat
