/- Texts PrQ PrR of this claim. -/
import Derived.Test.YtpjaodcimomaiaaGreatI33
set_option maxHeartbeats 4000000
set_option maxRecDepth 100000
namespace Go.Proofs.YtpjaodcimomaiaaGreat
open Go.RowKit Go.Shelf
variable {q:Rat} {L M e B b V kb:Nat} {X Y X' Y':Nat->Prop} {w:World} {la lb bs:List Rat} {sa sb:SV} {f:Nat->Rat} {os rs:List (List Rat)} {p:LPV}
theorem zJs :(0<qsign q) ↔ 0<q:=by
 unfold qsign
 split
 ·exact ⟨fun h=>by omega,fun h=>by grind⟩
 ·split
  ·exact ⟨fun h=>by omega,fun h=>by grind⟩
  ·exact ⟨fun h=>by grind,fun h=>by omega⟩
theorem zCK {v:QV} (h:QIs w X L v q) :
  Calls Tryz.prog 111 #[v.val] w fun e w'=>e = .returned (.bool (decide (0<q)))/\Below w w w':=by
 go_enter Tryz.func111,Tryz.ntmps111
 go_wp2_with fail
 refine zAg (fun W=>Below w w W/\Box4 W w (.bool v.num.ng) (.slice v.num.A v.num.n v.num.c) (.bool v.den.ng) (.slice v.den.A v.den.n v.den.c)/\w<(W:Nat)) ⟨(az (brf _ _)),bx4,by simp <;> omega⟩ ?_;rintro W ⟨hbW,bA,s0⟩;have hBW:=hbW.size;refine (zAn (h.below hbW)).mono ?_; rintro e w1 ⟨rfl,hb1⟩
 have HB:=hdq (hbW.trans (hb1.mono hBW));have HE:Hid (decide (0<qsign q)=decide (0<q)):=decide_eq_decide.2 zJs;clear hb1 hbW hBW bA s0 h;go_wp2;go_ret;exact ⟨by rw [<-HE.out]; rfl,HB.out⟩
def OvLoop (w:World) (N:Nat) (t:Value) (W:World):Prop:=∃ k:Nat,k<=N/\t = .int .i64 k/\Below w w W
theorem zC5 (ha:VecIs w X Y L sa la) (hb:VecIs w X' Y' M sb lb) (hn:∀ i,i<min sa.n sb.n->¬ (0<la.getD i 0/\0<lb.getD i 0)) :
  Calls Tryz.prog 112 #[sa.val,sb.val,.func (.func 111) #[] #[]] w fun e w'=>e = .returned (.bool false)/\Below w w w':=by
 obtain ⟨A,n,c⟩:=sa;obtain ⟨B,m,d⟩:=sb;have HA:=hdq ha;have HB:=hdq hb;have HN:=hdq hn;have h1:n<=c:=ha.le;have h2:c<=9223372036854775807:=ha.cap;have h3:m<=d:=hb.le;have h4:d<=9223372036854775807:=hb.cap;clear ha hb hn;obtain ⟨N,hN⟩:∃ N,N=min n m:=⟨_,rfl⟩;have HNN:=hdq hN;have hNn:N<=n:=by omega
 have hNm:N<=m:=by omega
 have hmin:min (n:Int) (m:Int)=(N:Int):=by omega
 clear hN;dsimp only [SV.val];go_enter Tryz.func112,Tryz.ntmps112
 go_wp2_with fail
 have H0:OvLoop w N (.int .i64 0) w:=⟨0,nzl _,rfl,brf _ _⟩;go_loopw [13] (fun t W=>OvLoop w N t W) (fun t _=>N-(intOf t).toNat)
 case atStart=>exact H0
 case round=>
  clear H0;obtain ⟨k,hk,rfl,hW⟩:=hrel;by_cases hlt:k<N
  ·obtain ⟨a1,u,e,-,⟨p0,p1,p2,p3⟩,hu⟩:=(HA.out.below hW).elem k (by dsimp only; omega);obtain ⟨b1,v,e2,-,⟨q0,q1,q2,q3⟩,hv⟩:=(HB.out.below hW).elem k (by dsimp only; omega);dsimp only at e e2 p1 p2 p3 q1 q2 q3;subst e e2;have hkn:k<n:=(by omega);have hkm:k<m:=(by omega);have HU:=hdq hu;have HV:=hdq hv;have HW:=hdq hW;have tq:=zAb q0;clear hu hv hW;(go_wp2_with fail);refine (zCK HU.out).mono ?_; rintro e w1 ⟨rfl,hb1⟩
   have hfin1:=HW.out.trans (hb1.mono HW.out.size);by_cases hp:0<la.getD k 0
   ·have hq:decide (0<la.getD k 0)=true:=decide_eq_true hp;rw [hq];rw [<-hb1.cell tq] at q0;rw [<-hb1.cell (p:=⟨_,_,none⟩) tq] at q1 q2 q3;have HV1:=hdq (HV.out.below hb1);have hnl:¬ 0<lb.getD k 0:=(fun h=>HN.out k (by omega) ⟨hp,h⟩);have hq2:decide (0<lb.getD k 0)=false:=decide_eq_false hnl;have HQ2:=hdq hq2;clear hq hq2 hb1 p0 p1 p2 p3;(go_wp2_with fail);refine (zCK HV1.out).mono ?_; rintro e w2 ⟨rfl,hb2⟩
    rw [HQ2.out];have HR:Hid (OvLoop w N (.int .i64 ((k:Int)+1)) w2):=⟨k+1,by omega,by simp,hfin1.trans (hb2.mono hfin1.size)⟩;clear hb2 q0 q1 q2 q3 hfin1;go_wp2
    all_goals
     go_round;case rel=>exact HR.out
     case measure=>simp [intOf]; omega
   ·have hq:decide (0<la.getD k 0)=false:=decide_eq_false hp;rw [hq];have HR:Hid (OvLoop w N (.int .i64 ((k:Int)+1)) w1):=⟨k+1,by omega,by simp,hfin1⟩;clear hq hp hb1 hfin1 p0 p1 p2 p3 q0 q1 q2 q3;go_wp2
    all_goals
     go_round;case rel=>exact HR.out
     case measure=>simp [intOf]; omega
  ·(obtain rfl:k=N:=by omega);have HW:=hdq hW;clear hW;go_wp2;go_ret;exact ⟨rfl,HW.out⟩
attribute [local go_sem] Oper.semAt_some
def CmI (w W0:World) (e B:Nat) (f:Nat->Rat) (k:Nat) (W:World):Prop:=
 AccI w B e f k W/\Below w w W/\Carry (fun y=>y<W0.heap.size/\y ≠ e) W0 W
theorem CmI.own {W0:World} (hB:w<=b):OwnFrom b (CmI w W0 e B f):=fun s W W' row hs hg hr=>
 ⟨AccI.own _ W W' row hs.1 hg (fun r e=>(hr r e).2),ownFrom_below (nlr _) hB s W W' row hs.2.1 hg hr,hs.2.2.trans (Carry.grown hg (fun r e=>(hr r e).2))⟩
theorem zGn {X'' Y'':Nat->Prop} {M2 kx:Nat} {x y:List Rat} {sx sy:SV} (h:LPIs w X Y M p os rs bs) (hV:p.n=V) (hV2:V<=64) (ho1:1<=p.O.n) (ho2:p.O.n<=4) (hr:p.R.n<=128) (hb:p.B.n=p.R.n) (hco:colsOf os<=V) (hcr:colsOf rs<=V)
  (hx:VecIs w X'' Y'' M2 sx x) (hy:VecIs w X' Y' L sy y) (hxl:x.length<=V) (hL:L<=LM) (hM:M+1<=LM) (hM2:M2<=LM) (hk:kb+1<=LM) (hkx:1000000*(kx+1)<32*LM)
  (hf1:∀ i j,QFit LM (y.getD i 0*(rs.getD i []).getD j 0)) (hf2:∀ k j,Lin.Fits kb (Lin.sum k fun i=>y.getD i 0*(rs.getD i []).getD j 0)) (hfx:∀ i k,Lin.Fits kx ((rs.getD i []).getD k 0*x.getD k 0))
  (hfs:∀ i,QFit LM (bs.getD i 0-dotL (rs.getD i []) x)) (hfe:∀ k,QFit LM (psum y rs k-(os.getD 0 []).getD k 0))
  (hfea:(∀ k,k<x.length->0<=x.getD k 0)/\∀ i,i<rs.length->dotL (rs.getD i []) x<=bs.getD i 0) (hd:dualOk y os rs V)
  (hc1:∀ i,i<rs.length->¬ (0<y.getD i 0/\0<bs.getD i 0-dotL (rs.getD i []) x)) (hc2:∀ k,k<V->¬ (0<x.getD k 0/\0<psum y rs k-(os.getD 0 []).getD k 0)) :
  Calls Tryz.prog 49 #[p.val,sx.val,sy.val] w fun e w'=>e = .returned (.bool true)/\Below w w w':=by
 refine (callsIn_wide (n:=6)).1 ?_;obtain ⟨iq0,hiq,hzq0,hzq1,hzq2⟩:=info_parts zEv;obtain ⟨z,⟨oA,on,oc⟩,⟨A,la,ca⟩,⟨B,lb,cb⟩⟩:=p;obtain ⟨xA,xn,xc⟩:=sx;obtain ⟨yA,yn,yc⟩:=sy;dsimp only [LPV.val,SV.val] at *;subst hV;subst hb;have HP:=hdq h;have HX:=hdq hx;have HY:=hdq hy;have HL:=hdq hL;have HM:=hdq hM;have HM2:=hdq hM2;have HK:=hdq hk;have HKX:=hdq hkx;have HF1:=hdq hf1;have HF2:=hdq hf2;have HFX:=hdq hfx;have HFS:=hdq hfs;have HFE:=hdq hfe;have HFeas:=hdq hfea;have HD:=hdq hd;have HC1:=hdq hc1;have HC2:=hdq hc2;have HXL:Hid (x.length=xn):=hx.len;have HYL:Hid (y.length=yn):=hy.len;have HRL:Hid (rs.length=lb):=h.rows.len;have HCo:=hdq hco;have HCr:=hdq hcr;have HxV:=hdq hxl;clear h hx hy hL hM hM2 hk hkx hf1 hf2 hfx hfs hfe hfea hd hc1 hc2 hco hcr hxl;refine callsIn_of_wp_marks Tryz.func49 rfl trivial ?_ rfl;simp only [Tryz.ntmps49,List.size_toArray,List.length_cons,List.length_nil,Nat.reduceAdd,Nat.reduceSub,Array.replicate_succ,Array.replicate_zero,List.push_toArray,List.append_toArray,List.nil_append,List.cons_append];gi_wp2;refine ⟨trivial,?_⟩;have hk0:Below w w (w.alloc (.cells #[.int .i64 V,.slice oA on oc,.slice A lb ca,.slice B lb cb] 28)):=(brf _ w).alloc (nlr _) _;have b0:Box4 (w.alloc (.cells #[.int .i64 V,.slice oA on oc,.slice A lb ca,.slice B lb cb] 28)) w (.int .i64 V) (.slice oA on oc) (.slice A lb ca) (.slice B lb cb):=bx4;have s0:w.heap.size<(w.alloc (.cells #[.int .i64 V,.slice oA on oc,.slice A lb ca,.slice B lb cb] 28)).heap.size:=by simp
 generalize w.alloc (.cells #[.int .i64 V,.slice oA on oc,.slice A lb ca,.slice B lb cb] 28)=W0 at *;refine (callsIn_wide.2 (zBv (p:=⟨V,⟨oA,on,oc⟩,⟨A,lb,ca⟩,⟨B,lb,cb⟩⟩) (HP.out.below hk0) rfl hV2 ho1 ho2 hr rfl HCo.out HCr.out)).mono ?_;rintro e w1 ⟨rfl,hb1⟩;have hB1:=hk0.trans (hb1.mono hk0.size);replace b0:=b0.below hb1 s0;have s1:=ltl s0 hb1.size;obtain ⟨q0,q1,q2,q3,qf⟩:=id b0;clear hk0 hb1 s0;gi_wp2;refine ⟨trivial,?_⟩;refine (callsIn_wide.2 (zEE (kb:=kx) (p:=⟨V,⟨oA,on,oc⟩,⟨A,lb,ca⟩,⟨B,lb,cb⟩⟩) true (HP.out.below hB1) rfl hV2 ho1 ho2 hr rfl HCo.out HCr.out (HX.out.below hB1) HxV.out (by have:=HM.out; omega) HM2.out HKX.out HFX.out ⟨fun _=>rfl,fun _=>HFeas.out⟩)).mono ?_;rintro e w2 ⟨rfl,hb2⟩;have hB2:=hB1.trans (hb2.mono hB1.size);replace b0:=b0.below hb2 s1;have s2:=ltl s1 hb2.size;obtain ⟨p0,p1,p2,p3,pf⟩:=id b0;clear hB1 hb2 s1 q0 q1 q2 q3 qf;gi_wp2;refine ⟨trivial,?_⟩;refine (callsIn_wide.2 (zCP (kb:=kb) (p:=⟨V,⟨oA,on,oc⟩,⟨A,lb,ca⟩,⟨B,lb,cb⟩⟩) true (HP.out.below hB2) rfl hV2 ho1 hr HCr.out (HY.out.below hB2) HL.out HM.out HK.out (fun _=>⟨HF1.out,HF2.out⟩) ⟨fun _=>rfl,fun _=>HD.out⟩)).mono ?_;rintro e w3 ⟨rfl,hb3⟩;have hB3:=hB2.trans (hb3.mono hB2.size);replace b0:=b0.below hb3 s2;have s3:=ltl s2 hb3.size;obtain ⟨q0,q1,q2,q3,qf⟩:=id b0;clear hB2 hb3 s2 p0 p1 p2 p3 pf;gi_wp2;refine ⟨trivial,?_⟩;refine (zG9 V oA A B yA on oc lb ca lb cb yn yc).mono ?_;rintro e w4 ⟨rfl,rfl⟩;obtain ⟨e,he⟩:∃ e,e=w3.heap.size:=⟨_,rfl⟩;obtain ⟨W0,hW0⟩:∃ W0,((w3.alloc (.cells #[.slice none 0 0] 24)).alloc (.cells #[.int .i64 V,.slice oA on oc,.slice A lb ca,.slice B lb cb] 28)).alloc (.cells #[.slice yA yn yc] 24)=W0:=⟨_,rfl⟩;have hk0:Below w w W0:=by rw [<-hW0]; exact (((hB3.alloc hB3.size _)).alloc (by have:=hB3.size; simp; omega) _).alloc (by have:=hB3.size; simp; omega) _
 have hs0:W0.heap.size=e+3:=by rw [<-hW0,he]; simp
 have x0:Boxed W0 e 24 (.slice none 0 0):=by rw [<-hW0,he]; exact alk (alk (zAd _ _ rfl))
 have x1:W0.heap[e+1]?=some (.cells #[.int .i64 V,.slice oA on oc,.slice A lb ca,.slice B lb cb] 28 (0,0)):=by rw [<-hW0,he]; exact alk (zAd _ _ (by simp))
 have x2:W0.heap[e+2]?=some (.cells #[.slice yA yn yc] 24 (0,0)):=by rw [<-hW0,he]; exact zAd _ _ (by simp)
 have xb:Box4 W0 w (.int .i64 V) (.slice oA on oc) (.slice A lb ca) (.slice B lb cb):=by
  rw [<-hW0];exact b0.below ((((brf w3 w3).alloc (nlr _) _).alloc (by simp) _).alloc (by simp; omega) _) s3
 have hse:(w3.alloc (.cells #[.slice none 0 0] 24)).heap.size=e+1:=by rw [he]; simp
 have hwe:w<e:=by rw [he]; exact s3
 rw [hW0,hse];rw [<-he];have HE0:=hdq hwe;have HK0:=hdq hk0;have Hs:=hdq hs0;have HX0:=hdq x0;have HX1:=hdq x1;have HX2:=hdq x2;have HXB:=hdq xb;obtain ⟨f,hfe⟩:∃ f:Nat->Rat,f=fun k=>psum y rs k-(os.getD 0 []).getD k 0:=⟨_,rfl⟩
 have HFe:=hdq hfe
 have HP1:Hid (PCons W0 e L M kb V ⟨V,⟨oA,on,oc⟩,⟨A,lb,ca⟩,⟨B,lb,cb⟩⟩ ⟨yA,yn,yc⟩ os rs y):=
  ⟨HY.out.lay hk0 (by omega),HP.out.obj.lay hk0 (by omega),HP.out.rows.lay hk0 (by omega),rfl,hV2,ho1,by have:=HD.out.1; have:=HYL.out; have:=HRL.out; dsimp only; omega,by dsimp only; omega,nlt HCr.out (by omega),HL.out,by have:=HM.out; omega,HF1.out,HF2.out,HK.out⟩
 clear hW0 hse hwe he hk0 hs0 x0 x1 x2 xb hfe q0 q1 q2 q3 qf hB3 b0 s3;gi_wp2
 refine zGd (F:=Fence.wide) rfl (by omega) (gf:=176) (lb:=#[.pointer (some ⟨e+1+1,0,none⟩),.pointer (some ⟨e+1,0,none⟩)]) rfl trivial (enters_of Tryz.func176 (by kernel_rfl) rfl)
  (zFT (g:=e) (p:=⟨V,⟨oA,on,oc⟩,⟨A,lb,ca⟩,⟨B,lb,cb⟩⟩) (sy:=⟨yA,yn,yc⟩) (by omega) (by rw [Hs.out]; omega) HP1.out HX2.out HX1.out (by omega) (by omega))
  (fun h k=>h.trans k) (fun B W l o o' hl ho=>Carry.putObj o' hl ho) (brf _ _) (fun _=>rfl)
  (fun B k W=>CmI w W0 e B f k W) (fun _ _=>False)
  (fun B1 k1 x1 a' W=>∃ d1 d2,a'={tmps:=#[.agg #[.int .i64 V,.slice oA on oc,.slice A lb ca,.slice B lb cb],.slice xA xn xc,.slice yA yn yc,.pointer (some w),undef,undef,.bool false,.pointer (some e),.pointer (some ⟨d1,0,none⟩),.pointer (some ⟨d2,0,none⟩),undef,.agg #[.int .i64 V,.slice oA on oc,.slice A lb ca,.slice B lb cb],.bool true,.bool false,.bool false,.agg #[.int .i64 V,.slice oA on oc,.slice A lb ca,.slice B lb cb],.slice xA xn xc,.bool true,.bool false,.bool false,.bool false,.agg #[.int .i64 V,.slice oA on oc,.slice A lb ca,.slice B lb cb],.slice yA yn yc,.bool true,.bool false,.bool false,.agg #[.int .i64 V,.slice oA on oc,.slice A lb ca,.slice B lb cb],.slice yA yn yc,.func (.func 176) #[] #[.pointer (some ⟨e+1+1,0,none⟩),.pointer (some ⟨e+1,0,none⟩)],x1.1.val,x1.2.val,undef,undef,undef,undef,undef,undef,undef,undef,undef,undef,undef,undef,undef,undef,undef,undef,undef,undef,undef,undef],defers:=[]}
   /\QBlk W d1 x1.1/\QBlk W d2 x1.2/\QIs W (fun b=>b ≠ e) (kb+1) x1.1 (psum y rs k1)/\QIs W (fun b=>b ≠ e) (M+1) x1.2 ((os.getD 0 []).getD k1 0)/\B1<=W)
  (fun _=>CmI.own HK0.out.size) (fun _ _ _ _ hs _ _=>hs) (fun _ k x a' _ W W' row hs hg hr=>?hAx) (fun B1 hB1=>⟨AccI.start HX0.out,HK0.out,Carry.refl _ _⟩) ?assign ?body ?done ?stop
 case hAx=>
  obtain ⟨d1,d2,e1,g1,g2,g3,g4,g5⟩:=hs;have cr:Carry (fun b=>b ≠ e) W W':=Carry.grown hg (fun r e=>(hr r e).2);exact ⟨d1,d2,e1,zAi hg (fun r e=>(hr r e).2) g1,zAi hg (fun r e=>(hr r e).2) g2,g3.carry cr,g4.carry cr,nlt g5 hg.size⟩
 case stop=>
  rintro D c W _ h _;exact h.elim
 case assign=>
  rintro l B1 k1 ⟨u,v⟩ W K hB1 hI ⟨hu,hv,hBW⟩ hlt1 hK;dsimp only at hu hv;gi_wp2;have al:Below W W ((W.alloc (.cells #[.bool u.num.ng,.slice u.num.A u.num.n u.num.c,.bool u.den.ng,.slice u.den.A u.den.n u.den.c] 37)).alloc (.cells #[.bool v.num.ng,.slice v.num.A v.num.n v.num.c,.bool v.den.ng,.slice v.den.A v.den.n v.den.c] 37)):=(bal).alloc (by simp) _;have hgb:W.grownBy ((W.alloc (.cells #[.bool u.num.ng,.slice u.num.A u.num.n u.num.c,.bool u.den.ng,.slice u.den.A u.den.n u.den.c] 37)).alloc (.cells #[.bool v.num.ng,.slice v.num.A v.num.n v.num.c,.bool v.den.ng,.slice v.den.A v.den.n v.den.c] 37)) none:=⟨al.os,al.tape,al.output,al.size,fun k hk _=>al.block k hk⟩;exact hK _ _ ⟨al.size,fun k o _ hk _=>(al.block k (zAa hk)).trans hk⟩ (Carry.of_below al) (CmI.own (b:=w) (nlr _) _ _ _ _ hI hgb (fun r e=>by cases e)) ⟨W.heap.size,W.heap.size+1,rfl,alk (zAd _ _ rfl),zAd _ _ (by simp),hu.below al,hv.below al,nlt hBW al.size⟩
 case body=>
  rintro l B1 k1 ⟨u,v1⟩ a' W hB1 ⟨⟨v,G,s,h⟩,hB,hcar⟩ ⟨d1,d2,rfl,g1,g2,g3,g4,hb4⟩ hlt1;dsimp only at g1 g2 g3 g4;obtain ⟨y0,y1,y2,y3,-⟩:=zAA g1;obtain ⟨z0,z1,z2,z3,-⟩:=zAA g2;have c2:=h.box.cell;have t1:=zAa g1;have t2:=zAa g2;have t3:=zAa h.box;have hBs:=hB.size;have HH:=hdq h;have HCar:=hdq hcar;have HG3:=hdq g3;have HG4:=hdq g4;have hdr:Below W W W.drew:=(brf _ _).drew;clear h hcar g1 g2 g3 g4;gi_wp2;refine zBi 5 (fun f w'=>f=false->Sees w [] W w') (by kernel_rfl) (by kernel_rfl) (by rintro ⟨_,_,h⟩; exact h) ?_;have hS0:Sees w [] W W.drew:=Sees.st (by simp) hBs;refine tkW 0 (v) (fun w' hSw=>?_) (fun _=>hS0) ?_
  ·(replace hSw:=hSw rfl; go_simp; try with_reducible rfl)
  simp only [zz];refine tkV 1 3 (u.val) (fun w' hSw=>?_) (fun _=>hS0) ?_
  ·(replace hSw:=hSw rfl; go_simp; try with_reducible rfl)
  simp only [zz];refine tkV 2 3 (v1.val) (fun w' hSw=>?_) (fun _=>hS0) ?_
  ·(replace hSw:=hSw rfl; go_simp; try with_reducible rfl)
  simp only [zz];refine tk1 3 ?_;intro K hK;go_simp;refine (zDx (a:=u) (b:=v1) (HG3.out.below hdr) (HG4.out.below hdr) HK.out HM.out).mono ?_;rintro e' w4 ⟨⟨zq,rfl,hz⟩,hb4'⟩;have hS2:=Kept.call2 hb4' hS0;have hb1':Below W W w4:=hS2.kept.whole;refine hK.out _ _ (fun _=>hS2) ?_;have HZ:Hid (QCan w4 (New W) zq (f k1)):=by rw [HFe.out]; exact hz
  clear hK K hb4' hz y0 y1 y2 y3 z0 z1 z2 z3;refine tk1 4 ?_;intro K hK;go_simp;refine hK.out _ _ (fun _=>Sees.al hS2) ?_;clear hK K;have hown:=zAr HH.out.own fun j hj=>hb1'.block j (by obtain ⟨_,cs,hh⟩:=zAc HH.out.own hj; exact zAa hh)
  have he0:e<B1:=by have:=Hs.out; omega
  refine tk1 5 ?_;intro K hK;refine zAq _ _ 24 rfl B1 37 iq0 (.agg #[.bool false,.slice none 0 0,.bool false,.slice none 0 0]) 4 64 Tryz.underlying24 hiq hzq0 hzq1 hzq2 rfl (by decide) v k1 (s.flatMap cells4q) rfl (hown.alloc _) ⟨w4,0,none⟩ 1 1 (cells4q zq) rfl rfl (zA1 _ _) (by intro u hu; simp [cells4q] at hu; rcases hu with rfl | rfl | rfl | rfl <;> rfl) (by simp [maxLen]; omega) (by omega) (by have:=hb1'.size; simp; omega) ?_;intro v' W5 hown5 hg5 hnil5 hat5;have Hst:=hdq (HH.out.step he0 (Nat.le_of_lt HE0.out) hb4 hb1' HZ.out hown5 hg5 hat5)
  have hlv:∀ j,v.ownBlock=some j->j ≠ e:=fun j hj=>by
   obtain ⟨h4,cs,hh⟩:=zAc HH.out.own hj;omega
  have d3:Boxed W5 e 24 v:=(hg5.block _ (by have:=hb1'.size; simp; omega) (fun e=>hlv _ e.symm rfl)).trans ((Below.heap_alloc _ _ _ (by have:=hb1'.size; omega)).trans ((hb1'.block _ t3).trans HH.out.box));have d4:=d3.cell;have d5:=d3.frozen;obtain ⟨g5,c5,rfl⟩:=ownsRow_succ hown5;simp only [Act.put,zz];refine hK.out _ _ (fun h=>absurd h (by decide)) ?_;clear hK K hown hown5 hg5 hat5 hnil5 hS0 hS2 hb1' hlv d3 c2;refine tk1 6 ?_;intro K hK;go_simp;refine hK.out _ _ (fun h=>absurd h (by decide)) ?_;clear hK K d4 d5;refine zAf (by kernel_rfl) ?_ _;gi_wp2;obtain ⟨s1,s2,s3,s4,s5⟩:=Hst.out;exact ⟨⟨s4,fun k o _ hk ho=>s3 k o hk ho⟩,s2,s1,hB.trans s5,HCar.out.trans (s2.mono fun y hy=>⟨ltl hy.1 hB1,hy.2⟩)⟩
 case done=>
  rintro Dd B1 W hDd hB1 ⟨hA,hB,hcar⟩ hK0;obtain ⟨sv,e1,e2,e3⟩:=hA.vec (b:=B1) (nlt HK0.out.size hB1)
  have xb:Box4 W w (.int .i64 V) (.slice oA on oc) (.slice A lb ca) (.slice B lb cb):=by
   obtain ⟨x0,x1,x2,x3,xf⟩:=HXB.out;have hl:w<(W0:Nat):=zAb x0;obtain ⟨o,hb,hc⟩:=cells_of_cell x0
   cases o with
   | cells cs t fz=>exact HXB.out.heap ((hcar.blk _ _ _ _ ⟨hl,by have:=HE0.out; omega⟩ hb).trans hb.symm)
   | _=>cases hc
  have c1:=e2.cell;obtain ⟨q0,q1,q2,q3,qf⟩:=id xb
  have HE3:=hdq (e3.qis' (L:=LM) fun k=>by
   by_cases hkl:k<V
   ·rw [zA6 _ _ _ _ hkl,HFe.out]; exact HFE.out k
   ·rw [zAw _ _ _ (by simp; omega)]; exact QFit.zero _)
  have hsl:∀ j,QFit LM (((List.range rs.length).map fun i=>bs.getD i 0-dotL (rs.getD i []) x).getD j 0):=fun j=>by
   by_cases hkl:j<rs.length
   ·rw [zA6 _ _ _ _ hkl]; exact HFS.out j
   ·rw [zAw _ _ _ (by simp; omega)]; exact QFit.zero _
  have HSL:=hdq hsl;have hep:e<W:=zAa e2;clear e3 hA hcar hsl e2;gi_wp2;refine ⟨trivial,?_⟩;refine (callsIn_wide.2 (zGL (kb:=kx) (p:=⟨V,⟨oA,on,oc⟩,⟨A,lb,ca⟩,⟨B,lb,cb⟩⟩) (HP.out.below hB) rfl hr rfl (nlt HCr.out (by omega)) (HX.out.below hB) (by have:=HM.out; omega) HM2.out HKX.out HFX.out)).mono ?_;rintro e' w5 ⟨⟨t,rfl,ht⟩,hb5⟩;have hB5:=hB.trans (hb5.mono hB.size);have hK5:w5.heap[Dd]?=some (.deferred (some [])):=(hb5.block _ (zAa hK0)).trans hK0;have c5:w5.cell? e=some sv.val:=(hb5.cell (p:=e) hep).trans c1;have hep5:e<w5:=ltl hep hb5.size;have HT:=hdq (ht.qis' HSL.out);have hV5:=hdq (HE3.out.below hb5);have HTn:Hid (t.n=lb):=by have:=ht.len; rw [List.length_map,List.length_range] at this; show _=_; rw [<-this,HRL.out]
  clear ht hb5 hK0 q0 q1 q2 q3 qf c1 xb hB;gi_wp2;refine ⟨trivial,?_⟩;refine (callsIn_wide.2 (zC5 (sa:=⟨yA,yn,yc⟩) (sb:=t) (HY.out.below hB5) HT.out (fun i hi=>?ov1))).mono ?_
  case ov1=>
   have hl:i<rs.length:=by rw [HRL.out,<-HTn.out]; dsimp only at hi; omega
   rw [zA6 _ _ _ _ hl];exact HC1.out i hl
  rintro e' w6 ⟨rfl,hb6⟩;have hB6:=hB5.trans (hb6.mono hB5.size);have hK6:w6.heap[Dd]?=some (.deferred (some [])):=(hb6.block _ (zAa hK5)).trans hK5;have c6:w6.cell? e=some sv.val:=(hb6.cell (p:=e) hep5).trans c5;have hV6:=hdq (hV5.out.below hb6);clear hb6 hK5 c5 hB5;gi_wp2;refine ⟨trivial,?_⟩;refine (callsIn_wide.2 (zC5 (sa:=⟨xA,xn,xc⟩) (sb:=sv) (HX.out.below hB6) hV6.out (fun i hi=>?ov2))).mono ?_
  case ov2=>
   have hl:i<V:=by dsimp only at hi; omega
   rw [zA6 _ _ _ _ hl,HFe.out];exact HC2.out i hl
  rintro e' w7 ⟨rfl,hb7⟩;have HB7:=hdq (hB6.trans (hb7.mono hB6.size));have hK7:w7.heap[Dd]?=some (.deferred (some [])):=(hb7.block _ (zAa hK6)).trans hK6;clear hb7 hK6 c6 hB6;gi_wp2;refine ⟨by simp,.inl ⟨_,_,rfl,run_takeDeferred hK7,?_⟩⟩;refine ⟨_,results_tmp rfl _ _ _,rfl,?_⟩;exact HB7.out.trans (belowK_b (w:=w) (nlr _) w7 Dd _ _ (by have:=Hs.out; have:=HE0.out; omega) hK7 rfl rfl)
end Go.Proofs.YtpjaodcimomaiaaGreat
