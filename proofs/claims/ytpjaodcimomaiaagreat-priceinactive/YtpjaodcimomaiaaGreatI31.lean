/- Texts Rd3 PsN of this claim. -/
import Derived.Test.YtpjaodcimomaiaaGreatI30
set_option maxHeartbeats 4000000
set_option maxRecDepth 40000
namespace Go.Proofs.YtpjaodcimomaiaaGreat
open Go.RowKit Go.Shelf
variable {bs:List Rat} {os rs:List (List Rat)} {L V:Nat} {p:LPV} {X Y:Nat->Prop} {w:World}
theorem zQH {y:World} {k0 k1 k2 k3 b1 b2 b3:Nat} {n:Int} (h1:MPart k0 k1 b1 os y) (h2:MPart k1 k2 b2 rs y) (h3:VPart k2 k3 b3 bs y)
  (n1:os.length<=1000000) (n2:rs.length<=1000000) (n3:bs.length<=1000000) (f1:∀ i k,QFit L ((os.getD i []).getD k 0)) (f2:∀ i k,QFit L ((rs.getD i []).getD k 0)) (f3:∀ k,QFit L (bs.getD k 0)) :
  LPIs y (fun b=>k0<=b) (fun b=>k0<=b) L ⟨n,⟨some ⟨b1,0,none⟩,os.length,os.length⟩,⟨some ⟨b2,0,none⟩,rs.length,rs.length⟩,⟨some ⟨b3,0,none⟩,bs.length,bs.length⟩⟩ os rs bs:=by
 have q1:=h1.1; have q1':=h1.2.1; have q2:=h2.1; have q2':=h2.2.1; have q3:=h3.1; have q3':=h3.2.1
 obtain ⟨s1,l1,o1,e1⟩:=h1.own (B:=k0) (nlr _) n1;obtain ⟨s2,l2,o2,e2⟩:=h2.own (B:=k0) (by omega) n2;obtain ⟨s3,l3,o3,e3⟩:=h3.own (B:=k0) (by omega) n3;obtain ⟨⟨x1A,x1n,x1c⟩,v1,-,m1⟩:=zNU o1 l1 rfl fun k hk=>((e1 k hk).loose (f1 k)).imp (fun _ _ hx=>hx.1) fun _ _ hq=>hq.imp fun _ _ hx=>hx.1
 obtain ⟨⟨x2A,x2n,x2c⟩,v2,-,m2⟩:=zNU o2 l2 rfl fun k hk=>((e2 k hk).loose (f2 k)).imp (fun _ _ hx=>by have:=hx.1; omega) fun _ _ hq=>hq.imp fun _ _ hx=>by have:=hx.1; omega
 obtain ⟨⟨x3A,x3n,x3c⟩,v3,-,m3⟩:=zN6 o3 l3 rfl fun k hk=>((e3 k hk).qis (f3 k)).imp fun _ _ hx=>by have:=hx.1; omega
 simp only [SV.val,Value.slice.injEq] at v1 v2 v3;obtain ⟨rfl,rfl,rfl⟩:=v1;obtain ⟨rfl,rfl,rfl⟩:=v2;obtain ⟨rfl,rfl,rfl⟩:=v3;exact ⟨m1,m2,m3⟩
theorem zQB (h:LPIs w X Y L p os rs bs) (hV:p.n=V) (hV2:V<=64) (ho1:1<=p.O.n) (ho2:p.O.n<=4) (hr:p.R.n<=128) (hb:p.B.n=p.R.n) (hco:colsOf os<=V) (hcr:colsOf rs<=V) (hL:L<=LM) :
  Calls Tryz.prog 43 #[p.val,.int .i64 0] w fun e w'=>LPRet w p.n (L+1) [os.getD 0 []] rs bs e w'/\Below w w w':=by
 obtain ⟨z,⟨oA,on,oc⟩,⟨rA,rn,rc⟩,⟨bA,bn,bc⟩⟩:=p;dsimp only at hV hr hb ho1 ho2;subst hV;obtain rfl:rn=bn:=hb.symm;obtain ⟨ad,r,eA,hXa,r0,hr0⟩:=h.obj.row 0 ho1;dsimp only at eA;subst eA;have hoc1:on<=oc:=h.obj.le;have hoc2:oc<=9223372036854775807:=h.obj.cap;have H:=hdq h;have HCo:=hdq hco;have HCr:=hdq hcr;have HL:=hdq hL
 have H1:Hid (LPIs w X Y L ⟨V,⟨some ad,1,oc⟩,⟨rA,rn,rc⟩,⟨bA,rn,bc⟩⟩ [os.getD 0 []] rs bs):=⟨⟨rfl,by show 1<=oc; omega,hoc2,fun i hi=>by
  obtain rfl:i=0:=by have:i<1:=hi; omega
  exact ⟨ad,r,rfl,hXa,r0,hr0⟩⟩,h.rows,h.bounds⟩
 have HRl:Hid (rs.length=rn):=h.rows.len;have HBl:Hid (bs.length=rn):=h.bounds.len;clear h hco hcr hL hr0 r0 hXa;dsimp only [LPV.val] at *;go_enter Tryz.func43,Tryz.ntmps43
 go_upto_region 1 with fail
 refine zAo (fun W=>Below w w W/\Box4 W w (.int .i64 V) (.slice (some ad) on oc) (.slice rA rn rc) (.slice bA rn bc)/\Box4 W (w+1) (.int .i64 0) (.slice none 0 0) (.slice none 0 0) (.slice none 0 0)/\w<(W:Nat)/\w+1<(W:Nat)) ⟨(az (az (brf _ _))),bx4,bx4,by simp <;> omega,by simp <;> omega⟩ ?_;rintro W ⟨hbW,bP,bR,s0,s1⟩;have hBW:=hbW.size;obtain ⟨p0,p1,p2,p3,-⟩:=id bP;go_wp2_with fail
 refine (zBv (p:=⟨V,⟨some ad,on,oc⟩,⟨rA,rn,rc⟩,⟨bA,rn,bc⟩⟩) (H.out.below hbW) rfl hV2 ho1 ho2 (by show rn<=128; omega) rfl HCo.out HCr.out).mono ?_;rintro e w1 ⟨rfl,hb1⟩;replace bP:=bP.below hb1 s0;replace bR:=bR.below hb1 s1;replace s0:=ltl s0 hb1.size;replace s1:=ltl s1 hb1.size;replace hbW:=hbW.trans (hb1.mono hbW.size);clear hb1 hBW p0 p1 p2 p3;obtain ⟨p0,p1,p2,p3,pf⟩:=id bP;have hg:¬ ((on:Int)<=0):=by omega
 have hg1:(1:Int)<=(on:Int):=by omega
 have hg2:(1:Int)<=(oc:Int):=by omega
 go_upto_region 4 with fail
 have bP6:Box4 (w1.setCell ⟨w,1,none⟩ (.slice (some ad) 1 oc)) w (.int .i64 V) (.slice (some ad) 1 oc) (.slice rA rn rc) (.slice bA rn bc):=bx4;have k6:∀ b,b ≠ w.heap.size->(w1.setCell ⟨w,1,none⟩ (.slice (some ad) 1 oc)).heap[b]?=w1.heap[b]?:=fun b hb=>bhs _ _ _ _ hb
 have bR6:=bR.heap (k6 _ (show w+1 ≠ (w:Nat) by omega));have hb6:Below w w1 (w1.setCell ⟨w,1,none⟩ (.slice (some ad) 1 oc)):=(brf _ _).setCell (p:=⟨w,1,none⟩) (nlr _) _;have hs6:(w1.setCell ⟨w,1,none⟩ (.slice (some ad) 1 oc)).heap.size=w1.heap.size:=by simp [World.setCell]
 have hbW6:=hbW.trans hb6;generalize w1.setCell ⟨w,1,none⟩ (.slice (some ad) 1 oc)=w6 at *;rw [<-hs6] at s0 s1;clear p0 p1 p2 p3 pf bP bR hbW hb6 k6;obtain ⟨p0,p1,p2,p3,-⟩:=id bP6;go_wp2_with fail
 refine (zNJ (p:=⟨V,⟨some ad,1,oc⟩,⟨rA,rn,rc⟩,⟨bA,rn,bc⟩⟩) (H1.out.below hbW6) (by show 1<=_; omega) (by show rn<=_; omega) (by show rn<=_; omega) (fun i=>by
  have h0:=zBT HCo.out 0
  have:([os.getD 0 []].getD i []).length<=V:=by
   cases i with
   | zero=>exact h0
   | succ i=>simp
  omega) (fun i=>nlt (zBT HCr.out i) (by omega)) HL.out).mono ?_
 rintro e y ⟨⟨k0,k1,k2,k3,b1,b2,b3,hk0,hk3,rfl,g1,g2,g3⟩,hby⟩;dsimp only at *;have HE:=hdq (zQH (n:=V) g1 g2 g3 (by simp) (by rw [HRl.out]; omega) (by rw [HBl.out]; omega) H1.out.obj.fit H1.out.rows.fit H1.out.bounds.fit);clear g1 g2 g3;have bR7:=bR6.below hby s1;have hbw7:=hbW6.trans (hby.mono hbW6.size);obtain ⟨r0,r1,r2,r3,rf⟩:=id bR7;go_wp2;have P8:=Put.four (W:=y) (w+1) (.int .i64 V) (.slice (some b1) [os.getD 0 []].length [os.getD 0 []].length) (.slice (some b2) rs.length rs.length) (.slice (some b3) bs.length bs.length);have bR8:=bR7.stored (.int .i64 V) (.slice (some b1) [os.getD 0 []].length [os.getD 0 []].length) (.slice (some b2) rs.length rs.length) (.slice (some b3) bs.length bs.length);generalize (((y.setCell ⟨w+1,0,none⟩ (.int .i64 V)).setCell ⟨w+1,1,none⟩ (.slice (some b1) [os.getD 0 []].length [os.getD 0 []].length)).setCell ⟨w+1,2,none⟩ (.slice (some b2) rs.length rs.length)).setCell ⟨w+1,3,none⟩ (.slice (some b3) bs.length bs.length)=y8 at *;clear r0 r1 r2 r3 rf;obtain ⟨r0,r1,r2,r3,-⟩:=id bR8;refine bodyPost_ret (v:=.tuple #[.agg #[.int .i64 V,.slice (some b1) [os.getD 0 []].length [os.getD 0 []].length,.slice (some b2) rs.length rs.length,.slice (some b3) bs.length bs.length],.int .i64 0]) (by simp [results,Tryz.results43,go_sem,r0,r1,r2,r3]) rfl ⟨⟨⟨V,⟨some ⟨b1,0,none⟩,[os.getD 0 []].length,[os.getD 0 []].length⟩,⟨some ⟨b2,0,none⟩,rs.length,rs.length⟩,⟨some ⟨b3,0,none⟩,bs.length,bs.length⟩⟩,rfl,rfl,?_⟩,hbw7.trans (P8.below _ (by omega))⟩;have hk:w+1<k0:=by have:w6<=k0:=hk0; omega
 have hc:∀ a:Addr,k0<=a.block->y8.cell? a=y.cell? a:=fun a ha=>cob (P8.keep _ (by omega))
 have hq:=HE.out;have h1:LPIs y8 (fun b=>k0<=b) (fun b=>k0<=b) (L+1) ⟨V,⟨some ⟨b1,0,none⟩,[os.getD 0 []].length,[os.getD 0 []].length⟩,⟨some ⟨b2,0,none⟩,rs.length,rs.length⟩,⟨some ⟨b3,0,none⟩,bs.length,bs.length⟩⟩ [os.getD 0 []] rs bs:=⟨hq.obj.keep (fun a ha _=>hc a ha) fun v q hq=>hq.keep fun a ha _=>hc a ha,hq.rows.keep (fun a ha _=>hc a ha) fun v q hq=>hq.keep fun a ha _=>hc a ha,hq.bounds.keep (fun a ha _=>hc a ha) fun v q hq=>hq.keep fun a ha _=>hc a ha⟩;exact ⟨h1.obj.imp (fun b _ hb=>by omega) fun _ _ hq=>hq.imp fun b _ hb=>by omega,h1.rows.imp (fun b _ hb=>by omega) fun _ _ hq=>hq.imp fun b _ hb=>by omega,h1.bounds.imp (fun b _ hb=>by omega) fun _ _ hq=>hq.imp fun b _ hb=>by omega⟩
theorem zQu (h:LPRaw w X (QAny w Y) p os rs bs) (hm:mayB p os rs=false) :
  Calls Tryz.prog 43 #[p.val,.int .i64 0] w fun e w'=>e = .returned (.tuple #[.agg #[.int .i64 0,.slice none 0 0,.slice none 0 0,.slice none 0 0],.int .i64 1])/\Below w w w':=by
 obtain ⟨z,⟨oA,on,oc⟩,⟨rA,rn,rc⟩,⟨bA,bn,bc⟩⟩:=p;have H:=hdq h;have HM:=hdq hm;clear h hm;dsimp only [LPV.val,SV.val];go_enter Tryz.func43,Tryz.ntmps43
 go_upto_region 1 with fail
 refine zAo (fun W=>Below w w W/\Box4 W w (.int .i64 z) (.slice oA on oc) (.slice rA rn rc) (.slice bA bn bc)/\Box4 W (w+1) (.int .i64 0) (.slice none 0 0) (.slice none 0 0) (.slice none 0 0)/\w<(W:Nat)/\w+1<(W:Nat)) ⟨(az (az (brf _ _))),bx4,bx4,by simp <;> omega,by simp <;> omega⟩ ?_;rintro W ⟨hbW,bP,bR,s0,s1⟩;have hBW:=hbW.size;obtain ⟨p0,p1,p2,p3,-⟩:=id bP;go_wp2_with fail
 refine (zGa (p:=⟨z,⟨oA,on,oc⟩,⟨rA,rn,rc⟩,⟨bA,bn,bc⟩⟩) (H.out.below hbW)).mono ?_;rw [HM.out];rintro e w1 ⟨rfl,hb1⟩;have hb2:=hbW.trans (hb1.mono hBW);have b2:=bR.below hb1 s1;obtain ⟨v0,v1,v2,v3,-⟩:=b2.stored (.int .i64 0) (.slice none 0 0) (.slice none 0 0) (.slice none 0 0);have HB:=hdq (zAl (x0:=.int .i64 0) (x1:=.slice none 0 0) (x2:=.slice none 0 0) (x3:=.slice none 0 0) (b:=w+1) hb2 (by omega));obtain ⟨u0,u1,u2,u3,uf⟩:=id b2;clear hb1 hb2 hbW hBW bP bR s0 p0 p1 p2 p3;go_wp2;try rw [Exit.noGoto_ret]
 exact bodyPost_ret (v:=.tuple #[.agg #[.int .i64 0,.slice none 0 0,.slice none 0 0,.slice none 0 0],.int .i64 1]) (by simp [results,Tryz.results43,go_sem,v0,v1,v2,v3]) rfl ⟨rfl,HB.out⟩
abbrev RV.zero:RV:=⟨0,⟨none,0,0⟩,⟨none,0,0⟩,⟨none,0,0⟩,⟨none,0,0⟩,0⟩
theorem zQw (h:LPRaw w X (QAny w Y) p os rs bs) (hm:mayB p os rs=false) :
  Calls Tryz.prog 51 #[p.val] w fun e w'=>e = .returned (.tuple #[RV.zero.val,.int .i64 1])/\Below w w w':=by
 obtain ⟨z,⟨oA,on,oc⟩,⟨rA,rn,rc⟩,⟨bA,bn,bc⟩⟩:=p;have H:=hdq h;have HM:=hdq hm;clear h hm;dsimp only [LPV.val,SV.val];go_enter Tryz.func51,Tryz.ntmps51
 go_wp2_with fail
 obtain ⟨W1,hW1⟩:∃ W1,W1=(w.alloc (.cells #[.int .i64 z,.slice oA on oc,.slice rA rn rc,.slice bA bn bc] 28)).alloc (.cells zeroR 80):=⟨_,rfl⟩;rw [<-hW1];have hbW:Below w w W1:=by rw [hW1]; exact (bal).alloc (by simp) _
 have hX1:Box6 W1 (w+1) (.int .u8 0) (.slice none 0 0) (.slice none 0 0) (.slice none 0 0) (.slice none 0 0) (.int .i64 0):=by rw [hW1]; exact zAd _ _ (by simp)
 have hs1:w+1<(W1:Nat):=zAa hX1;clear hW1;refine (zGa (p:=⟨z,⟨oA,on,oc⟩,⟨rA,rn,rc⟩,⟨bA,bn,bc⟩⟩) (H.out.below hbW)).mono ?_;rw [HM.out];rintro e w2 ⟨rfl,hb2⟩;have hbf:=hbW.trans (hb2.mono hbW.size);have hX6:Box6 w2 (w+1) (.int .u8 0) (.slice none 0 0) (.slice none 0 0) (.slice none 0 0) (.slice none 0 0) (.int .i64 0):=(hb2.block _ hs1).trans hX1;obtain ⟨s0,s1,s2,s3,s4,s5,s6⟩:=zO1 hX6;clear hb2 hbW hX1 hs1;go_wp2;obtain ⟨v0,v1,v2,v3,v4,v5,-⟩:=zO1 (zO9 hX6 (.int .u8 0) (.slice none 0 0) (.slice none 0 0) (.slice none 0 0) (.slice none 0 0) (.int .i64 0));simp only [put6] at v0 v1 v2 v3 v4 v5;try rw [Exit.noGoto_ret]
 exact bodyPost_ret (v:=.tuple #[RV.zero.val,.int .i64 1]) (by simp [results,Tryz.results51,go_sem,v0,v1,v2,v3,v4,v5]) rfl ⟨rfl,zO3 hbf (by omega) (.int .u8 0) (.slice none 0 0) (.slice none 0 0) (.slice none 0 0) (.slice none 0 0) (.int .i64 0)⟩
theorem zQz (h:LPRaw w X (QAny w Y) p os rs bs) (hm:mayB p os rs=false) :
  Calls Tryz.prog 44 #[p.val] w fun e w'=>e = .returned (.tuple #[.slice none 0 0,.slice none 0 0,.int .i64 1])/\Below w w w':=by
 obtain ⟨z,⟨oA,on,oc⟩,⟨rA,rn,rc⟩,⟨bA,bn,bc⟩⟩:=p;have H:=hdq h;have HM:=hdq hm;clear h hm;dsimp only [LPV.val,SV.val];go_enter Tryz.func44,Tryz.ntmps44
 go_wp2_with fail
 refine zAg (fun W=>Below w w W/\Box4 W w (.int .i64 z) (.slice oA on oc) (.slice rA rn rc) (.slice bA bn bc)/\w<(W:Nat)) ⟨(az (brf _ _)),bx4,by simp <;> omega⟩ ?_;rintro W ⟨hbW,bP,s0⟩;have hBW:=hbW.size;refine (zQw (p:=⟨z,⟨oA,on,oc⟩,⟨rA,rn,rc⟩,⟨bA,bn,bc⟩⟩) (H.out.below hbW) HM.out).mono ?_;rintro e w1 ⟨rfl,hb1⟩;have HB:=hdq (hbW.trans (hb1.mono hBW));clear hb1 hbW hBW bP s0;go_wp2;try rw [Exit.noGoto_ret]
 exact bodyPost_ret (v:=.tuple #[.slice none 0 0,.slice none 0 0,.int .i64 1]) (by simp [results,Tryz.results44,go_sem]) rfl ⟨rfl,HB.out.alloc HB.out.size _⟩
def SOptRet (w:World) (P:Lin.Prob) (os:List (List Rat)) (e:Ending) (w':World):Prop:=
 (∃ (l:List Rat) (sx sv:SV),e = .returned (.tuple #[sx.val,sv.val,.int .i64 0])/\l.length=P.n/\P.Optimal (fun k=>l.getD k 0)/\(∀ i,Lin.Fits 180000 (l.getD i 0))/\VecIs w' AllB AllB 6000 sx l/\VecCan w' (New w) (New w) sv (os.map fun r=>dotL r l))\/
 ∃ k:Int,((k=8/\∀ x,¬ P.Feasible x)\/k=9/\∃ x d,P.Unbounded x d)/\e = .returned (.tuple #[.slice none 0 0,.slice none 0 0,.int .i64 k])
theorem zQE (h:LPIs w X Y L p os rs bs) (hV:p.n=V) (hV2:V<=4) (ho1:1<=p.O.n) (ho2:p.O.n<=4) (hr:p.R.n<=128) (hb:p.B.n=p.R.n) (hco:colsOf os<=V) (hcr:colsOf rs<=V) (hL:L<=8) :
  Calls Tryz.prog 44 #[p.val] w fun e w'=>SOptRet w (probOf V os rs bs) os e w'/\Below w w w':=by
 obtain ⟨z,⟨oA,on,oc⟩,⟨rA,rn,rc⟩,⟨bA,bn,bc⟩⟩:=p;dsimp only at hV ho1 ho2 hr hb;subst hV hb;have H:=hdq h;have HCo:=hdq hco;have HCr:=hdq hcr;clear h hco hcr;dsimp only [LPV.val,SV.val];go_enter Tryz.func44,Tryz.ntmps44
 go_wp2_with fail
 refine zAg (fun W=>Below w w W/\Box4 W w (.int .i64 V) (.slice oA on oc) (.slice rA bn rc) (.slice bA bn bc)/\w<(W:Nat)) ⟨(az (brf _ _)),bx4,by simp <;> omega⟩ ?_;rintro W ⟨hbW,bP,s0⟩;have hBW:=hbW.size;refine (zPN (p:=⟨V,⟨oA,on,oc⟩,⟨rA,bn,rc⟩,⟨bA,bn,bc⟩⟩) (V:=V) (H.out.below hbW) rfl (by omega) ho1 ho2 hr rfl HCo.out HCr.out (by omega)).mono ?_;rintro e x1 ⟨⟨r1,rfl,hs1⟩,hx1⟩;replace bP:=bP.below hx1 s0;replace s0:=ltl s0 hx1.size;replace hbW:=hbW.trans (hx1.mono hBW);have HS:=hdq hs1;clear hs1 hx1 hBW;go_upto_region 2 with fail
 have alA:(x1.alloc (.cells (rcells r1.kind r1) 80)).heap[x1.heap.size]?=some (.cells (rcells r1.kind r1) 80 (0,0)):=zAd _ _ rfl;have ab:Below x1 x1 (x1.alloc (.cells (rcells r1.kind r1) 80)):=bal;have hx:=hbW.size;replace bP:=bP.below ab s0;replace s0:=ltl s0 ab.size;replace hbW:=hbW.trans (ab.mono hbW.size);have HAb:=hdq ab;clear ab;generalize x1.alloc (.cells (rcells r1.kind r1) 80)=W at *;have sx1:=zAa alA;generalize hqx:x1.heap.size=q at *;have HQx:=hdq hqx;clear hqx;rcases HS.out with ⟨k1,_⟩ | ⟨k1,D,k,-,-,-,-,hno,-⟩ | ⟨k1,l,l',-,-,hu,-⟩
 ·obtain ⟨l,hll,lf,lv,lo⟩:=zQg (N:=180000) HS.out k1 (show 1<=32*(L+1) by omega) (zQF H.out) (by
   have h5:5 ^ V<=625:=nlt (Nat.pow_le_pow_right (by omega) hV2) (by decide);exact nlt (Nat.mul_le_mul h5 (show 32*(L+1)<=288 by omega)) (by decide)) (by decide)
  have HLl:Hid (l.length=V):=hll;have HLf:=hdq lf;have HLv:=hdq (lv.below (by rw [HQx.out]; exact HAb.out));have HLo:=hdq lo;clear hll lf lv lo;rw [k1] at alA;obtain ⟨a10,a11,-⟩:=zQt alA;obtain ⟨p0,p1,p2,p3,-⟩:=id bP;have hf:Hid (∀ i k,Lin.Fits 190000 ((os.getD i []).getD k 0*l.getD k 0)):=fun i k=>((zAR (H.out.obj.fit i k)).mul (HLf.out k)).mono (by omega)
  have hrow:Hid (∀ i,(os.getD i []).length<=1000000):=fun i=>nlt (zBT HCo.out i) (by omega)
  go_upto_region 9 with fail
  have bW:=hbW.size;have hBW:=nlr W
  go_region_held3 (Sees w [] W) (exact kp)
   (first
    | (go_at_call 72; ((with_reducible refine (zNt (kb:=190000) (p:=⟨V,⟨oA,on,oc⟩,⟨rA,bn,rc⟩,⟨bA,bn,bc⟩⟩) (sx:=r1.X) (H.out.below (hbW.trans ((Sees.kept (by assumption)).whole.mono bW))) (HLv.out.below (Sees.kept (by assumption)).whole) (by show on<=1000000; omega) hrow.out (by rw [zAZ]; omega) (by rw [zAZ]; omega) (by rw [zAZ]; omega) hf.out).mono ?_); rintro e y1 ⟨⟨sv,rfl,hv⟩,hc1⟩))
    | fail)
  rename_i hS;have hS':=hS.kept.whole;go_wp2;try rw [Exit.noGoto_ret]
  exact bodyPost_ret (v:=.tuple #[r1.X.val,sv.val,.int .i64 0]) (by simp [results,Tryz.results44,go_sem]) rfl ⟨.inl ⟨l,r1.X,sv,rfl,HLl.out,HLo.out,HLf.out,HLv.out.below hS',hv.low (by first | exact bW | exact hS'.size | exact nlt bW hS'.size)⟩,hbW.trans (hS'.mono bW)⟩
 ·skip
  rw [k1] at alA;obtain ⟨a10,a11,-⟩:=zQt alA;go_wp2;try rw [Exit.noGoto_ret]
  exact bodyPost_ret (v:=.tuple #[.slice none 0 0,.slice none 0 0,.int .i64 8]) (by simp [results,Tryz.results44,go_sem]) rfl ⟨.inr ⟨8,.inl ⟨rfl,hno⟩,rfl⟩,hbW⟩
 ·skip
  rw [k1] at alA;obtain ⟨a10,a11,-⟩:=zQt alA;go_wp2;try rw [Exit.noGoto_ret]
  exact bodyPost_ret (v:=.tuple #[.slice none 0 0,.slice none 0 0,.int .i64 9]) (by simp [results,Tryz.results44,go_sem]) rfl ⟨.inr ⟨9,.inr ⟨rfl,_,_,hu⟩,rfl⟩,hbW⟩
end Go.Proofs.YtpjaodcimomaiaaGreat
