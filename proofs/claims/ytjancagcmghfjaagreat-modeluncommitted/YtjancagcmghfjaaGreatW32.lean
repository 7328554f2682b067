/- Texts McPrS MqC MqH MqIa MqI of this claim. -/
import Derived.Test.YtjancagcmghfjaaGreatW31
set_option maxHeartbeats 4000000
set_option maxRecDepth 60000
namespace Go.Proofs.YtjancagcmghfjaaGreat
open Go.RowKit Go.Shelf
variable {z:Int} {X Y X' Y':Nat->Prop} {w:World} {q:Rat} {fuel ap i j:Nat}
def SmX (w W0:World) (n:Nat) (t:Value) (W:World):Prop:=∃ k:Nat,k<=n/\t = .int .i64 k/\Below w w W/\Below W0 W0 W
theorem zE6 {a b:ZV} (ha:ZAt w X a.ng a.A a.n a.c z) (hb:ZAt w Y b.ng b.A b.n b.c z) :
  Calls Tryz.prog 152 #[.agg #[.bool a.ng,.slice a.A a.n a.c],.agg #[.bool b.ng,.slice b.A b.n b.c]] w fun e w'=>e = .returned (.bool true)/\Below w w w':=by
 obtain ⟨ag,aA,n,ac⟩:=a;obtain ⟨bg,bA,m,bc⟩:=b;dsimp only at ha hb ⊢;have e1:=ha.sign;have e2:=hb.sign;obtain rfl:bg=ag:=e2.trans e1.symm;have l1:=ha.words.len;have l2:=hb.words.len;obtain rfl:m=n:=l2.symm.trans l1;have hle:=ha.words.le;have hcap:=ha.words.cap;have hle2:=hb.words.le;have hcap2:=hb.words.cap;have HA:=hdq ha.words;have HB:=hdq hb.words;have hbb:(bg != bg)=false:=by cases bg <;> rfl
 have hnn:((m:Int) != (m:Int))=false:=by simp
 clear ha hb l1 l2 e1 e2;go_enter Tryz.func152,Tryz.ntmps152
 go_wp2;refine zAo (fun W=>Below w w W/\Box2 W w (.bool bg) (.slice aA m ac)/\Box2 W (w+1) (.bool bg) (.slice bA m bc)/\w.heap.size<W.heap.size/\w.heap.size+1<W.heap.size) ⟨(az (az (brf _ _))),bx2,bx2,by simp <;> omega,by simp <;> omega⟩ ?_;rintro W ⟨hbW,bX,bY,s0,s1⟩;have hBW:=hbW.size;have HX:=hdq bX;have HY:=hdq bY;clear bX bY hbb hnn;have H0:SmX w W m (.int .i64 0) W:=⟨0,nzl _,rfl,hbW,brf _ _⟩;have hBW':=hdq hBW;clear hbW hBW;go_loopw [5] (fun t W'=>SmX w W m t W') (fun t _=>m-(intOf t).toNat)
 case atStart=>exact H0
 case round=>
  clear H0;obtain ⟨k,hk,rfl,hB,hBW⟩:=hrel;obtain ⟨x0,x1,-⟩:=HX.out.below hBW s0;obtain ⟨y0,y1,-⟩:=HY.out.below hBW s1;by_cases hlt:k<m
  ·obtain ⟨a1,rfl,-,hc⟩:=HA.out.cell k hlt;obtain ⟨b1,rfl,-,hd⟩:=HB.out.cell k hlt;rw [<-hB.cell (zAb hc)] at hc;rw [<-hB.cell (zAb hd)] at hd;generalize (Num.words z.natAbs).getD k 0=x at *;have hkk:(k:Int)<(m:Int):=(by omega);have hk0:(0:Int)<=(k:Int):=(by omega);have hxx:((x:Int) != (x:Int))=false:=(by simp);have HB2:=hdq (And.intro hB hBW);clear hB hBW HA HB HX HY x0 y0;go_wp2;(go_quiet (fail));go_wp2;go_roundw;case rel=>exact ⟨k+1,by omega,by simp,zAB HB2.out.1 _,zAB HB2.out.2 _⟩
   case measure=>simp [intOf]; omega
  ·have hkk:¬ (k:Int)<(m:Int):=(by omega);have HB2:=hdq hB;clear hB hBW HX HY x0 y0;go_wp2;go_ret;exact ⟨rfl,HB2.out⟩
theorem zEz {a b:QV} (ha:QCan w X a q) (hb:QCan w Y b q) :
  Calls Tryz.prog 102 #[a.val,b.val] w fun e w'=>e = .returned (.bool true)/\Below w w w':=by
 go_enter Tryz.func102,Tryz.ntmps102
 go_wp2_with fail
 refine zAg (fun W=>Below w w W/\Box4 W w (.bool a.num.ng) (.slice a.num.A a.num.n a.num.c) (.bool a.den.ng) (.slice a.den.A a.den.n a.den.c)/\Box4 W (w+1) (.bool b.num.ng) (.slice b.num.A b.num.n b.num.c) (.bool b.den.ng) (.slice b.den.A b.den.n b.den.c)/\w.heap.size<W.heap.size/\w.heap.size+1<W.heap.size) ⟨(az (az (brf _ _))),bx4,bx4,by simp <;> omega,by simp <;> omega⟩ ?_;rintro W ⟨hbW,bX,bY,s0,s1⟩;have hBW:=hbW.size;refine (zE6 (ha.below hbW).1 (hb.below hbW).1).mono ?_; rintro e w1 ⟨rfl,hb1⟩
 have HA:=hdq (ha.below (hbW.trans (hb1.mono hBW)));have HB:=hdq (hb.below (hbW.trans (hb1.mono hBW)));obtain ⟨x0,x1,x2,x3,-⟩:=bX.below hb1 s0;obtain ⟨y0,y1,y2,y3,-⟩:=bY.below hb1 s1;have HW:=hdq (hbW.trans (hb1.mono hBW));clear bX bY hb1 hbW hBW ha hb;go_wp2_with fail
 refine (zE6 HA.out.2 HB.out.2).mono ?_; rintro e w2 ⟨rfl,hb2⟩
 have hbf:=HW.out.trans (hb2.mono HW.out.size);go_wp2;go_ret;exact ⟨rfl,hbf⟩
def IsX (w:World) (n:Nat) (t:Value) (W:World):Prop:=∃ k:Nat,k<=n/\t = .int .i64 k/\Below w w W
theorem zE5 {a b:SV} {l:List Rat} (ha:VecCan w X Y a l) (hb:VecCan w X' Y' b l) :
  Calls Tryz.prog 54 #[a.val,b.val] w fun e w'=>e = .returned (.bool true)/\Below w w w':=by
 obtain ⟨A,n,c⟩:=a;obtain ⟨B,m,d⟩:=b;have l1:l.length=n:=ha.len;have l2:l.length=m:=hb.len;obtain rfl:m=n:=l2.symm.trans l1;have hle:m<=c:=ha.le;have hcap:c<=9223372036854775807:=ha.cap;have hle2:m<=d:=hb.le;have hcap2:d<=9223372036854775807:=hb.cap;have HA:=hdq ha;have HB:=hdq hb;have hnn:((m:Int) != (m:Int))=false:=by simp
 clear ha hb l1 l2;dsimp only [SV.val];go_enter Tryz.func54,Tryz.ntmps54
 go_wp2;have H0:IsX w m (.int .i64 0) w:=⟨0,nzl _,rfl,brf _ _⟩;clear hnn;go_loopw [5] (fun t W'=>IsX w m t W') (fun t _=>m-(intOf t).toNat)
 case atStart=>exact H0
 case round=>
  clear H0;obtain ⟨k,hk,rfl,hB⟩:=hrel;by_cases hlt:k<m
  ·obtain ⟨ad,u,rfl,-,hp,hu⟩:=HA.out.elem k hlt;obtain ⟨bd,v,rfl,-,hq,hv⟩:=HB.out.elem k hlt;have ta:ad.block<w:=by have:=zAb hp.1; rwa [zAj] at this
   have tb:bd.block<w:=by have:=zAb hq.1; rwa [zAj] at this
   (obtain ⟨p0,p1,p2,p3⟩:=hp.keep (w':=_) fun a ha hl=>hB.cell (by rw [ha]; exact hl));(obtain ⟨q0,q1,q2,q3⟩:=hq.keep (w':=_) fun a ha hl=>hB.cell (by rw [ha]; exact hl));have la:=zAb p0;have lb:=zAb q0;have hkk:(k:Int)<(m:Int):=(by omega);have hk0:(0:Int)<=(k:Int):=(by omega);have HB2:=hdq hB;have HU:=hdq (hu.below hB);have HV:=hdq (hv.below hB);have bW:=hB.size;clear hB HA HB hu hv;(go_upto_region 6 with fail);refine zAp 1000 (fun _ w'=>Sees w [] wr w') (by kernel_rfl) ?_;have hS0:Sees w [] wr wr.drew:=Sees.st (by simp) bW;refine tx4 0 1 2 3 hS0 ?_;refine tx4 4 5 6 7 hS0 ?_;refine tk1 8 ?_;intro K hK;go_simp;refine (zEz (HU.out.below hS0.kept.whole) (HV.out.below hS0.kept.whole)).mono ?_;rintro e w2 ⟨rfl,hb2⟩;have hS1:=Kept.call2 hb2 hS0;refine hK.out _ _ hS1 ?_;clear hK K hS0 hb2;refine tx1 9 hS1 ?_;refine zAf (by kernel_rfl) ?_ _;have HBf:=hdq (HB2.out.trans (hS1.kept.whole.mono bW));clear hS1 HB2 p0 p1 p2 p3 q0 q1 q2 q3;go_wp2;go_roundw;case rel=>exact ⟨k+1,by omega,by simp,HBf.out⟩
   case measure=>simp [intOf]; omega
  ·have hkk:¬ (k:Int)<(m:Int):=(by omega);have HB2:=hdq hB;clear hB;go_wp2;go_ret;exact ⟨rfl,HB2.out⟩
namespace Mo
theorem zZb {w:World} {X Y X' Y':Nat->Prop} {a b:SV} {l:List (List Rat)} (ha:MatCan w X Y a l) (hb:MatCan w X' Y' b l) :
  Calls Tryz.prog 53 #[a.val,b.val] w fun e w'=>e = .returned (.bool true)/\Below w w w':=by
 obtain ⟨A,n,c⟩:=a;obtain ⟨B,m,d⟩:=b;have l1:l.length=n:=ha.len;have l2:l.length=m:=hb.len;obtain rfl:m=n:=l2.symm.trans l1;have hle:m<=c:=ha.le;have hcap:c<=9223372036854775807:=ha.cap;have hle2:m<=d:=hb.le;have hcap2:d<=9223372036854775807:=hb.cap;have HA:=hdq ha;have HB:=hdq hb;have hnn:((m:Int) != (m:Int))=false:=by simp
 clear ha hb l1 l2;dsimp only [SV.val];go_enter Tryz.func53,Tryz.ntmps53
 go_wp2;have H0:IsX w m (.int .i64 0) w:=⟨0,nzl _,rfl,brf _ _⟩;clear hnn;go_loopw [5] (fun t W'=>IsX w m t W') (fun t _=>m-(intOf t).toNat)
 case atStart=>exact H0
 case round=>
  clear H0;obtain ⟨k,hk,rfl,hB⟩:=hrel;by_cases hlt:k<m
  ·obtain ⟨ad,u,rfl,-,hp,hu⟩:=(HA.out.belowC hB).row k hlt;obtain ⟨bd,v,rfl,-,hq,hv⟩:=(HB.out.belowC hB).row k hlt;have la:=zAb hp;have lb:=zAb hq
   have ta:ad.block<w:=by
    obtain ⟨ad',u',e,-,hp',-⟩:=HA.out.row k hlt;cases e;have:=zAb hp'; rwa [zAj] at this
   have tb:bd.block<w:=by
    obtain ⟨ad',u',e,-,hp',-⟩:=HB.out.row k hlt;cases e;have:=zAb hp'; rwa [zAj] at this
   have hkk:(k:Int)<(m:Int):=(by omega);have hk0:(0:Int)<=(k:Int):=(by omega);have HB2:=hdq hB;have HU:=hdq hu;have HV:=hdq hv;have bW:=hB.size;obtain ⟨uA,un,uc⟩:=u;obtain ⟨vA,vn,vc⟩:=v;dsimp only [SV.val] at hp hq;clear hB HA HB hu hv;(go_upto_region 6 with fail);refine zAp 1000 (fun _ w'=>Sees w [] wr w') (by kernel_rfl) ?_;have hS0:Sees w [] wr wr.drew:=Sees.st (by simp) bW;refine tx4 0 1 2 3 hS0 ?_;refine tx4 4 5 6 7 hS0 ?_;refine tk1 8 ?_;intro K hK;go_simp;refine (zE5 (HU.out.belowC hS0.kept.whole) (HV.out.belowC hS0.kept.whole)).mono ?_;rintro e w2 ⟨rfl,hb2⟩;have hS1:=Kept.call2 hb2 hS0;refine hK.out _ _ hS1 ?_;clear hK K hS0 hb2;refine tx1 9 hS1 ?_;refine zAf (by kernel_rfl) ?_ _;have Hfin:Hid (IsX w m (.int .i64 ((k:Int)+1)) w2):=⟨k+1,by omega,by simp,HB2.out.trans (hS1.kept.whole.mono bW)⟩;clear hS1;go_wp2;go_roundw;case rel=>exact fn_ Hfin.out
   case measure=>simp [intOf]; omega
  ·(obtain rfl:k=m:=by omega);have Hb:=hdq hB;clear hB;go_wp2;go_ret;exact ⟨rfl,Hb.out⟩
theorem zZn {w:World} {X Y:Nat->Prop} {p q:LPV} (hp:p.n=q.n) {os rs:List (List Rat)} {bs:List Rat}
  (po:MatCan w X X p.O os) (pr:MatCan w X X p.R rs) (pb:VecCan w X X p.B bs) (qo:MatCan w Y Y q.O os) (qr:MatCan w Y Y q.R rs) (qb:VecCan w Y Y q.B bs) :
  Calls Tryz.prog 13 #[p.val,q.val] w fun e w'=>e = .returned (.bool true)/\Below w w w':=by
 have HO:=hdq fun W (hb:Below w w W)=>zZb (po.belowC hb) (qo.belowC hb)
 have HR:=hdq fun W (hb:Below w w W)=>zZb (pr.belowC hb) (qr.belowC hb)
 have HB:=hdq fun W (hb:Below w w W)=>zE5 (pb.belowC hb) (qb.belowC hb)
 clear po pr pb qo qr qb;obtain ⟨pn,⟨oA,on,oc⟩,⟨rA,rn,rc⟩,⟨bA,bn,bc⟩⟩:=p;obtain ⟨qn,⟨oB,om,od⟩,⟨rB,rm,rd⟩,⟨bB,bm,bd⟩⟩:=q;dsimp only at hp;subst hp;dsimp only [SV.val] at HO HR HB;dsimp only [LPV.val];go_enter Tryz.func13,Tryz.ntmps13
 go_upto_region 1 with fail
 refine zAo (fun W=>Below w w W/\Box4 W w (.int .i64 pn) (.slice oA on oc) (.slice rA rn rc) (.slice bA bn bc)/\Box4 W (w+1) (.int .i64 pn) (.slice oB om od) (.slice rB rm rd) (.slice bB bm bd)/\w.heap.size<W.heap.size/\w.heap.size+1<W.heap.size) ⟨(az (az (brf _ _))),bx4,bx4,by simp <;> omega,by simp <;> omega⟩ ?_;rintro W ⟨hbW,bP,bQ,s0,s1⟩;have hBW:=hbW.size;obtain ⟨p0,p1,p2,p3,-⟩:=id bP;obtain ⟨q0,q1,q2,q3,-⟩:=id bQ;go_wp2_with fail
 refine (HO.out W hbW).mono ?_;rintro e w1 ⟨rfl,hb1⟩;have c1:Below w w w1:=hbW.trans (hb1.mono hBW);have bP1:=bP.below hb1 s0;have bQ1:=bQ.below hb1 s1;have t1:w.heap.size+1<w1.heap.size:=ltl s1 hb1.size;have t0:w.heap.size<w1.heap.size:=Nat.lt_of_succ_lt t1;have C1:=hdq c1;clear p0 p1 p2 p3 q0 q1 q2 q3 bP bQ hbW hb1 s0 s1 hBW c1;obtain ⟨p0,p1,p2,p3,-⟩:=id bP1;obtain ⟨q0,q1,q2,q3,-⟩:=id bQ1;go_wp2_with fail
 refine (HR.out w1 C1.out).mono ?_;rintro e w2 ⟨rfl,hb2⟩;have c2:Below w w w2:=C1.out.trans (hb2.mono C1.out.size);have bP2:=bP1.below hb2 t0;have bQ2:=bQ1.below hb2 t1;have C2:=hdq c2;clear p0 p1 p2 p3 q0 q1 q2 q3 bP1 bQ1 hb2 c2 t0 t1 C1;obtain ⟨p0,p1,p2,p3,-⟩:=id bP2;obtain ⟨q0,q1,q2,q3,-⟩:=id bQ2;go_wp2_with fail
 refine (HB.out w2 C2.out).mono ?_;rintro e w3 ⟨rfl,hb3⟩;have C3:=hdq (C2.out.trans (hb3.mono C2.out.size));clear p0 p1 p2 p3 q0 q1 q2 q3 bP2 bQ2 hb3 C2;go_wp2;go_ret;exact ⟨rfl,C3.out⟩
end Mo
namespace Mo
structure HBx (w:World) (b:Nat) (v:HrV) (W:World):Prop where
 low:Below w w W
 c0:W.cell? b=some (.int .i64 v.n)
 c1:W.cell? ⟨b,1,none⟩=some (.slice v.L.A v.L.n v.L.c)
 c2:W.cell? ⟨b,2,none⟩=some (.slice v.O.A v.O.n v.O.c)
 c3:W.cell? ⟨b,3,none⟩=some (.slice v.U.A v.U.n v.U.c)
 c4:W.cell? ⟨b,4,none⟩=some (.slice v.N.A v.N.n v.N.c)
 c5:W.cell? ⟨b,5,none⟩=some (.slice v.B.A v.B.n v.B.c)
theorem HBx.below {w W W':World} {b:Nat} {v:HrV} (h:HBx w b v W) (hb:Below W W W'):HBx w b v W':=
 ⟨h.low.trans (hb.mono h.low.size),cellB hb h.c0,cellB hb h.c1,cellB hb h.c2,cellB hb h.c3,cellB hb h.c4,cellB hb h.c5⟩
theorem HBx.new (w:World) (v:HrV):HBx w w v (w.alloc (.cells #[.int .i64 v.n,.slice v.L.A v.L.n v.L.c,.slice v.O.A v.O.n v.O.c,.slice v.U.A v.U.n v.U.c,.slice v.N.A v.N.n v.N.c,.slice v.B.A v.B.n v.B.c] 30)):=
 ⟨bal,by go_simp,by go_simp,by go_simp,by go_simp,by go_simp,by go_simp⟩
structure PBx (b:Nat) (p:LPV) (W:World):Prop where
 c0:W.cell? b=some (.int .i64 p.n)
 c1:W.cell? ⟨b,1,none⟩=some (.slice p.O.A p.O.n p.O.c)
 c2:W.cell? ⟨b,2,none⟩=some (.slice p.R.A p.R.n p.R.c)
 c3:W.cell? ⟨b,3,none⟩=some (.slice p.B.A p.B.n p.B.c)
theorem PBx.below {W W':World} {b:Nat} {p:LPV} (h:PBx b p W) (hb:Below W W W'):PBx b p W':=⟨cellB hb h.c0,cellB hb h.c1,cellB hb h.c2,cellB hb h.c3⟩
theorem PBx.new (W:World) (p:LPV):PBx W p (W.alloc (.cells #[.int .i64 p.n,.slice p.O.A p.O.n p.O.c,.slice p.R.A p.R.n p.R.c,.slice p.B.A p.B.n p.B.c] 36)):=⟨by go_simp,by go_simp,by go_simp,by go_simp⟩
end Mo
theorem zZP {P:Program} {md:Region.Mode} {ops:Array Oper} {Q:Exit->Act->World->Prop} {S:Bool->World->Prop} {listed:Array Bool} {a:Act} (Φ:World->Prop) (h0:Φ w) (h:∀ W,Φ W->wpAnyG P md ops Q ap S fuel listed a W):wpAnyG P md ops Q ap S fuel listed a w:=h w h0
theorem twoW {P:Program} {l r1 r2:List Oper} {Q:Exit->Act->World->Prop} {md:Region.Mode} {S:Bool->World->Prop} {oi oj:Oper} {listed:Array Bool} {a:Act} (hr:Region.ready md l.toArray listed=[i,j]) (hi:l.drop i=oi :: r1) (hj:l.drop j=oj :: r2)
  (hwi:Region.wanted oi (yielded l.toArray a.tmps)=true) (hwj:Region.wanted oj (yielded l.toArray a.tmps)=true)
  (h1:∀ K:Act->World->Prop,Shut (∀ a w,S ((listed.setIfInBounds i true).getD ap true) w->wpAnyG P md l.toArray Q ap S fuel (listed.setIfInBounds i true) a w->K a w)->Oper.wp P oi a w K Q)
  (h2:∀ K:Act->World->Prop,Shut (∀ a w,S ((listed.setIfInBounds j true).getD ap true) w->wpAnyG P md l.toArray Q ap S fuel (listed.setIfInBounds j true) a w->K a w)->Oper.wp P oj a w K Q):wpAnyG P md l.toArray Q ap S (fuel+1) listed a w:=by
 refine ⟨fun h0=>(by rw [hr] at h0; cases h0),?_⟩;rw [hr];intro k hk;rcases List.mem_cons.1 hk with rfl | hk
 ·exact wpOp_step (zBo hi) (fun K' hK=>by rw [if_pos hwi]; exact h1 K' fun a w hS hW=>hK a w ⟨hS,hW⟩)
 ·obtain rfl:k=j:=by simpa using hk
  exact wpOp_step (zBo hj) (fun K' hK=>by rw [if_pos hwj]; exact h2 K' fun a w hS hW=>hK a w ⟨hS,hW⟩)
theorem zZ2 (w:World) (t:TypeId) (l:List Value) (_:l.length=9) (j:Nat) (x:Value) (hj:l[j]?=some x):(w.alloc (.cells l.toArray t)).cell? (Addr.add ⟨w,0,none⟩ j)=some x:=by
 rw [zA4,Nat.zero_add];have e:(w.alloc (.cells l.toArray t)).heap[w.heap.size]?=some (.cells l.toArray t (0,0)):=zAd _ _ rfl;simp only [World.cell?,e];simpa using hj
namespace Mo
structure UF (w0:World) (lb:Nat) (v:HrV) (uc nc uv nv:Value) (k1 k2:Nat) (ul nl:List Value) (W:World):Prop where
 blk:W.heap[lb]?=some (.cells #[.int .i64 v.n,.slice v.L.A v.L.n v.L.c,.slice v.O.A v.O.n v.O.c,uc,nc,.slice v.B.A v.B.n v.B.c] 30 (0,0))
 u:W.ownsRow (lb+1) 45 9 uv k1 ul
 n:W.ownsRow (lb+1) 4 1 nv k2 nl
 low:Below lb w0 W
 sz:lb+1<=W.heap.size
section
variable {w0 W W':World} {lb:Nat} {v:HrV} {uc nc uv nv v':Value} {k1 k2 m:Nat} {ul nl xs:List Value}
theorem UF.apart (h:UF w0 lb v uc nc uv nv k1 k2 ul nl W) {j:Nat} (e1:uv.ownBlock=some j) (e2:nv.ownBlock=some j):False:=by
 obtain ⟨_,c1,h1⟩:=zAc h.u e1;obtain ⟨_,c2,h2⟩:=zAc h.n e2;exact zXA h1 h2 (by decide)
theorem UF.alloc (h:UF w0 lb v uc nc uv nv k1 k2 ul nl W) (o:Obj):UF w0 lb v uc nc uv nv k1 k2 ul nl (W.alloc o):=
 ⟨alk h.blk,h.u.alloc _,h.n.alloc _,h.low.alloc (by have:=h.sz; omega) _,nlt h.sz (by simp)⟩
theorem UF.drew (h:UF w0 lb v uc nc uv nv k1 k2 ul nl W):UF w0 lb v uc nc uv nv k1 k2 ul nl W.drew:=⟨h.blk,h.u,h.n,h.low.drew,h.sz⟩
theorem UF.growU (h:UF w0 lb v uc nc uv nv k1 k2 ul nl W) (hown:W'.ownsRow (lb+1) 45 9 v' m xs) (hg:W.grownBy W' uv.ownBlock):UF w0 lb v uc nc v' nv m k2 xs nl W':=
 ⟨(hg.block lb (by have:=h.sz; omega) fun e=>by have:=(zAc h.u e.symm).1; omega).trans h.blk,hown,zAr h.n fun j hj=>hg.block j (by obtain ⟨_,c,hh⟩:=zAc h.n hj; exact zAa hh) fun e=>h.apart e.symm hj,
  h.low.grown hg (by have:=h.sz; omega) fun j e=>by have:=(zAc h.u e).1; omega,nlt h.sz hg.size⟩
theorem UF.growN (h:UF w0 lb v uc nc uv nv k1 k2 ul nl W) (hown:W'.ownsRow (lb+1) 4 1 v' m xs) (hg:W.grownBy W' nv.ownBlock):UF w0 lb v uc nc uv v' k1 m ul xs W':=
 ⟨(hg.block lb (by have:=h.sz; omega) fun e=>by have:=(zAc h.n e.symm).1; omega).trans h.blk,zAr h.u fun j hj=>hg.block j (by obtain ⟨_,c,hh⟩:=zAc h.u hj; exact zAa hh) fun e=>h.apart hj e.symm,hown,
  h.low.grown hg (by have:=h.sz; omega) fun j e=>by have:=(zAc h.n e).1; omega,nlt h.sz hg.size⟩
theorem UF.storeU (h:UF w0 lb v uc nc uv nv k1 k2 ul nl W) (x:Value):UF w0 lb v x nc uv nv k1 k2 ul nl (W.setCell ⟨lb,3,none⟩ x):=
 ⟨by rw [zAe _ h.blk]; simp,zAr h.u fun j hj=>bhs _ _ _ _ (by have:=(zAc h.u hj).1; dsimp only; omega),zAr h.n fun j hj=>bhs _ _ _ _ (by have:=(zAc h.n hj).1; dsimp only; omega),h.low.setCell (p:=⟨lb,3,none⟩) (nlr _) _,by simpa [World.setCell] using h.sz⟩
theorem UF.storeN (h:UF w0 lb v uc nc uv nv k1 k2 ul nl W) (x:Value):UF w0 lb v uc x uv nv k1 k2 ul nl (W.setCell ⟨lb,4,none⟩ x):=
 ⟨by rw [zAe _ h.blk]; simp,zAr h.u fun j hj=>bhs _ _ _ _ (by have:=(zAc h.u hj).1; dsimp only; omega),zAr h.n fun j hj=>bhs _ _ _ _ (by have:=(zAc h.n hj).1; dsimp only; omega),h.low.setCell (p:=⟨lb,4,none⟩) (nlr _) _,by simpa [World.setCell] using h.sz⟩
theorem UF.c3 (h:UF w0 lb v uc nc uv nv k1 k2 ul nl W):W.cell? ⟨lb,3,none⟩=some uc:=by simp [World.cell?,h.blk]
theorem UF.c4 (h:UF w0 lb v uc nc uv nv k1 k2 ul nl W):W.cell? ⟨lb,4,none⟩=some nc:=by simp [World.cell?,h.blk]
theorem UF.frozen (h:UF w0 lb v uc nc uv nv k1 k2 ul nl W) (o:Nat):W.frozen? ⟨lb,o,none⟩=false:=by simp [World.frozen?,h.blk]
end
def UL (w:World) (u:Un) (l:List Value):Prop:=∃ st:SV,l=[.int .i64 u.bus,.int .i64 u.min,.slice st.A st.n st.c,.int .i64 u.up,.int .i64 u.down,.int .i64 u.start,.int .i64 u.idle,.int .i64 u.spin,.int .i64 u.on]/\StepsAt w st u.steps
theorem flatL:∀ (ls:List (List Value)),(∀ l ∈ ls,l.length=9)->∀ (k o:Nat),k<ls.length->o<9->ls.flatten[k*9+o]?=(ls.getD k [])[o]?
 | [],_,k,_,hk,_=>absurd hk (Nat.not_lt_zero k)
 | q :: qs,h,0,o,_,ho=>by
  have:=h q List.mem_cons_self
  rw [List.flatten_cons,List.getElem?_append_left (by omega)]; simp
 | q :: qs,h,k+1,o,hk,ho=>by
  have h9:=h q List.mem_cons_self;have ih:=flatL qs (fun l hl=>h l (List.mem_cons_of_mem _ hl)) k o (by simpa using hk) ho;rw [List.flatten_cons,List.getElem?_append_right (by omega),show (k+1)*9+o-q.length=k*9+o by omega,ih];simp
theorem UL.len {w:World} {u:Un} {l:List Value} (h:UL w u l):l.length=9:=by obtain ⟨st,rfl,-⟩:=h; rfl
theorem zZ6 {w W:World} {B:Nat} {v:Value} {ls:List (List Value)} {us:List Un} (h:W.ownsRow B 45 9 v ls.length ls.flatten) (hl:ls.length=us.length) (hu:∀ i,i<ls.length->UL w (us.getD i un0) (ls.getD i [])) (hb:Below w w W):∃ t:SV,v=t.val/\UnitsAt W t us:=by
 rcases h.2 with ⟨e,e2⟩ | ⟨g,cap,cur,e,h1,h2,h3,h4,h5,h6⟩
 ·exact ⟨⟨none,0,0⟩,e,by show us.length=0; omega,nlr _,nzl _,fun k hk=>absurd hk (Nat.not_lt_zero k)⟩
 ·refine ⟨⟨some ⟨g,0,none⟩,ls.length,cap⟩,e,hl.symm,h3,by simpa [maxLen] using h4,fun k hk=>⟨_,rfl,?_⟩⟩;have hk':k<ls.length:=hk;subst e
  have h9:∀ l ∈ ls,l.length=9:=fun l hl=>by
   obtain ⟨i,hi,rfl⟩:=List.mem_iff_getElem.1 hl;have:=(hu i hi).len
   rwa [gdd,gge hi] at this
  obtain ⟨st,e,hst⟩:=hu k hk'
  have key:∀ o x,o<9->(ls.getD k [])[o]?=some x->W.cell? ⟨g,k*9+o,none⟩=some x:=fun o x ho hx=>by
   have:=h.cells (g:=g) rfl (k*9+o) x (by rw [flatL ls h9 k o hk' ho]; exact hx);rw [<-this,zA4,Nat.zero_add]
  have e0:(⟨g,0,none⟩:Addr).add (k*9)=⟨g,k*9,none⟩:=by rw [zA4,Nat.zero_add]
  rw [e0];rw [e] at key;exact ⟨st,key 0 _ (by omega) rfl,key 1 _ (by omega) rfl,key 2 _ (by omega) rfl,key 3 _ (by omega) rfl,key 4 _ (by omega) rfl,key 5 _ (by omega) rfl,key 6 _ (by omega) rfl,key 7 _ (by omega) rfl,key 8 _ (by omega) rfl,StepsAt.below hb hst⟩
theorem zZ5 {W:World} {B n:Nat} {v:Value} (h:W.ownsRow B 4 1 v n (List.replicate n (.bool true))) {us:List Un} (hl:n=us.length):∃ t:SV,v=t.val/\OnAt W t (us.map fun _=>true):=by
 rcases h.2 with ⟨e,e2⟩ | ⟨g,cap,cur,e,h1,h2,h3,h4,h5,h6⟩
 ·exact ⟨⟨none,0,0⟩,e,by rw [List.length_map]; show us.length=0; omega,nlr _,nzl _,fun k hk=>absurd hk (Nat.not_lt_zero k)⟩
 ·refine ⟨⟨some ⟨g,0,none⟩,n,cap⟩,e,by rw [List.length_map]; exact hl.symm,h3,by simpa [maxLen] using h4,fun k hk=>⟨_,rfl,?_⟩⟩;have hk':k<n:=hk;subst e;have:=h.cells (g:=g) rfl k (.bool true) (by rw [List.getElem?_replicate,if_pos hk']);rw [this,gdd,List.getElem?_map,gge (show k<us.length by omega)]; rfl
theorem zZ1:∀ (us:List Un) (os:List Bool) (k:Nat),k<us.length->k<os.length->keep (us.take (k+1)) (os.take (k+1))=keep (us.take k) (os.take k)++if os.getD k false=true then [us.getD k un0] else []
 | [],_,_,h,_=>absurd h (Nat.not_lt_zero _)
 | _ :: _,[],_,_,h=>absurd h (Nat.not_lt_zero _)
 | u :: us,o :: os,0,_,_=>by cases o <;> rfl
 | u :: us,o :: os,k+1,h1,h2=>by
  have ih:=zZ1 us os k (by simpa using h1) (by simpa using h2);simp only [List.take_succ_cons,keep,List.getD_cons_succ] at ih ⊢;rw [ih];cases o <;> simp
end Mo
namespace Mo
theorem zZ7:(Tryz.prog.info? 45).map (fun i=>(i.zero,i.size,i.bytes))=some (some (.agg #[.int .i64 0,.int .i64 0,.slice none 0 0,.int .i64 0,.int .i64 0,.int .i64 0,.int .i64 0,.int .i64 0,.int .i64 0]),9,88):=by kernel_rfl
theorem zLw:(Tryz.prog.info? 4).map (fun i=>(i.zero,i.size,i.bytes))=some (some (.bool false),1,1):=by kernel_rfl
def UnI (w w6:World) (lb:Nat) (v:HrV) (us:List Un) (os:List Bool) (n:Nat) (t:Value) (W:World):Prop:=
 ∃ (k:Nat) (uv nv:Value) (ls:List (List Value)),k<=n/\t = .int .i64 (k:Int)/\UF w6 lb v uv nv uv nv ls.length ls.length ls.flatten (List.replicate ls.length (.bool true)) W/\ls.length=(keep (us.take k) (os.take k)).length/\∀ i,i<ls.length->UL w ((keep (us.take k) (os.take k)).getD i un0) (ls.getD i [])
theorem munc_calls {w:World} {v:HrV} {h:Hr} (hA:HrAt w v h):Calls Tryz.prog 4 #[v.val] w fun e w'=>e = .returned (.bool true)/\Below w w w':=by
 have HA:=hdq hA;have HN:=HBx.new w v;have HLg:=hdq (zXk (hA.below HN.low));have HBd:=hdq fun W (hb:Below w w W)=>zU3 (hA.below hb)
 obtain ⟨n,L,O,U,N,B⟩:=v;obtain rfl:n=h.buses:=hA.n;dsimp only [HrV.val] at HLg HBd ⊢;have HN:=hdq HN;clear hA;go_enter Tryz.func4,Tryz.ntmps4
 go_upto_region 1 with fail
 obtain ⟨hbx,hh⟩:∃ b,b=w.heap.size:=⟨_,rfl⟩;rw [<-hh] at HN ⊢;clear hh;generalize w.alloc (.cells #[.int .i64 h.buses,.slice L.A L.n L.c,.slice O.A O.n O.c,.slice U.A U.n U.c,.slice N.A N.n N.c,.slice B.A B.n B.c] 30)=w1 at *;obtain ⟨-,c0,c1,c2,c3,c4,c5⟩:=HN.out;dsimp only at c0 c1 c2 c3 c4 c5;go_wp2_with fail
 refine HLg.out.mono ?_;rintro e w2 ⟨⟨b,rfl⟩,hb2⟩;have HN2:=hdq (HN.out.below hb2);clear c0 c1 c2 c3 c4 c5 HN HLg hb2
 cases b with
 | true=>
  go_wp2_with fail
  refine zVf.mono ?_;rintro e w3 ⟨rfl,hb3⟩;have HF:=hdq (HN2.out.below hb3).low;go_wp2;go_ret
  exact ⟨rfl,HF.out⟩
 | false=>
  go_wp2_with fail
  refine zVf.mono ?_;rintro e w3 ⟨rfl,hb3⟩;have HN3:=hdq (HN2.out.below hb3);obtain ⟨-,c0,c1,c2,c3,c4,c5⟩:=HN3.out;dsimp only at c0 c1 c2 c3 c4 c5;clear HN2 hb3;go_wp2_with fail
  refine (HBd.out w3 HN3.out.low).mono ?_;rintro e w4 ⟨hR,hb4⟩;have HN4:=hdq (HN3.out.below hb4);clear c0 c1 c2 c3 c4 c5 HN3 hb4;rcases hR with ⟨h0,rfl⟩ | ⟨h0,p,m,rfl,hL⟩
  ·have hne:(hrErr h != 0)=true:=(by simpa using h0);have al:=(brf w4 w4).alloc (nlr _) (.cells #[.int .i64 0,.slice none 0 0,.slice none 0 0,.slice none 0 0] 36);have HF:=hdq (HN4.out.low.trans (al.mono HN4.out.low.size));generalize hrErr h=er at *;clear h0 HBd al;go_wp2;go_ret;exact ⟨rfl,HF.out⟩
  ·obtain ⟨pn,⟨oA,on,oc⟩,⟨rA,rn,rc⟩,⟨bA,bn,bc⟩⟩:=p;have HPn:=hdq (PBx.new w4 ⟨pn,⟨oA,on,oc⟩,⟨rA,rn,rc⟩,⟨bA,bn,bc⟩⟩);have al:=(brf w4 w4).alloc (nlr _) (.cells #[.int .i64 pn,.slice oA on oc,.slice rA rn rc,.slice bA bn bc] 36);have HL5:=hdq ((hL.below al).imp (X':=fun y=>y<(w4.alloc (.cells #[.int .i64 pn,.slice oA on oc,.slice rA rn rc,.slice bA bn bc] 36)).heap.size) fun b hb _=>hb);have HM6:=hdq hL.hinv;have Hpn:Hid (pn=((vars h).length:Int)):=hdq hL.n;have HN5:=hdq (HN4.out.below al);have H0:=hdq h0;have Hul:=hdq HA.out.U.len;have Hnl:=hdq HA.out.N.len;have Hon:=hdq (zUh h0).2.2.2.1;have hun:U.n<=5:=by have h9:h.units.length=U.n:=Hul.out; have:=(zUh h0).1; omega
   have hnn:U.n=N.n:=by have h9:h.units.length=U.n:=Hul.out; have h8:h.on.length=N.n:=Hnl.out; have:=Hon.out; omega
   have ule:=HA.out.U.le;have ucap:=HA.out.U.cap;have nle:=HA.out.N.le;have ncap:=HA.out.N.cap;dsimp only at ule ucap nle ncap Hul Hnl;dsimp only [LPV.val];obtain ⟨uA,un,uc⟩:=U;obtain ⟨nA,nn,nc⟩:=N;dsimp only at hun hnn ule ucap nle ncap Hul Hnl;subst hnn;clear hL h0 al HN4;(go_upto_region 4 with fail);obtain ⟨pb,hpb⟩:∃ b,b=w4.heap.size:=⟨_,rfl⟩;rw [<-hpb] at HPn ⊢;clear hpb;generalize w4.alloc (.cells #[.int .i64 pn,.slice oA on oc,.slice rA rn rc,.slice bA bn bc] 36)=w5 at *;obtain ⟨-,c0,c1,c2,c3,c4,c5⟩:=HN5.out;dsimp only at c0 c1 c2 c3 c4 c5;(go_upto_region 7 with fail);obtain ⟨lb,hlb⟩:∃ b,b=w5.heap.size:=⟨_,rfl⟩;obtain ⟨w6,hw6⟩:∃ w6,w5.alloc (.cells #[.int .i64 h.buses,.slice L.A L.n L.c,.slice O.A O.n O.c,.slice none 0 0,.slice none 0 0,.slice B.A B.n B.c] 30)=w6:=⟨_,rfl⟩;have al6:Below w5 w5 w6:=by rw [<-hw6]; exact bal
   have F0:UF w6 lb ⟨h.buses,L,O,⟨uA,un,uc⟩,⟨nA,un,nc⟩,B⟩ (.slice none 0 0) (.slice none 0 0) (.slice none 0 0) (.slice none 0 0) 0 0 [] [] w6:=⟨by rw [<-hw6,hlb]; exact zAd _ _ rfl,World.ownsRow_nil _ _ _ _,World.ownsRow_nil _ _ _ _,brf _ _,by rw [<-hw6,hlb]; simp⟩;rw [hw6,<-hlb];have hbl:hbx<lb:=by rw [hlb]; exact zAb c0
   have hpl:pb<lb:=by rw [hlb]; exact zAb HPn.out.c0
   have hwl:w.heap.size<=lb:=by rw [hlb]; exact HN5.out.low.size
   have Hlb:=hdq hlb;have HN6:=hdq (HN5.out.below al6);have HP6:=hdq (HPn.out.below al6);have HL6:=hdq (HL5.out.below al6);have H1:UnI w w6 lb ⟨h.buses,L,O,⟨uA,un,uc⟩,⟨nA,un,nc⟩,B⟩ h.units h.on un (.int .i64 0) w6:=⟨0,_,_,[],nzl _,rfl,F0,rfl,fun i hi=>absurd hi (Nat.not_lt_zero i)⟩;clear hw6 al6 F0 hlb c0 c1 c2 c3 c4 c5 HN5 HPn HL5;go_wp2;(go_loopw [6] (fun t W=>UnI w w6 lb ⟨h.buses,L,O,⟨uA,un,uc⟩,⟨nA,un,nc⟩,B⟩ h.units h.on un t W) (fun t _=>un-(intOf t).toNat));case atStart=>exact H1
   case round=>
    clear H1;obtain ⟨k,uv,nv,ls,hk,rfl,hF,hll,hul⟩:=hrel;have hn:=HN6.out;have low6:∀ (p:Addr) (x:Value),p.block<lb->w6.cell? p=some x->wr.cell? p=some x:=(fun p x hp hx=>(hF.low.cell hp).trans hx);have c0:=low6 _ _ hbl hn.c0;have c1:=low6 _ _ hbl hn.c1;have c2:=low6 _ _ hbl hn.c2;have c3:=low6 _ _ hbl hn.c3;have c4:=low6 _ _ hbl hn.c4;have c5:=low6 _ _ hbl hn.c5;dsimp only at c0 c1 c2 c3 c4 c5;have hlr:lb<wr.heap.size:=hF.sz;by_cases hlt:k<un
    ·have hki:(k:Int)<(un:Int):=(by omega);have hB:Below w w wr:=HN6.out.low.trans (hF.low.mono hwl);have hku:k<h.units.length:=by rw [show h.units.length=un from Hul.out]; exact hlt
     have hko:k<h.on.length:=by rw [show h.on.length=un from Hnl.out]; exact hlt
     have Hkt:=hdq (zZ1 h.units h.on k hku hko);obtain ⟨na,e,p0⟩:=(HA.out.N.below hB).cell k hlt;dsimp only at e;subst e;have tp:=zAb p0
     have hls:ls.length<=5:=by
      rw [hll]; have h1:=zZX (h.units.take k) (h.on.take k); rw [List.length_take] at h1; omega
     have Hll2:=hdq hll;clear hll;generalize h.on.getD k false=on1 at *
     cases on1 with
     | false=>
      rw [if_neg (by decide),List.append_nil] at Hkt;have HN:Hid (UnI w w6 lb ⟨h.buses,L,O,⟨uA,un,uc⟩,⟨some na,un,nc⟩,B⟩ h.units h.on un (.int .i64 ((k:Int)+1)) wr):=⟨k+1,uv,nv,ls,by omega,by simp,hF,by rw [Hkt.out]; exact Hll2.out,by rw [Hkt.out]; exact hul⟩;clear hF hul;go_wp2;go_roundw;case rel=>first | exact HN.out | ((repeat apply Exists.intro); exact ⟨HN.out,rfl⟩)
      case measure=>simp [intOf]; omega
     | true=>
      rw [if_pos rfl] at Hkt;obtain ⟨ad,e,st,q0,q1,q2,q3,q4,q5,q6,q7,q8,qs⟩:=HA.out.U.cell k hlt;dsimp only at e;subst e;have tq0:=zAb q0;have tq:(ad.add (k*9)).block<lb:=(by omega);have HSt:=hdq qs;replace q0:=cellB hB q0;replace q1:=cellB hB q1;replace q2:=cellB hB q2;replace q3:=cellB hB q3;replace q4:=cellB hB q4;replace q5:=cellB hB q5;replace q6:=cellB hB q6;replace q7:=cellB hB q7;replace q8:=cellB hB q8;clear qs;obtain ⟨sA,sn,sc⟩:=st;dsimp only at q2;generalize h.units.getD k un0=u at *;have hub:UL w u [.int .i64 u.bus,.int .i64 u.min,.slice sA sn sc,.int .i64 u.up,.int .i64 u.down,.int .i64 u.start,.int .i64 u.idle,.int .i64 u.spin,.int .i64 u.on]:=⟨⟨sA,sn,sc⟩,rfl,HSt.out⟩;obtain ⟨iu0,hiu,hzu0,hzu1,hzu2⟩:=info_parts zZ7;obtain ⟨ib0,hib,hzb0,hzb1,hzb2⟩:=info_parts zLw;(go_upto_region 11 with fail);obtain ⟨news,hnews⟩:∃ news:List Value,news=[.int .i64 u.bus,.int .i64 u.min,.slice sA sn sc,.int .i64 u.up,.int .i64 u.down,.int .i64 u.start,.int .i64 u.idle,.int .i64 u.spin,.int .i64 u.on]:=⟨_,rfl⟩;have hnl:news.length=1*9:=by rw [hnews]; rfl
      have hn1:∀ x ∈ news,x.oneCell'=true:=by rw [hnews]; intro x hx; simp at hx; rcases hx with rfl | rfl | rfl | rfl | rfl | rfl | rfl | rfl | rfl <;> rfl
      have Hnw:=hdq hnews;rw [<-hnews] at hub;clear hnews;obtain ⟨PS,hPS⟩:∃ PS:World->Prop,PS=fun w'=>w'.cell? ⟨lb,3,none⟩=some uv/\w'.cell? ⟨lb,4,none⟩=some nv/\∀ (p:Addr) (x:Value),p.block<lb->wr.cell? p=some x->w'.cell? p=some x:=⟨_,rfl⟩
      have HPF:∀ (a b:Value) (k1 k2:Nat) (x y:List Value) (W:World),UF w6 lb ⟨h.buses,L,O,⟨some ad,un,uc⟩,⟨some na,un,nc⟩,B⟩ uv nv a b k1 k2 x y W->PS W:=fun a b k1 k2 x y W F=>by
       rw [hPS]; exact ⟨F.c3,F.c4,fun p x hp hx=>((F.low.cell hp).trans (hF.low.cell hp).symm).trans hx⟩
      have HPs:=hdq hPS;clear hPS;refine zAp 14 (fun fl w'=>fl=false->PS w') (by kernel_rfl) ?_;have hP0:PS wr.drew:=HPF _ _ _ _ _ _ _ hF.drew;refine tx1 0 (fun _=>hP0) ?_;refine tkW 1 (uv) (fun w' hSw=>?_) (fun _=>hP0) ?_
      ·(replace hSw:=hSw rfl; rw [HPs.out] at hSw; obtain ⟨s3,s4,so⟩:=hSw; go_simp; try with_reducible rfl)
      simp only [zz];refine tx1 2 (fun _=>hP0) ?_;refine tkW 3 (.slice (some ad) un uc) (fun w' hSw=>?_) (fun _=>hP0) ?_
      ·(replace hSw:=hSw rfl; rw [HPs.out] at hSw; obtain ⟨s3,s4,so⟩:=hSw; have z:=so _ _ hbl c3; clear so; go_simp; try with_reducible rfl)
      simp only [zz];refine tx1 4 (fun _=>hP0) ?_;refine tx1 5 (fun _=>hP0) ?_;refine tkW 6 (.agg #[.int .i64 u.bus,.int .i64 u.min,.slice sA sn sc,.int .i64 u.up,.int .i64 u.down,.int .i64 u.start,.int .i64 u.idle,.int .i64 u.spin,.int .i64 u.on]) (fun w' hSw=>?_) (fun _=>hP0) ?_
      ·(replace hSw:=hSw rfl; rw [HPs.out] at hSw; obtain ⟨s3,s4,so⟩:=hSw; have z0:=so _ _ tq q0; have z1:=so ⟨(ad.add (k*9)).block,_,none⟩ _ tq q1; have z2:=so ⟨(ad.add (k*9)).block,_,none⟩ _ tq q2; have z3:=so ⟨(ad.add (k*9)).block,_,none⟩ _ tq q3; have z4:=so ⟨(ad.add (k*9)).block,_,none⟩ _ tq q4; have z5:=so ⟨(ad.add (k*9)).block,_,none⟩ _ tq q5; have z6:=so ⟨(ad.add (k*9)).block,_,none⟩ _ tq q6; have z7:=so ⟨(ad.add (k*9)).block,_,none⟩ _ tq q7; have z8:=so ⟨(ad.add (k*9)).block,_,none⟩ _ tq q8; clear so q0 q1 q2 q3 q4 q5 q6 q7 q8; go_simp; try with_reducible rfl)
      simp only [zz];refine tx1 9 (fun _=>hP0) ?_;refine tkW 10 (nv) (fun w' hSw=>?_) (fun _=>hP0) ?_
      ·(replace hSw:=hSw rfl; rw [HPs.out] at hSw; obtain ⟨s3,s4,so⟩:=hSw; go_simp; try with_reducible rfl)
      simp only [zz]
      have HNx:Hid (∀ (a b:Value) (W:World),UF w6 lb ⟨h.buses,L,O,⟨some ad,un,uc⟩,⟨some na,un,nc⟩,B⟩ a b a b (ls.length+1) (ls.length+1) (ls.flatten++news) ((List.replicate ls.length (.bool true))++[.bool true]) W->UnI w w6 lb ⟨h.buses,L,O,⟨some ad,un,uc⟩,⟨some na,un,nc⟩,B⟩ h.units h.on un (.int .i64 ((k:Int)+1)) W):=hdq fun a b W F=>by
       have e1:(ls++[news]).length=ls.length+1:=(by simp);have e2:(ls++[news]).flatten=ls.flatten++news:=(by simp);have e3:List.replicate (ls.length+1) (Value.bool true)=List.replicate ls.length (.bool true)++[.bool true]:=List.replicate_succ';refine ⟨k+1,a,b,ls++[news],by omega,by simp,by rw [e1,e2,e3]; exact F,by rw [e1,Hkt.out,List.length_append,Hll2.out]; rfl,fun i hi=>?_⟩;rw [e1] at hi;rw [Hkt.out];by_cases hi2:i<ls.length
       ·rw [Gj.getD_append_left _ _ _ hi2,Gj.getD_append_left _ _ _ (by rw [<-Hll2.out]; exact hi2)]; exact hul i hi2
       ·(obtain rfl:i=ls.length:=by omega);rw [gdd,List.getElem?_append_right (by rw [Hll2.out]; exact nlr _),gdd,List.getElem?_append_right (by rw [Hll2.out]; exact nlr _),Hll2.out,Nat.sub_self];exact hub
      have hnA:∀ (W:World) (j:Nat) (x:Value),news[j]?=some x->(W.alloc (.cells #[.int .i64 u.bus,.int .i64 u.min,.slice sA sn sc,.int .i64 u.up,.int .i64 u.down,.int .i64 u.start,.int .i64 u.idle,.int .i64 u.spin,.int .i64 u.on] 45)).cell? (Addr.add ⟨W,0,none⟩ j)=some x:=fun W j x hj=>by
       rw [Hnw.out] at hj;exact zZ2 W _ [.int .i64 u.bus,.int .i64 u.min,.slice sA sn sc,.int .i64 u.up,.int .i64 u.down,.int .i64 u.start,.int .i64 u.idle,.int .i64 u.spin,.int .i64 u.on] rfl j x hj
      clear hul hub;refine twoW (i:=7) (j:=11) (by kernel_rfl) rfl rfl (by rfl) (by rfl) ?_ ?_
      ·intro K hK;go_simp;have F1:=(hF.alloc (.cells #[.int .i64 u.bus,.int .i64 u.min,.slice sA sn sc,.int .i64 u.up,.int .i64 u.down,.int .i64 u.start,.int .i64 u.idle,.int .i64 u.spin,.int .i64 u.on] 45)).drew;refine hK.out _ _ (fun _=>HPF _ _ _ _ _ _ _ F1) ?_;clear hK K;refine zZP (fun W=>UF w6 lb ⟨h.buses,L,O,⟨some ad,un,uc⟩,⟨some na,un,nc⟩,B⟩ uv nv uv nv ls.length ls.length ls.flatten (List.replicate ls.length (.bool true)) W/\∀ j x,news[j]?=some x->W.cell? (Addr.add ⟨wr,0,none⟩ j)=some x) ⟨F1,hnA wr⟩ ?_;rintro W1 ⟨F1,hA1⟩;refine twoW (i:=8) (j:=11) (by kernel_rfl) rfl rfl (by rfl) (by rfl) ?_ ?_
       ·skip
        intro K hK;refine zAq _ _ 26 rfl (lb+1) 45 iu0 (.agg #[.int .i64 0,.int .i64 0,.slice none 0 0,.int .i64 0,.int .i64 0,.int .i64 0,.int .i64 0,.int .i64 0,.int .i64 0]) 9 88 Tryz.underlying26 hiu hzu0 hzu1 hzu2 rfl (by decide) uv ls.length ls.flatten rfl F1.u ⟨wr,0,none⟩ 1 1 news rfl hnl hA1 hn1 (by simp [maxLen]; omega) (by omega) F1.sz ?_;intro v8 W8 hown8 hg8 hnil8 hat8;obtain ⟨g8,c8,rfl⟩:=ownsRow_succ hown8;have F8:=F1.growU hown8 hg8;simp only [Act.put,zz];refine hK.out _ _ (fun _=>HPF _ _ _ _ _ _ _ F8) ?_;clear hK K;refine zZP (fun W=>UF w6 lb ⟨h.buses,L,O,⟨some ad,un,uc⟩,⟨some na,un,nc⟩,B⟩ uv nv (.slice (some g8) (ls.length+1) c8) nv (ls.length+1) ls.length (ls.flatten++news) (List.replicate ls.length (.bool true)) W) F8 ?_;rintro W2 F2;refine tx1 13 (fun _=>HPF _ _ _ _ _ _ _ F2) ?_;clear hown8 hg8 hnil8 hat8 F8;refine tk1 11 ?_;intro K hK;go_simp;have F3:=F2.alloc (.cells #[.bool true] 4);have hC3:∀ j x,([.bool true]:List Value)[j]?=some x->(W2.alloc (.cells #[.bool true] 4)).cell? (Addr.add ⟨W2,0,none⟩ j)=some x:=cell_one_new _ _ _;refine hK.out _ _ (fun _=>HPF _ _ _ _ _ _ _ F3) ?_;clear hK K;refine zZP (fun W=>UF w6 lb ⟨h.buses,L,O,⟨some ad,un,uc⟩,⟨some na,un,nc⟩,B⟩ uv nv (.slice (some g8) (ls.length+1) c8) nv (ls.length+1) ls.length (ls.flatten++news) (List.replicate ls.length (.bool true)) W/\∀ j x,([.bool true]:List Value)[j]?=some x->W.cell? (Addr.add ⟨W2,0,none⟩ j)=some x) ⟨F3,hC3⟩ ?_;rintro W3 ⟨F4,hC4⟩;refine tk1 12 ?_;intro K hK;refine zAq _ _ 27 rfl (lb+1) 4 ib0 (.bool false) 1 1 Tryz.underlying27 hib hzb0 hzb1 hzb2 rfl (by decide) nv ls.length (List.replicate ls.length (.bool true)) rfl F4.n ⟨W2,0,none⟩ 1 1 [.bool true] rfl rfl hC4 (by intro x hx; simp at hx; subst hx; rfl) (by simp [maxLen]; omega) (by omega) F4.sz ?_;intro v9 W9 hown9 hg9 hnil9 hat9;obtain ⟨g9,c9,rfl⟩:=ownsRow_succ hown9;have F9:=F4.growN hown9 hg9;simp only [Act.put,zz];refine hK.out _ _ (fun _=>HPF _ _ _ _ _ _ _ F9) ?_;clear hK K hown9 hg9 hnil9 hat9;refine zZP (fun W=>UF w6 lb ⟨h.buses,L,O,⟨some ad,un,uc⟩,⟨some na,un,nc⟩,B⟩ uv nv (.slice (some g8) (ls.length+1) c8) (.slice (some g9) (ls.length+1) c9) (ls.length+1) (ls.length+1) (ls.flatten++news) ((List.replicate ls.length (.bool true))++[.bool true]) W) F9 ?_;rintro Wd F10;have hPd:=HPF _ _ _ _ _ _ _ F10;have d3:=F10.c3;have d4:=F10.c4;have df:=F10.frozen;have dl:lb<Wd.heap.size:=F10.sz;have HF11:=hdq ((F10.storeU (.slice (some g8) (ls.length+1) c8)).storeN (.slice (some g9) (ls.length+1) c9));clear F10;refine tk1 14 ?_;intro K hK;go_simp;refine hK.out _ _ (fun h=>absurd h (by decide)) ?_;clear hK K;refine tx1 15 (fun h=>absurd h (by decide)) ?_;refine tk1 16 ?_;intro K hK;go_simp;refine hK.out _ _ (fun h=>absurd h (by decide)) ?_;clear hK K;refine zAf (by kernel_rfl) ?_ _;have HN:Hid (UnI w w6 lb ⟨h.buses,L,O,⟨some ad,un,uc⟩,⟨some na,un,nc⟩,B⟩ h.units h.on un (.int .i64 ((k:Int)+1)) ((Wd.setCell ⟨lb,3,none⟩ (.slice (some g8) (ls.length+1) c8)).setCell ⟨lb,4,none⟩ (.slice (some g9) (ls.length+1) c9))):=HNx.out _ _ _ HF11.out;clear HF11 d3 d4 df dl hPd;go_wp2;go_roundw;case rel=>first | exact HN.out | ((repeat apply Exists.intro); exact ⟨HN.out,rfl⟩)
        case measure=>simp [intOf]; omega
       ·intro K hK;go_simp;have F3:=F1.alloc (.cells #[.bool true] 4);have hC3:∀ j x,([.bool true]:List Value)[j]?=some x->(W1.alloc (.cells #[.bool true] 4)).cell? (Addr.add ⟨W1,0,none⟩ j)=some x:=cell_one_new _ _ _;refine hK.out _ _ (fun _=>HPF _ _ _ _ _ _ _ F3) ?_;clear hK K;refine zZP (fun W=>UF w6 lb ⟨h.buses,L,O,⟨some ad,un,uc⟩,⟨some na,un,nc⟩,B⟩ uv nv uv nv ls.length ls.length ls.flatten (List.replicate ls.length (.bool true)) W/\(∀ j x,news[j]?=some x->W.cell? (Addr.add ⟨wr,0,none⟩ j)=some x)/\(∀ j x,([.bool true]:List Value)[j]?=some x->W.cell? (Addr.add ⟨W1,0,none⟩ j)=some x)/\W.heap[W1.heap.size]?=some (.cells #[.bool true] 4 (0,0))) ⟨F3,fun j x hj=>((brf W1 W1).alloc (nlr _) _).cell (by rw [zAj]; have:=zAb (hA1 0 (news.getD 0 undef) (by rw [Hnw.out]; rfl)); rwa [zAj] at this) |>.trans (hA1 j x hj),hC3,zAd _ _ rfl⟩ ?_;rintro W3 ⟨F4,hA4,hC4,hh4⟩;refine tk1 8 ?_;intro K hK;refine zAq _ _ 26 rfl (lb+1) 45 iu0 (.agg #[.int .i64 0,.int .i64 0,.slice none 0 0,.int .i64 0,.int .i64 0,.int .i64 0,.int .i64 0,.int .i64 0,.int .i64 0]) 9 88 Tryz.underlying26 hiu hzu0 hzu1 hzu2 rfl (by decide) uv ls.length ls.flatten rfl F4.u ⟨wr,0,none⟩ 1 1 news rfl hnl hA4 hn1 (by simp [maxLen]; omega) (by omega) F4.sz ?_;intro v8 W8 hown8 hg8 hnil8 hat8;obtain ⟨g8,c8,rfl⟩:=ownsRow_succ hown8;have F8:=F4.growU hown8 hg8;simp only [Act.put,zz];refine hK.out _ _ (fun _=>HPF _ _ _ _ _ _ _ F8) ?_;clear hK K;refine zZP (fun W=>UF w6 lb ⟨h.buses,L,O,⟨some ad,un,uc⟩,⟨some na,un,nc⟩,B⟩ uv nv (.slice (some g8) (ls.length+1) c8) nv (ls.length+1) ls.length (ls.flatten++news) (List.replicate ls.length (.bool true)) W/\∀ j x,([.bool true]:List Value)[j]?=some x->W.cell? (Addr.add ⟨W1,0,none⟩ j)=some x) ⟨F8,fun j x hj=>(cob (by rw [zAj]; exact hg8.block _ (zAa hh4) fun e=>by obtain ⟨_,cs,h8⟩:=zAc F4.u e.symm; exact zXA h8 hh4 (by decide))).trans (hC4 j x hj)⟩ ?_;rintro W5 ⟨F5,hC5⟩;refine tx1 13 (fun _=>HPF _ _ _ _ _ _ _ F5) ?_;clear hown8 hg8 hnil8 hat8 F8;refine tk1 12 ?_;intro K hK;refine zAq _ _ 27 rfl (lb+1) 4 ib0 (.bool false) 1 1 Tryz.underlying27 hib hzb0 hzb1 hzb2 rfl (by decide) nv ls.length (List.replicate ls.length (.bool true)) rfl F5.n ⟨W1,0,none⟩ 1 1 [.bool true] rfl rfl hC5 (by intro x hx; simp at hx; subst hx; rfl) (by simp [maxLen]; omega) (by omega) F5.sz ?_;intro v9 W9 hown9 hg9 hnil9 hat9;obtain ⟨g9,c9,rfl⟩:=ownsRow_succ hown9;have F9:=F5.growN hown9 hg9;simp only [Act.put,zz];refine hK.out _ _ (fun _=>HPF _ _ _ _ _ _ _ F9) ?_;clear hK K hown9 hg9 hnil9 hat9;refine zZP (fun W=>UF w6 lb ⟨h.buses,L,O,⟨some ad,un,uc⟩,⟨some na,un,nc⟩,B⟩ uv nv (.slice (some g8) (ls.length+1) c8) (.slice (some g9) (ls.length+1) c9) (ls.length+1) (ls.length+1) (ls.flatten++news) ((List.replicate ls.length (.bool true))++[.bool true]) W) F9 ?_;rintro Wd F10;have hPd:=HPF _ _ _ _ _ _ _ F10;have d3:=F10.c3;have d4:=F10.c4;have df:=F10.frozen;have dl:lb<Wd.heap.size:=F10.sz;have HF11:=hdq ((F10.storeU (.slice (some g8) (ls.length+1) c8)).storeN (.slice (some g9) (ls.length+1) c9));clear F10;refine tk1 14 ?_;intro K hK;go_simp;refine hK.out _ _ (fun h=>absurd h (by decide)) ?_;clear hK K;refine tx1 15 (fun h=>absurd h (by decide)) ?_;refine tk1 16 ?_;intro K hK;go_simp;refine hK.out _ _ (fun h=>absurd h (by decide)) ?_;clear hK K;refine zAf (by kernel_rfl) ?_ _;have HN:Hid (UnI w w6 lb ⟨h.buses,L,O,⟨some ad,un,uc⟩,⟨some na,un,nc⟩,B⟩ h.units h.on un (.int .i64 ((k:Int)+1)) ((Wd.setCell ⟨lb,3,none⟩ (.slice (some g8) (ls.length+1) c8)).setCell ⟨lb,4,none⟩ (.slice (some g9) (ls.length+1) c9))):=HNx.out _ _ _ HF11.out;clear HF11 d3 d4 df dl hPd;go_wp2;go_roundw;case rel=>first | exact HN.out | ((repeat apply Exists.intro); exact ⟨HN.out,rfl⟩)
        case measure=>simp [intOf]; omega
      ·intro K hK;go_simp;have F3:=(hF.alloc (.cells #[.bool true] 4)).drew;have hC3:∀ j x,([.bool true]:List Value)[j]?=some x->(wr.alloc (.cells #[.bool true] 4)).drew.cell? (Addr.add ⟨wr,0,none⟩ j)=some x:=cell_one_new _ _ _;refine hK.out _ _ (fun _=>HPF _ _ _ _ _ _ _ F3) ?_;clear hK K;refine zZP (fun W=>UF w6 lb ⟨h.buses,L,O,⟨some ad,un,uc⟩,⟨some na,un,nc⟩,B⟩ uv nv uv nv ls.length ls.length ls.flatten (List.replicate ls.length (.bool true)) W/\(∀ j x,([.bool true]:List Value)[j]?=some x->W.cell? (Addr.add ⟨wr,0,none⟩ j)=some x)/\W.heap[wr.heap.size]?=some (.cells #[.bool true] 4 (0,0))) ⟨F3,hC3,zAd _ _ rfl⟩ ?_;rintro W1 ⟨F1,hC1,hh1⟩;refine tk1 7 ?_;intro K hK;go_simp;have F2:=F1.alloc (.cells #[.int .i64 u.bus,.int .i64 u.min,.slice sA sn sc,.int .i64 u.up,.int .i64 u.down,.int .i64 u.start,.int .i64 u.idle,.int .i64 u.spin,.int .i64 u.on] 45);refine hK.out _ _ (fun _=>HPF _ _ _ _ _ _ _ F2) ?_;clear hK K;refine zZP (fun W=>UF w6 lb ⟨h.buses,L,O,⟨some ad,un,uc⟩,⟨some na,un,nc⟩,B⟩ uv nv uv nv ls.length ls.length ls.flatten (List.replicate ls.length (.bool true)) W/\(∀ j x,news[j]?=some x->W.cell? (Addr.add ⟨W1,0,none⟩ j)=some x)/\(∀ j x,([.bool true]:List Value)[j]?=some x->W.cell? (Addr.add ⟨wr,0,none⟩ j)=some x)/\W.heap[wr.heap.size]?=some (.cells #[.bool true] 4 (0,0))) ⟨F2,hnA W1,fun j x hj=>((brf W1 W1).alloc (nlr _) _).cell (by rw [zAj]; exact zAa hh1) |>.trans (hC1 j x hj),alk hh1⟩ ?_;rintro W3 ⟨F4,hA4,hC4,hh4⟩;refine tk1 8 ?_;intro K hK;refine zAq _ _ 26 rfl (lb+1) 45 iu0 (.agg #[.int .i64 0,.int .i64 0,.slice none 0 0,.int .i64 0,.int .i64 0,.int .i64 0,.int .i64 0,.int .i64 0,.int .i64 0]) 9 88 Tryz.underlying26 hiu hzu0 hzu1 hzu2 rfl (by decide) uv ls.length ls.flatten rfl F4.u ⟨W1,0,none⟩ 1 1 news rfl hnl hA4 hn1 (by simp [maxLen]; omega) (by omega) F4.sz ?_;intro v8 W8 hown8 hg8 hnil8 hat8;obtain ⟨g8,c8,rfl⟩:=ownsRow_succ hown8;have F8:=F4.growU hown8 hg8;simp only [Act.put,zz];refine hK.out _ _ (fun _=>HPF _ _ _ _ _ _ _ F8) ?_;clear hK K;refine zZP (fun W=>UF w6 lb ⟨h.buses,L,O,⟨some ad,un,uc⟩,⟨some na,un,nc⟩,B⟩ uv nv (.slice (some g8) (ls.length+1) c8) nv (ls.length+1) ls.length (ls.flatten++news) (List.replicate ls.length (.bool true)) W/\∀ j x,([.bool true]:List Value)[j]?=some x->W.cell? (Addr.add ⟨wr,0,none⟩ j)=some x) ⟨F8,fun j x hj=>(cob (by rw [zAj]; exact hg8.block _ (zAa hh4) fun e=>by obtain ⟨_,cs,h8⟩:=zAc F4.u e.symm; exact zXA h8 hh4 (by decide))).trans (hC4 j x hj)⟩ ?_;rintro W5 ⟨F5,hC5⟩;refine tx1 13 (fun _=>HPF _ _ _ _ _ _ _ F5) ?_;clear hown8 hg8 hnil8 hat8 F8;refine tk1 12 ?_;intro K hK;refine zAq _ _ 27 rfl (lb+1) 4 ib0 (.bool false) 1 1 Tryz.underlying27 hib hzb0 hzb1 hzb2 rfl (by decide) nv ls.length (List.replicate ls.length (.bool true)) rfl F5.n ⟨wr,0,none⟩ 1 1 [.bool true] rfl rfl hC5 (by intro x hx; simp at hx; subst hx; rfl) (by simp [maxLen]; omega) (by omega) F5.sz ?_;intro v9 W9 hown9 hg9 hnil9 hat9;obtain ⟨g9,c9,rfl⟩:=ownsRow_succ hown9;have F9:=F5.growN hown9 hg9;simp only [Act.put,zz];refine hK.out _ _ (fun _=>HPF _ _ _ _ _ _ _ F9) ?_;clear hK K hown9 hg9 hnil9 hat9;refine zZP (fun W=>UF w6 lb ⟨h.buses,L,O,⟨some ad,un,uc⟩,⟨some na,un,nc⟩,B⟩ uv nv (.slice (some g8) (ls.length+1) c8) (.slice (some g9) (ls.length+1) c9) (ls.length+1) (ls.length+1) (ls.flatten++news) ((List.replicate ls.length (.bool true))++[.bool true]) W) F9 ?_;rintro Wd F10;have hPd:=HPF _ _ _ _ _ _ _ F10;have d3:=F10.c3;have d4:=F10.c4;have df:=F10.frozen;have dl:lb<Wd.heap.size:=F10.sz;have HF11:=hdq ((F10.storeU (.slice (some g8) (ls.length+1) c8)).storeN (.slice (some g9) (ls.length+1) c9));clear F10;refine tk1 14 ?_;intro K hK;go_simp;refine hK.out _ _ (fun h=>absurd h (by decide)) ?_;clear hK K;refine tx1 15 (fun h=>absurd h (by decide)) ?_;refine tk1 16 ?_;intro K hK;go_simp;refine hK.out _ _ (fun h=>absurd h (by decide)) ?_;clear hK K;refine zAf (by kernel_rfl) ?_ _;have HN:Hid (UnI w w6 lb ⟨h.buses,L,O,⟨some ad,un,uc⟩,⟨some na,un,nc⟩,B⟩ h.units h.on un (.int .i64 ((k:Int)+1)) ((Wd.setCell ⟨lb,3,none⟩ (.slice (some g8) (ls.length+1) c8)).setCell ⟨lb,4,none⟩ (.slice (some g9) (ls.length+1) c9))):=HNx.out _ _ _ HF11.out;clear HF11 d3 d4 df dl hPd;go_wp2;go_roundw;case rel=>first | exact HN.out | ((repeat apply Exists.intro); exact ⟨HN.out,rfl⟩)
       case measure=>simp [intOf]; omega
    ·(obtain rfl:k=un:=by omega);have hB:Below w w wr:=HN6.out.low.trans (hF.low.mono hwl)
     have hkp:keep (h.units.take k) (h.on.take k)=keep h.units h.on:=by
      have e1:h.units.length=k:=Hul.out;have e2:h.on.length=k:=Hnl.out;rw [<-e1,List.take_length,e1,<-e2,List.take_length]
     rw [hkp] at hll hul;obtain ⟨⟨vA,vn,vc⟩,rfl,hUs⟩:=zZ6 hF.u hll hul hB;obtain ⟨⟨oA',on',oc'⟩,rfl,hNs⟩:=zZ5 hF.n hll
     have HV:Hid (HrAt wr ⟨h.buses,L,O,⟨vA,vn,vc⟩,⟨oA',on',oc'⟩,B⟩ (less h)):=hdq (by
      have h1:=HA.out.below hB;exact ⟨rfl,h1.L,h1.O,hUs,hNs,h1.B⟩)
     have HBl:=hdq (zU3 HV.out);dsimp only [HrV.val] at HBl;have b0:wr.cell? lb=some (.int .i64 h.buses):=(by simp [World.cell?,hF.blk]);have b1:wr.cell? ⟨lb,1,none⟩=some (.slice L.A L.n L.c):=(by simp [World.cell?,hF.blk]);have b2:wr.cell? ⟨lb,2,none⟩=some (.slice O.A O.n O.c):=(by simp [World.cell?,hF.blk]);have b3:wr.cell? ⟨lb,3,none⟩=some (.slice vA vn vc):=hF.c3;have b4:wr.cell? ⟨lb,4,none⟩=some (.slice oA' on' oc'):=hF.c4;have b5:wr.cell? ⟨lb,5,none⟩=some (.slice B.A B.n B.c):=(by simp [World.cell?,hF.blk]);have HPr:=hdq (show PBx pb ⟨pn,⟨oA,on,oc⟩,⟨rA,rn,rc⟩,⟨bA,bn,bc⟩⟩ wr from ⟨low6 _ _ hpl HP6.out.c0,low6 _ _ hpl HP6.out.c1,low6 _ _ hpl HP6.out.c2,low6 _ _ hpl HP6.out.c3⟩);have hk6:∀ a:Addr,a.block<w5->a.block<w6->wr.cell? a=w6.cell? a:=(fun a ha _=>hF.low.cell (by rw [Hlb.out]; exact ha));have HPm:Hid (MatCan wr AllB AllB ⟨oA,on,oc⟩ [obj (vars h)]/\MatCan wr AllB AllB ⟨rA,rn,rc⟩ ((rows h m).map Prod.fst)/\VecCan wr AllB AllB ⟨bA,bn,bc⟩ ((rows h m).map Prod.snd)):=hdq ⟨(MatAt.keep (R':=QCan wr _) HL6.out.o hk6 fun _ _ hq=>hq.keep hk6).imp (fun _ _ _=>trivial) fun _ _ hq=>hq.imp fun _ _ _=>trivial,(MatAt.keep (R':=QCan wr _) HL6.out.r hk6 fun _ _ hq=>hq.keep hk6).imp (fun _ _ _=>trivial) fun _ _ hq=>hq.imp fun _ _ _=>trivial,(VecAt.keep (R':=QCan wr _) HL6.out.b hk6 fun _ _ hq=>hq.keep hk6).imp (fun _ _ _=>trivial) fun _ _ hq=>hq.imp fun _ _ _=>trivial⟩;have HB:=hdq hB;clear hF hUs hNs hll hul low6 c0 c1 c2 c4 c5 hkp hB hn;(go_wp2_with fail);refine HBl.out.mono ?_;rintro e w9 ⟨hR,hb9⟩;rcases hR with ⟨h9,-⟩ | ⟨-,q,m2,rfl,hQ⟩
     ·exact absurd (yAd H0.out) h9
     have hmm:m2=m:=by
      have h1:=hQ.hinv;rw [zZ9,HM6.out] at h1;cases h1; rfl
     subst hmm;have hqn:q.n=pn:=(by rw [hQ.n,Hpn.out,zZZ]);have hq1:=hQ.imp (X':=AllB) fun _ _ _=>trivial
     obtain ⟨qn,⟨qOA,qon,qoc⟩,⟨qA,qrn,qrc⟩,⟨qBA,qbn,qbc⟩⟩:=q;dsimp only at hqn;subst hqn;have al9:=(brf w9 w9).alloc (nlr _) (.cells #[.int .i64 qn,.slice qOA qon qoc,.slice qA qrn qrc,.slice qBA qbn qbc] 36);have HQb:=PBx.new w9 ⟨qn,⟨qOA,qon,qoc⟩,⟨qA,qrn,qrc⟩,⟨qBA,qbn,qbc⟩⟩;have HPb:=(HPr.out.below hb9).below al9;have hb10:=hb9.trans (al9.mono hb9.size);obtain ⟨m1,m2',m3⟩:=HPm.out;have r1:=hq1.o.belowC al9;have r2:=hq1.r.belowC al9;have r3:=hq1.b.belowC al9;rw [yAc] at r1;rw [zZ4] at r2 r3;have HIs:=hdq (zZn (p:=⟨qn,⟨oA,on,oc⟩,⟨rA,rn,rc⟩,⟨bA,bn,bc⟩⟩) (q:=⟨qn,⟨qOA,qon,qoc⟩,⟨qA,qrn,qrc⟩,⟨qBA,qbn,qbc⟩⟩) rfl (m1.belowC hb10) (m2'.belowC hb10) (m3.belowC hb10) r1 r2 r3);have HF:=hdq (HB.out.trans (hb10.mono HB.out.size));dsimp only [LPV.val] at HIs ⊢;obtain ⟨p0,p1,p2,p3⟩:=HPb;obtain ⟨q0,q1,q2,q3⟩:=HQb;dsimp only at p0 p1 p2 p3 q0 q1 q2 q3;clear hb9 hQ hq1 al9 m1 m2' m3 r1 r2 r3 hb10 b0 b1 b2 b3 b4 b5;(go_upto_region 13 with fail);generalize w9.alloc (.cells #[.int .i64 qn,.slice qOA qon qoc,.slice qA qrn qrc,.slice qBA qbn qbc] 36)=w10 at *;(go_wp2_with fail);refine HIs.out.mono ?_;rintro e w11 ⟨rfl,hb11⟩;have HF2:=hdq (HF.out.trans (hb11.mono HF.out.size));clear hb11;go_wp2;go_ret;exact ⟨rfl,HF2.out⟩
end Mo
end Go.Proofs.YtjancagcmghfjaaGreat
