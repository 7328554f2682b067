/- Texts McPrS MqC MqH of this claim. -/
import Derived.Test.YtjancagcmghfjaaGreatX34
set_option maxHeartbeats 4000000
set_option maxRecDepth 40000
namespace Go.Proofs.YtjancagcmghfjaaGreat
open Go.RowKit Go.Shelf
variable {z:Int} {X Y X' Y':Nat->Prop} {w:World} {q:Rat}
def SmX (w W0:World) (n:Nat) (t:Value) (W:World):Prop:=∃ k:Nat,k<=n/\t = .int .i64 k/\Below w w W/\Below W0 W0 W
theorem zE6 {a b:ZV} (ha:ZAt w X a.ng a.A a.n a.c z) (hb:ZAt w Y b.ng b.A b.n b.c z) :
  Calls Tryz.prog 152 #[.agg #[.bool a.ng,.slice a.A a.n a.c],.agg #[.bool b.ng,.slice b.A b.n b.c]] w fun e w'=>e = .returned (.bool true)/\Below w w w':=by
 obtain ⟨ag,aA,n,ac⟩:=a;obtain ⟨bg,bA,m,bc⟩:=b;dsimp only at ha hb ⊢;have e1:=ha.sign;have e2:=hb.sign;obtain rfl:bg=ag:=e2.trans e1.symm;have l1:=ha.words.len;have l2:=hb.words.len;obtain rfl:m=n:=l2.symm.trans l1;have hle:=ha.words.le;have hcap:=ha.words.cap;have hle2:=hb.words.le;have hcap2:=hb.words.cap;have HA:=hdq ha.words;have HB:=hdq hb.words;have hbb:(bg != bg)=false:=by cases bg <;> rfl
 have hnn:((m:Int) != (m:Int))=false:=by simp
 clear ha hb l1 l2 e1 e2;go_enter Tryz.func152,Tryz.ntmps152
 go_wp2;refine zAo (fun W=>Below w w W/\Box2 W w (.bool bg) (.slice aA m ac)/\Box2 W (w+1) (.bool bg) (.slice bA m bc)/\w.heap.size<W.heap.size/\w.heap.size+1<W.heap.size) ⟨(az (az (brf _ _))),bx2,bx2,by simp <;> omega,by simp <;> omega⟩ ?_;rintro W ⟨hbW,bX,bY,s0,s1⟩;have hBW:=hbW.size;have HX:=hdq bX;have HY:=hdq bY;clear bX bY hbb hnn;have H0:SmX w W m (.int .i64 0) W:=⟨0,nzl _,rfl,hbW,brf _ _⟩;have hBW':=hdq hBW;clear hbW hBW;go_loopw [5] (fun t W'=>SmX w W m t W') (fun t _=>m-(intOf t).toNat)
 case atStart=>exact H0
 case round=>
  clear H0;obtain ⟨k,hk,rfl,hB,hBW⟩:=hrel;obtain ⟨x0,x1,-⟩:=HX.out.below hBW s0;obtain ⟨y0,y1,-⟩:=HY.out.below hBW s1;by_cases hlt:k<m
  ·obtain ⟨a1,rfl,-,hc⟩:=HA.out.cell k hlt;obtain ⟨b1,rfl,-,hd⟩:=HB.out.cell k hlt;rw [<-hB.cell (zAb hc)] at hc;rw [<-hB.cell (zAb hd)] at hd;generalize (Num.words z.natAbs).getD k 0=x at *;have hkk:(k:Int)<(m:Int):=(by omega);have hk0:(0:Int)<=(k:Int):=(by omega);have hxx:((x:Int) != (x:Int))=false:=(by simp);have HB2:=hdq (And.intro hB hBW);clear hB hBW HA HB HX HY x0 y0;go_wp2;(go_quiet (fail));go_wp2;go_roundw;case rel=>exact ⟨k+1,by omega,by simp,zAB HB2.out.1 _,zAB HB2.out.2 _⟩
   case measure=>simp [intOf]; omega
  ·have hkk:¬ (k:Int)<(m:Int):=(by omega);have HB2:=hdq hB;clear hB hBW HX HY x0 y0;go_wp2;go_ret;exact ⟨rfl,HB2.out⟩
theorem zEz {a b:QV} (ha:QCan w X a q) (hb:QCan w Y b q) :
  Calls Tryz.prog 102 #[a.val,b.val] w fun e w'=>e = .returned (.bool true)/\Below w w w':=by
 go_enter Tryz.func102,Tryz.ntmps102
 go_wp2_with fail
 refine zAg (fun W=>Below w w W/\Box4 W w (.bool a.num.ng) (.slice a.num.A a.num.n a.num.c) (.bool a.den.ng) (.slice a.den.A a.den.n a.den.c)/\Box4 W (w+1) (.bool b.num.ng) (.slice b.num.A b.num.n b.num.c) (.bool b.den.ng) (.slice b.den.A b.den.n b.den.c)/\w.heap.size<W.heap.size/\w.heap.size+1<W.heap.size) ⟨(az (az (brf _ _))),bx4,bx4,by simp <;> omega,by simp <;> omega⟩ ?_;rintro W ⟨hbW,bX,bY,s0,s1⟩;have hBW:=hbW.size;refine (zE6 (ha.below hbW).1 (hb.below hbW).1).mono ?_; rintro e w1 ⟨rfl,hb1⟩
 have HA:=hdq (ha.below (hbW.trans (hb1.mono hBW)));have HB:=hdq (hb.below (hbW.trans (hb1.mono hBW)));obtain ⟨x0,x1,x2,x3,-⟩:=bX.below hb1 s0;obtain ⟨y0,y1,y2,y3,-⟩:=bY.below hb1 s1;have HW:=hdq (hbW.trans (hb1.mono hBW));clear bX bY hb1 hbW hBW ha hb;go_wp2_with fail
 refine (zE6 HA.out.2 HB.out.2).mono ?_; rintro e w2 ⟨rfl,hb2⟩
 have hbf:=HW.out.trans (hb2.mono HW.out.size);go_wp2;go_ret;exact ⟨rfl,hbf⟩
def IsX (w:World) (n:Nat) (t:Value) (W:World):Prop:=∃ k:Nat,k<=n/\t = .int .i64 k/\Below w w W
theorem zE5 {a b:SV} {l:List Rat} (ha:VecCan w X Y a l) (hb:VecCan w X' Y' b l) :
  Calls Tryz.prog 54 #[a.val,b.val] w fun e w'=>e = .returned (.bool true)/\Below w w w':=by
 obtain ⟨A,n,c⟩:=a;obtain ⟨B,m,d⟩:=b;have l1:l.length=n:=ha.len;have l2:l.length=m:=hb.len;obtain rfl:m=n:=l2.symm.trans l1;have hle:m<=c:=ha.le;have hcap:c<=9223372036854775807:=ha.cap;have hle2:m<=d:=hb.le;have hcap2:d<=9223372036854775807:=hb.cap;have HA:=hdq ha;have HB:=hdq hb;have hnn:((m:Int) != (m:Int))=false:=by simp
 clear ha hb l1 l2;dsimp only [SV.val];go_enter Tryz.func54,Tryz.ntmps54
 go_wp2;have H0:IsX w m (.int .i64 0) w:=⟨0,nzl _,rfl,brf _ _⟩;clear hnn;go_loopw [5] (fun t W'=>IsX w m t W') (fun t _=>m-(intOf t).toNat)
 case atStart=>exact H0
 case round=>
  clear H0;obtain ⟨k,hk,rfl,hB⟩:=hrel;by_cases hlt:k<m
  ·obtain ⟨ad,u,rfl,-,hp,hu⟩:=HA.out.elem k hlt;obtain ⟨bd,v,rfl,-,hq,hv⟩:=HB.out.elem k hlt;have ta:ad.block<w:=by have:=zAb hp.1; rwa [zAj] at this
   have tb:bd.block<w:=by have:=zAb hq.1; rwa [zAj] at this
   (obtain ⟨p0,p1,p2,p3⟩:=hp.keep (w':=_) fun a ha hl=>hB.cell (by rw [ha]; exact hl));(obtain ⟨q0,q1,q2,q3⟩:=hq.keep (w':=_) fun a ha hl=>hB.cell (by rw [ha]; exact hl));have la:=zAb p0;have lb:=zAb q0;have hkk:(k:Int)<(m:Int):=(by omega);have hk0:(0:Int)<=(k:Int):=(by omega);have HB2:=hdq hB;have HU:=hdq (hu.below hB);have HV:=hdq (hv.below hB);have bW:=hB.size;clear hB HA HB hu hv;(go_upto_region 6 with fail);refine zAp 1000 (fun _ w'=>Sees w [] wr w') (by kernel_rfl) ?_;have hS0:Sees w [] wr wr.drew:=Sees.st (by simp) bW;refine tx4 0 1 2 3 hS0 ?_;refine tx4 4 5 6 7 hS0 ?_;refine tk1 8 ?_;intro K hK;go_simp;refine (zEz (HU.out.below hS0.kept.whole) (HV.out.below hS0.kept.whole)).mono ?_;rintro e w2 ⟨rfl,hb2⟩;have hS1:=Kept.call2 hb2 hS0;refine hK.out _ _ hS1 ?_;clear hK K hS0 hb2;refine tx1 9 hS1 ?_;refine zAf (by kernel_rfl) ?_ _;have HBf:=hdq (HB2.out.trans (hS1.kept.whole.mono bW));clear hS1 HB2 p0 p1 p2 p3 q0 q1 q2 q3;go_wp2;go_roundw;case rel=>exact ⟨k+1,by omega,by simp,HBf.out⟩
   case measure=>simp [intOf]; omega
  ·have hkk:¬ (k:Int)<(m:Int):=(by omega);have HB2:=hdq hB;clear hB;go_wp2;go_ret;exact ⟨rfl,HB2.out⟩
namespace Mo
theorem zZb {w:World} {X Y X' Y':Nat->Prop} {a b:SV} {l:List (List Rat)} (ha:MatCan w X Y a l) (hb:MatCan w X' Y' b l) :
  Calls Tryz.prog 53 #[a.val,b.val] w fun e w'=>e = .returned (.bool true)/\Below w w w':=by
 obtain ⟨A,n,c⟩:=a;obtain ⟨B,m,d⟩:=b;have l1:l.length=n:=ha.len;have l2:l.length=m:=hb.len;obtain rfl:m=n:=l2.symm.trans l1;have hle:m<=c:=ha.le;have hcap:c<=9223372036854775807:=ha.cap;have hle2:m<=d:=hb.le;have hcap2:d<=9223372036854775807:=hb.cap;have HA:=hdq ha;have HB:=hdq hb;have hnn:((m:Int) != (m:Int))=false:=by simp
 clear ha hb l1 l2;dsimp only [SV.val];go_enter Tryz.func53,Tryz.ntmps53
 go_wp2;have H0:IsX w m (.int .i64 0) w:=⟨0,nzl _,rfl,brf _ _⟩;clear hnn;go_loopw [5] (fun t W'=>IsX w m t W') (fun t _=>m-(intOf t).toNat)
 case atStart=>exact H0
 case round=>
  clear H0;obtain ⟨k,hk,rfl,hB⟩:=hrel;by_cases hlt:k<m
  ·obtain ⟨ad,u,rfl,-,hp,hu⟩:=(HA.out.belowC hB).row k hlt;obtain ⟨bd,v,rfl,-,hq,hv⟩:=(HB.out.belowC hB).row k hlt;have la:=zAb hp;have lb:=zAb hq
   have ta:ad.block<w:=by
    obtain ⟨ad',u',e,-,hp',-⟩:=HA.out.row k hlt;cases e;have:=zAb hp'; rwa [zAj] at this
   have tb:bd.block<w:=by
    obtain ⟨ad',u',e,-,hp',-⟩:=HB.out.row k hlt;cases e;have:=zAb hp'; rwa [zAj] at this
   have hkk:(k:Int)<(m:Int):=(by omega);have hk0:(0:Int)<=(k:Int):=(by omega);have HB2:=hdq hB;have HU:=hdq hu;have HV:=hdq hv;have bW:=hB.size;obtain ⟨uA,un,uc⟩:=u;obtain ⟨vA,vn,vc⟩:=v;dsimp only [SV.val] at hp hq;clear hB HA HB hu hv;(go_upto_region 6 with fail);refine zAp 1000 (fun _ w'=>Sees w [] wr w') (by kernel_rfl) ?_;have hS0:Sees w [] wr wr.drew:=Sees.st (by simp) bW;refine tx4 0 1 2 3 hS0 ?_;refine tx4 4 5 6 7 hS0 ?_;refine tk1 8 ?_;intro K hK;go_simp;refine (zE5 (HU.out.belowC hS0.kept.whole) (HV.out.belowC hS0.kept.whole)).mono ?_;rintro e w2 ⟨rfl,hb2⟩;have hS1:=Kept.call2 hb2 hS0;refine hK.out _ _ hS1 ?_;clear hK K hS0 hb2;refine tx1 9 hS1 ?_;refine zAf (by kernel_rfl) ?_ _;have Hfin:Hid (IsX w m (.int .i64 ((k:Int)+1)) w2):=⟨k+1,by omega,by simp,HB2.out.trans (hS1.kept.whole.mono bW)⟩;clear hS1;go_wp2;go_roundw;case rel=>exact fn_ Hfin.out
   case measure=>simp [intOf]; omega
  ·(obtain rfl:k=m:=by omega);have Hb:=hdq hB;clear hB;go_wp2;go_ret;exact ⟨rfl,Hb.out⟩
theorem zZn {w:World} {X Y:Nat->Prop} {p q:LPV} (hp:p.n=q.n) {os rs:List (List Rat)} {bs:List Rat}
  (po:MatCan w X X p.O os) (pr:MatCan w X X p.R rs) (pb:VecCan w X X p.B bs) (qo:MatCan w Y Y q.O os) (qr:MatCan w Y Y q.R rs) (qb:VecCan w Y Y q.B bs) :
  Calls Tryz.prog 13 #[p.val,q.val] w fun e w'=>e = .returned (.bool true)/\Below w w w':=by
 have HO:=hdq fun W (hb:Below w w W)=>zZb (po.belowC hb) (qo.belowC hb)
 have HR:=hdq fun W (hb:Below w w W)=>zZb (pr.belowC hb) (qr.belowC hb)
 have HB:=hdq fun W (hb:Below w w W)=>zE5 (pb.belowC hb) (qb.belowC hb)
 clear po pr pb qo qr qb;obtain ⟨pn,⟨oA,on,oc⟩,⟨rA,rn,rc⟩,⟨bA,bn,bc⟩⟩:=p;obtain ⟨qn,⟨oB,om,od⟩,⟨rB,rm,rd⟩,⟨bB,bm,bd⟩⟩:=q;dsimp only at hp;subst hp;dsimp only [SV.val] at HO HR HB;dsimp only [LPV.val];go_enter Tryz.func13,Tryz.ntmps13
 go_upto_region 1 with fail
 refine zAo (fun W=>Below w w W/\Box4 W w (.int .i64 pn) (.slice oA on oc) (.slice rA rn rc) (.slice bA bn bc)/\Box4 W (w+1) (.int .i64 pn) (.slice oB om od) (.slice rB rm rd) (.slice bB bm bd)/\w.heap.size<W.heap.size/\w.heap.size+1<W.heap.size) ⟨(az (az (brf _ _))),bx4,bx4,by simp <;> omega,by simp <;> omega⟩ ?_;rintro W ⟨hbW,bP,bQ,s0,s1⟩;have hBW:=hbW.size;obtain ⟨p0,p1,p2,p3,-⟩:=id bP;obtain ⟨q0,q1,q2,q3,-⟩:=id bQ;go_wp2_with fail
 refine (HO.out W hbW).mono ?_;rintro e w1 ⟨rfl,hb1⟩;have c1:Below w w w1:=hbW.trans (hb1.mono hBW);have bP1:=bP.below hb1 s0;have bQ1:=bQ.below hb1 s1;have t1:w.heap.size+1<w1.heap.size:=ltl s1 hb1.size;have t0:w.heap.size<w1.heap.size:=Nat.lt_of_succ_lt t1;have C1:=hdq c1;clear p0 p1 p2 p3 q0 q1 q2 q3 bP bQ hbW hb1 s0 s1 hBW c1;obtain ⟨p0,p1,p2,p3,-⟩:=id bP1;obtain ⟨q0,q1,q2,q3,-⟩:=id bQ1;go_wp2_with fail
 refine (HR.out w1 C1.out).mono ?_;rintro e w2 ⟨rfl,hb2⟩;have c2:Below w w w2:=C1.out.trans (hb2.mono C1.out.size);have bP2:=bP1.below hb2 t0;have bQ2:=bQ1.below hb2 t1;have C2:=hdq c2;clear p0 p1 p2 p3 q0 q1 q2 q3 bP1 bQ1 hb2 c2 t0 t1 C1;obtain ⟨p0,p1,p2,p3,-⟩:=id bP2;obtain ⟨q0,q1,q2,q3,-⟩:=id bQ2;go_wp2_with fail
 refine (HB.out w2 C2.out).mono ?_;rintro e w3 ⟨rfl,hb3⟩;have C3:=hdq (C2.out.trans (hb3.mono C2.out.size));clear p0 p1 p2 p3 q0 q1 q2 q3 bP2 bQ2 hb3 C2;go_wp2;go_ret;exact ⟨rfl,C3.out⟩
end Mo
namespace Mo
end Mo
end Go.Proofs.YtjancagcmghfjaaGreat
