/- Texts McPrS MqC MqH MqJa MqJ of this claim. -/
import Derived.Test.YtjancagcmghfjaaGreatV31
set_option maxHeartbeats 4000000
set_option maxRecDepth 60000
namespace Go.Proofs.YtjancagcmghfjaaGreat
open Go.RowKit Go.Shelf
variable {z:Int} {X Y X' Y':Nat->Prop} {w:World} {q:Rat}
def SmX (w W0:World) (n:Nat) (t:Value) (W:World):Prop:=∃ k:Nat,k<=n/\t = .int .i64 k/\Below w w W/\Below W0 W0 W
theorem zE6 {a b:ZV} (ha:ZAt w X a.ng a.A a.n a.c z) (hb:ZAt w Y b.ng b.A b.n b.c z) :
  Calls Tryz.prog 152 #[.agg #[.bool a.ng,.slice a.A a.n a.c],.agg #[.bool b.ng,.slice b.A b.n b.c]] w fun e w'=>e = .returned (.bool true)/\Below w w w':=by
 obtain ⟨ag,aA,n,ac⟩:=a;obtain ⟨bg,bA,m,bc⟩:=b;dsimp only at ha hb ⊢;have e1:=ha.sign;have e2:=hb.sign;obtain rfl:bg=ag:=e2.trans e1.symm;have l1:=ha.words.len;have l2:=hb.words.len;obtain rfl:m=n:=l2.symm.trans l1;have hle:=ha.words.le;have hcap:=ha.words.cap;have hle2:=hb.words.le;have hcap2:=hb.words.cap;have HA:=hdq ha.words;have HB:=hdq hb.words;have hbb:(bg != bg)=false:=by cases bg <;> rfl
 have hnn:((m:Int) != (m:Int))=false:=by simp
 clear ha hb l1 l2 e1 e2;go_enter Tryz.func152,Tryz.ntmps152
 go_wp2;refine zAo (fun W=>Below w w W/\Box2 W w (.bool bg) (.slice aA m ac)/\Box2 W (w+1) (.bool bg) (.slice bA m bc)/\w.heap.size<W.heap.size/\w.heap.size+1<W.heap.size) ⟨(az (az (brf _ _))),bx2,bx2,by simp <;> omega,by simp <;> omega⟩ ?_;rintro W ⟨hbW,bX,bY,s0,s1⟩;have hBW:=hbW.size;have HX:=hdq bX;have HY:=hdq bY;clear bX bY hbb hnn;have H0:SmX w W m (.int .i64 0) W:=⟨0,nzl _,rfl,hbW,brf _ _⟩;have hBW':=hdq hBW;clear hbW hBW;go_loopw [5] (fun t W'=>SmX w W m t W') (fun t _=>m-(intOf t).toNat)
 case atStart=>exact H0
 case round=>
  clear H0;obtain ⟨k,hk,rfl,hB,hBW⟩:=hrel;obtain ⟨x0,x1,-⟩:=HX.out.below hBW s0;obtain ⟨y0,y1,-⟩:=HY.out.below hBW s1;by_cases hlt:k<m
  ·obtain ⟨a1,rfl,-,hc⟩:=HA.out.cell k hlt;obtain ⟨b1,rfl,-,hd⟩:=HB.out.cell k hlt;rw [<-hB.cell (zAb hc)] at hc;rw [<-hB.cell (zAb hd)] at hd;generalize (Num.words z.natAbs).getD k 0=x at *;have hkk:(k:Int)<(m:Int):=(by omega);have hk0:(0:Int)<=(k:Int):=(by omega);have hxx:((x:Int) != (x:Int))=false:=(by simp);have HB2:=hdq (And.intro hB hBW);clear hB hBW HA HB HX HY x0 y0;go_wp2;(go_quiet (fail));go_wp2;go_roundw;case rel=>exact ⟨k+1,by omega,by simp,zAB HB2.out.1 _,zAB HB2.out.2 _⟩
   case measure=>simp [intOf]; omega
  ·have hkk:¬ (k:Int)<(m:Int):=(by omega);have HB2:=hdq hB;clear hB hBW HX HY x0 y0;go_wp2;go_ret;exact ⟨rfl,HB2.out⟩
theorem zEz {a b:QV} (ha:QCan w X a q) (hb:QCan w Y b q) :
  Calls Tryz.prog 102 #[a.val,b.val] w fun e w'=>e = .returned (.bool true)/\Below w w w':=by
 go_enter Tryz.func102,Tryz.ntmps102
 go_wp2_with fail
 refine zAg (fun W=>Below w w W/\Box4 W w (.bool a.num.ng) (.slice a.num.A a.num.n a.num.c) (.bool a.den.ng) (.slice a.den.A a.den.n a.den.c)/\Box4 W (w+1) (.bool b.num.ng) (.slice b.num.A b.num.n b.num.c) (.bool b.den.ng) (.slice b.den.A b.den.n b.den.c)/\w.heap.size<W.heap.size/\w.heap.size+1<W.heap.size) ⟨(az (az (brf _ _))),bx4,bx4,by simp <;> omega,by simp <;> omega⟩ ?_;rintro W ⟨hbW,bX,bY,s0,s1⟩;have hBW:=hbW.size;refine (zE6 (ha.below hbW).1 (hb.below hbW).1).mono ?_; rintro e w1 ⟨rfl,hb1⟩
 have HA:=hdq (ha.below (hbW.trans (hb1.mono hBW)));have HB:=hdq (hb.below (hbW.trans (hb1.mono hBW)));obtain ⟨x0,x1,x2,x3,-⟩:=bX.below hb1 s0;obtain ⟨y0,y1,y2,y3,-⟩:=bY.below hb1 s1;have HW:=hdq (hbW.trans (hb1.mono hBW));clear bX bY hb1 hbW hBW ha hb;go_wp2_with fail
 refine (zE6 HA.out.2 HB.out.2).mono ?_; rintro e w2 ⟨rfl,hb2⟩
 have hbf:=HW.out.trans (hb2.mono HW.out.size);go_wp2;go_ret;exact ⟨rfl,hbf⟩
def IsX (w:World) (n:Nat) (t:Value) (W:World):Prop:=∃ k:Nat,k<=n/\t = .int .i64 k/\Below w w W
theorem zE5 {a b:SV} {l:List Rat} (ha:VecCan w X Y a l) (hb:VecCan w X' Y' b l) :
  Calls Tryz.prog 54 #[a.val,b.val] w fun e w'=>e = .returned (.bool true)/\Below w w w':=by
 obtain ⟨A,n,c⟩:=a;obtain ⟨B,m,d⟩:=b;have l1:l.length=n:=ha.len;have l2:l.length=m:=hb.len;obtain rfl:m=n:=l2.symm.trans l1;have hle:m<=c:=ha.le;have hcap:c<=9223372036854775807:=ha.cap;have hle2:m<=d:=hb.le;have hcap2:d<=9223372036854775807:=hb.cap;have HA:=hdq ha;have HB:=hdq hb;have hnn:((m:Int) != (m:Int))=false:=by simp
 clear ha hb l1 l2;dsimp only [SV.val];go_enter Tryz.func54,Tryz.ntmps54
 go_wp2;have H0:IsX w m (.int .i64 0) w:=⟨0,nzl _,rfl,brf _ _⟩;clear hnn;go_loopw [5] (fun t W'=>IsX w m t W') (fun t _=>m-(intOf t).toNat)
 case atStart=>exact H0
 case round=>
  clear H0;obtain ⟨k,hk,rfl,hB⟩:=hrel;by_cases hlt:k<m
  ·obtain ⟨ad,u,rfl,-,hp,hu⟩:=HA.out.elem k hlt;obtain ⟨bd,v,rfl,-,hq,hv⟩:=HB.out.elem k hlt;have ta:ad.block<w:=by have:=zAb hp.1; rwa [zAj] at this
   have tb:bd.block<w:=by have:=zAb hq.1; rwa [zAj] at this
   (obtain ⟨p0,p1,p2,p3⟩:=hp.keep (w':=_) fun a ha hl=>hB.cell (by rw [ha]; exact hl));(obtain ⟨q0,q1,q2,q3⟩:=hq.keep (w':=_) fun a ha hl=>hB.cell (by rw [ha]; exact hl));have la:=zAb p0;have lb:=zAb q0;have hkk:(k:Int)<(m:Int):=(by omega);have hk0:(0:Int)<=(k:Int):=(by omega);have HB2:=hdq hB;have HU:=hdq (hu.below hB);have HV:=hdq (hv.below hB);have bW:=hB.size;clear hB HA HB hu hv;(go_upto_region 6 with fail);refine zAp 1000 (fun _ w'=>Sees w [] wr w') (by kernel_rfl) ?_;have hS0:Sees w [] wr wr.drew:=Sees.st (by simp) bW;refine tx4 0 1 2 3 hS0 ?_;refine tx4 4 5 6 7 hS0 ?_;refine tk1 8 ?_;intro K hK;go_simp;refine (zEz (HU.out.below hS0.kept.whole) (HV.out.below hS0.kept.whole)).mono ?_;rintro e w2 ⟨rfl,hb2⟩;have hS1:=Kept.call2 hb2 hS0;refine hK.out _ _ hS1 ?_;clear hK K hS0 hb2;refine tx1 9 hS1 ?_;refine zAf (by kernel_rfl) ?_ _;have HBf:=hdq (HB2.out.trans (hS1.kept.whole.mono bW));clear hS1 HB2 p0 p1 p2 p3 q0 q1 q2 q3;go_wp2;go_roundw;case rel=>exact ⟨k+1,by omega,by simp,HBf.out⟩
   case measure=>simp [intOf]; omega
  ·have hkk:¬ (k:Int)<(m:Int):=(by omega);have HB2:=hdq hB;clear hB;go_wp2;go_ret;exact ⟨rfl,HB2.out⟩
namespace Mo
theorem zZb {w:World} {X Y X' Y':Nat->Prop} {a b:SV} {l:List (List Rat)} (ha:MatCan w X Y a l) (hb:MatCan w X' Y' b l) :
  Calls Tryz.prog 53 #[a.val,b.val] w fun e w'=>e = .returned (.bool true)/\Below w w w':=by
 obtain ⟨A,n,c⟩:=a;obtain ⟨B,m,d⟩:=b;have l1:l.length=n:=ha.len;have l2:l.length=m:=hb.len;obtain rfl:m=n:=l2.symm.trans l1;have hle:m<=c:=ha.le;have hcap:c<=9223372036854775807:=ha.cap;have hle2:m<=d:=hb.le;have hcap2:d<=9223372036854775807:=hb.cap;have HA:=hdq ha;have HB:=hdq hb;have hnn:((m:Int) != (m:Int))=false:=by simp
 clear ha hb l1 l2;dsimp only [SV.val];go_enter Tryz.func53,Tryz.ntmps53
 go_wp2;have H0:IsX w m (.int .i64 0) w:=⟨0,nzl _,rfl,brf _ _⟩;clear hnn;go_loopw [5] (fun t W'=>IsX w m t W') (fun t _=>m-(intOf t).toNat)
 case atStart=>exact H0
 case round=>
  clear H0;obtain ⟨k,hk,rfl,hB⟩:=hrel;by_cases hlt:k<m
  ·obtain ⟨ad,u,rfl,-,hp,hu⟩:=(HA.out.belowC hB).row k hlt;obtain ⟨bd,v,rfl,-,hq,hv⟩:=(HB.out.belowC hB).row k hlt;have la:=zAb hp;have lb:=zAb hq
   have ta:ad.block<w:=by
    obtain ⟨ad',u',e,-,hp',-⟩:=HA.out.row k hlt;cases e;have:=zAb hp'; rwa [zAj] at this
   have tb:bd.block<w:=by
    obtain ⟨ad',u',e,-,hp',-⟩:=HB.out.row k hlt;cases e;have:=zAb hp'; rwa [zAj] at this
   have hkk:(k:Int)<(m:Int):=(by omega);have hk0:(0:Int)<=(k:Int):=(by omega);have HB2:=hdq hB;have HU:=hdq hu;have HV:=hdq hv;have bW:=hB.size;obtain ⟨uA,un,uc⟩:=u;obtain ⟨vA,vn,vc⟩:=v;dsimp only [SV.val] at hp hq;clear hB HA HB hu hv;(go_upto_region 6 with fail);refine zAp 1000 (fun _ w'=>Sees w [] wr w') (by kernel_rfl) ?_;have hS0:Sees w [] wr wr.drew:=Sees.st (by simp) bW;refine tx4 0 1 2 3 hS0 ?_;refine tx4 4 5 6 7 hS0 ?_;refine tk1 8 ?_;intro K hK;go_simp;refine (zE5 (HU.out.belowC hS0.kept.whole) (HV.out.belowC hS0.kept.whole)).mono ?_;rintro e w2 ⟨rfl,hb2⟩;have hS1:=Kept.call2 hb2 hS0;refine hK.out _ _ hS1 ?_;clear hK K hS0 hb2;refine tx1 9 hS1 ?_;refine zAf (by kernel_rfl) ?_ _;have Hfin:Hid (IsX w m (.int .i64 ((k:Int)+1)) w2):=⟨k+1,by omega,by simp,HB2.out.trans (hS1.kept.whole.mono bW)⟩;clear hS1;go_wp2;go_roundw;case rel=>exact fn_ Hfin.out
   case measure=>simp [intOf]; omega
  ·(obtain rfl:k=m:=by omega);have Hb:=hdq hB;clear hB;go_wp2;go_ret;exact ⟨rfl,Hb.out⟩
theorem zZn {w:World} {X Y:Nat->Prop} {p q:LPV} (hp:p.n=q.n) {os rs:List (List Rat)} {bs:List Rat}
  (po:MatCan w X X p.O os) (pr:MatCan w X X p.R rs) (pb:VecCan w X X p.B bs) (qo:MatCan w Y Y q.O os) (qr:MatCan w Y Y q.R rs) (qb:VecCan w Y Y q.B bs) :
  Calls Tryz.prog 13 #[p.val,q.val] w fun e w'=>e = .returned (.bool true)/\Below w w w':=by
 have HO:=hdq fun W (hb:Below w w W)=>zZb (po.belowC hb) (qo.belowC hb)
 have HR:=hdq fun W (hb:Below w w W)=>zZb (pr.belowC hb) (qr.belowC hb)
 have HB:=hdq fun W (hb:Below w w W)=>zE5 (pb.belowC hb) (qb.belowC hb)
 clear po pr pb qo qr qb;obtain ⟨pn,⟨oA,on,oc⟩,⟨rA,rn,rc⟩,⟨bA,bn,bc⟩⟩:=p;obtain ⟨qn,⟨oB,om,od⟩,⟨rB,rm,rd⟩,⟨bB,bm,bd⟩⟩:=q;dsimp only at hp;subst hp;dsimp only [SV.val] at HO HR HB;dsimp only [LPV.val];go_enter Tryz.func13,Tryz.ntmps13
 go_upto_region 1 with fail
 refine zAo (fun W=>Below w w W/\Box4 W w (.int .i64 pn) (.slice oA on oc) (.slice rA rn rc) (.slice bA bn bc)/\Box4 W (w+1) (.int .i64 pn) (.slice oB om od) (.slice rB rm rd) (.slice bB bm bd)/\w.heap.size<W.heap.size/\w.heap.size+1<W.heap.size) ⟨(az (az (brf _ _))),bx4,bx4,by simp <;> omega,by simp <;> omega⟩ ?_;rintro W ⟨hbW,bP,bQ,s0,s1⟩;have hBW:=hbW.size;obtain ⟨p0,p1,p2,p3,-⟩:=id bP;obtain ⟨q0,q1,q2,q3,-⟩:=id bQ;go_wp2_with fail
 refine (HO.out W hbW).mono ?_;rintro e w1 ⟨rfl,hb1⟩;have c1:Below w w w1:=hbW.trans (hb1.mono hBW);have bP1:=bP.below hb1 s0;have bQ1:=bQ.below hb1 s1;have t1:w.heap.size+1<w1.heap.size:=ltl s1 hb1.size;have t0:w.heap.size<w1.heap.size:=Nat.lt_of_succ_lt t1;have C1:=hdq c1;clear p0 p1 p2 p3 q0 q1 q2 q3 bP bQ hbW hb1 s0 s1 hBW c1;obtain ⟨p0,p1,p2,p3,-⟩:=id bP1;obtain ⟨q0,q1,q2,q3,-⟩:=id bQ1;go_wp2_with fail
 refine (HR.out w1 C1.out).mono ?_;rintro e w2 ⟨rfl,hb2⟩;have c2:Below w w w2:=C1.out.trans (hb2.mono C1.out.size);have bP2:=bP1.below hb2 t0;have bQ2:=bQ1.below hb2 t1;have C2:=hdq c2;clear p0 p1 p2 p3 q0 q1 q2 q3 bP1 bQ1 hb2 c2 t0 t1 C1;obtain ⟨p0,p1,p2,p3,-⟩:=id bP2;obtain ⟨q0,q1,q2,q3,-⟩:=id bQ2;go_wp2_with fail
 refine (HB.out w2 C2.out).mono ?_;rintro e w3 ⟨rfl,hb3⟩;have C3:=hdq (C2.out.trans (hb3.mono C2.out.size));clear p0 p1 p2 p3 q0 q1 q2 q3 bP2 bQ2 hb3 C2;go_wp2;go_ret;exact ⟨rfl,C3.out⟩
end Mo
namespace Mo
structure HBx (w:World) (b:Nat) (v:HrV) (W:World):Prop where
 low:Below w w W
 c0:W.cell? b=some (.int .i64 v.n)
 c1:W.cell? ⟨b,1,none⟩=some (.slice v.L.A v.L.n v.L.c)
 c2:W.cell? ⟨b,2,none⟩=some (.slice v.O.A v.O.n v.O.c)
 c3:W.cell? ⟨b,3,none⟩=some (.slice v.U.A v.U.n v.U.c)
 c4:W.cell? ⟨b,4,none⟩=some (.slice v.N.A v.N.n v.N.c)
 c5:W.cell? ⟨b,5,none⟩=some (.slice v.B.A v.B.n v.B.c)
theorem HBx.below {w W W':World} {b:Nat} {v:HrV} (h:HBx w b v W) (hb:Below W W W'):HBx w b v W':=
 ⟨h.low.trans (hb.mono h.low.size),cellB hb h.c0,cellB hb h.c1,cellB hb h.c2,cellB hb h.c3,cellB hb h.c4,cellB hb h.c5⟩
theorem HBx.new (w:World) (v:HrV):HBx w w v (w.alloc (.cells #[.int .i64 v.n,.slice v.L.A v.L.n v.L.c,.slice v.O.A v.O.n v.O.c,.slice v.U.A v.U.n v.U.c,.slice v.N.A v.N.n v.N.c,.slice v.B.A v.B.n v.B.c] 30)):=
 ⟨bal,by go_simp,by go_simp,by go_simp,by go_simp,by go_simp,by go_simp⟩
structure PBx (b:Nat) (p:LPV) (W:World):Prop where
 c0:W.cell? b=some (.int .i64 p.n)
 c1:W.cell? ⟨b,1,none⟩=some (.slice p.O.A p.O.n p.O.c)
 c2:W.cell? ⟨b,2,none⟩=some (.slice p.R.A p.R.n p.R.c)
 c3:W.cell? ⟨b,3,none⟩=some (.slice p.B.A p.B.n p.B.c)
theorem PBx.below {W W':World} {b:Nat} {p:LPV} (h:PBx b p W) (hb:Below W W W'):PBx b p W':=⟨cellB hb h.c0,cellB hb h.c1,cellB hb h.c2,cellB hb h.c3⟩
theorem PBx.new (W:World) (p:LPV):PBx W p (W.alloc (.cells #[.int .i64 p.n,.slice p.O.A p.O.n p.O.c,.slice p.R.A p.R.n p.R.c,.slice p.B.A p.B.n p.B.c] 36)):=⟨by go_simp,by go_simp,by go_simp,by go_simp⟩
end Mo
namespace Mo
theorem flatN {α:Type} {sz:Nat} (f:α->List Value) (hf:∀ a,(f a).length=sz) (l:List α) (k o:Nat) (hk:k<l.length) (ho:o<sz):(l.flatMap f)[k*sz+o]?=(f l[k])[o]?:=by
 induction l generalizing k with
 | nil=>simp at hk
 | cons q qs ih=>
  rw [List.flatMap_cons];have:=hf q
  cases k with
  | zero=>rw [List.getElem?_append_left (by omega)]; simp
  | succ k=>
   rw [List.getElem?_append_right (by rw [this,Nat.add_mul,Nat.one_mul]; omega)];have e:(k+1)*sz+o-(f q).length=k*sz+o:=by rw [this,Nat.add_mul,Nat.one_mul]; omega
   rw [e,ih k (by simpa using hk)];simp
abbrev lnL (l:Ln):List Value:=[.int .i64 l.f,.int .i64 l.t,.int .i64 l.x,.int .i64 l.c]
theorem zZz (l:List Ln):(l.flatMap lnL).length=l.length*4:=by
 induction l with
 | nil=>rfl
 | cons a l ih=>rw [List.flatMap_cons,List.length_append,ih,List.length_cons]; simp; omega
theorem zZt {w:World} {la:Addr} {n c:Nat} {ls:List Ln} (h:LinesAt w ⟨some la,n,c⟩ ls) (hn:0<n):la.block<w/\(∃ b o,la=⟨b,o,none⟩)/\∀ j u,(ls.flatMap lnL)[j]?=some u->w.cell? (la.add j)=some u:=by
 have hl:ls.length=n:=h.len;obtain ⟨ad0,e,h0,-⟩:=h.cell 0 hn;cases e;obtain ⟨b,o,s⟩:=la;obtain rfl:s=none:=World.cell?_spot (by rw [Nat.zero_mul,add_zero'] at h0; exact h0);refine ⟨?_,⟨b,o,rfl⟩,fun j u hj=>?_⟩
 ·have:=zAb h0; rwa [zAj] at this
 ·have hjl:j<(ls.flatMap lnL).length:=(List.getElem?_eq_some_iff.1 hj).1;rw [zZz,hl] at hjl;have hk:j / 4<n:=by omega
  have hr:j % 4<4:=Nat.mod_lt _ (by decide);have ej:j=j / 4*4+j % 4:=by omega
  have hk':j / 4<ls.length:=by omega
  have hf:=flatN lnL (fun _=>rfl) ls (j / 4) (j % 4) hk' hr;rw [<-ej,hj] at hf;obtain ⟨ad,e,x0,x1,x2,x3⟩:=h.cell (j / 4) hk;cases e;rw [gdd,gge hk'] at x0 x1 x2 x3;simp only [zA4,Option.getD_some] at x0 x1 x2 x3;rw [zA4];generalize ls[j / 4]=l at *;generalize j % 4=r at *
  match r,hr with
  | 0,_=>rw [ej]; simp only [lnL,List.getElem?_cons_zero,Option.some.injEq] at hf; rw [hf]; exact x0
  | 1,_=>rw [ej]; simp only [lnL,List.getElem?_cons_succ,List.getElem?_cons_zero,Option.some.injEq] at hf; rw [hf]; exact x1
  | 2,_=>rw [ej]; simp only [lnL,List.getElem?_cons_succ,List.getElem?_cons_zero,Option.some.injEq] at hf; rw [hf]; exact x2
  | 3,_=>rw [ej]; simp only [lnL,List.getElem?_cons_succ,List.getElem?_cons_zero,Option.some.injEq] at hf; rw [hf]; exact x3
theorem zZB {W:World} {B:Nat} {v:Value} {ls:List Ln} (h:W.ownsRow B 47 4 v ls.length (ls.flatMap lnL)) (hl:0<ls.length):∃ g c,v = .slice (some ⟨g,0,none⟩) ls.length c/\B<=g/\(∀ o,W.frozen? ⟨g,o,none⟩=false)/\g<W.heap.size/\LinesAt W ⟨some ⟨g,0,none⟩,ls.length,c⟩ ls:=by
 rcases h.2 with ⟨e,e2⟩ | ⟨g,cap,cur,e,h1,h2,h3,h4,h5,h6⟩
 ·omega
 ·refine ⟨g,cap,e,h1,fun o=>by simp [World.frozen?,h2],zAa h2,rfl,h3,by simpa [maxLen] using h4,fun k hk=>⟨_,rfl,?_⟩⟩;have hk':k<ls.length:=hk;subst e
  have key:∀ o u,o<4->(lnL (ls.getD k ⟨0,0,0,0⟩))[o]?=some u->W.cell? ⟨g,k*4+o,none⟩=some u:=fun o u ho hu=>by
   have:=h.cells (g:=g) rfl (k*4+o) u (by rw [flatN lnL (fun _=>rfl) ls k o hk' ho]; rw [gdd,gge hk'] at hu; exact hu);rw [<-this,zA4,Nat.zero_add]
  have e0:(⟨g,0,none⟩:Addr).add (k*4)=⟨g,k*4,none⟩:=by rw [zA4,Nat.zero_add]
  rw [e0];exact ⟨key 0 _ (by omega) rfl,key 1 _ (by omega) rfl,key 2 _ (by omega) rfl,key 3 _ (by omega) rfl⟩
theorem zZu {W:World} {g n c k:Nat} {ls:List Ln} (h:LinesAt W ⟨some ⟨g,0,none⟩,n,c⟩ ls) (hk:k<n):LinesAt ((W.setCell ⟨g,k*4,none⟩ (.int .i64 (ls.getD k d0).t)).setCell ⟨g,k*4+1,none⟩ (.int .i64 (ls.getD k d0).f)) ⟨some ⟨g,0,none⟩,n,c⟩ (turnL ls k):=by
 have hl:ls.length=n:=h.len;refine ⟨by rw [zY9]; exact hl,h.le,h.cap,fun j hj=>⟨_,rfl,?_⟩⟩;obtain ⟨ad,e,x0,x1,x2,x3⟩:=h.cell j hj;cases e;obtain ⟨ad,e,y0,y1,y2,y3⟩:=h.cell k hk;cases e;simp only [zA4,Nat.zero_add] at x0 x1 x2 x3 y0 y1 y2 y3 ⊢;rw [show (turnL ls k).getD j ⟨0,0,0,0⟩=(turnL ls k).getD j d0 from rfl,zY8 (by omega)];rw [show ls.getD j ⟨0,0,0,0⟩=ls.getD j d0 from rfl] at x0 x1 x2 x3;by_cases e:j=k
 ·subst e;rw [if_pos rfl];clear y0 y1 y2 y3;generalize ls.getD j d0=l at *;refine ⟨?_,?_,?_,?_⟩
  ·show _=some (Value.int .i64 l.t); go_simp
  ·show _=some (Value.int .i64 l.f); go_simp
  ·show _=some (Value.int .i64 l.x); go_simp
  ·show _=some (Value.int .i64 l.c); go_simp
 ·rw [if_neg e];have n0:¬ j*4=k*4:=by omega
  have n1:¬ j*4=k*4+1:=by omega
  have n2:¬ j*4+1=k*4:=by omega
  have n3:¬ j*4+1=k*4+1:=by omega
  have n4:¬ j*4+2=k*4:=by omega
  have n5:¬ j*4+2=k*4+1:=by omega
  have n6:¬ j*4+3=k*4:=by omega
  have n7:¬ j*4+3=k*4+1:=by omega
  generalize ls.getD j d0=l at *;refine ⟨?_,?_,?_,?_⟩
  ·show _=some (Value.int .i64 l.f); go_simp
  ·show _=some (Value.int .i64 l.t); go_simp
  ·show _=some (Value.int .i64 l.x); go_simp
  ·show _=some (Value.int .i64 l.c); go_simp
theorem zZs {N k:Nat} {out:List Int} (hk:k<=N):((inS N out).filter fun j=>decide (j<k))=inS k out:=by
 induction N with
 | zero=>
  obtain rfl:k=0:=by omega
  rfl
 | succ N ih=>
  by_cases e:k=N+1
  ·subst e
   exact List.filter_eq_self.2 fun x hx=>by
    have:=List.mem_range.1 (List.mem_filter.1 hx).1;simpa using this
  ·have:=ih (by omega);rw [zV0]
   split
   ·exact this
   ·rw [List.filter_append,this,List.filter_cons,if_neg (by simp; omega)]; simp
theorem zZJ {h:Hr} {k:Nat} (hk:k<=h.lines.length):rank h k=(inS k h.out).length:=by
 unfold rank ins; rw [zZs hk]
theorem zZv {α:Type} (P:List α) (u v:α) (Q:List α) (d:α) (i:Nat) (h1:i ≠ P.length) (h2:i ≠ P.length+1):(P++u :: v :: Q).getD i d=(P++v :: u :: Q).getD i d:=by
 induction P generalizing i with
 | nil=>
  match i,h1,h2 with
  | 0,h1,_=>exact absurd rfl h1
  | 1,_,h2=>exact absurd rfl h2
  | i+2,_,_=>rfl
 | cons p P ih=>
  cases i with
  | zero=>rfl
  | succ i=>exact ih i (by simpa using h1) (by simpa using h2)
theorem zZC {W w':World} {B0:Nat} {h h':Hr} {m:Gj.Mt} {p:LPV} {b o a n c A1n A1c A2n A2c:Nat} {A1 A2:Option Addr} {A B':List (List Rat × Rat)} {r s:List Rat} {cq:Rat} (hp:LPC W (New B0) h' m p) (hR:p.R=⟨some ⟨b,o,none⟩,n,c⟩) (hn:a+1<n) (hA:A.length=a)
  (h1:rows h m=A++([(r,cq),(s,cq)]++B')) (h2:rows h' m=A++([(s,cq),(r,cq)]++B')) (hw:w'=((W.setCell ⟨b,o+a,none⟩ (.slice A2 A2n A2c)).setCell ⟨b,o+(a+1),none⟩ (.slice A1 A1n A1c)).drew)
  (hv1:VecCan W (fun y=>New B0 y/\y ≠ b) (fun y=>New B0 y/\y ≠ b) ⟨A1,A1n,A1c⟩ (((rows h' m).map Prod.fst).getD a [])) (hv2:VecCan W (fun y=>New B0 y/\y ≠ b) (fun y=>New B0 y/\y ≠ b) ⟨A2,A2n,A2c⟩ (((rows h' m).map Prod.fst).getD (a+1) []))
  (hk1:W.cell? ⟨b,o+a,none⟩=some (.slice A1 A1n A1c)) (hk2:W.cell? ⟨b,o+(a+1),none⟩=some (.slice A2 A2n A2c)) :
  MatCan w' AllB AllB p.O [obj (vars h')]/\MatCan w' AllB AllB p.R ((rows h m).map Prod.fst)/\VecCan w' AllB AllB p.B ((rows h m).map Prod.snd):=by
 have hf:∀ q:Addr,q.block ≠ b->w'.cell? q=W.cell? q:=fun q hq=>by
  rw [hw]; exact cob ((bhs _ _ _ _ hq).trans (bhs _ _ _ _ hq))
 have hk:∀ q:Addr,(New B0 q.block/\q.block ≠ b)->q.block<W->w'.cell? q=W.cell? q:=fun q hq _=>hf q hq.2
 have hRA:p.R.A=some ⟨b,o,none⟩:=by rw [hR]
 have hRn:p.R.n=n:=by rw [hR]
 have e1:((rows h' m).map Prod.fst).getD a []=s:=by rw [h2,<-hA]; simp
 have e2:((rows h' m).map Prod.fst).getD (a+1) []=r:=by
  rw [h2,<-hA,List.map_append,gdd,List.getElem?_append_right (by simp)]; simp
 have f1:((rows h m).map Prod.fst).getD a []=r:=by rw [h1,<-hA]; simp
 have f2:((rows h m).map Prod.fst).getD (a+1) []=s:=by
  rw [h1,<-hA,List.map_append,gdd,List.getElem?_append_right (by simp)]; simp
 have f3:∀ i,i ≠ a->i ≠ a+1->((rows h m).map Prod.fst).getD i []=((rows h' m).map Prod.fst).getD i []:=fun i hi hi2=>by
  rw [show (rows h m).map Prod.fst=A.map Prod.fst++r :: s :: B'.map Prod.fst by rw [h1]; simp,show (rows h' m).map Prod.fst=A.map Prod.fst++s :: r :: B'.map Prod.fst by rw [h2]; simp];exact zZv _ _ _ _ _ _ (by rw [List.length_map,hA]; exact hi) (by rw [List.length_map,hA]; exact hi2)
 have hsnd:(rows h m).map Prod.snd=(rows h' m).map Prod.snd:=by rw [h1,h2]; simp
 have hlen:((rows h m).map Prod.fst).length=((rows h' m).map Prod.fst).length:=by rw [h1,h2]; simp
 refine ⟨((hp.ap.ob _ hRA).keep hk fun _ _ hq=>hq.keep hk).imp (fun _ _ _=>trivial) fun _ _ hq=>hq.imp fun _ _ _=>trivial,⟨hlen.trans hp.r.len,hp.r.le,hp.r.cap,fun i hi=>?_⟩,?_⟩
 ·have up:∀ {t:SV} {l:List Rat},VecCan W (fun y=>New B0 y/\y ≠ b) (fun y=>New B0 y/\y ≠ b) t l->VecCan w' AllB AllB t l:=fun hv=>(VecAt.keep (R':=QCan w' _) hv hk fun _ _ hq=>hq.keep hk).imp (fun _ _ _=>trivial) fun _ _ hq=>hq.imp fun _ _ _=>trivial
  by_cases ea:i=a
  ·subst ea;refine ⟨_,⟨A2,A2n,A2c⟩,hRA,trivial,?_,?_⟩
   ·rw [zA4,hw];have hne:¬ o+i=o+(i+1):=(by omega);show ((W.setCell ⟨b,o+i,none⟩ (.slice A2 A2n A2c)).setCell ⟨b,o+(i+1),none⟩ (.slice A1 A1n A1c)).cell? ⟨b,o+i,none⟩=some (.slice A2 A2n A2c);go_simp
   ·rw [f1,<-e2]; exact up hv2
  ·by_cases eb:i=a+1
   ·subst eb;refine ⟨_,⟨A1,A1n,A1c⟩,hRA,trivial,?_,?_⟩
    ·rw [zA4,hw];have hne:¬ o+(a+1)=o+a:=(by omega);show ((W.setCell ⟨b,o+a,none⟩ (.slice A2 A2n A2c)).setCell ⟨b,o+(a+1),none⟩ (.slice A1 A1n A1c)).cell? ⟨b,o+(a+1),none⟩=some (.slice A1 A1n A1c);go_simp
    ·rw [f2,<-e1]; exact up hv1
   ·obtain ⟨t,hc,hv⟩:=hp.ap.el _ hRA i hi;refine ⟨_,t,hRA,trivial,?_,?_⟩
    ·rw [zA4] at hc ⊢;rw [hw];have hn1:¬ o+i=o+a:=(by omega);have hn2:¬ o+i=o+(a+1):=(by omega);show ((W.setCell ⟨b,o+a,none⟩ (.slice A2 A2n A2c)).setCell ⟨b,o+(a+1),none⟩ (.slice A1 A1n A1c)).cell? ⟨b,o+i,none⟩=some t.val;go_simp
    ·rw [f3 i ea eb]; exact up hv
 ·rw [hsnd];exact ((hp.ap.bd _ hRA).keep hk fun _ _ hq=>hq.keep hk).imp (fun _ _ _=>trivial) fun _ _ hq=>hq.imp fun _ _ _=>trivial
end Mo
namespace Mo
theorem zZo {W W':World} {g n c:Nat} {ls:List Ln} (h:LinesAt W ⟨some ⟨g,0,none⟩,n,c⟩ ls) (hk:W'.heap[g]?=W.heap[g]?):LinesAt W' ⟨some ⟨g,0,none⟩,n,c⟩ ls:=
 ⟨h.len,h.le,h.cap,fun k hk'=>by
  obtain ⟨ad,e,x0,x1,x2,x3⟩:=h.cell k hk';cases e;refine ⟨_,rfl,?_⟩;simp only [zA4,Nat.zero_add] at x0 x1 x2 x3 ⊢;exact ⟨(cob (a:=⟨g,k*4,none⟩) hk).trans x0,(cob (a:=⟨g,k*4+1,none⟩) hk).trans x1,(cob (a:=⟨g,k*4+2,none⟩) hk).trans x2,(cob (a:=⟨g,k*4+3,none⟩) hk).trans x3⟩⟩
theorem zZh {out:List Int} {r:Nat} (hr:r<out.length) (x:Int):decide (x ∉ out.take (r+1))=(decide (x ∉ out.take r) && (out.getD r 0 != x)):=by
 rw [List.take_add_one,gge hr,gdd,gge hr];simp only [Option.toList_some,Option.getD_some,List.mem_append,List.mem_singleton,not_or,Bool.decide_and];congr 1;by_cases e:x=out[r]
 ·subst e; simp
 ·have e':¬ out[r]=x:=fun h=>e h.symm
  simp [e,e']
theorem zZy:(Tryz.prog.info? 47).map (fun i=>(i.zero,i.size,i.bytes))=some (some (.agg #[.int .i64 0,.int .i64 0,.int .i64 0,.int .i64 0]),4,32):=by kernel_rfl
theorem mori_calls {w:World} {v:HrV} {h:Hr} {n8:Nat} (hA:HrAt w v h) (hn:n8<256):Calls Tryz.prog 5 #[v.val,.int .u8 (n8:Int)] w fun e w'=>e = .returned (.bool true)/\Below w w w':=by
 have HA:=hdq hA;have HN:=HBx.new w v;have HLg:=hdq (zXk (hA.below HN.low));have HBd:=hdq fun (V:HrV) (g:Hr) (W:World) (hV:HrAt W V g)=>zU3 hV
 obtain ⟨n,⟨lA,ln,lc⟩,O,U,N,B⟩:=v;obtain rfl:n=h.buses:=hA.n;dsimp only [HrV.val] at HLg HBd ⊢;have HN:=hdq HN;have Hll:Hid (h.lines.length=ln):=hdq hA.L.len;have lle:ln<=lc:=hA.L.le;have lcap:lc<=9223372036854775807:=hA.L.cap;have ole:=hA.O.le;have ocap:=hA.O.cap;dsimp only at ole ocap;clear hA;go_enter Tryz.func5,Tryz.ntmps5
 go_upto_region 1 with fail
 obtain ⟨hbx,hh⟩:∃ b,b=w.heap.size:=⟨_,rfl⟩;rw [<-hh] at HN ⊢;have Hhb:=hdq hh;clear hh;dsimp only at HN;generalize w.alloc (.cells #[.int .i64 h.buses,.slice lA ln lc,.slice O.A O.n O.c,.slice U.A U.n U.c,.slice N.A N.n N.c,.slice B.A B.n B.c] 30)=w1 at *;obtain ⟨-,c0,c1,c2,c3,c4,c5⟩:=HN.out;dsimp only at c0 c1 c2 c3 c4 c5;go_wp2_with fail
 refine HLg.out.mono ?_;rintro e w2 ⟨⟨b,rfl⟩,hb2⟩;have HN2:=hdq (HN.out.below hb2);clear c0 c1 c2 c3 c4 c5 HN HLg hb2
 cases b with
 | true=>
  go_wp2_with fail
  refine zVf.mono ?_;rintro e w3 ⟨rfl,hb3⟩;have HF:=hdq (HN2.out.below hb3).low;go_wp2;go_ret
  exact ⟨rfl,HF.out⟩
 | false=>
  obtain ⟨-,c0,c1,c2,c3,c4,c5⟩:=HN2.out;dsimp only at c0 c1 c2 c3 c4 c5;by_cases hz:ln=0
  ·have hz':((ln:Int) == 0)=true:=(by simp [hz]);have Hz:=hdq hz;clear hz;(go_wp2_with fail);refine zVf.mono ?_;rintro e w3 ⟨rfl,hb3⟩;have HF:=hdq (HN2.out.below hb3).low;clear c0 c1 c2 c3 c4 c5;go_wp2;go_ret;exact ⟨rfl,HF.out⟩
  have hz':((ln:Int) == 0)=false:=beq_false_of_ne (by omega);go_wp2_with fail
  refine zVf.mono ?_;rintro e w3 ⟨rfl,hb3⟩;have HN3:=hdq (HN2.out.below hb3);clear c0 c1 c2 c3 c4 c5 HN2 hb3 hz';obtain ⟨-,c0,c1,c2,c3,c4,c5⟩:=HN3.out;dsimp only at c0 c1 c2 c3 c4 c5;go_wp2_with fail
  refine (HBd.out ⟨h.buses,⟨lA,ln,lc⟩,O,U,N,B⟩ h w3 (HA.out.below HN3.out.low)).mono ?_;rintro e w4 ⟨hR,hb4⟩;have HN4:=hdq (HN3.out.below hb4);clear c0 c1 c2 c3 c4 c5 HN3 hb4;rcases hR with ⟨h0,rfl⟩ | ⟨h0,p,m,rfl,hL⟩
  ·have hne:(hrErr h != 0)=true:=(by simpa using h0);have al:=(brf w4 w4).alloc (nlr _) (.cells #[.int .i64 0,.slice none 0 0,.slice none 0 0,.slice none 0 0] 36);have HF:=hdq (HN4.out.low.trans (al.mono HN4.out.low.size));generalize hrErr h=er at *;clear h0 HBd al;go_wp2;go_ret;exact ⟨rfl,HF.out⟩
  obtain ⟨pn,⟨oA,on,oc⟩,⟨rA,rn,rc⟩,⟨bA,bn,bc⟩⟩:=p;have HPn:=hdq (PBx.new w4 ⟨pn,⟨oA,on,oc⟩,⟨rA,rn,rc⟩,⟨bA,bn,bc⟩⟩);have al:=(brf w4 w4).alloc (nlr _) (.cells #[.int .i64 pn,.slice oA on oc,.slice rA rn rc,.slice bA bn bc] 36);have HL5:=hdq (hL.below al);have HN5:=hdq (HN4.out.below al);have H0:=hdq h0;have rle:=hL.r.le;have rcap:=hL.r.cap;have Hrn:Hid (((rows h m).map Prod.fst).length=rn):=hdq hL.r.len;dsimp only at rle rcap;dsimp only [LPV.val];have ln10:ln<=10:=by have:=(zUi h0).2.2.1; have:=Hll.out; omega
  clear hL h0 al;go_upto_region 4 with fail
  obtain ⟨pb,hpb⟩:∃ b,b=w4.heap.size:=⟨_,rfl⟩;rw [<-hpb] at HPn ⊢;clear hpb;dsimp only at HPn;generalize w4.alloc (.cells #[.int .i64 pn,.slice oA on oc,.slice rA rn rc,.slice bA bn bc] 36)=w5 at *;obtain ⟨-,c0,c1,c2,c3,c4,c5⟩:=HN5.out;dsimp only at c0 c1 c2 c3 c4 c5;have hlp:0<ln:=by omega
  go_upto_region 7 with fail
  rw [show ((n8:Int) % (ln:Int))=((n8 % ln:Nat):Int) by omega];have hkl:n8 % ln<ln:=Nat.mod_lt _ hlp;generalize n8 % ln=k at *;have hkh:k<h.lines.length:=by have:=Hll.out; omega
  clear hn;go_upto_region 8 with fail
  obtain ⟨tb,htb⟩:∃ b,b=w5.heap.size:=⟨_,rfl⟩;obtain ⟨w6,hw6⟩:∃ w6,w5.alloc (.cells #[.int .i64 h.buses,.slice lA ln lc,.slice O.A O.n O.c,.slice U.A U.n U.c,.slice N.A N.n N.c,.slice B.A B.n B.c] 30)=w6:=⟨_,rfl⟩;have al6:Below w5 w5 w6:=by rw [<-hw6]; exact bal
  have hs6:w6.heap.size=tb+1:=by rw [<-hw6,htb]; simp
  have e6:w6.heap[tb]?=some (.cells #[.int .i64 h.buses,.slice lA ln lc,.slice O.A O.n O.c,.slice U.A U.n U.c,.slice N.A N.n N.c,.slice B.A B.n B.c] 30 (0,0)):=by rw [<-hw6,htb]; exact zAd _ _ rfl
  rw [hw6,<-htb];clear hw6;have hn5:=HN5.out.below al6;have hl6:=LinesAt.below hn5.low HA.out.L;obtain ⟨-,d0,d1,d2,d3,d4,d5⟩:=hn5;dsimp only at d0 d1 d2 d3 d4 d5
  obtain ⟨la,rfl⟩:∃ la,lA=some la:=by
   obtain ⟨ad,e,-⟩:=hl6.cell k hkl;exact ⟨ad,e⟩
  obtain ⟨lab,-,hnews⟩:=zZt hl6 hlp;have hlen:(h.lines.flatMap lnL).length=ln*4:=by rw [zZz,Hll.out]
  have Htb:=hdq htb;have hh:hbx<w5.heap.size:=zAb c0;have hh6:hbx<w6.heap.size:=by omega
  have hs6a:tb+1<=w6.heap.size:=Nat.le_of_eq hs6.symm;have hs6b:w6.heap.size<=tb+1:=Nat.le_of_eq hs6;clear hs6;obtain ⟨j0,hjI,hy0,hy1,hy2⟩:=info_parts zZy;have hown:(w6.alloc (.cells #[] 47)).ownsRow w6 47 4 (.slice (some w6) 0 0) 0 []:=⟨rfl,.inr ⟨w6.heap.size,0,#[],rfl,nlr _,zAd _ _ rfl,nlr _,nzl _,rfl,rfl⟩⟩;have HN6:=hdq hnews;have HL6:=hdq hl6;have A6:=hdq al6;clear c0 c1 c2 c3 c4 c5 htb hl6 hnews al6;go_wp2_with (at_builtin; refine wpList_append_own_at _ rfl _ _ 22 rfl w6 47 j0 (.agg #[.int .i64 0,.int .i64 0,.int .i64 0,.int .i64 0]) 4 32 Tryz.underlying22 hjI hy0 hy1 hy2 rfl (by decide) (.slice (some w6) 0 0) 0 [] rfl hown la ln lc (h.lines.flatMap lnL) rfl hlen (fun j u hj=>((((brf w6 w6).alloc (nlr _) _).cell (by rw [zAj]; exact lab)).trans (HN6.out j u hj))) (fun u hu=>by obtain ⟨l,-,hu⟩:=List.mem_flatMap.1 hu; simp [lnL] at hu; rcases hu with rfl | rfl | rfl | rfl <;> rfl) (by simp [maxLen]; omega) (by omega) (by simp) ?_)
  intro v3 W3 hown3 hg3 hnil3 hat3;have hb63:Below w6 w6 W3:=((brf w6 w6).alloc (nlr _) (.cells #[] 47)).grown hg3 (by simp) fun q e=>by cases e; exact nlr _
  obtain ⟨g,c,rfl,hgB,hgf,hgl,hgL⟩:=zZB (ls:=h.lines) (by rw [Hll.out]; exact hown3) (by omega);rw [Hll.out] at hgL;have e3:W3.heap[tb]?=some (.cells #[.int .i64 h.buses,.slice (some la) ln lc,.slice O.A O.n O.c,.slice U.A U.n U.c,.slice N.A N.n N.c,.slice B.A B.n B.c] 30 (0,0)):=(hb63.block tb (by omega)).trans e6;have y1:W3.cell? ⟨tb,1,none⟩=some (.slice (some la) ln lc):=by simp [World.cell?,e3]
  have yf:∀ o,W3.frozen? ⟨tb,o,none⟩=false:=fun o=>by simp [World.frozen?,e3]
  rw [Hll.out];clear hown3 hg3 hnil3 hat3 hown d0 d1 d2 d3 d4 d5;go_upto_region 9 with fail
  have hb54:Below w5 w5 (W3.setCell ⟨tb,1,none⟩ (.slice (some g) ln c)):=(A6.out.trans (hb63.mono A6.out.size)).setCell (p:=⟨tb,1,none⟩) (by show w5.heap.size<=tb; rw [Htb.out]; exact nlr _) _
  have e4:(W3.setCell ⟨tb,1,none⟩ (.slice (some g) ln c)).heap[tb]?=some (.cells #[.int .i64 h.buses,.slice (some g) ln c,.slice O.A O.n O.c,.slice U.A U.n U.c,.slice N.A N.n N.c,.slice B.A B.n B.c] 30 (0,0)):=by
   rw [zAe _ e3]; simp
  have hgt:tb<g:=by omega
  have hL4:=zZo hgL (bhs W3 ⟨tb,1,none⟩ (.slice (some g) ln c) g (by dsimp only; omega));have hgf4:∀ o,(W3.setCell ⟨tb,1,none⟩ (.slice (some g) ln c)).frozen? ⟨g,o,none⟩=false:=fun o=>by rw [World.frozen?_setCell]; exact hgf o
  have hgl4:g<(W3.setCell ⟨tb,1,none⟩ (.slice (some g) ln c)).heap.size:=by simpa [World.setCell] using hgl
  have hbt:hbx<tb:=by rw [Htb.out]; exact hh
  have labt:la.block<tb:=by
   have h1:=(HA.out.L.cell k hkl);obtain ⟨ad,e,x0,-⟩:=h1;cases e;have h2:=zAb x0;rw [zAj] at h2;have h3:=HN5.out.low.size;rw [Htb.out]; omega
  clear hb63 hgL hgf hgl e3 y1 yf e6 lab hlen hh hh6 hs6a hs6b HN6 HL6 A6 hgB hjI hy0 hy1 hy2;generalize W3.setCell ⟨tb,1,none⟩ (.slice (some g) ln c)=W at *;clear W3;have hn4:=HN5.out.below hb54;have hl4:=LinesAt.below hn4.low HA.out.L;obtain ⟨-,c0,c1,c2,c3,c4,c5⟩:=hn4;dsimp only at c0 c1 c2 c3 c4 c5;obtain ⟨ad,e,x0,x1,-⟩:=hl4.cell k hkl;cases e;obtain ⟨ad,e,z0,z1,z2,z3⟩:=hL4.cell k hkl;cases e;rw [show (h.lines.getD k ⟨0,0,0,0⟩:Ln)=h.lines.getD k d0 from rfl] at x0 x1 z0 z1;simp only [zA4,Nat.zero_add] at z0 z1;have t1:W.cell? ⟨tb,1,none⟩=some (.slice (some g) ln c):=by simp [World.cell?,e4]
  have HB5:=hdq hb54;have E4:=hdq e4;have HL4:=hdq hL4;have cle:=hL4.le;have ccap:=hL4.cap;dsimp only at cle ccap;have hki:(k:Int)<(ln:Int):=by omega
  have n1:¬ hbx=g:=by omega
  have n2:¬ tb=g:=by omega
  have l1:hbx<W.heap.size:=by omega
  have l2:tb<W.heap.size:=by omega
  have l3:la.block<g:=by omega
  have l4:¬ la.block=g:=by omega
  have l5:la.block<W:=by omega
  have l6:¬ (la.add (k*4)).block=g:=by rw [zAj]; exact l4
  have l7:(la.add (k*4)).block<W:=by rw [zAj]; exact l5
  obtain ⟨F,hF⟩:∃ F,F=(h.lines.getD k d0).f:=⟨_,rfl⟩;obtain ⟨T,hT⟩:∃ T,T=(h.lines.getD k d0).t:=⟨_,rfl⟩;rw [<-hF] at x0 z0;rw [<-hT] at x1 z1;have HF':=hdq hF;have HT':=hdq hT;clear hF hT hb54 e4 hL4 hl4 z2 z3;refine zAp 1000 (fun _ w'=>Sees g [g] W w') (by kernel_rfl) ?_;have hS0:Sees g [g] W W.drew:=Sees.st (by simp) (Nat.le_of_lt hgl4);refine tx4 0 1 2 3 hS0 ?_;refine tx4 4 5 6 7 hS0 ?_;refine tx4 8 9 10 11 hS0 ?_;refine tx4 12 13 14 15 hS0 ?_;refine tx4 16 17 18 19 hS0 ?_;refine tx1 20 hS0 ?_;refine tx1 21 hS0 ?_;refine tx1 22 hS0 ?_;refine tx1 23 hS0 ?_;refine tk1 24 ?_;intro K hK;go_simp;have hS1:Sees g [g] W (W.setCell ⟨g,k*4,none⟩ (.int .i64 T)).drew:=Sees.d1 hS0 (by simp);refine hK.out _ _ hS1 ?_;clear hK K;refine tx1 25 hS1 ?_;refine tx1 26 hS1 ?_;refine tk1 27 ?_;intro K hK;go_simp;have hS2:Sees g [g] W ((W.setCell ⟨g,k*4,none⟩ (.int .i64 T)).setCell ⟨g,k*4+1,none⟩ (.int .i64 F)).drew:=Sees.d1 hS1 (by simp);refine hK.out _ _ hS2 ?_;clear hK K;refine zAf (by kernel_rfl) ?_ _;have hfk:∀ b,b ≠ g->((W.setCell ⟨g,k*4,none⟩ (.int .i64 T)).setCell ⟨g,k*4+1,none⟩ (.int .i64 F)).drew.heap[b]?=W.heap[b]?:=fun b hb=>(bhs _ _ _ _ hb).trans (bhs _ _ _ _ hb)
  have hLt:LinesAt ((W.setCell ⟨g,k*4,none⟩ (.int .i64 T)).setCell ⟨g,k*4+1,none⟩ (.int .i64 F)).drew ⟨some ⟨g,0,none⟩,ln,c⟩ (turnL h.lines k):=by
   rw [HF'.out,HT'.out]; exact zZo (zZu HL4.out hkl) rfl
  have hbd:Below w5 w5 ((W.setCell ⟨g,k*4,none⟩ (.int .i64 T)).setCell ⟨g,k*4+1,none⟩ (.int .i64 F)).drew:=((HB5.out.setCell (p:=⟨g,k*4,none⟩) (by have:=Htb.out; show w5.heap.size<=g; omega) _).setCell (p:=⟨g,k*4+1,none⟩) (by have:=Htb.out; show w5.heap.size<=g; omega) _).drew;have hEt:((W.setCell ⟨g,k*4,none⟩ (.int .i64 T)).setCell ⟨g,k*4+1,none⟩ (.int .i64 F)).drew.heap[tb]?=_:=(hfk tb n2).trans E4.out;have hlt:((W.setCell ⟨g,k*4,none⟩ (.int .i64 T)).setCell ⟨g,k*4+1,none⟩ (.int .i64 F)).drew.heap.size=W.heap.size:=by show ((W.setCell _ _).setCell _ _).heap.size=_; simp [World.setCell]
  have htW:tb<((W.setCell ⟨g,k*4,none⟩ (.int .i64 T)).setCell ⟨g,k*4+1,none⟩ (.int .i64 F)).drew.heap.size:=by rw [hlt]; exact l2
  clear hS0 hS1 hS2 hfk hlt HB5 E4 HL4 HF' HT' x0 x1 z0 z1 t1 c0 c1 c2 c3 c4 c5 n1 n2 l1 l2 l3 l4 l5 l6 l7 hgf4 hgl4 hgt hbt labt;generalize ((W.setCell ⟨g,k*4,none⟩ (.int .i64 T)).setCell ⟨g,k*4+1,none⟩ (.int .i64 F)).drew=W' at *;have HNt:=hdq (HN5.out.below hbd);have HLt:=hdq ((HL5.out.below hbd).imp (X':=fun y=>y<W'.heap.size) fun b hb _=>hb);have HPt:=hdq (HPn.out.below hbd);have hpbW:pb<W'.heap.size:=zAb HPt.out.c0;have HwW:=hdq HNt.out.low.size;have HhW:=hdq (show hbx<W'.heap.size from zAb HNt.out.c0)
  have HVt:Hid (HrAt W' ⟨h.buses,⟨some ⟨g,0,none⟩,ln,c⟩,O,U,N,B⟩ (turned h k)):=hdq (by
   have h1:=HA.out.below HNt.out.low;exact ⟨rfl,hLt,h1.O,h1.U,h1.N,h1.B⟩)
  have HBt:=hdq (HBd.out ⟨h.buses,⟨some ⟨g,0,none⟩,ln,c⟩,O,U,N,B⟩ (turned h k) W' HVt.out);dsimp only at HBt;have t0:W'.cell? tb=some (.int .i64 h.buses):=by simp [World.cell?,hEt]
  have t1:W'.cell? ⟨tb,1,none⟩=some (.slice (some g) ln c):=by simp [World.cell?,hEt]
  have t2:W'.cell? ⟨tb,2,none⟩=some (.slice O.A O.n O.c):=by simp [World.cell?,hEt]
  have t3:W'.cell? ⟨tb,3,none⟩=some (.slice U.A U.n U.c):=by simp [World.cell?,hEt]
  have t4:W'.cell? ⟨tb,4,none⟩=some (.slice N.A N.n N.c):=by simp [World.cell?,hEt]
  have t5:W'.cell? ⟨tb,5,none⟩=some (.slice B.A B.n B.c):=by simp [World.cell?,hEt]
  clear hEt hbd hLt HN5 HL5 HPn HBd HVt;go_wp2_with fail
  refine HBt.out.mono ?_;rintro e w9 ⟨hR,hb9⟩;rcases hR with ⟨h9,-⟩ | ⟨-,q,m',rfl,hQ⟩
  ·exact absurd ((zZD hkh).trans H0.out) h9
  have hmm:m'=m:=by
   have h1:=hQ.hinv;rw [zZE H0.out hkh,HLt.out.hinv] at h1;cases h1; rfl
  subst hmm;obtain ⟨qn,⟨qOA,qon,qoc⟩,⟨qA,qrn,qrc⟩,⟨qBA,qbn,qbc⟩⟩:=q;have HQn:=hdq (PBx.new w9 ⟨qn,⟨qOA,qon,qoc⟩,⟨qA,qrn,qrc⟩,⟨qBA,qbn,qbc⟩⟩);have al:=(brf w9 w9).alloc (nlr _) (.cells #[.int .i64 qn,.slice qOA qon qoc,.slice qA qrn qrc,.slice qBA qbn qbc] 36);have hb10:=hb9.trans (al.mono hb9.size);have HQ0:=hdq (hQ.below al);have HN0:=hdq (HNt.out.below hb10);have HP0:=hdq (HPt.out.below hb10);have HL0:=hdq (HLt.out.below hb10)
  have hqr:qrn=rn:=by
   have h1:((rows (turned h k) m').map Prod.fst).length=qrn:=hQ.r.len;rw [<-h1,<-Hrn.out,List.length_map,List.length_map];rcases zZf hkh m' with ⟨-,e⟩ | ⟨-,A,B',r,c',-,e1,e2⟩
   ·rw [e]
   ·rw [e1,e2]; simp
  subst hqr;have qle:=hQ.r.le;have qcap:=hQ.r.cap;dsimp only at qle qcap;have HRf:=hdq fun W (hb:Below w w W)=>zU0 (n:=h.buses) (LinesAt.below hb HA.out.L) (HA.out.O.below hb) (zV5 H0.out)
  have Hqlt:=hdq (fun ad (e:qA=some ad)=>(hQ.ap.arr ad e).2.1);have htq:tb<w9.heap.size:=ltl htW hb9.size;have Hq9:=hdq (show W'.heap.size<=w9.heap.size from hb9.size);dsimp only [LPV.val,SV.val] at HRf ⊢;clear hQ al hb10 HNt HPt HLt t0 t1 t2 t3 t4 t5 HBt hb9;go_upto_region 11 with fail
  obtain ⟨qb,hqb⟩:∃ b,b=w9.heap.size:=⟨_,rfl⟩;rw [<-hqb] at HQn Hq9 Hqlt ⊢;clear hqb;dsimp only at HQn;generalize w9.alloc (.cells #[.int .i64 qn,.slice qOA qon qoc,.slice qA qrn qrc,.slice qBA qbn qbc] 36)=w10 at *;obtain ⟨-,c0,c1,c2,c3,c4,c5⟩:=HN0.out;dsimp only at c0 c1 c2 c3 c4 c5;go_wp2_with fail
  refine (HRf.out w10 HN0.out.low).mono ?_;rintro e w11 ⟨⟨⟨sA,sn,sc⟩,rfl,hS⟩,hb11⟩;have Hsn:Hid ((refsOf h).length=sn):=hdq (by have:=hS.len; rw [List.length_map] at this; exact this);have sle:=hS.le;have scap:=hS.cap;dsimp only at sle scap;have sn6:sn<=6:=by rw [<-Hsn.out]; exact zV6 H0.out
  have HQ1:=hdq (HQ0.out.below hb11);have HN1:=hdq (HN0.out.below hb11);have HP1:=hdq (HP0.out.below hb11);have HL1:=hdq (HL0.out.below hb11);have HQb:=hdq (HQn.out.below hb11);have hqs:qb<w11.heap.size:=by have:=zAb HQb.out.c0; exact this
  clear c0 c1 c2 c3 c4 c5 HQ0 HN0 HP0 HL0 HQn hb11 hS HRf htq;obtain ⟨-,c0,c1,c2,c3,c4,c5⟩:=HN1.out;dsimp only at c0 c1 c2 c3 c4 c5;have p0:=HP1.out.c0;have p1:=HP1.out.c1;have p2:=HP1.out.c2;have p3:=HP1.out.c3;have q0:=HQb.out.c0;have q1:=HQb.out.c1;have q2:=HQb.out.c2;have q3:=HQb.out.c3;dsimp only at p0 p1 p2 p3 q0 q1 q2 q3;dsimp only [SV.val];have hrr:((qrn:Int) != (qrn:Int))=false:=by simp
  have HO:=hdq (HA.out.O.below HN1.out.low);have Hol:=hdq HA.out.O.len;dsimp only at Hol;go_wp2;go_loop [13,14] (fun a l=>∃ j:Nat,j<=k/\l = .int .i64 j/\a = .int .i64 ((2*sn+2*(inS j h.out).length:Nat):Int)) (fun _ l=>k-(intOf l).toNat)
  case atStart=>exact ⟨0,nzl _,rfl,by simp [inS]⟩
  case round=>
   obtain ⟨j,hj,rfl,rfl⟩:=hrel;have hil:=zYE h.out j;by_cases hlt:j<k
   ·have hji:(j:Int)<(k:Int):=(by omega);go_wp2;(go_loop [15,16] (fun b i=>∃ r:Nat,r<=O.n/\i = .int .i64 r/\b = .bool (decide (¬ ((j:Int) ∈ h.out.take r)))) (fun _ i=>O.n-(intOf i).toNat));case atStart=>exact ⟨0,nzl _,rfl,by simp⟩
    case round=>
     obtain ⟨r,hr,rfl,rfl⟩:=hrel;by_cases hlr:r<O.n
     ·have hri:(r:Int)<(O.n:Int):=(by omega);obtain ⟨ad,e,x0⟩:=HO.out.cell r hlr;have Hst:=hdq (zZh (out:=h.out) (r:=r) (by rw [Hol.out]; exact hlr) (j:Int));obtain ⟨OA,On,Oc⟩:=O;dsimp only at e hlr hri ole ocap c2 hr;subst e;generalize h.out.getD r 0=y at *;generalize decide (¬ ((j:Int) ∈ h.out.take r))=bb at *
      cases bb with
      | false=>
       go_wp2;go_round;case rel=>exact ⟨r+1,by show r+1<=On; omega,by go_num,by rw [Hst.out]; rfl⟩
       case measure=>simp [intOf]; omega
      | true=>
       by_cases hy:y=(j:Int)
       ·have hyb:(y != (j:Int))=false:=(by simp [hy]);have Hyb:=hdq hyb;clear hy;go_wp2;go_round;case rel=>exact ⟨r+1,by show r+1<=On; omega,by go_num,by rw [Hst.out,Hyb.out]; rfl⟩
        case measure=>simp [intOf]; omega
       ·have hyb:(y != (j:Int))=true:=(by simpa using hy);have Hyb:=hdq hyb;clear hy;go_wp2;go_round;case rel=>exact ⟨r+1,by show r+1<=On; omega,by go_num,by rw [Hst.out,Hyb.out]; rfl⟩
        case measure=>simp [intOf]; omega
     ·(obtain rfl:r=O.n:=by omega);rw [show h.out.take O.n=h.out by rw [<-Hol.out,List.take_length]];by_cases hin:(j:Int) ∈ h.out
      ·have hd:decide (¬ ((j:Int) ∈ h.out))=false:=(by simp [hin]);rw [hd];have Hk:=hdq (zYe hin);clear hin hd;go_wp2;go_round;case rel=>exact ⟨j+1,by omega,by go_num,by rw [Hk.out]; go_num⟩
       case measure=>simp [intOf]; omega
      ·have hd:decide (¬ ((j:Int) ∈ h.out))=true:=(by simp [hin]);rw [hd];have Hk:=hdq (zYf hin);clear hin hd;go_wp2;go_round;case rel=>exact ⟨j+1,by omega,by go_num,by rw [Hk.out,List.length_append,List.length_singleton]; go_num⟩
       case measure=>simp [intOf]; omega
   ·(obtain rfl:j=k:=by omega);go_wp2;(go_loop [17,18] (fun b i=>∃ r:Nat,r<=O.n/\i = .int .i64 r/\b = .bool (decide (¬ ((j:Int) ∈ h.out.take r)))) (fun _ i=>O.n-(intOf i).toNat));case atStart=>exact ⟨0,nzl _,rfl,by simp⟩
    case round=>
     obtain ⟨r,hr,rfl,rfl⟩:=hrel;by_cases hlr:r<O.n
     ·have hri:(r:Int)<(O.n:Int):=(by omega);obtain ⟨ad,e,x0⟩:=HO.out.cell r hlr;have Hst:=hdq (zZh (out:=h.out) (r:=r) (by rw [Hol.out]; exact hlr) (j:Int));obtain ⟨OA,On,Oc⟩:=O;dsimp only at e hlr hri ole ocap c2 hr;subst e;generalize h.out.getD r 0=y at *;generalize decide (¬ ((j:Int) ∈ h.out.take r))=bb at *
      cases bb with
      | false=>
       go_wp2;go_round;case rel=>exact ⟨r+1,by show r+1<=On; omega,by go_num,by rw [Hst.out]; rfl⟩
       case measure=>simp [intOf]; omega
      | true=>
       by_cases hy:y=(j:Int)
       ·have hyb:(y != (j:Int))=false:=(by simp [hy]);have Hyb:=hdq hyb;clear hy;go_wp2;go_round;case rel=>exact ⟨r+1,by show r+1<=On; omega,by go_num,by rw [Hst.out,Hyb.out]; rfl⟩
        case measure=>simp [intOf]; omega
       ·have hyb:(y != (j:Int))=true:=(by simpa using hy);have Hyb:=hdq hyb;clear hy;go_wp2;go_round;case rel=>exact ⟨r+1,by show r+1<=On; omega,by go_num,by rw [Hst.out,Hyb.out]; rfl⟩
        case measure=>simp [intOf]; omega
     ·(obtain rfl:r=O.n:=by omega);rw [show h.out.take O.n=h.out by rw [<-Hol.out,List.take_length]];have hpq:pn=qn:=(show pn=((vars h).length:Int) from HL1.out.n).trans (show qn=((vars h).length:Int) from HQ1.out.n).symm;subst hpq;have hq':=HQ1.out.imp (X':=AllB) fun _ _ _=>trivial
      have HF:=hdq HN1.out.low;by_cases hin:(j:Int) ∈ h.out
      ·have hd:decide (¬ ((j:Int) ∈ h.out))=false:=(by simp [hin]);rw [hd]
       have hrw:rows (turned h j) m'=rows h m':=by
        rcases zZf hkh m' with ⟨-,e⟩ | ⟨e,-⟩
        ·exact e
        ·exact absurd hin (by have:=(List.mem_filter.1 e).2; simpa using this)
       have HIs:=hdq (zZn (p:=⟨pn,⟨oA,on,oc⟩,⟨rA,qrn,rc⟩,⟨bA,bn,bc⟩⟩) (q:=⟨pn,⟨qOA,qon,qoc⟩,⟨qA,qrn,qrc⟩,⟨qBA,qbn,qbc⟩⟩) rfl HL1.out.o HL1.out.r HL1.out.b (show MatCan w11 AllB AllB _ [obj (vars h)] from hq'.o) (by rw [<-hrw]; exact hq'.r) (by rw [<-hrw]; exact hq'.b));dsimp only [LPV.val] at HIs;clear hin hd hq' hrw;(go_wp2_with fail);refine HIs.out.mono ?_;rintro e w12 ⟨rfl,hb12⟩;have HF2:=hdq (HF.out.trans (hb12.mono HF.out.size));clear hb12;go_wp2;go_ret;exact ⟨rfl,HF2.out⟩
      ·have hd:decide (¬ ((j:Int) ∈ h.out))=true:=(by simp [hin]);rw [hd];have hji:j ∈ ins h:=List.mem_filter.2 ⟨List.mem_range.2 hkh,by simpa using hin⟩
       obtain ⟨A,B',r,cq,hAl,hr1,hr2⟩:∃ (A B':List (List Rat × Rat)) (r:List Rat) (c:Rat),A.length=2*(refsOf h).length+2*rank h j/\rows h m'=A++([(r,c),(neg r,c)]++B')/\rows (turned h j) m'=A++([(neg r,c),(r,c)]++B'):=by
        rcases zZf hkh m' with ⟨e,-⟩ | ⟨-,e⟩
        ·exact absurd hji e
        ·exact e
       rw [zZJ (Nat.le_of_lt hkh),Hsn.out] at hAl
       have hlen:A.length+1<qrn:=by
        have h1:=Hrn.out;rw [hr1] at h1;simp at h1;omega
       rw [show (2*(sn:Int)+2*((inS j h.out).length:Int))=(A.length:Int) by omega];have hlei:(A.length:Int)+1<(qrn:Int):=(by omega);have hlei2:(A.length:Int)<(qrn:Int):=(by omega);have hbig:A.length<=1000:=by have:=Hrn.out; rw [hAl]; omega
       have Hr1:=hdq hr1;have Hr2:=hdq hr2;clear hAl hr1 hr2 hin hd hji;generalize hAA:A.length=a at *;have HAA:=hdq hAA;clear hAA
       obtain ⟨ad,e⟩:∃ ad,qA=some ad:=by
        obtain ⟨ad,r0,e,-⟩:=HQ1.out.r.row 0 (by show 0<qrn; omega);exact ⟨ad,e⟩
       subst e;obtain ⟨b,o,sp⟩:=ad
       obtain rfl:sp=none:=by
        obtain ⟨s0,k0,-⟩:=HQ1.out.ap.el _ rfl 0 (by show 0<qrn; omega);exact World.cell?_spot (by rw [add_zero'] at k0; exact k0)
       obtain ⟨⟨A1,n1,d1⟩,k1,v1⟩:=HQ1.out.ap.el _ rfl a (by show a<qrn; omega);obtain ⟨⟨A2,n2,d2⟩,k2,v2⟩:=HQ1.out.ap.el _ rfl (a+1) (by show a+1<qrn; omega);obtain ⟨hXb,hbl,hbf⟩:=HQ1.out.ap.arr _ rfl;rw [zA4] at k1 k2;dsimp only [SV.val] at k1 k2 hbl hbf hXb;have hbq:b<qb:=Hqlt.out _ rfl;have hXb':W'.heap.size<=b:=hXb;have hbq':¬ qb=b:=(by omega);have hbp':¬ pb=b:=(by omega);have hwr:IntKind.i64.wrap ((a:Int)+1)=(a:Int)+1:=IntWalk.i64_in _ (by omega);have h0a:(0:Int)<=(a:Int)+1:=(by omega);have h0t:((a:Int)+1).toNat=a+1:=(by omega);have HV1:=hdq v1;have HV2:=hdq v2;have HK1:=hdq k1;have HK2:=hdq k2;clear v1 v2;(go_upto_region 31 with fail);refine zAp 19 (fun fl w'=>(fl=false->Sees 0 [] w11 w')/\w'.cell? ⟨qb,2,none⟩=some (.slice (some ⟨b,o,none⟩) qrn qrc)) (by kernel_rfl) ?_;have hS0:Sees 0 [] w11 w11.drew:=Sees.st (by simp) (nzl _);have hq2:w11.drew.cell? ⟨qb,2,none⟩=some (.slice (some ⟨b,o,none⟩) qrn qrc):=q2;refine tx1 0 (⟨fun _=>hS0,hq2⟩) ?_;refine tkE 1 (.slice (some ⟨b,o,none⟩) qrn qrc) (fun w' hSw=>?_) (⟨fun _=>hS0,hq2⟩) ?_
       ·(obtain ⟨_,-,hSw⟩:=hSw; go_simp; try with_reducible rfl)
       simp only [zz];refine tx1 2 (⟨fun _=>hS0,hq2⟩) ?_;refine tx1 3 (⟨fun _=>hS0,hq2⟩) ?_;refine tkE 4 (.slice (some ⟨b,o,none⟩) qrn qrc) (fun w' hSw=>?_) (⟨fun _=>hS0,hq2⟩) ?_
       ·(obtain ⟨_,-,hSw⟩:=hSw; go_simp; try with_reducible rfl)
       simp only [zz];refine tx1 5 (⟨fun _=>hS0,hq2⟩) ?_;refine tx1 6 (⟨fun _=>hS0,hq2⟩) ?_;refine tx1 7 (⟨fun _=>hS0,hq2⟩) ?_;refine tkE 8 (.slice (some ⟨b,o,none⟩) qrn qrc) (fun w' hSw=>?_) (⟨fun _=>hS0,hq2⟩) ?_
       ·(obtain ⟨_,-,hSw⟩:=hSw; go_simp; try with_reducible rfl)
       simp only [zz];refine tx1 9 (⟨fun _=>hS0,hq2⟩) ?_;refine tx1 10 (⟨fun _=>hS0,hq2⟩) ?_;refine tx1 11 (⟨fun _=>hS0,hq2⟩) ?_;refine tkW 12 (.slice A2 n2 d2) (fun w' hSw=>?_) (⟨fun _=>hS0,hq2⟩) ?_
       ·(replace hSw:=hSw.1 rfl; go_simp; try with_reducible rfl)
       simp only [zz];refine tx1 13 (⟨fun _=>hS0,hq2⟩) ?_;refine tkE 14 (.slice (some ⟨b,o,none⟩) qrn qrc) (fun w' hSw=>?_) (⟨fun _=>hS0,hq2⟩) ?_
       ·(obtain ⟨_,-,hSw⟩:=hSw; go_simp; try with_reducible rfl)
       simp only [zz];refine tx1 15 (⟨fun _=>hS0,hq2⟩) ?_;refine tx1 16 (⟨fun _=>hS0,hq2⟩) ?_;refine tkW 17 (.slice A1 n1 d1) (fun w' hSw=>?_) (⟨fun _=>hS0,hq2⟩) ?_
       ·(replace hSw:=hSw.1 rfl; go_simp; try with_reducible rfl)
       simp only [zz];refine tx1 18 (⟨fun _=>hS0,hq2⟩) ?_;refine tk1 19 ?_;intro K hK;go_simp;have hk19:(w11.setCell ⟨b,o+a,none⟩ (.slice A2 n2 d2)).drew.cell? ⟨qb,2,none⟩=some (.slice (some ⟨b,o,none⟩) qrn qrc):=(cob (a:=⟨qb,2,none⟩) (bhs _ _ _ _ hbq')).trans q2;refine hK.out _ _ ⟨fun h=>absurd h (by decide),hk19⟩ ?_;clear hK K;refine tx1 20 (⟨fun h=>absurd h (by decide),hk19⟩) ?_;have hoa:¬ o+(a+1)=o+a:=(by omega);have hoa':¬ o+a=o+(a+1):=(by omega);refine tk1 21 ?_;intro K hK;go_simp;have hk21:((w11.setCell ⟨b,o+a,none⟩ (.slice A2 n2 d2)).setCell ⟨b,o+(a+1),none⟩ (.slice A1 n1 d1)).drew.cell? ⟨qb,2,none⟩=some (.slice (some ⟨b,o,none⟩) qrn qrc):=(cob (a:=⟨qb,2,none⟩) (bhs _ _ _ _ hbq')).trans hk19;refine hK.out _ _ ⟨fun h=>absurd h (by decide),hk21⟩ ?_;clear hK K;refine zAf (by kernel_rfl) ?_ _
       have hgen:∀ w',w'=((w11.setCell ⟨b,o+a,none⟩ (.slice A2 n2 d2)).setCell ⟨b,o+(a+1),none⟩ (.slice A1 n1 d1)).drew->HBx w hbx ⟨h.buses,⟨some la,ln,lc⟩,O,U,N,B⟩ w'/\PBx pb ⟨pn,⟨oA,on,oc⟩,⟨rA,qrn,rc⟩,⟨bA,bn,bc⟩⟩ w'/\PBx qb ⟨pn,⟨qOA,qon,qoc⟩,⟨some ⟨b,o,none⟩,qrn,qrc⟩,⟨qBA,qbn,qbc⟩⟩ w'/\(MatCan w' AllB AllB ⟨oA,on,oc⟩ [obj (vars h)]/\MatCan w' AllB AllB ⟨rA,qrn,rc⟩ ((rows h m').map Prod.fst)/\VecCan w' AllB AllB ⟨bA,bn,bc⟩ ((rows h m').map Prod.snd))/\(MatCan w' AllB AllB ⟨qOA,qon,qoc⟩ [obj (vars h)]/\MatCan w' AllB AllB ⟨some ⟨b,o,none⟩,qrn,qrc⟩ ((rows h m').map Prod.fst)/\VecCan w' AllB AllB ⟨qBA,qbn,qbc⟩ ((rows h m').map Prod.snd)):=fun w' hw=>by
        have hf:∀ q:Addr,q.block ≠ b->w'.cell? q=w11.cell? q:=fun q hq=>by
         rw [hw]; exact cob ((bhs _ _ _ _ hq).trans (bhs _ _ _ _ hq))
        have hlow:Below W' w11 w':=by rw [hw]; exact ((((brf _ _).setCell (p:=⟨b,o+a,none⟩) hXb' _).setCell (p:=⟨b,o+(a+1),none⟩) hXb' _)).drew
        have hwW:w.heap.size<=W'.heap.size:=HwW.out;have hpk:∀ q:Addr,q.block<W'->q.block<w11->w'.cell? q=w11.cell? q:=(fun q hq _=>hf q (by omega));obtain ⟨x0,x1,x2,x3,x4,x5,x6⟩:=HN1.out;have hhb:hbx ≠ b:=by have:=HhW.out; omega
        refine ⟨⟨x0.trans (hlow.mono hwW),(hf _ hhb).trans x1,(hf _ hhb).trans x2,(hf _ hhb).trans x3,(hf _ hhb).trans x4,(hf _ hhb).trans x5,(hf _ hhb).trans x6⟩,⟨(hf _ hbp').trans HP1.out.c0,(hf _ hbp').trans HP1.out.c1,(hf _ hbp').trans HP1.out.c2,(hf _ hbp').trans HP1.out.c3⟩,⟨(hf _ hbq').trans HQb.out.c0,(hf _ hbq').trans HQb.out.c1,(hf _ hbq').trans HQb.out.c2,(hf _ hbq').trans HQb.out.c3⟩,?_,?_⟩
        ·exact ⟨(MatAt.keep (R':=QCan w' _) HL1.out.o hpk fun _ _ hq=>hq.keep hpk).imp (fun _ _ _=>trivial) fun _ _ hq=>hq.imp fun _ _ _=>trivial,(MatAt.keep (R':=QCan w' _) HL1.out.r hpk fun _ _ hq=>hq.keep hpk).imp (fun _ _ _=>trivial) fun _ _ hq=>hq.imp fun _ _ _=>trivial,(VecAt.keep (R':=QCan w' _) HL1.out.b hpk fun _ _ hq=>hq.keep hpk).imp (fun _ _ _=>trivial) fun _ _ hq=>hq.imp fun _ _ _=>trivial⟩
        ·exact zZC HQ1.out rfl hlen HAA.out Hr1.out Hr2.out hw HV1.out HV2.out HK1.out HK2.out
       have HG:=hdq (hgen _ rfl);clear hgen hk19 hk21 hS0 hq2 hq' HF HL1 HQ1 HN1 HP1 HQb HV1 HV2 HK1 HK2 c0 c1 c2 c3 c4 c5 p0 p1 p2 p3 q0 q1 q2 q3 k1 k2 hbf hoa hoa' hwr h0a h0t HO;generalize ((w11.setCell ⟨b,o+a,none⟩ (.slice A2 n2 d2)).setCell ⟨b,o+(a+1),none⟩ (.slice A1 n1 d1)).drew=wf at *;obtain ⟨hN,hP,hQ2,⟨po,pr,pbd⟩,qo,qr,qbd⟩:=HG.out;have HIs:=hdq (zZn (p:=⟨pn,⟨oA,on,oc⟩,⟨rA,qrn,rc⟩,⟨bA,bn,bc⟩⟩) (q:=⟨pn,⟨qOA,qon,qoc⟩,⟨some ⟨b,o,none⟩,qrn,qrc⟩,⟨qBA,qbn,qbc⟩⟩) rfl po pr pbd qo qr qbd);dsimp only [LPV.val] at HIs;obtain ⟨p0,p1,p2,p3⟩:=hP;obtain ⟨q0,q1,q2,q3⟩:=hQ2;dsimp only at p0 p1 p2 p3 q0 q1 q2 q3;have HF:=hdq hN.low;clear hN po pr pbd qo qr qbd HG;(go_wp2_with fail);refine HIs.out.mono ?_;rintro e w12 ⟨rfl,hb12⟩;have HF2:=hdq (HF.out.trans (hb12.mono HF.out.size));clear hb12;go_wp2;go_ret;exact ⟨rfl,HF2.out⟩
end Mo
end Go.Proofs.YtjancagcmghfjaaGreat
