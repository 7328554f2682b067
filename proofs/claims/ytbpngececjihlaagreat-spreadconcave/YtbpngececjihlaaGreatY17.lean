/- Texts Pr3 of this claim. -/
import Derived.Test.YtbpngececjihlaaGreatY16
import Derived.Deep.CutRange
set_option maxHeartbeats 4000000
set_option maxRecDepth 40000
namespace Go.Proofs.YtbpngececjihlaaGreat
open Go.RowKit Go.Shelf
variable {f:Nat->Rat} {N i V M E row kb col:Nat} {G:Nat->Prop} {w:World}
def PSLoop (w:World) (f:Nat->Rat) (N:Nat) (t:Value) (W:World):Prop:=
 ∃ i:Nat,i<=N/\t = .int .i64 i/\(∀ j,j<i->f j=0)/\Below w w W
def SgRet (N:Nat) (f:Nat->Rat) (e:Ending):Prop:=∃ s:Int,e = .returned (.int .i64 s)/\(s<0 ↔ Lin.LexNeg N f)
theorem zDs (hi:i<N) (h:∀ j,j<i->f j=0) (h0:f i ≠ 0):Lin.LexNeg N f ↔ f i<0:=by
 constructor
 ·rintro ⟨j,hj,h1,h2⟩;rcases Nat.lt_trichotomy i j with hl | hl | hl
  ·exact absurd (h2 i hl) h0
  ·rw [hl]; exact h1
  ·have:=h j hl; grind
 ·intro h1; exact ⟨i,hi,h1,h⟩
theorem zCS (h:∀ j,j<N->f j=0):¬ Lin.LexNeg N f:=fun ⟨j,hj,h1,_⟩=>by have:=h j hj; grind
theorem zEt {x:PV} {pb:Nat} {D:Lin.Dict} (h:PDA w G x V M E D) (hp:IntsAt' w pb M (plc D V V)) (hr:row<M) (hV:V<=E) (hE:E<=1001) (hM:M<=1000) (hB:D.basic row<V+M)
  (hf:∀ i,i<E+1-V+M->Lin.Fits kb (rv D V E row i)) (hk:2*kb+1<=LM) :
  Calls Tryz.prog 179 #[.pointer (some x.d),.int .i64 (row:Int),.slice (some pb) M M] w fun e w'=>SgRet (E+1-V+M) (rv D V E row) e/\Below w w w':=by
 have HK:=hdq hk;have HF:=hdq hf;clear hk hf;go_enter Tryz.func179,Tryz.ntmps179
 go_wp2_with fail
 refine (zEu h (by omega) hE hM).mono ?_; rintro e w1 ⟨rfl,hb1⟩
 obtain ⟨N,hN⟩:∃ N,N=E+1-V+M:=⟨_,rfl⟩;rw [<-hN] at HF ⊢;have HN:=hdq hN;have hN1:N<=3000:=by omega
 clear hN;have H1:PSLoop w (rv D V E row) N (.int .i64 0) w1:=⟨0,nzl _,rfl,fun j hj=>by omega,hb1⟩;clear hb1;go_wp2;go_loopw [11] (fun t W=>PSLoop w (rv D V E row) N t W) (fun t _=>N-(intOf t).toNat)
 case atStart=>exact H1
 case round=>
  clear H1;obtain ⟨i,hi,rfl,hz,hBl⟩:=hrel;by_cases hlt:i<N
  ·have hii:(i:Int)<(N:Int):=(by omega);have hD:=hdq (h.call hBl);have hP:=hdq (hp.keep hBl);have HZ:=hdq hz;clear hz;(go_wp2_with fail);refine (zCU hD.out hP.out hr (by have:=HN.out; omega) hV hE hM hB).mono ?_; rintro e w2 ⟨⟨v,rfl,hv⟩,hb2⟩
   have hb12:=hBl.trans (hb2.mono hBl.size);have HV:=hdq hv;clear hv;(go_wp2_with fail);refine (zAn (HV.out.qis (zAv (HF.out i hlt)))).mono ?_; rintro e w3 ⟨rfl,hb3⟩
   have hb13:=hb12.trans (hb3.mono hb12.size);clear hBl hb2 hb3 hb12 hD hP;by_cases h0:rv D V E row i=0
   ·have hq:(qsign (rv D V E row i) == 0)=true:=by rw [h0]; rfl
    have hq2:qsign (rv D V E row i)=0:=by rw [h0]; rfl
    have Hfin:Hid (PSLoop w (rv D V E row) N (.int .i64 ((i:Int)+1)) w3):=⟨i+1,by omega,by simp,fun j hj=>by
     by_cases e:j=i
     ·rw [e]; exact h0
     ·exact HZ.out j (by omega),hb13⟩
    clear hb13 h0;go_wp2;go_roundw;case rel=>exact Hfin.out
    case measure=>simp [intOf]; omega
   ·have hq:(qsign (rv D V E row i) == 0)=false:=zDd h0;have hq2:¬ qsign (rv D V E row i)=0:=by simpa using hq
    have HS:Hid (qsign (rv D V E row i)<0 ↔ Lin.LexNeg N (rv D V E row)):=by
     show _ ↔ _;rw [zDs hlt HZ.out h0];unfold qsign;constructor
     ·intro h;(refine Decidable.byContradiction fun hn=>?_);rw [if_neg hn] at h;first | omega | (split at h <;> omega)
     ·intro h; rw [if_pos h]; omega
    have HB:=hdq hb13;clear h0 hb13;go_wp2;(try rw [Exit.noGoto_ret]);go_ret;exact ⟨⟨_,rfl,by rw [<-HN.out]; exact HS.out⟩,HB.out⟩
  ·(obtain rfl:i=N:=by omega);have HZ:=hdq (zCS hz);clear hz;go_wp2;go_ret;exact ⟨⟨0,rfl,⟨fun h=>by omega,fun h=>absurd (by rw [HN.out]; exact h) HZ.out⟩⟩,hBl⟩
theorem qcmp3 (p q:Rat):(p<q/\qcmp p q=-1)\/(p=q/\qcmp p q=0)\/(q<p/\qcmp p q=1):=by
 unfold qcmp;grind
def PLLoop (w:World) (f:Nat->Rat) (N:Nat) (t:Value) (W:World):Prop:=
 ∃ i:Nat,i<=N/\t = .int .i64 i/\(∀ j,j<i->f j=0)/\Below w w W
theorem zHz {x:PV} {other pb:Nat} {D:Lin.Dict} (h:PDA w G x V M E D) (hp:IntsAt' w pb M (plc D V V)) (hr:row<M) (ho:other<M) (hc:col<V) (hV:V<=E) (hE:E<=1001) (hM:M<=1000) (hB:∀ i,i<M->D.basic i<V+M)
  (hf:∀ r i,r<M->i<E+1-V+M->Lin.Fits kb (rv D V E r i)) (hfa:∀ i j,i<M->j<=E->Lin.Fits kb (D.a i j)) (hk:2*kb+1<=LM) :
  Calls Tryz.prog 180 #[.pointer (some x.d),.int .i64 (row:Int),.int .i64 (other:Int),.int .i64 (col:Int),.slice (some pb) M M] w fun e w'=>
   (∃ b:Bool,e = .returned (.bool b)/\(b=true ↔ Lin.LexNeg (E+1-V+M) fun k=>rv D V E row k*D.a other col-rv D V E other k*D.a row col))/\Below w w w':=by
 have HK:=hdq hk;have HK1:Hid (kb+1<=LM):=by show kb+1<=LM; omega
 have HF:=hdq hf;have HFA:=hdq hfa;have HB:=hdq hB;clear hk hf hfa hB;go_enter Tryz.func180,Tryz.ntmps180
 go_wp2_with fail
 refine (zEu h (by omega) hE hM).mono ?_; rintro e w1 ⟨rfl,hb1⟩
 obtain ⟨N,hN⟩:∃ N,N=E+1-V+M:=⟨_,rfl⟩;rw [<-hN] at HF ⊢;have HN:=hdq hN;have hN1:N<=3000:=by omega
 clear hN;have H1:PLLoop w (fun k=>rv D V E row k*D.a other col-rv D V E other k*D.a row col) N (.int .i64 0) w1:=⟨0,nzl _,rfl,fun j hj=>by omega,hb1⟩;clear hb1;go_wp2;go_loopw [17] (fun t W=>PLLoop w (fun k=>rv D V E row k*D.a other col-rv D V E other k*D.a row col) N t W) (fun t _=>N-(intOf t).toNat)
 case atStart=>exact H1
 case round=>
  clear H1;obtain ⟨i,hi,rfl,hz,hBl⟩:=hrel;by_cases hlt:i<N
  ·have hii:(i:Int)<(N:Int):=(by omega);obtain ⟨d,⟨bA,bn,bc⟩,⟨fA,fn,fc⟩,⟨rA,rn,rc⟩,rb,rs,cb,cc⟩:=x;obtain rfl:M=rn:=h.row.len.symm;have l3:M<=rc:=h.row.le;have l3':rc<=9223372036854775807:=h.row.cap;have HD1:=hdq (h.call hBl);have HP1:=hdq (hp.keep hBl);have HZ:=hdq hz;have hoi:(other:Int)<(M:Int):=(by omega);have hri:(row:Int)<(M:Int):=(by omega);have hci:(col:Int)<(E:Int)+1:=(by omega);have hBW:w.heap.size<=wr.heap.size:=hBl.size;clear hz;(go_upto_region 4 with fail);obtain ⟨gr,e,r0,r1,r2⟩:=HD1.out.row.elem ho;dsimp only at e r0;have hrow:=HD1.out.rows other ho;have hcap:=HD1.out.caps other ho;dsimp only at hrow hcap;subst e;obtain ⟨u,⟨q0,q1,q2,q3⟩,hu⟩:=hrow.elem col (by rw [zAm]; omega);rw [zAL _ (by omega)] at hu;dsimp only at q1 q2 q3;have hrl:=hrow.lt;have Hu:=hdq (hu.qis (zAv (HFA.out other col ho (by omega))));obtain ⟨c0,c1,c2,c3,c4,c8⟩:=HD1.out.cells;dsimp only [SV.val] at c0 c1 c2 c3 c4 c8;have hdl2:d<wr.heap.size:=HD1.out.dlt;clear hrow hu;go_cut [12,17] from 17 to 59 (fun p t W=>∃ (g:Nat) (y:QV),t = .int .i64 (i:Int)/\p = .pointer (some g)/\wr.heap.size<=g/\Box4 W g (.bool y.num.ng) (.slice y.num.A y.num.n y.num.c) (.bool y.den.ng) (.slice y.den.A y.den.n y.den.c)/\QCan W (New wr) y (rv D V E row i*D.a other col)/\Below wr wr W)
   case first=>
    go_region_held3 (Sees w [] wr) (exact kp)
     (first
      | (go_at_call 215; ((with_reducible refine (zCU (i:=i) (HD1.out.call (Sees.kept (by assumption)).whole) (HP1.out.keep (Sees.kept (by assumption)).whole) hr (by have:=HN.out; omega) hV hE hM (HB.out _ hr)).mono ?_); rintro e w3 ⟨⟨v,rfl,hv⟩,hb3⟩; (have sz3:wr.heap.size<=w3.heap.size:=by exact nlt (Sees.kept (by assumption):Kept w [] wr _).size hb3.size); (obtain ⟨hc3,hf3⟩:=bcell hb3); (have lt3:=fun (b:Nat) h=>ltl (n:=b) h hb3.size)))
      | (go_at_call 13; ((with_reducible refine (zBb (a:=v) (b:=u) (hv.qis (zAv (HF.out _ i hr hlt))) (Hu.out.keptNil (Sees.kept (by assumption))) HK1.out HK1.out).mono ?_); rintro e w4 ⟨⟨y,rfl,hy⟩,hb4⟩; (have sz4:wr.heap.size<=w4.heap.size:=by exact nlt (Sees.kept (by assumption):Kept w [] wr _).size hb4.size); (obtain ⟨hc4,hf4⟩:=bcell hb4); (have lt4:=fun (b:Nat) h=>ltl (n:=b) h hb4.size)))
      | (go_at_call 13; ((with_reducible refine (zBb (a:=v) (b:=u) ((hv.below (bal)).qis (zAv (HF.out _ i hr hlt))) (Hu.out.keptNil (Sees.kept (by assumption))) HK1.out HK1.out).mono ?_); rintro e w4 ⟨⟨y,rfl,hy⟩,hb4⟩; (have sz4:wr.heap.size<=w4.heap.size:=by exact nlt (Sees.kept (by assumption):Kept w [] wr _).size hb4.size); (obtain ⟨hc4,hf4⟩:=bcell hb4); (have lt4:=fun (b:Nat) h=>ltl (n:=b) h hb4.size)))
      | fail)
    ·rename_i hS;(go_wp2_with fail);go_meet;case rel=>exact ⟨_,y,rfl,rfl,sz4,bx4,(hy.below (bal)).lower sz3,hS.kept.whole⟩
    ·rename_i hS;(go_wp2_with fail);go_meet;case rel=>exact ⟨_,y,rfl,rfl,sz3,bx4,(hy.set4 (by simp)).lower (by simp; omega),hS.kept.whole⟩
    ·rename_i hS;(go_wp2_with fail);go_meet
     case rel=>
      have b0:Box4 (wr.alloc (.cells #[.bool false,.slice none 0 0,.bool false,.slice none 0 0] 30)).drew wr (.bool false) (.slice none 0 0) (.bool false) (.slice none 0 0):=bx4;exact ⟨_,y,rfl,rfl,nlr _,((b0.below hb3 (by simp)).below hb4 (lt3 _ (by simp))).stored _ _ _ _,(hy.set4 (lt3 _ (by simp))).lower (by omega),hS.kept.whole⟩
   case rest=>
    obtain ⟨g1,y1,rfl,rfl,hg1,bY1,hy1,hb1⟩:=hcut;have HD2:=hdq (HD1.out.call hb1);have HP2:=hdq (HP1.out.keep hb1);have hBW2:w.heap.size<=wc.heap.size:=by have:=hb1.size; omega
    have hb02:=hBl.trans (hb1.mono hBW);clear c0 c1 c2 c3 c4 c8 q0 q1 q2 q3 r0 r1 r2;have HY1:=hdq hy1;clear hy1 hb1 hBl;generalize wc=wd at *;(go_upto_region 5 with fail);obtain ⟨gr,e,r0,r1,r2⟩:=HD2.out.row.elem hr;dsimp only at e r0;have hrow:=HD2.out.rows row hr;have hcap:=HD2.out.caps row hr;dsimp only at hrow hcap;cases e;obtain ⟨u,⟨q0,q1,q2,q3⟩,hu⟩:=hrow.elem col (by rw [zAm]; omega);rw [zAL _ (by omega)] at hu;dsimp only at q1 q2 q3;have hrl:=hrow.lt;have Hu:=hdq (hu.qis (zAv (HFA.out row col hr (by omega))));obtain ⟨c0,c1,c2,c3,c4,c8⟩:=HD2.out.cells;dsimp only [SV.val] at c0 c1 c2 c3 c4 c8;have hdl2:d<wd.heap.size:=HD2.out.dlt;clear hrow hu;go_cut [12,13,17] from 17 to 59 (fun p0 p t W=>p0 = .pointer (some g1)/\∃ (g:Nat) (y:QV),t = .int .i64 (i:Int)/\p = .pointer (some g)/\wd.heap.size<=g/\Box4 W g (.bool y.num.ng) (.slice y.num.A y.num.n y.num.c) (.bool y.den.ng) (.slice y.den.A y.den.n y.den.c)/\QCan W (New wd) y (rv D V E other i*D.a row col)/\Below wd wd W)
    case first=>
     go_region_held3 (Sees w [] wd) (exact kp)
      (first
       | (go_at_call 215; ((with_reducible refine (zCU (i:=i) (HD2.out.call (Sees.kept (by assumption)).whole) (HP2.out.keep (Sees.kept (by assumption)).whole) ho (by have:=HN.out; omega) hV hE hM (HB.out _ ho)).mono ?_); rintro e w3 ⟨⟨v,rfl,hv⟩,hb3⟩; (have sz3:wd.heap.size<=w3.heap.size:=by exact nlt (Sees.kept (by assumption):Kept w [] wd _).size hb3.size); (obtain ⟨hc3,hf3⟩:=bcell hb3); (have lt3:=fun (b:Nat) h=>ltl (n:=b) h hb3.size)))
       | (go_at_call 13; ((with_reducible refine (zBb (a:=v) (b:=u) (hv.qis (zAv (HF.out _ i ho hlt))) (Hu.out.keptNil (Sees.kept (by assumption))) HK1.out HK1.out).mono ?_); rintro e w4 ⟨⟨y,rfl,hy⟩,hb4⟩; (have sz4:wd.heap.size<=w4.heap.size:=by exact nlt (Sees.kept (by assumption):Kept w [] wd _).size hb4.size); (obtain ⟨hc4,hf4⟩:=bcell hb4); (have lt4:=fun (b:Nat) h=>ltl (n:=b) h hb4.size)))
       | (go_at_call 13; ((with_reducible refine (zBb (a:=v) (b:=u) ((hv.below (bal)).qis (zAv (HF.out _ i ho hlt))) (Hu.out.keptNil (Sees.kept (by assumption))) HK1.out HK1.out).mono ?_); rintro e w4 ⟨⟨y,rfl,hy⟩,hb4⟩; (have sz4:wd.heap.size<=w4.heap.size:=by exact nlt (Sees.kept (by assumption):Kept w [] wd _).size hb4.size); (obtain ⟨hc4,hf4⟩:=bcell hb4); (have lt4:=fun (b:Nat) h=>ltl (n:=b) h hb4.size)))
       | fail)
     ·rename_i hS;(go_wp2_with fail);go_meet;case rel=>exact ⟨rfl,_,y,rfl,rfl,sz4,bx4,(hy.below (bal)).lower sz3,hS.kept.whole⟩
     ·rename_i hS;(go_wp2_with fail);go_meet;case rel=>exact ⟨rfl,_,y,rfl,rfl,sz3,bx4,(hy.set4 (by simp)).lower (by simp; omega),hS.kept.whole⟩
     ·rename_i hS;(go_wp2_with fail);go_meet
      case rel=>
       have b0:Box4 (wd.alloc (.cells #[.bool false,.slice none 0 0,.bool false,.slice none 0 0] 30)).drew wd (.bool false) (.slice none 0 0) (.bool false) (.slice none 0 0):=bx4;exact ⟨rfl,_,y,rfl,rfl,nlr _,((b0.below hb3 (by simp)).below hb4 (lt3 _ (by simp))).stored _ _ _ _,(hy.set4 (lt3 _ (by simp))).lower (by omega),hS.kept.whole⟩
    case rest=>
     obtain ⟨rfl,g2,y2,rfl,rfl,hg2,bY2,hy2,hb2⟩:=hcut;have hgl1:g1<wd.heap.size:=zAb bY1.1;have bY1c:=bY1.below hb2 hgl1;have hb3:=hb02.trans (hb2.mono hBW2);have hgl2:g2<wc.heap.size:=zAb bY2.1;have hgl3:g1<wc.heap.size:=zAb bY1c.1;clear c0 c1 c2 c3 c4 c8 q0 q1 q2 q3 r0 r1 r2;obtain ⟨p0,p1,p2,p3,p4⟩:=id bY1c;obtain ⟨m0,m1,m2,m3,m4⟩:=id bY2;have HY1c:=hdq ((HY1.out.below hb2).qis (zAv ((HF.out row i hr hlt).mul (HFA.out other col ho (by omega)))));have HY2c:=hdq (hy2.qis (zAv ((HF.out other i ho hlt).mul (HFA.out row col hr (by omega)))));clear hb2 hy2 bY1 bY1c bY2;(go_wp2_with fail);refine (zBg (a:=y1) (b:=y2) HY1c.out HY2c.out (by have:=HK.out; omega) (by have:=HK.out; omega)).mono ?_; rintro e w5 ⟨rfl,hb5⟩
     have hb6:=hb3.trans (hb5.mono hb3.size);clear hb5 hb3 p0 p1 p2 p3 p4 m0 m1 m2 m3 m4 HY1c HY2c;rcases qcmp3 (rv D V E row i*D.a other col) (rv D V E other i*D.a row col) with ⟨hl,hq⟩ | ⟨hl,hq⟩ | ⟨hl,hq⟩
     ·rw [hq];have HL:=hdq ((zDs (f:=fun k=>rv D V E row k*D.a other col-rv D V E other k*D.a row col) hlt HZ.out (by grind)).2 (by grind));have HB6:=hdq hb6;clear hl hq hb6;go_wp2;(try rw [Exit.noGoto_ret]);go_ret;exact ⟨⟨true,rfl,fun _=>by rw [<-HN.out]; exact HL.out,fun _=>rfl⟩,HB6.out⟩
     ·rw [hq]
      have Hfin:Hid (PLLoop w (fun k=>rv D V E row k*D.a other col-rv D V E other k*D.a row col) N (.int .i64 ((i:Int)+1)) w5):=⟨i+1,by omega,by simp,fun j hj=>by
       by_cases e:j=i
       ·rw [e]; dsimp only; grind
       ·exact HZ.out j (by omega),hb6⟩
      clear hl hq hb6;go_wp2;go_roundw;case rel=>exact Hfin.out
      case measure=>simp [intOf]; omega
     ·rw [hq];have HL:Hid (¬ Lin.LexNeg N fun k=>rv D V E row k*D.a other col-rv D V E other k*D.a row col):=(fun h=>absurd ((zDs (f:=fun k=>rv D V E row k*D.a other col-rv D V E other k*D.a row col) hlt HZ.out (by grind)).1 h) (by grind));have HB6:=hdq hb6;clear hl hq hb6;go_wp2;(try rw [Exit.noGoto_ret]);go_ret;exact ⟨⟨false,rfl,(fun h=>by cases h),fun h=>(HL.out (by rw [HN.out]; exact h)).elim⟩,HB6.out⟩
  ·(obtain rfl:i=N:=by omega);have HZ:=hdq (zCS hz);clear hz;go_wp2;go_ret;exact ⟨⟨false,rfl,⟨fun h=>(by cases h),fun h=>absurd (by rw [HN.out]; exact h) HZ.out⟩⟩,hBl⟩
end Go.Proofs.YtbpngececjihlaaGreat
