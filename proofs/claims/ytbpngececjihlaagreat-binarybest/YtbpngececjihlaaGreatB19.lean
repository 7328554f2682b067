/- Texts Leave Compare MatI of this claim. -/
import Derived.Test.YtbpngececjihlaaGreatB18
import Derived.Deep.CutRange
import Derived.Test.YtbpngececjihlaaGreatB17
set_option maxHeartbeats 4000000
set_option maxRecDepth 100000
namespace Go.Proofs.YtbpngececjihlaaGreat
open Go.RowKit Go.Shelf
variable {q:Rat} {pv rw cl:Int} {D:Lin.Dict} {V M K kb col n B1 N L:Nat} {G X X' Y Y':Nat->Prop} {w w1 W:World} {sa sb s:SV} {la lb:List Rat}
def ratio (D:Lin.Dict) (V col j:Nat):Rat:=D.a j V / D.a j col
def LPick (D:Lin.Dict) (V col i:Nat) (v:Value):Prop:=
 (v = .int .i64 (-1)/\∀ j,j<i->¬ 0<D.a j col)\/∃ r:Nat,r<i/\v = .int .i64 (r:Int)/\0<D.a r col/\(∀ j,j<i->0<D.a j col->ratio D V col r<=ratio D V col j)/\∀ j,j<i->0<D.a j col->ratio D V col r=ratio D V col j->D.basic r<=D.basic j
def LLoop (w:World) (V M:Nat) (D:Lin.Dict) (col:Nat) (k:Nat) (v t:Value) (W:World):Prop:=
 ∃ i:Nat,i<=M/\k=M-i/\t = .int .i64 i/\LPick D V col i v/\Below w w W/\∃ z:QV,Box4 W w (.bool z.num.ng) (.slice z.num.A z.num.n z.num.c) (.bool z.den.ng) (.slice z.den.A z.den.n z.den.c)/\∀ r:Nat,v = .int .i64 (r:Int)->QCan W (fun y=>y ≠ w.heap.size) z (ratio D V col r)
section
variable {D:Lin.Dict} {V col i:Nat} {v:Value}
theorem LPick.skip (h:LPick D V col i v) (hp:¬ 0<D.a i col):LPick D V col (i+1) v:=by
 rcases h with ⟨e,h⟩ | ⟨r,hr,e,h1,h2,h3⟩
 ·exact .inl ⟨e,fun j hj=>by by_cases h':j=i; subst h'; exact hp; exact h j om⟩
 ·refine .inr ⟨r,om,e,h1,fun j hj hpj=>?_,fun j hj hpj=>?_⟩
  ·by_cases h':j=i
   ·subst h'; exact absurd hpj hp
   ·exact h2 j om hpj
  ·by_cases h':j=i
   ·subst h'; exact absurd hpj hp
   ·exact h3 j om hpj
theorem LPick.first (h:∀ j,j<i->¬ 0<D.a j col) (hp:0<D.a i col):LPick D V col (i+1) i:=by
 refine .inr ⟨i,om,rfl,hp,fun j hj hpj=>?_,fun j hj hpj _=>?_⟩
 ·by_cases h':j=i
  ·subst h'; exact Rat.le_refl
  ·exact absurd hpj (h j om)
 ·by_cases h':j=i
  ·subst h'; exact nlr _
  ·exact absurd hpj (h j om)
variable {r:Nat}
theorem LPick.less (h2:∀ j,j<i->0<D.a j col->ratio D V col r<=ratio D V col j) (hp:0<D.a i col) (hl:ratio D V col i<ratio D V col r):LPick D V col (i+1) i:=by
 refine .inr ⟨i,om,rfl,hp,fun j hj hpj=>?_,fun j hj hpj e=>?_⟩
 ·by_cases h':j=i
  ·subst h'; exact Rat.le_refl
  ·have:=h2 j om hpj; grind
 ·by_cases h':j=i
  ·subst h'; exact nlr _
  ·have:=h2 j om hpj; grind
theorem LPick.same (h2:∀ j,j<i->0<D.a j col->ratio D V col r<=ratio D V col j) (h3:∀ j,j<i->0<D.a j col->ratio D V col r=ratio D V col j->D.basic r<=D.basic j) (hp:0<D.a i col) (hl:ratio D V col i=ratio D V col r) (hb:D.basic i<D.basic r):LPick D V col (i+1) i:=by
 refine .inr ⟨i,om,rfl,hp,fun j hj hpj=>?_,fun j hj hpj e=>?_⟩
 ·by_cases h':j=i
  ·subst h'; exact Rat.le_refl
  ·have:=h2 j om hpj; grind
 ·by_cases h':j=i
  ·subst h'; exact nlr _
  ·have:=h3 j om hpj (by grind); omega
theorem LPick.stay (hr:r<i) (h1:0<D.a r col) (h2:∀ j,j<i->0<D.a j col->ratio D V col r<=ratio D V col j) (h3:∀ j,j<i->0<D.a j col->ratio D V col r=ratio D V col j->D.basic r<=D.basic j) (hl:ratio D V col r<ratio D V col i\/(ratio D V col i=ratio D V col r/\¬ D.basic i<D.basic r)):LPick D V col (i+1) r:=by
 refine .inr ⟨r,om,rfl,h1,fun j hj hpj=>?_,fun j hj hpj e=>?_⟩
 ·by_cases h':j=i
  ·subst h'; grind
  ·exact h2 j om hpj
 ·by_cases h':j=i
  ·subst h'; rcases hl with hl | ⟨hl,hb⟩
   ·grind
   ·omega
  ·exact h3 j om hpj e
end
theorem zKD (p q:Rat):(p<q/\qcmp p q=-1)\/(p=q/\qcmp p q=0)\/(q<p/\qcmp p q=1):=by
 unfold qcmp;by_cases h:p<q
 ·exact .inl ⟨h,if_pos h⟩
 ·by_cases h2:p=q
  ·exact .inr (.inl ⟨h2,by rw [if_neg h,if_pos h2]⟩)
  ·exact .inr (.inr ⟨by grind,by rw [if_neg h,if_neg h2]⟩)
theorem zLD (h:0<q):qsign q=1:=by
 unfold qsign; rw [if_neg (by grind),if_neg (by grind)]
theorem zL1 (h:¬ 0<q):qsign q<=0:=by
 unfold qsign;by_cases h1:q<0
 ·rw [if_pos h1]; decide
 ·rw [if_neg h1,if_pos (by grind)]; decide
theorem zPp {x:DV} (h:DA w G x V M K D pv rw cl) (hc:col<V) (hV:V<=1000) (hM:M<=1000)
  (hfa:∀ i j,i<M->j<=V->Lin.Fits kb (D.a i j)) (hk:2*kb+1<=LM) :
  Calls Tryz.prog 162 #[.pointer (some x.d),.int .i64 (col:Int)] w fun e w'=>(∃ v,e = .returned v/\LPick D V col M v)/\Below w w w':=by
 have HK:=hdq hk;have HK1:Hid (kb+1<=LM):=by show kb+1<=LM; omega
 have HFA:=hdq hfa;clear hfa hk;obtain ⟨d,⟨bA,bn,bc⟩,⟨fA,fn,fc⟩,⟨rA,rn,rc⟩,⟨cA,cn,cc⟩,rb,cb⟩:=x;obtain ⟨hdl,rfl,rfl,rfl,rfl,l1,l1',l2,l2',l3,l3',l4,l4'⟩:=h.opn;obtain ⟨c0,c1,c2,c3,c4,c5,c6,c7,c8⟩:=h.cells;dsimp only [SV.val] at c0 c1 c2 c3 c4 c5 c6 c7 c8;have hcv:col<V+1:=by omega
 have hcvi:(col:Int)<(V:Int)+1:=by omega
 have H0:LLoop w V M D col M (.int .i64 (-1)) (.int .i64 0) (w.alloc (.cells #[.bool false,.slice none 0 0,.bool false,.slice none 0 0] 30)):=
  ⟨0,nzl _,by omega,rfl,.inl ⟨rfl,fun j hj=>by omega⟩,bal,⟨⟨false,none,0,0⟩,⟨false,none,0,0⟩⟩,bx4,fun r e=>by simp at e⟩
 go_enter Tryz.func162,Tryz.ntmps162
 go_wp2;clear c0 c1 c2 c3 c4 c5 c6 c7 c8;generalize w.alloc (.cells #[.bool false,.slice none 0 0,.bool false,.slice none 0 0] 30)=W0 at *;go_loopg [5,17] M (fun k v t W=>LLoop w V M D col k v t W)
 case atStart=>exact H0
 case round=>
  clear H0;obtain ⟨i,hi,hgk,rfl,hpick,hbl,z,bZ,hz⟩:=hrel;have Hgk:=hdq hgk;clear hgk;by_cases hlt:i<M
  ·have hD:=h.call hbl;obtain ⟨c0,c1,c2,c3,c4,c5,c6,c7,c8⟩:=hD.cells;dsimp only [SV.val] at c0 c1 c2 c3 c4 c5 c6 c7 c8;obtain ⟨gr,e,r0,r1,r2⟩:=hD.row.elem hlt;dsimp only at e r0;subst e;have hrow:=hD.rows i hlt;dsimp only at hrow;have hrl:=hrow.lt;obtain ⟨u,⟨q0,q1,q2,q3⟩,hu⟩:=hrow.elem col (by rw [zAm]; omega);rw [zAL _ (by omega)] at hu;dsimp only at q1 q2 q3;have Hu:=hdq (hu.qis (zAv (HFA.out i col hlt (by omega))));have HD:=hdq hD;have hzl:w.heap.size<wr.heap.size:=zAb bZ.1;clear hu hrow hD;by_cases hpos:0<D.a i col
   ·(go_wp2_with fail);refine (zAn Hu.out).mono ?_; rintro e w2 ⟨rfl,hb2⟩
    rw [zLD hpos];obtain ⟨hc2,hf2⟩:=bcell hb2;(go_upto_region 7 with fail);have hdl2:d<w2.heap.size:=by have:=hb2.size; have:=HD.out.dlt; dsimp only at this; omega
    have hrl2:rb i<w2.heap.size:=by have:=hb2.size; omega
    rw [<-hc2 _ _ hrl] at q0 q1 q2 q3;have Hu2:=hdq (Hu.out.below hb2);have HD2:=hdq (HD.out.call hb2);have hBW2:w.heap.size<=w2.heap.size:=by have:=hb2.size; omega
    have hb02:=hbl.trans (hb2.mono hbl.size);have bZ2:=bZ.below hb2 hzl;have hz2:∀ r:Nat,u5 = .int .i64 (r:Int)->QCan w2 (fun y=>y ≠ w.heap.size) z (ratio D V col r):=(fun r e=>(hz r e).below hb2);have hwl2:w.heap.size<w2.heap.size:=by have:=hb2.size; omega
    clear hc2 hf2 hbl hb2 bZ hz Hu HD c0 c1 c2 c3 c4 c5 c6 c7 c8 r0 r1 r2 hzl;go_cut [9,17] from 17 to 69 (fun p t W=>∃ (g:Nat) (y:QV),t = .int .i64 (i:Int)/\p = .pointer (some g)/\w2.heap.size<=g/\Box4 W g (.bool y.num.ng) (.slice y.num.A y.num.n y.num.c) (.bool y.den.ng) (.slice y.den.A y.den.n y.den.c)/\QCan W (New w2) y (ratio D V col i)/\Below w2 w2 W)
    case first=>
     go_region_held3 (Sees w [] w2) (exact kp)
      (first
       | (go_at_call 159; ((with_reducible refine (zO2 (i:=i) (HD2.out.call (Sees.kept (by assumption)).whole) hlt (by omega) (by omega)).mono ?_); rintro e w3 ⟨⟨v,rfl,hv⟩,hb3⟩; (have sz3:w2.heap.size<=w3.heap.size:=by exact nlt (Sees.kept (by assumption):Kept w [] w2 _).size hb3.size); (obtain ⟨hc3,hf3⟩:=bcell hb3); (have lt3:=fun (b:Nat) h=>ltl (n:=b) h hb3.size)))
       | (go_at_call 109; ((with_reducible refine (zEY (a:=v) (b:=u) (hv.qis (zAv (HFA.out i V hlt (nlr _)))) (Hu2.out.keptNil (Sees.kept (by assumption))) HK1.out HK1.out (Rat.ne_of_gt hpos)).mono ?_); rintro e w4 ⟨⟨y,rfl,hy⟩,hb4⟩; (have sz4:w2.heap.size<=w4.heap.size:=by exact nlt (Sees.kept (by assumption):Kept w [] w2 _).size hb4.size); (obtain ⟨hc4,hf4⟩:=bcell hb4); (have lt4:=fun (b:Nat) h=>ltl (n:=b) h hb4.size)))
       | (go_at_call 109; ((with_reducible refine (zEY (a:=v) (b:=u) ((hv.below (bal)).qis (zAv (HFA.out i V hlt (nlr _)))) (Hu2.out.keptNil (Sees.kept (by assumption))) HK1.out HK1.out (Rat.ne_of_gt hpos)).mono ?_); rintro e w4 ⟨⟨y,rfl,hy⟩,hb4⟩; (have sz4:w2.heap.size<=w4.heap.size:=by exact nlt (Sees.kept (by assumption):Kept w [] w2 _).size hb4.size); (obtain ⟨hc4,hf4⟩:=bcell hb4); (have lt4:=fun (b:Nat) h=>ltl (n:=b) h hb4.size)))
       | fail)
     ·rename_i hS;(go_wp2_with fail);go_meet;case rel=>exact ⟨_,y,rfl,rfl,sz4,bx4,(hy.below (bal)).lower sz3,hS.kept.whole⟩
     ·rename_i hS;(go_wp2_with fail);go_meet;case rel=>exact ⟨_,y,rfl,rfl,sz3,bx4,(hy.set4 (by simp)).lower (by simp; omega),hS.kept.whole⟩
     ·rename_i hS;(go_wp2_with fail);go_meet
      case rel=>
       have b0:Box4 (w2.alloc (.cells #[.bool false,.slice none 0 0,.bool false,.slice none 0 0] 30)).drew w2 (.bool false) (.slice none 0 0) (.bool false) (.slice none 0 0):=bx4;exact ⟨_,y,rfl,rfl,nlr _,((b0.below hb3 (by simp)).below hb4 (lt3 _ (by simp))).stored _ _ _ _,(hy.set4 (lt3 _ (by simp))).lower (by omega),hS.kept.whole⟩
    case rest=>
     obtain ⟨g,y,rfl,rfl,hgw,bY,hy,hbc⟩:=hcut;have hbwc:=hb02.trans (hbc.mono hb02.size);have bZc:=bZ2.below hbc hwl2;have hBwc:w.heap.size<=wc.heap.size:=hbwc.size;have hD3:=HD2.out.call hbc;obtain ⟨c0,c1,c2,c3,c4,c5,c6,c7,c8⟩:=hD3.cells;dsimp only [SV.val] at c0 c1 c2 c3 c4 c5 c6 c7 c8;have hdlc:d<wc.heap.size:=hD3.dlt;obtain ⟨gb,e,b0,b1,b2⟩:=hD3.bas.elem hlt;dsimp only at e b0;subst e;have hii:(i:Int)<(M:Int):=(by omega);clear q0 q1 q2 q3;rcases hpick with ⟨rfl,hp⟩ | ⟨r,hr,rfl,hpr,hmin,hles⟩
     focus
      clear hz2;(go_upto_region 11 with fail);refine zAp 1000 (fun _ w'=>Sees w [] wc w') (by kernel_rfl) ?_;have hS0:Sees w [] wc wc.drew:=Sees.st (by simp) hBwc;refine tx1 0 hS0 ?_;refine tx1 1 hS0 ?_;refine tx1 2 hS0 ?_;refine tn4 3 4 5 6 hS0 ?_;refine tn4 7 8 9 10 hS0 ?_;refine tn4 11 12 13 14 hS0 ?_;refine tn4 15 16 17 18 hS0 ?_;refine tn1 19 hS0 ?_;refine tn1 20 hS0 ?_;refine tn1 21 hS0 ?_;refine tx1 22 hS0 ?_;refine zAf (by kernel_rfl) ?_ _;clear hS0;have HPk:=hdq (LPick.first (V:=V) hp hpos);obtain ⟨wd,rfl⟩:∃ W:World,W=wc:=⟨wc,rfl⟩
     rotate_left
     focus
      have hzc:=(hz2 r rfl).below hbc;clear hz2;obtain ⟨gb',e',b0r,-,-⟩:=hD3.bas.elem (show r<M by omega);cases e';(try dsimp only at b0r);have hr0:(0:Int)<=(r:Int):=(by omega);have hrM:r<M:=(by omega);have hrMi:(r:Int)<(M:Int):=by omega
      have hfr:Lin.Fits (2*kb) (ratio D V col i):=by
       have:=(HFA.out i V hlt (nlr _)).mul (HFA.out i col hlt (by omega)).inv;unfold ratio; rw [Rat.div_def,Nat.two_mul]; exact this
      have hfr2:Lin.Fits (2*kb) (ratio D V col r):=by
       have:=(HFA.out r V hrM (nlr _)).mul (HFA.out r col hrM (by omega)).inv;unfold ratio; rw [Rat.div_def,Nat.two_mul]; exact this
      (go_wp2_with fail);refine (zBg (a:=y) (b:=z) (hy.qis (zAv hfr)) (hzc.qis (zAv hfr2)) HK.out HK.out).mono ?_; rintro e wd ⟨rfl,hbd⟩
      have bY0:=bY.below hbd (zAb bY.1);have bZ0:=bZc.below hbd (zAb bZc.1);have hy0:=hy.below hbd;have hz0:=hzc.below hbd;have hbw0:=hbwc.trans (hbd.mono hbwc.size);have hD4:=hD3.call hbd;have hbas:=hD4.bas.elem hlt;have hbasr:=hD4.bas.elem hrM;clear bY bZc hy hzc hbwc c0 c1 c2 c3 c4 c5 c6 c7 c8 hD3 hbc hBwc hdlc b0 b0r b1 b2;have bY:=bY0;have bZc:=bZ0;have hy:=hy0;have hzc:=hz0;have hbwc:=hbw0;clear bY0 bZ0 hy0 hz0 hbw0;have hBwc:w.heap.size<=wd.heap.size:=hbwc.size;obtain ⟨c0,c1,c2,c3,c4,c5,c6,c7,c8⟩:=hD4.cells;dsimp only [SV.val] at c0 c1 c2 c3 c4 c5 c6 c7 c8;have hdl0:d<wd.heap.size:=hD4.dlt;clear hD4;obtain ⟨gb',e',b0,b1,b2⟩:=hbas;cases e';obtain ⟨gb',e',b0r,-,-⟩:=hbasr;cases e';clear hbd;rcases zKD (ratio D V col i) (ratio D V col r) with ⟨hl,ho⟩ | ⟨hl,ho⟩ | ⟨hl,ho⟩
      focus
       rw [ho];(go_upto_region 11 with fail);refine zAp 1000 (fun _ w'=>Sees w [] wd w') (by kernel_rfl) ?_;have hS0:Sees w [] wd wd.drew:=Sees.st (by simp) hBwc;refine tx1 0 hS0 ?_;refine tx1 1 hS0 ?_;refine tx1 2 hS0 ?_;refine tn4 3 4 5 6 hS0 ?_;refine tn4 7 8 9 10 hS0 ?_;refine tn4 11 12 13 14 hS0 ?_;refine tn4 15 16 17 18 hS0 ?_;refine tn1 19 hS0 ?_;refine tn1 20 hS0 ?_;refine tn1 21 hS0 ?_;refine tx1 22 hS0 ?_;refine zAf (by kernel_rfl) ?_ _;clear hS0;have HPk:=hdq (LPick.less hmin hpos hl)
      rotate_left
      focus
       rw [ho];by_cases hkey:D.basic i<D.basic r
       focus
        have hki:(D.basic i:Int)<(D.basic r:Int):=(by omega);(go_upto_region 11 with fail);refine zAp 1000 (fun _ w'=>Sees w [] wd w') (by kernel_rfl) ?_;have hS0:Sees w [] wd wd.drew:=Sees.st (by simp) hBwc;refine tx4 0 1 2 3 hS0 ?_;refine tx4 4 5 6 7 hS0 ?_;refine tx4 8 9 10 11 hS0 ?_;refine tx4 12 13 14 15 hS0 ?_;refine tx4 16 17 18 19 hS0 ?_;refine tx1 20 hS0 ?_;refine tx1 21 hS0 ?_;refine tx1 22 hS0 ?_;refine zAf (by kernel_rfl) ?_ _;clear hS0;have HPk:=hdq (LPick.same hmin hles hpos hl hkey)
       rotate_left
       focus
        have hki:¬ (D.basic i:Int)<(D.basic r:Int):=(by omega);(go_upto_region 11 with fail);refine zAp 1000 (fun _ w'=>Sees w [] wd w') (by kernel_rfl) ?_;have hS0:Sees w [] wd wd.drew:=Sees.st (by simp) hBwc;refine tx4 0 1 2 3 hS0 ?_;refine tx4 4 5 6 7 hS0 ?_;refine tx4 8 9 10 11 hS0 ?_;refine tx4 12 13 14 15 hS0 ?_;refine tx4 16 17 18 19 hS0 ?_;refine tx1 20 hS0 ?_;refine tx1 21 hS0 ?_;refine tx1 22 hS0 ?_;refine zAf (by kernel_rfl) ?_ _;clear hS0;have HPk:=hdq (LPick.stay hr hpr hmin hles (.inr ⟨hl,hkey⟩))
      rotate_left 2
      focus
       rw [ho];(go_upto_region 11 with fail);refine zAp 1000 (fun _ w'=>Sees w [] wd w') (by kernel_rfl) ?_;have hS0:Sees w [] wd wd.drew:=Sees.st (by simp) hBwc;refine tx4 0 1 2 3 hS0 ?_;refine tx1 4 hS0 ?_;refine tx1 5 hS0 ?_;refine tn4 6 7 8 9 hS0 ?_;refine tn4 10 11 12 13 hS0 ?_;refine tn4 14 15 16 17 hS0 ?_;refine tn1 18 hS0 ?_;refine tn1 19 hS0 ?_;refine tn1 20 hS0 ?_;refine tx1 21 hS0 ?_;refine tx1 22 hS0 ?_;refine zAf (by kernel_rfl) ?_ _;clear hS0;have HPk:=hdq (LPick.stay hr hpr hmin hles (.inl hl))
     all_goals
      first
      | focus
        replace HPk:Hid (LPick D V col (i+1) (.int .i64 (i:Int))):=HPk;obtain ⟨W3,hW3⟩:∃ W3:World,W3=wd.drew:=⟨_,rfl⟩;have bY3:Box4 W3 g (.bool y.num.ng) (.slice y.num.A y.num.n y.num.c) (.bool y.den.ng) (.slice y.den.A y.den.n y.den.c):=by rw [hW3]; exact bY
        have bZ3:Box4 W3 w (.bool z.num.ng) (.slice z.num.A z.num.n z.num.c) (.bool z.den.ng) (.slice z.den.A z.den.n z.den.c):=by rw [hW3]; exact bZc
        have hy3:QCan W3 (New w2) y (ratio D V col i):=by rw [hW3]; exact hy.below (brf _ _).drew
        have hb3:Below w w W3:=by rw [hW3]; exact hbwc.drew
        have hgl:g<W3.heap.size:=zAb bY3.1;have hBW:w.heap.size<=W3.heap.size:=hb3.size;have hwl:w.heap.size<W3.heap.size:=zAb bZ3.1;have n1:¬ (g=w.heap.size):=(by omega);obtain ⟨y0,y1,y2,y3,y4⟩:=bY3;obtain ⟨z0,z1,z2,z3,z4⟩:=bZ3;rw [<-hW3];clear hW3 c0 c1 c2 c3 c4 c5 c6 c7 c8;go_upto_region 12 with fail
        go_region_held3 (Sees w [w.heap.size] W3) (exact kp)
         (fail)
        all_goals
         rename_i hS
         have Hfin:Hid (LLoop w V M D col (M-(i+1)) (.int .i64 (i:Int)) (.int .i64 ((i:Int)+1)) ((((W3.setCell w (.bool y.num.ng)).setCell ⟨w.heap.size,1,none⟩ (.slice y.num.A y.num.n y.num.c)).setCell ⟨w.heap.size,2,none⟩ (.bool y.den.ng)).setCell ⟨w.heap.size,3,none⟩ (.slice y.den.A y.den.n y.den.c)).drew):=
          ⟨i+1,by omega,rfl,by simp,HPk.out,hb3.trans hS.kept.below,y,Box4.stored (u0:=.bool z.num.ng) (u1:=.slice z.num.A z.num.n z.num.c) (u2:=.bool z.den.ng) (u3:=.slice z.den.A z.den.n z.den.c) ⟨z0,z1,z2,z3,z4⟩ _ _ _ _,fun r e=>by
           have e':(i:Int)=(r:Int):=(by simpa using e);have e2:i=r:=(by omega);rw [<-e2];exact ((hy3.set4 (show w.heap.size<w2.heap.size by omega)).imp (Y:=fun y=>y ≠ w.heap.size) fun b _ hb=>by simp only [New] at hb; omega).below (brf _ _).drew⟩
         clear hS hy3 z0 z1 z2 z3 z4 y0 y1 y2 y3 y4 hb3;go_wp2;(go_roundg (M-(i+1)));case measure=>have:=Hgk.out; omega
         case rel=>exact Hfin.out
      | focus
        have Hfin:Hid (LLoop w V M D col (M-(i+1)) (.int .i64 (r:Int)) (.int .i64 ((i:Int)+1)) wd.drew):=⟨i+1,by omega,rfl,by simp,HPk.out,hbwc.drew,z,bZc,fun r' e=>by
         have e':(r:Int)=(r':Int):=(by simpa using e);have e2:r=r':=(by omega);rw [<-e2]; exact hzc.below (brf _ _).drew⟩
        clear hzc bZc hbwc;go_wp2;(go_roundg (M-(i+1)));case measure=>have:=Hgk.out; omega
        case rel=>exact Hfin.out
      | fail
   ·have hq:=zL1 hpos;(go_wp2_with fail);refine (zAn Hu.out).mono ?_; rintro e w2 ⟨rfl,hb2⟩
    have Hfin:Hid (LLoop w V M D col (M-(i+1)) u5 (.int .i64 ((i:Int)+1)) w2):=⟨i+1,by omega,rfl,by simp,hpick.skip hpos,hbl.trans (hb2.mono hbl.size),z,bZ.below hb2 hzl,fun r e=>(hz r e).below hb2⟩;clear hpick hbl hz bZ;go_wp2;(go_roundg (M-(i+1)));case measure=>have:=Hgk.out; omega
    case rel=>exact Hfin.out
  ·have hiM:i=M:=(by omega);rw [hiM] at hpick;have Hp:=hdq hpick;clear hpick hz bZ hiM;go_wp2;go_ret;exact ⟨⟨_,rfl,Hp.out⟩,hbl⟩
attribute [local go_sem] Oper.semAt_some
theorem zDL {B2:Nat} {va vb:Nat->QV} (hn:1<=n) (h1:w1.heap[B1]?=some (.cells #[sa.val] 23 (0,0))) (h2:w1.heap[B2]?=some (.cells #[sb.val] 23 (0,0))) (hb1:X B1) (hb2:X B2)
  (ha:Elems w1 X sa va) (hb:Elems w1 X sb vb) (hN:N=max sa.n sb.n) (hN2:N<=1000000) :
  SeqStopsK Fence.wide n Tryz.prog 171 #[.pointer (some B1),.pointer (some B2)] (fun x:Nat=>#[(va x).val,(vb x).val]) (Carry X) (fun ys=>ys=List.range N) (fun pre=>pre <+: List.range N) N w1:=fun _l J Jx W hW hJ _ hY h0=>
 zHL hn J Jx W hJ hY ((hW.block B1 (zAa h1)).trans h1) ((hW.block B2 (zAa h2)).trans h2) hb1 hb2 (ha.carry (Carry.of_below hW)) (hb.carry (Carry.of_below hW)) hN hN2 h0
theorem Elems.imp {v:Nat->QV} (h:Elems W X s v) (hx:∀ b,X b->X' b):Elems W X' s v:=
 ⟨h.le,h.cap,fun i hi=>by obtain ⟨ad,e,h1,h2⟩:=h.elem i hi; exact ⟨ad,e,hx _ h1,h2⟩,h.rest⟩
def vcmp (a b:Nat->Rat):Nat->Int
 | 0=>0
 | n+1=>if vcmp a b n=0 then qcmp (a n) (b n) else vcmp a b n
theorem zKE (p:Rat):qcmp p p=0:=by unfold qcmp; rw [if_neg (by grind),if_pos rfl]
theorem zKy {p:Rat} (h:p ≠ q):qcmp p q ≠ 0:=by
 rcases zKD p q with ⟨_,e⟩ | ⟨h',_⟩ | ⟨_,e⟩
 ·rw [e]; decide
 ·exact absurd h' h
 ·rw [e]; decide
theorem zKq {a b:Nat->Rat}:∀ {n:Nat},(∀ i,i<n->a i=b i)->vcmp a b n=0
 | 0,_=>rfl
 | n+1,h=>by
  show (if vcmp a b n=0 then qcmp (a n) (b n) else vcmp a b n)=0;rw [if_pos (zKq fun i hi=>h i om),h n om,zKE]
theorem zKr {a b:Nat->Rat} {x:Nat} (h:∀ i,i<x->a i=b i) (hx:a x ≠ b x):∀ {n:Nat},x<n->vcmp a b n=qcmp (a x) (b x)
 | 0,h'=>om
 | n+1,h'=>by
  show (if vcmp a b n=0 then qcmp (a n) (b n) else vcmp a b n)=_;by_cases e:x=n
  ·subst e; rw [if_pos (zKq h)]
  ·have ih:=zKr h hx (n:=n) om;rw [if_neg (by rw [ih]; exact zKy hx),ih]
theorem zKA {a b:Nat->Rat} :vcmp a b n=0 ↔ ∀ i,i<n->a i=b i:=by
 refine ⟨fun h=>?_,zKq⟩
 induction n with
 | zero=>intro i hi; omega
 | succ n ih=>
  have h':(if vcmp a b n=0 then qcmp (a n) (b n) else vcmp a b n)=0:=h;by_cases e:vcmp a b n=0
  ·rw [if_pos e] at h';intro i hi;by_cases ei:i=n
   ·subst ei;by_cases hne:a i=b i
    ·exact hne
    ·exact absurd h' (zKy hne)
   ·exact ih e i om
  ·rw [if_neg e] at h'; exact absurd h' e
theorem zGD {pre:List Nat} {pr:List Nat} {x:Nat} (h:pre <+: List.range N) (e:pre=pr++[x]):x<N/\pr=List.range x:=by
 subst e;obtain ⟨t,ht⟩:=h
 have hl:pr.length<N:=by
  have:=congrArg List.length ht;simp at this; omega
 have hx:x=pr.length:=by
  have:(pr++[x]++t)[pr.length]?=(List.range N)[pr.length]?:=by rw [ht]
  rw [List.append_assoc,List.getElem?_append_right (nlr _),List.getElem?_range hl] at this;simpa using this
 refine ⟨om,?_⟩;apply List.ext_getElem
 ·simp [hx]
 ·intro i h1 h2;have:(pr++[x]++t)[i]?=(List.range N)[i]?:=by rw [ht]
  rw [List.append_assoc,List.getElem?_append_left h1,List.getElem?_range om,gge h1] at this;simpa using this
def CmpInv (w:World) (a b:Nat->Rat) (pre:List Nat) (W:World):Prop:=
 Boxed W w 3 (.int .i64 0)/\Carry (fun y=>y ≠ w.heap.size) w W/\∀ x ∈ pre,a x=b x
def CmpOut (w:World) (a b:Nat->Rat) (c:Code) (pre:List Nat) (W:World):Prop:=
 c = .ret/\∃ pr x,pre=pr++[x]/\a x ≠ b x/\(∀ y ∈ pr,a y=b y)/\Boxed W w 3 (.int .i64 (qcmp (a x) (b x)))/\Below w w W
theorem CmpInv.own {a b:Nat->Rat}:Own (CmpInv w a b):=fun _s _W _W' _row hs hg hr=>⟨zAi hg hr hs.1,hs.2.1.trans (Carry.grown hg hr),hs.2.2⟩
theorem zKw (ha:VecIs w X Y L sa la) (hb:VecIs w X' Y' M sb lb) (hL:L<=LM) (hM:M<=LM) (hna:sa.n<=1000000) (hnb:sb.n<=1000000) :
  Calls Tryz.prog 86 #[sa.val,sb.val] w fun e w'=>e = .returned (.int .i64 (vcmp (fun i=>la.getD i 0) (fun i=>lb.getD i 0) (max sa.n sb.n)))/\Below w w w':=by
 refine (callsIn_wide (n:=6)).1 ?_;have HL:=hdq hL;have HM:=hdq hM;have h0a:QIs w (fun _=>True) L QV.zero 0:=⟨0,0,⟨[],WordsAt.nil _ _ _ _ (nzl _),nzl _,rfl⟩,⟨[],WordsAt.nil _ _ _ _ (nzl _),nzl _,rfl⟩,by simp [qv]⟩;have h0b:QIs w (fun _=>True) M QV.zero 0:=⟨0,0,⟨[],WordsAt.nil _ _ _ _ (nzl _),nzl _,rfl⟩,⟨[],WordsAt.nil _ _ _ _ (nzl _),nzl _,rfl⟩,by simp [qv]⟩;obtain ⟨va,hva,hqa⟩:=(ha.imp (X':=fun y=>y<w.heap.size) (R':=QIs w (fun _=>True) L) (fun b hb _=>hb) (fun _ _ h=>h.any)).elems h0a;obtain ⟨vb,hvb,hqb⟩:=(hb.imp (X':=fun y=>y<w.heap.size) (R':=QIs w (fun _=>True) M) (fun b hb _=>hb) (fun _ _ h=>h.any)).elems h0b;have HA:=hdq hva;have HB:=hdq hvb;have HQA:Hid (∀ i,QIs w (fun y=>y<w.heap.size) L (va i) (la.getD i 0)):=fun i=>(hqa i).imp fun b hb _=>hb
 have HQB:Hid (∀ i,QIs w (fun y=>y<w.heap.size) M (vb i) (lb.getD i 0)):=fun i=>(hqb i).imp fun b hb _=>hb
 obtain ⟨A,la',ca⟩:=sa;obtain ⟨B,lb',cb⟩:=sb;obtain ⟨fa,hfa⟩:∃ fa:Nat->Rat,fa=fun i=>la.getD i 0:=⟨_,rfl⟩
 obtain ⟨fb,hfb⟩:∃ fb:Nat->Rat,fb=fun i=>lb.getD i 0:=⟨_,rfl⟩
 replace HQA:Hid (∀ i,QIs w (fun y=>y<w.heap.size) L (va i) (fa i)):=by rw [hfa]; exact HQA
 replace HQB:Hid (∀ i,QIs w (fun y=>y<w.heap.size) M (vb i) (fb i)):=by rw [hfb]; exact HQB
 rw [<-hfa,<-hfb];clear hfa hfb;clear ha hb hL hM h0a h0b hva hvb hqa hqb;dsimp only [SV.val] at hna hnb ⊢;obtain ⟨N,hN⟩:∃ N,N=max la' lb':=⟨_,rfl⟩;rw [<-hN];have HN:=hdq hN;clear hN;refine callsIn_of_wp_marks Tryz.func86 rfl trivial ?_ rfl;simp only [Tryz.ntmps86,List.size_toArray,List.length_cons,List.length_nil,Nat.reduceAdd,Nat.reduceSub,Array.replicate_succ,Array.replicate_zero,List.push_toArray,List.append_toArray,List.nil_append,List.cons_append];gi_wp2;refine ⟨trivial,?_⟩;refine (zFZ A B la' ca lb' cb).mono ?_;rintro e w2 ⟨rfl,rfl⟩;gi_wp2;obtain ⟨W0,hW0⟩:∃ W0,((w.alloc (.cells #[.int .i64 0] 3)).alloc (.cells #[.slice A la' ca] 23)).alloc (.cells #[.slice B lb' cb] 23)=W0:=⟨_,rfl⟩;rw [hW0];have hk0:Below w w W0:=by rw [<-hW0]; exact (((brf _ w).alloc (nlr _) _).alloc si _).alloc (by simp; omega) _
 have hs0:W0.heap.size=w.heap.size+3:=by rw [<-hW0]; simp
 have x0:Boxed W0 w 3 (.int .i64 0):=by rw [<-hW0]; exact ((Boxed.new w _ _).alloc _).alloc _
 have x1:Boxed W0 (w+1) 23 (.slice A la' ca):=by
  have:=(Boxed.new (w.alloc (.cells #[.int .i64 0] 3)) 23 (.slice A la' ca)).alloc (.cells #[.slice B lb' cb] 23);rw [World.size_alloc,hW0] at this; exact this
 have x2:Boxed W0 (w+1+1) 23 (.slice B lb' cb):=by
  have:=Boxed.new ((w.alloc (.cells #[.int .i64 0] 3)).alloc (.cells #[.slice A la' ca] 23)) 23 (.slice B lb' cb);rw [World.size_alloc,World.size_alloc,hW0] at this; exact this
 clear hW0
 refine wpIn_rangeFunc_ownH (F:=Fence.wide) rfl om (gf:=171) (lb:=#[.pointer (some ⟨w+1,0,none⟩),.pointer (some ⟨w+1+1,0,none⟩)]) rfl trivial (enters_of Tryz.func171 kj rfl)
  (zDL (X:=fun y=>y ≠ w.heap.size) (sa:=⟨A,la',ca⟩) (sb:=⟨B,lb',cb⟩) (va:=va) (vb:=vb) (N:=N) om x1 x2 om om
   ((HA.out.carry (Carry.of_below hk0)).imp fun b hb=>om) ((HB.out.carry (Carry.of_below hk0)).imp fun b hb=>om) HN.out (by have:=HN.out; omega))
  (fun h k=>h.trans k) (fun W l o o' _ hl ho _=>Carry.putObj o' hl ho) (brf _ _) (fun _=>rfl)
  (fun pre W=>CmpInv w fa fb pre W/\Below w w W)
  (fun c pre W=>CmpOut w fa fb c pre W)
  (OwnFrom.and (Own.from CmpInv.own _) (ownFrom_below (nlr _) om))
  (fun c s W W' row hs hg hr=>?hIx)
  ⟨⟨x0,Carry.of_below hk0,fun x hx=>by cases hx⟩,hk0⟩
  (fun x a' W=>∃ g,a'={tmps:=#[.slice A la' ca,.slice B lb' cb,undef,undef,.pointer (some w),.pointer (some ⟨g,0,none⟩),.pointer (some ⟨g+1,0,none⟩),undef,.slice A la' ca,.slice B lb' cb,.func (.func 171) #[] #[.pointer (some ⟨w+1,0,none⟩),.pointer (some ⟨w+1+1,0,none⟩)],(va x).val,(vb x).val,undef,undef,undef,undef,undef,undef],defers:=[]}/\W.heap[g]?=some (.cells #[.bool (va x).num.ng,.slice (va x).num.A (va x).num.n (va x).num.c,.bool (va x).den.ng,.slice (va x).den.A (va x).den.n (va x).den.c] 30 (0,0))/\W.heap[g+1]?=some (.cells #[.bool (vb x).num.ng,.slice (vb x).num.A (vb x).num.n (vb x).num.c,.bool (vb x).den.ng,.slice (vb x).den.A (vb x).den.n (vb x).den.c] 30 (0,0)))
  (fun x a' _ W W' row hs hg hr=>?hAx) ?assign ?body ?done ?stop
 case hAx=>
  obtain ⟨g,e,g1,g2⟩:=hs;exact ⟨g,e,zAi hg (fun r e=>(hr r e).2) g1,zAi hg (fun r e=>(hr r e).2) g2⟩
 case hIx=>
  obtain ⟨rfl,pr,x,e,h1,h2,h3,h4⟩:=hs;exact ⟨rfl,pr,x,e,h1,h2,zAi hg (fun r e=>(hr r e).2) h3,(ownFrom_below (nlr _) (show w.heap.size<=W0.heap.size by omega)) s W W' row h4 hg hr⟩
 case assign=>
  intro l pre x W K hI hK;gi_wp2;have al:Below W W ((W.alloc (.cells #[.bool (va x).num.ng,.slice (va x).num.A (va x).num.n (va x).num.c,.bool (va x).den.ng,.slice (va x).den.A (va x).den.n (va x).den.c] 30)).alloc (.cells #[.bool (vb x).num.ng,.slice (vb x).num.A (vb x).num.n (vb x).num.c,.bool (vb x).den.ng,.slice (vb x).den.A (vb x).den.n (vb x).den.c] 30)):=(bal).alloc si _;obtain ⟨⟨i1,i2,i3⟩,hB⟩:=hI;exact hK _ _ ⟨al.size,fun k o _ hk _=>(al.block k (zAa hk)).trans hk⟩ (Carry.of_below al) ⟨⟨(al.block _ (zAa i1)).trans i1,i2.trans (Carry.of_below al),i3⟩,hB.trans (al.mono hB.size)⟩ ⟨W.heap.size,rfl,(Below.heap_alloc _ _ _ si).trans (zAd _ _ rfl),zAd _ _ si⟩
 case body=>
  rintro l pre x a' W _ _ ⟨⟨i1,i2,i3⟩,hB⟩ ⟨g,rfl,g1,g2⟩ hlt;have hqa:=(HQA.out x).carry (i2.mono fun y hy=>om);have hqb:=(HQB.out x).carry (i2.mono fun y hy=>om);obtain ⟨a0,a1,a2,a3⟩:W.cell? g=some (.bool (va x).num.ng)/\W.cell? ⟨g,1,none⟩=some (.slice (va x).num.A (va x).num.n (va x).num.c)/\W.cell? ⟨g,2,none⟩=some (.bool (va x).den.ng)/\W.cell? ⟨g,3,none⟩=some (.slice (va x).den.A (va x).den.n (va x).den.c):=by simp [World.cell?,g1]
  obtain ⟨b0,b1,b2,b3⟩:W.cell? ⟨g+1,0,none⟩=some (.bool (vb x).num.ng)/\W.cell? ⟨g+1,1,none⟩=some (.slice (vb x).num.A (vb x).num.n (vb x).num.c)/\W.cell? ⟨g+1,2,none⟩=some (.bool (vb x).den.ng)/\W.cell? ⟨g+1,3,none⟩=some (.slice (vb x).den.A (vb x).den.n (vb x).den.c):=by simp [World.cell?,g2]
  have Hs:=hdq hs0;have I3:=hdq i3;clear hs0 x0 x1 x2 hk0 i3;gi_wp2;refine ⟨trivial,?_⟩;refine CallsIn.inRound l (callsIn_wide.2 ((zBg (a:=va x) (b:=vb x) hqa hqb HL.out HM.out).mono ?_));rintro e w3 ⟨rfl,hb3⟩;have z3:Boxed w3 w 3 (.int .i64 0):=(hb3.block _ (zAa i1)).trans i1;have hB3:=hB.trans (hb3.mono hB.size);have f3:∀ o,w3.frozen? ⟨w.heap.size,o,none⟩=false:=fun o=>by simp [World.frozen?,show w3.heap[w.heap.size]?=_ from z3]
  have c3:=z3.cell;by_cases he:fa x=fb x
  ·have hq:qcmp (fa x) (fb x)=0:=(by rw [he,zKE]);rw [hq];clear a0 a1 a2 a3 b0 b1 b2 b3;gi_wp2;refine ⟨⟨hb3.size,fun k o _ hk _=>(hb3.block k (zAa hk)).trans hk⟩,Carry.of_below hb3,⟨z3,i2.trans (Carry.of_below hb3),fun y hy=>?_⟩,hB3⟩;rw [List.mem_append,List.mem_singleton] at hy;rcases hy with hy | rfl
   ·exact I3.out y hy
   ·exact he
  ·have hq:(qcmp (fa x) (fb x) == 0)=false:=(by simpa using zKy he);have hq2:¬ (qcmp (fa x) (fb x)=0):=zKy he;clear a0 a1 a2 a3 b0 b1 b2 b3;gi_wp2;refine ⟨⟨by simpa [World.setCell] using hb3.size,fun k o _ hk ho=>?_⟩,rfl,pre,x,rfl,he,I3.out,Boxed.set _ z3,hB3.setCell (p:=w) (nlr _) _⟩;refine (bhs _ _ _ _ (fun e=>?_)).trans ((hb3.block k (zAa hk)).trans hk);dsimp only at e;rw [e,show W.heap[w.heap.size]?=_ from i1] at hk; cases hk; cases ho
 case done=>
  rintro Dd ys W hDd rfl ⟨⟨i1,i2,i3⟩,hB⟩ hK0;have c1:=i1.cell;have f1:∀ o,W.frozen? ⟨w.heap.size,o,none⟩=false:=fun o=>by simp [World.frozen?,show W.heap[w.heap.size]?=_ from i1]
  have Hs:=hdq hs0;have Hz:=hdq (zKq (n:=N) (a:=fa) (b:=fb) fun i hi=>i3 i (by simpa using hi));clear hs0 x0 x1 x2 i3;have hne:Dd ≠ w.heap.size:=by have:=Hs.out; omega
  gi_wp2;have hK1:(W.setCell w (.int .i64 0)).heap[Dd]?=some (.deferred (some [])):=(bhs _ _ _ _ hne).trans hK0;refine ⟨si,.inl ⟨_,_,rfl,run_takeDeferred hK1,?_⟩⟩;have g1:=zAi (grownBy_putObj' (W.setCell w (.int .i64 0)) Dd (.deferred none)) (fun r e=>by cases e; exact ⟨_,hK1,rfl⟩) (Boxed.set (.int .i64 0) i1);have g2:((W.setCell w (.int .i64 0)).putObj Dd (.deferred none)).cell? w=some (.int .i64 0):=Boxed.cell g1;refine ⟨.int .i64 0,by simp [results,Tryz.results86,go_sem,g2],by rw [Hz.out],?_⟩;exact (hB.setCell (p:=w) (nlr _) _).trans (belowK_b (w:=w) (nlr _) _ Dd _ _ (by have:=Hs.out; omega) hK1 rfl rfl)
 case stop=>
  rintro Dd c pre W hDd hpre ⟨rfl,pr,x,e,h1,h2,h3,h4⟩ hK0;obtain ⟨hx,hpr⟩:=zGD hpre e;have Hz:=hdq (zKr (a:=fa) (b:=fb) (x:=x) (fun i hi=>h2 i (by rw [hpr]; simpa using hi)) h1 hx);have c1:=h3.cell;have Hs:=hdq hs0;clear hs0 x0 x1 x2;gi_wp2;refine ⟨si,.inl ⟨_,_,rfl,run_takeDeferred hK0,?_⟩⟩;have g1:=zAi (grownBy_putObj' W Dd (.deferred none)) (fun r e=>by cases e; exact ⟨_,hK0,rfl⟩) h3;have g2:(W.putObj Dd (.deferred none)).cell? w=some (.int .i64 (qcmp (fa x) (fb x))):=Boxed.cell g1;refine ⟨.int .i64 (qcmp (fa x) (fb x)),by simp [results,Tryz.results86,go_sem,g2],by rw [Hz.out],?_⟩;exact h4.trans (belowK_b (w:=w) (nlr _) _ Dd _ _ (by have:=Hs.out; omega) hK0 rfl rfl)
end Go.Proofs.YtbpngececjihlaaGreat
namespace Go.Proofs.YtbpngececjihlaaGreat
open Go.RowKit Go.Shelf
variable {la lb:List Rat} {sa sb s:SV} {L M:Nat} {X Y X' Y':Nat->Prop} {w w':World}
theorem zNQ (ha:VecIs w X Y L sa la) (hb:VecIs w X' Y' M sb lb) (hL:L<=LM) (hM:M<=LM) (hna:sa.n<=1000000) (hnb:sb.n<=1000000) :
  Calls Tryz.prog 28 #[sa.val,sb.val] w fun e w'=>e = .returned (.bool (vcmp (fun i=>la.getD i 0) (fun i=>lb.getD i 0) (max sa.n sb.n) == 0))/\Below w w w':=by
 have HC:=hdq (zKw ha hb hL hM hna hnb);clear ha hb hL hM;generalize vcmp (fun i=>la.getD i 0) (fun i=>lb.getD i 0) (max sa.n sb.n)=z at *;go_enter Tryz.func28,Tryz.ntmps28
 go_wp2_with fail
 refine HC.out.mono ?_; rintro e w1 ⟨rfl,hb1⟩
 go_wp2;go_ret;exact ⟨rfl,hb1⟩
structure IntsMat (w:World) (s:SV) (m:List (List Int)):Prop where
 len:m.length=s.n
 le:s.n<=s.c
 cap:s.c<=9223372036854775807
 row:∀ i,i<s.n->∃ ad r,s.A=some ad/\w.cell? (ad.add i)=some (SV.val r)/\IntsAt w r (m.getD i [])/\r.n<=1000
theorem IntsMat.below {m:List (List Int)} (h:IntsMat w s m) (hb:Below w w w'):IntsMat w' s m:=
 ⟨h.len,h.le,h.cap,fun i hi=>by
  obtain ⟨ad,r,e,hc,hr,hn⟩:=h.row i hi;exact ⟨ad,r,e,(hb.cell (zAb hc)).trans hc,hr.below hb,hn⟩⟩
def MRet (w:World) (m:List (List Rat)) (e:Ending) (w':World):Prop:=∃ s:SV,e = .returned s.val/\MatCan w' (New w) (New w) s m
def rats (l:List Int):List Rat:=l.map fun x:Int=>(x:Rat)
def MILoop (w:World) (m:List (List Int)) (n:Nat) (t:Value) (W:World):Prop:=
 ∃ i:Nat,i<=n/\t = .int .i64 i/\Below w w W/\∃ (cs:Array Value) (sv:Nat->SV),W.heap[w.heap.size]?=some (.cells cs 23 (0,0))/\cs.size=n/\∀ j,j<i->cs[j]?=some (sv j).val/\VecCan W (New (w+1)) (New (w+1)) (sv j) (rats (m.getD j []))
theorem zBa {m:List (List Int)} (h:IntsMat w s m) (hn:s.n<=1000) :
  Calls Tryz.prog 92 #[s.val] w fun e w'=>MRet w (m.map rats) e w'/\Below w w w':=by
 obtain ⟨A,n,c⟩:=s;dsimp only at hn;have HLen:Hid (m.length=n):=h.len;have hle:n<=c:=h.le;have hcap:c<=9223372036854775807:=h.cap;have hmk:=zHV n om;show Calls _ _ #[.slice A n c] _ _;go_enter Tryz.func92,Tryz.ntmps92
 go_wp2
 have H0:MILoop w m n (.int .i64 0) (w.alloc (.cells (zeroS n) 23)):=
  ⟨0,nzl _,rfl,bal,zeroS n,fun _=>⟨none,0,0⟩,zAd _ _ rfl,zIb n,fun j hj=>absurd hj om⟩
 clear hmk;generalize w.alloc (.cells (zeroS n) 23)=W0 at *;go_loopw [11] (fun t W=>MILoop w m n t W) (fun t _=>n-(intOf t).toNat)
 case atStart=>exact H0
 case round=>
  clear H0;obtain ⟨i,hi,rfl,hB,cs,sv,h1,h2,h3⟩:=hrel;by_cases hlt:i<n
  ·obtain ⟨ad,r,e,r0,hr,hr2⟩:=(h.below hB).row i hlt;dsimp only at e;subst e;obtain ⟨rA,rn,rc⟩:=r;have hyl:=zAa h1;(go_wp2_with fail);refine (zBP hr hr2).mono ?_; rintro e w1 ⟨⟨z,rfl,hz⟩,hb1⟩
   obtain ⟨zA,zn,zc⟩:=z;have h1':w1.heap[w.heap.size]?=some (.cells cs 23 (0,0)):=(hb1.block _ hyl).trans h1;have y0:(w1.cell? ⟨w.heap.size,i,none⟩).isSome=true:=by simp only [World.cell?,h1']; simp [h2,hlt]
   obtain ⟨yv,hyv⟩:=Option.isSome_iff_exists.1 y0;have yf:∀ o,w1.frozen? ⟨w.heap.size,o,none⟩=false:=fun o=>by simp [World.frozen?,h1']
   have Hfin:Hid (MILoop w m n (.int .i64 ((i:Int)+1)) (w1.setCell ⟨w.heap.size,i,none⟩ (.slice zA zn zc))):=by
    have k:∀ p:Addr,New (w+1) p.block->(w1.setCell ⟨w.heap.size,i,none⟩ (.slice zA zn zc)).cell? p=w1.cell? p:=(fun p hp=>cob (bhs _ _ _ _ (by simp only [New] at hp; show p.block ≠ w.heap.size; omega)));have kv:∀ {s:SV} {l:List Rat},VecCan w1 (New (w+1)) (New (w+1)) s l->VecCan (w1.setCell ⟨w.heap.size,i,none⟩ (.slice zA zn zc)) (New (w+1)) (New (w+1)) s l:=(fun hv=>hv.keep (fun a ha _=>k a ha) fun v q hq=>hq.keep fun p hp _=>k p hp);refine ⟨i+1,om,si,(hB.trans (hb1.mono hB.size)).setCell (p:=⟨w.heap.size,i,none⟩) (nlr _) _,cs.setIfInBounds i (.slice zA zn zc),fun j=>if j=i then ⟨zA,zn,zc⟩ else sv j,zAe _ h1',by simpa using h2,fun j hj=>?_⟩;rw [Array.getElem?_setIfInBounds];by_cases e:i=j
    ·subst e;rw [if_pos rfl,if_pos om];dsimp only;rw [if_pos rfl];exact ⟨rfl,kv (hz.imp (fun b _ hb=>by simp only [New] at hb ⊢; omega) fun v q hq=>hq.imp fun b _ hb=>by simp only [New] at hb ⊢; omega)⟩
    ·rw [if_neg e];dsimp only;rw [if_neg (Ne.symm e)];obtain ⟨g1,g2⟩:=h3 j om;exact ⟨g1,kv (g2.belowC hb1)⟩
   clear h1 h2 h3 h1' hz hb1 hB hr r0 y0;go_wp2;go_roundw;case rel=>exact fn_ Hfin.out
   case measure=>simp [intOf]; omega
  ·have hin:i=n:=om;rw [hin] at h3
   have HF:Hid (MRet w (m.map rats) (.returned (.slice (some w) n n)) wr):=by
    refine ⟨⟨some ⟨w,0,none⟩,n,n⟩,rfl,by rw [List.length_map]; exact HLen.out,nlr _,by show n<=_; omega,fun j hj=>?_⟩;have hj':j<n:=hj;obtain ⟨g1,g2⟩:=h3 j hj';refine ⟨⟨w,0,none⟩,sv j,rfl,nlr _,?_,?_⟩
    ·rw [zA4,Nat.zero_add]; simp only [World.cell?,h1]; simpa using g1
    ·have e:(m.map rats).getD j []=rats (m.getD j []):=by
      have:=HLen.out;simp [List.getElem?_map,gge (show j<m.length by omega)]
     rw [e];exact g2.imp (fun b _ hb=>by simp only [New] at hb ⊢; omega) fun v q hq=>hq.imp fun b _ hb=>by simp only [New] at hb ⊢; omega
   clear h1 h2 h3;go_wp2;go_ret;exact ⟨HF.out,hB⟩
end Go.Proofs.YtbpngececjihlaaGreat
