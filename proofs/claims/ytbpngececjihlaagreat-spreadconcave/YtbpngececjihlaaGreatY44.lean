/- Texts Rb2 Rb3 Rb4 Rc1 Rc2 Rc3 BnC BnQ BnR SpL SpM SpS of this claim. -/
import Derived.Test.YtbpngececjihlaaGreatY42
import Derived.Test.YtbpngececjihlaaGreatY43
import Derived.Test.YtbpngececjihlaaGreatY40
import Derived.Test.YtbpngececjihlaaGreatY35
set_option maxHeartbeats 4000000
set_option maxRecDepth 40000
namespace Go.Proofs.YtbpngececjihlaaGreat
open Go.RowKit
variable {n c m d L M g j row b V k c0 c2 c1:Nat} {A:Option Addr} {X Y G:Nat->Prop} {w W w' W':World} {l:List Nat} {y:Int} {q:Rat} {ng f':Bool} {z pl:QV} {bs cl:List Rat} {u0 u1 u2 u3 v1 v2 v0 v3 x0 x1 x2 x3 x4:Value} {os rs:List (List Rat)} {p:LPV} {ad:Addr} {R S:SV}
def GcLoop (w:World) (x y N:Nat) (k:Nat) (v1 v2:Value) (W:World):Prop:=
 ∃ (a b:Nat) (A:Option Addr) (n c:Nat) (B:Option Addr) (m d:Nat),k=b/\v1 = .slice A n c/\v2 = .slice B m d/\HAt W (New (w+1+1+1)) A n c (Hal.words a)/\HAt W (New (w+1+1+1)) B m d (Hal.words b)/\Nat.gcd a b=Nat.gcd x y/\n<=N/\m<=N/\Below w w W/\Box2 W (w+1+1) (.bool false) (.slice none 0 0)/\w.heap.size+1+1<W.heap.size
theorem zHO {B:Option Addr} {la lb:List Nat} (ng mg:Bool) (ha:WordsAt w X A n c la) (hb:WordsAt w Y B m d lb) (hn:n<=400000) (hm:m<=400000) :
  Calls Tryz.prog 192 #[.agg #[.bool ng,.slice A n c],.agg #[.bool mg,.slice B m d]] w fun e w'=>ZRet1 w ((Nat.gcd (Num.nat la) (Num.nat lb):Nat):Int) e w'/\Below w w w':=by
 have HLA:Hid ((Hal.words (Num.nat la)).length<=800000):=by
  have h1:=zCR ha.ok;rw [ha.len] at h1;show _<=_; omega
 have HLB:Hid ((Hal.words (Num.nat lb)).length<=800000):=by
  have h1:=zCR hb.ok;rw [hb.len] at h1;show _<=_; omega
 obtain ⟨x,hx⟩:∃ x,Num.nat la=x:=⟨_,rfl⟩;obtain ⟨y,hy⟩:∃ y,Num.nat lb=y:=⟨_,rfl⟩;rw [hx] at HLA ⊢;rw [hy] at HLB ⊢;have HX:=hdq hx;have HY:=hdq hy;clear hx hy;have HA:=hdq ha.old;have HB:=hdq hb.old;have HN:=hdq hn;have HM:=hdq hm;clear ha hb hn hm;go_enter Tryz.func192,Tryz.ntmps192
 go_wp2;refine zAo (fun W=>Below w w W/\Box2 W w (.bool ng) (.slice A n c)/\Box2 W (w+1) (.bool mg) (.slice B m d)/\Box2 W (w+1+1) (.bool false) (.slice none 0 0)/\w.heap.size<W.heap.size/\w.heap.size+1<W.heap.size/\w.heap.size+1+1<W.heap.size) ⟨(az (az (az (brf _ _)))),bx2,bx2,bx2,by simp <;> omega,by simp <;> omega,by simp <;> omega⟩ ?_;rintro W ⟨hbW,bA,bB,bR,s0,s1,s2⟩;have hBW:=hbW.size;have ne02:¬ (w.heap.size=w.heap.size+1+1):=by omega
 have HA2:=hdq (HA.out.below hbW);have HB2:=hdq (HB.out.below hbW);obtain ⟨a0,a1,-⟩:=id bA;obtain ⟨b0,b1,-⟩:=id bB;clear HA HB
 go_region_held3 (Sees w [] W) (exact kp)
  (first
   | (go_at_call 200; ((with_reducible refine (zAH (HA2.out.keptOld (Sees.kept (by assumption))) (by have:=HN.out; omega)).mono ?_); rintro e w1 ⟨⟨A1,n1,c1,rfl,-,h1⟩,hb1⟩))
   | (go_at_call 200; ((with_reducible refine (zAH (HB2.out.keptOld (Sees.kept (by assumption))) (by have:=HM.out; omega)).mono ?_); rintro e w2 ⟨⟨A2,n2,c2,rfl,-,h2⟩,hb2⟩))
   | fail)
 rename_i hS;have hW2:Below W W w2:=hS.kept.whole;have hB2:=hbW.trans (hW2.mono hBW);have hb1s:=hb1.size;simp only [World.size_drew] at hb1s;rw [HX.out] at h1;rw [HY.out] at h2;have e1:=h1.len;have e2:=h2.len;have H0:Hid (GcLoop w x y 800000 y (.slice A1 n1 c1) (.slice A2 n2 c2) w2):=⟨x,y,A1,n1,c1,A2,n2,c2,rfl,rfl,rfl,(h1.below hb2).low (by simp only [World.size_drew]; omega),h2.low (by omega),rfl,by rw [<-e1]; exact HLA.out,by rw [<-e2]; exact HLB.out,hB2,bR.below hW2 s2,ltl s2 hW2.size⟩;clear hS h1 h2 hb1 hb2 hW2 hB2 e1 e2 bA bB bR a0 a1 b0 b1 HA2 HB2 HLA HLB hb1s hbW hBW;go_wp2;go_loopg [5,6] y (fun k v1 v2 W=>GcLoop w x y 800000 k v1 v2 W)
 case atStart=>exact H0.out
 case round=>
  clear H0;obtain ⟨a,b,A1,n1,c1,A2,n2,c2,rfl,rfl,rfl,h1,h2,hg,l1,l2,hB,bR,sR⟩:=hrel;have Hg:=hdq hg;clear hg;by_cases hb0:gk=0
  ·subst hb0;have hn2:n2=0:=by rw [<-h2.len,Hal.words_zero]; rfl
   subst hn2;have ha:a=Nat.gcd x y:=by have:=Hg.out; rw [Nat.gcd_zero_right] at this; exact this
   have HA1:=hdq h1;have HEq:=hdq ha;obtain ⟨r0,r1,rf⟩:=id bR;clear h1 h2 ha;(go_wp2_with fail);refine (zCA false HA1.out (by omega)).mono ?_;rintro e w3 ⟨⟨ng',A',n',c',rfl,hz⟩,hb3⟩;rw [Hal.nat_words,HEq.out] at hz;have bR2:=bR.below hb3 sR;have sR2:=ltl sR hb3.size;have hBs:=hB.size;clear r0 r1 rf;obtain ⟨r0,r1,rf⟩:=id bR2;obtain ⟨v0,v1⟩:=bR2.stored (.bool ng') (.slice A' n' c');have hzf:=((hz.set (p:=⟨w+1+1,0,none⟩) sR (.bool ng')).set (p:=⟨w.heap.size+1+1,1,none⟩) sR (.slice A' n' c')).lower (B':=w) hBs;have HZ:=hdq hzf;have hbf:=((hB.trans (hb3.mono hBs)).setCell (p:=⟨w+1+1,0,none⟩) (by show w.heap.size<=w.heap.size+1+1; omega) (.bool ng')).setCell (p:=⟨w.heap.size+1+1,1,none⟩) (by show w.heap.size<=w.heap.size+1+1; omega) (.slice A' n' c');clear hz hzf hb3;go_wp2;exact bodyPost_ret (v:=.agg #[.bool ng',.slice A' n' c']) (by simp [results,Tryz.results192,go_sem,v0,v1]) rfl ⟨⟨_,_,_,_,rfl,HZ.out⟩,hbf⟩
  ·have hn2:0<n2:=by
    rcases Nat.eq_zero_or_pos n2 with h | h
    ·exact absurd (by rw [<-Hal.nat_words gk,List.eq_nil_of_length_eq_zero (h2.len.trans h)]; rfl) hb0
    ·exact h
   have hn2i:(0:Int)<(n2:Int):=(by omega);have HD:=hdq (zE2 h1 h2 (by omega) (by omega) (by omega));have H2:=hdq h2;have hlt:a % gk<gk:=Nat.mod_lt _ (by omega);clear h1 h2;(go_wp2_with fail);refine HD.out.mono ?_;rintro e w3 ⟨⟨A3,n3,c3,A4,n4,c4,rfl,h3,h4⟩,hb3⟩;have hBs:=hB.size
   have Hfin:Hid (GcLoop w x y 800000 (a % gk) (.slice A2 n2 c2) (.slice A4 n4 c4) w3):=⟨gk,a % gk,A2,n2,c2,A4,n4,c4,rfl,rfl,rfl,H2.out.below hb3,h4.low (by omega),by rw [<-Hg.out,Nat.gcd_comm a gk,Nat.gcd_rec gk a,Nat.gcd_comm],l2,by
    have h5:=zBF (Nat.le_of_lt hlt);rw [h4.len,H2.out.len] at h5; omega,hB.trans (hb3.mono hBs),bR.below hb3 sR,ltl sR hb3.size⟩
   clear h3 h4 hb3 hB bR;go_wp2;(go_roundg (a % gk));case rel=>exact fn_ Hfin.out
   case measure=>exact hlt
def DivZ (w:World) (z:Int) (e:Ending) (w':World):Prop:=
 ∃ ng A n c ng2 A2 n2 c2,e = .returned (.tuple #[.agg #[.bool ng,.slice A n c],.agg #[.bool ng2,.slice A2 n2 c2],.int .i64 0])/\ZAt w' (New w) ng A n c z
theorem zEZ {B:Option Addr} {la lb:List Nat} (ng mg:Bool) (ha:WordsAt w X A n c la) (hb:WordsAt w Y B m d lb) (hn:n<=400000) (hm:m<=400000) (hb0:Num.nat lb ≠ 0) (hdv:Num.nat la % Num.nat lb=0) :
  Calls Tryz.prog 193 #[.agg #[.bool ng,.slice A n c],.agg #[.bool mg,.slice B m d]] w fun e w'=>DivZ w (zval (ng != mg) (Num.nat la / Num.nat lb)) e w'/\Below w w w':=by
 have HLA:Hid ((Hal.words (Num.nat la)).length<=800000):=by
  have h1:=zCR ha.ok;rw [ha.len] at h1;show _<=_; omega
 have HLB:Hid ((Hal.words (Num.nat lb)).length<=800000):=by
  have h1:=zCR hb.ok;rw [hb.len] at h1;show _<=_; omega
 obtain ⟨x,hx⟩:∃ x,Num.nat la=x:=⟨_,rfl⟩;obtain ⟨y,hy⟩:∃ y,Num.nat lb=y:=⟨_,rfl⟩;rw [hx] at HLA hdv ⊢;rw [hy] at HLB hdv hb0 ⊢;have HX:=hdq hx;have HY:=hdq hy;have HDv:=hdq hdv;have HB0:=hdq hb0;clear hx hy hdv hb0;have HA:=hdq ha.old;have HB:=hdq hb.old;have HN:=hdq hn;have HM:=hdq hm;clear ha hb hn hm;go_enter Tryz.func193,Tryz.ntmps193
 go_wp2;refine zAo (fun W=>Below w w W/\Box2 W w (.bool ng) (.slice A n c)/\Box2 W (w+1) (.bool mg) (.slice B m d)/\Box2 W (w+1+1) (.bool false) (.slice none 0 0)/\Box2 W (w+1+1+1) (.bool false) (.slice none 0 0)/\w.heap.size<W.heap.size/\w.heap.size+1<W.heap.size/\w.heap.size+1+1<W.heap.size/\w.heap.size+1+1+1<W.heap.size) ⟨(az (az (az (az (brf _ _))))),bx2,bx2,bx2,bx2,by simp <;> omega,by simp <;> omega,by simp <;> omega,by simp <;> omega⟩ ?_;rintro W ⟨hbW,bA,bB,bR,bS,s0,s1,s2,s3⟩;have hBW:=hbW.size;have ne02:¬ (w.heap.size=w.heap.size+1+1):=by omega
 have ne03:¬ (w.heap.size=w.heap.size+1+1+1):=by omega
 have ne13:¬ (w.heap.size+1=w.heap.size+1+1+1):=by omega
 have HA2:=hdq (HA.out.below hbW);have HB2:=hdq (HB.out.below hbW);obtain ⟨a0,a1,-⟩:=id bA;obtain ⟨b0,b1,-⟩:=id bB;clear HA HB
 go_region_held3 (Sees w [] W) (exact kp)
  (first
   | (go_at_call 200; ((with_reducible refine (zAH (HA2.out.keptOld (Sees.kept (by assumption))) (by have:=HN.out; omega)).mono ?_); rintro e w1 ⟨⟨A1,n1,c1,rfl,-,h1⟩,hb1⟩))
   | (go_at_call 200; ((with_reducible refine (zAH (HB2.out.keptOld (Sees.kept (by assumption))) (by have:=HM.out; omega)).mono ?_); rintro e w2 ⟨⟨A2,n2,c2,rfl,-,h2⟩,hb2⟩))
   | fail)
 rename_i hS;have hW2:Below W W w2:=hS.kept.whole;have hB2:=hbW.trans (hW2.mono hBW);rw [HX.out] at h1;rw [HY.out] at h2;have e1:=h1.len;have e2:=h2.len;have H1:=hdq (h1.below hb2);have H2:=hdq h2;have l1:n1<=800000:=by rw [<-e1]; exact HLA.out
 have l2:n2<=800000:=by rw [<-e2]; exact HLB.out
 have hn2:((n2:Int) == 0)=false:=by
  have:n2 ≠ 0:=fun h=>HB0.out (by rw [<-Hal.nat_words y,List.eq_nil_of_length_eq_zero (e2.trans h)]; rfl)
  simp; omega
 have HD:=hdq (zE2 H1.out H2.out (Nat.pos_of_ne_zero HB0.out) (by omega) (by omega));replace bA:=bA.below hW2 s0;replace bB:=bB.below hW2 s1;replace bR:=bR.below hW2 s2;replace bS:=bS.below hW2 s3;replace s3:=ltl s3 hW2.size;clear hS h1 h2 hb1 hb2 e1 e2 a0 a1 b0 b1 HA2 HB2 HLA HLB hbW hW2 s0 s1 s2;go_wp2_with fail
 refine HD.out.mono ?_;rintro e w3 ⟨⟨A3,n3,c3,A4,n4,c4,rfl,h3,h4⟩,hb3⟩;rw [HDv.out] at h4;have hn4:n4=0:=by rw [<-h4.len,Hal.words_zero]; rfl
 subst hn4;have hB3:=hB2.trans (hb3.mono hB2.size);replace bA:=bA.below hb3 (by omega);replace bB:=bB.below hb3 (by omega);replace bR:=bR.below hb3 (by omega);replace bS:=bS.below hb3 s3;have s3':=ltl s3 hb3.size;obtain ⟨a0,a1,-⟩:=id bA;obtain ⟨b0,b1,-⟩:=id bB
 have l3:n3<=800000:=by
  have:=zBF (Nat.div_le_self x y);rw [h3.len,H1.out.len] at this; omega
 have H3:=hdq h3;have H4:=hdq h4;have hb3s:=hb3.size;clear h3 h4 HD;cases ng
 all_goals
  go_wp2_with fail
  refine (zCA _ H3.out (by omega)).mono ?_;rintro e w4 ⟨⟨ng',A',n',c',rfl,hz⟩,hb4⟩;have HZ:=hdq hz;clear hz;go_wp2_with fail
  refine (zCA false (H4.out.below hb4) (by omega)).mono ?_;rintro e w5 ⟨⟨ng2,A2',n2',c2',rfl,hz2⟩,hb5⟩;have hb45:=hb4.trans (hb5.mono hb4.size);have bR5:=bR.below hb45 (by omega);have bS5:=bS.below hb45 s3';obtain ⟨r0,r1,rf⟩:=id bR5;obtain ⟨q0,q1,qf⟩:=id bS5;have s5:=ltl s3' hb45.size;have hB5:=hB3.trans (hb45.mono hB3.size);have hzf:=HZ.out.below hb5;rw [Hal.nat_words] at hzf;have HZF:=hdq hzf;clear hz2 hzf hb4 hb5 HZ a0 a1 b0 b1;have bR6:=bR5.restored (.bool ng') (.slice A' n' c');have bS6:=(bS5.far2 (b':=w+1+1) (o:=0) (by omega) (.bool ng')).far2 (b':=w+1+1) (o:=1) (by omega) (.slice A' n' c');have bS7:=bS6.restored (.bool ng2) (.slice A2' n2' c2');have bR7:=(bR6.far2 (b':=w+1+1+1) (o:=0) (by omega) (.bool ng2)).far2 (b':=w+1+1+1) (o:=1) (by omega) (.slice A2' n2' c2');have hB7:=(((hB5.setCell (p:=⟨w+1+1,0,none⟩) (by show w.heap.size<=w.heap.size+1+1; omega) (.bool ng')).setCell (p:=⟨w.heap.size+1+1,1,none⟩) (by show w.heap.size<=w.heap.size+1+1; omega) (.slice A' n' c')).setCell (p:=⟨w+1+1+1,0,none⟩) (by show w.heap.size<=w.heap.size+1+1+1; omega) (.bool ng2)).setCell (p:=⟨w.heap.size+1+1+1,1,none⟩) (by show w.heap.size<=w.heap.size+1+1+1; omega) (.slice A2' n2' c2');have hB3s:=hB3.size;have HZ7:=hdq ((((HZF.out.set (p:=⟨w+1+1,0,none⟩) (by show w.heap.size+1+1<w3.heap.size; omega) (.bool ng')).set (p:=⟨w.heap.size+1+1,1,none⟩) (by show w.heap.size+1+1<w3.heap.size; omega) (.slice A' n' c')).set (p:=⟨w+1+1+1,0,none⟩) (by show w.heap.size+1+1+1<w3.heap.size; omega) (.bool ng2)).set (p:=⟨w.heap.size+1+1+1,1,none⟩) (by show w.heap.size+1+1+1<w3.heap.size; omega) (.slice A2' n2' c2'));clear bR6 bS6 hB3 hB5 HZF bR5 bS5;go_wp2;generalize (((w5.setCell ⟨w+1+1,0,none⟩ (.bool ng')).setCell ⟨w.heap.size+1+1,1,none⟩ (.slice A' n' c')).setCell ⟨w+1+1+1,0,none⟩ (.bool ng2)).setCell ⟨w.heap.size+1+1+1,1,none⟩ (.slice A2' n2' c2')=W9 at *;obtain ⟨v0,v1,-⟩:=bR7;obtain ⟨v2,v3,-⟩:=bS7;refine bodyPost_ret (v:=.tuple #[.agg #[.bool ng',.slice A' n' c'],.agg #[.bool ng2,.slice A2' n2' c2'],.int .i64 0]) (by simp [results,Tryz.results193,go_sem,v0,v1,v2,v3]) rfl ⟨⟨_,_,_,_,_,_,_,_,rfl,?_⟩,hB7⟩;have:=HZ7.out.lower (B':=w) (by omega);cases mg <;> simpa using this
theorem zCs (h:WordsAt w X A n c l) (hn:n<=100000000000) (h0:Num.nat l ≠ 0) :
  Calls Tryz.prog 196 #[.agg #[.bool false,.slice A n c]] w fun e w'=>e = .returned (.int .i64 1)/\Below w w w':=
 (zBJ false h hn).mono fun e w' ⟨h1,h2⟩=>⟨by rw [h1]; simp [zsign,h0],h2⟩
theorem zGF {B:Option Addr} {la lb:List Nat} (ha:WordsAt w X A n c la) (hb:WordsAt w Y B m d lb) (hn:n<=400000) (hm:m<=400000) (ha0:Num.nat la ≠ 0) (hb0:Num.nat lb ≠ 0) :
  Calls Tryz.prog 194 #[.agg #[.bool false,.slice A n c],.agg #[.bool false,.slice B m d]] w fun e w'=>e = .returned (.int .i64 (cmpN (Num.nat la) (Num.nat lb)))/\Below w w w':=by
 obtain ⟨o,ho⟩:∃ o,cmpN (Num.nat la) (Num.nat lb)=o:=⟨_,rfl⟩;rw [ho];have HO:=hdq ho;clear ho;have HA:=hdq ha.old;have HB:=hdq hb.old;have HN:=hdq hn;have HM:=hdq hm;have HA0:=hdq ha0;have HB0:=hdq hb0;clear ha hb hn hm ha0 hb0;go_enter Tryz.func194,Tryz.ntmps194
 go_wp2;refine zAo (fun W=>Below w w W/\Box2 W w (.bool false) (.slice A n c)/\Box2 W (w+1) (.bool false) (.slice B m d)/\w.heap.size<W.heap.size/\w.heap.size+1<W.heap.size) ⟨(az (az (brf _ _))),bx2,bx2,by simp <;> omega,by simp <;> omega⟩ ?_;rintro W ⟨hbW,bA,bB,s0,s1⟩;have hBW:=hbW.size;have HA2:=hdq (HA.out.below hbW);have HB2:=hdq (HB.out.below hbW);obtain ⟨a0,a1,-⟩:=id bA;obtain ⟨b0,b1,-⟩:=id bB;clear HA HB
 go_region_held3 (Sees w [] W) (exact kp)
  (first
   | (go_at_call 196; ((with_reducible refine (zCs (HA2.out.keptOld (Sees.kept (by assumption))) (by have:=HN.out; omega) HA0.out).mono ?_); rintro e w1 ⟨rfl,hb1⟩))
   | (go_at_call 196; ((with_reducible refine (zCs (HB2.out.keptOld (Sees.kept (by assumption))) (by have:=HM.out; omega) HB0.out).mono ?_); rintro e w2 ⟨rfl,hb2⟩))
   | fail)
 rename_i hS;go_wp2
 go_region_held3 (Sees w [] W) (exact kp)
  (first
   | (go_at_call 200; ((with_reducible refine (zAH (HA2.out.keptOld (Sees.kept (by assumption))) (by have:=HN.out; omega)).mono ?_); rintro e w3 ⟨⟨A1,n1,c1,rfl,-,h1⟩,hb3⟩))
   | (go_at_call 200; ((with_reducible refine (zAH (HB2.out.keptOld (Sees.kept (by assumption))) (by have:=HM.out; omega)).mono ?_); rintro e w4 ⟨⟨A2,n2,c2,rfl,-,h2⟩,hb4⟩))
   | (go_at_call 225; ((with_reducible refine (zE1 (h1.below hb4) h2).mono ?_); rintro e w5 ⟨rfl,rfl⟩))
   | fail)
 rename_i hS2;rw [Hal.nat_words,Hal.nat_words,HO.out];have hS3:=hS2.kept.whole;have hbf:=hbW.trans (hS3.mono hBW);have HA4:=hdq (HA2.out.below hS3);clear hS hS2 h1 h2 hb1 hb2 hb3 hb4;obtain ⟨a0',a1',-⟩:=bA.below hS3 s0;clear a0 a1 b0 b1;go_wp2_with fail
 refine (zCs HA4.out (by have:=HN.out; omega) HA0.out).mono ?_;rintro e w6 ⟨rfl,hb6⟩;have hbf2:=hbf.trans (hb6.mono hbf.size);go_wp2;go_ret;exact ⟨rfl,hbf2⟩
theorem zHQ {v:QV} {x r:Int} (hr:r=if y<0 then -x else x) (hx:ZIs w X L v.num x) (hy:ZIs w Y M v.den y) (hL:L<=400000) (hM:M<=400000) :
  Calls Tryz.prog 138 #[v.val] w fun e w'=>ZRet1 w r e w'/\Below w w w':=by
 have HR:=hdq hr;clear hr;obtain ⟨lx,hlx,hln,ex⟩:=hx;obtain ⟨ly,hly,hlm,ey⟩:=hy;have HX:=hdq hlx.old;have HY:=hdq hly.old;have HN:Hid (v.num.n<=400000):=nlt hln hL;have HM:Hid (v.den.n<=400000):=nlt hlm hM;have hsg:zsign v.den.ng (Num.nat ly)<0 ↔ y<0:=by rw [ey]; exact zI4
 have HEx:=hdq ex;have HSg:=hdq hsg;clear hlx hly hln hlm hL hM ex ey hsg;obtain ⟨s,hs⟩:∃ s,zsign v.den.ng (Num.nat ly)=s:=⟨_,rfl⟩;rw [hs] at HSg;have HS:=hdq hs;clear hs;by_cases hneg:s<0
 ·have hif:Hid (r=-x):=by show _=_; rw [HR.out,if_pos (HSg.out.1 hneg)]
  go_enter Tryz.func138,Tryz.ntmps138
  go_wp2_with fail
  refine zAg (fun W=>Below w w W/\Box4 W w (.bool v.num.ng) (.slice v.num.A v.num.n v.num.c) (.bool v.den.ng) (.slice v.den.A v.den.n v.den.c)/\Box2 W (w+1) (.bool false) (.slice none 0 0)/\w.heap.size<W.heap.size/\w.heap.size+1<W.heap.size) ⟨(az (az (brf _ _))),bx4,bx2,by simp <;> omega,by simp <;> omega⟩ ?_;rintro W ⟨hbW,bA,bR,s0,s1⟩;have hBW:=hbW.size;refine (zBJ v.den.ng (HY.out.below hbW) (by have:=HM.out; omega)).mono ?_;rw [HS.out];rintro e w1 ⟨rfl,hb1⟩;obtain ⟨a0,a1,a2,a3,-⟩:=bA.below hb1 s0;have HX1:=hdq ((HX.out.below hbW).below hb1);go_wp2_with fail
  refine (zHP v.num.ng HX1.out (by have:=HN.out; omega)).mono ?_;rintro e w2 ⟨⟨ng',A',n',c',rfl,hz⟩,hb2⟩;have hb12:=hb1.trans (hb2.mono hb1.size);have bR2:=bR.below hb12 s1;have sR2:=ltl s1 hb12.size;have hb1s:=hb1.size;obtain ⟨r0,r1,rf⟩:=id bR2;obtain ⟨v0,v1⟩:=bR2.stored (.bool ng') (.slice A' n' c');have hzf:=((hz.set (p:=⟨w+1,0,none⟩) (by show w.heap.size+1<w1.heap.size; omega) (.bool ng')).set (p:=⟨w.heap.size+1,1,none⟩) (by show w.heap.size+1<w1.heap.size; omega) (.slice A' n' c')).lower (B':=w) (by omega);have HZ:=hdq hzf;have hbf:=((hbW.trans (hb12.mono hBW)).setCell (p:=⟨w+1,0,none⟩) (by simp) (.bool ng')).setCell (p:=⟨w.heap.size+1,1,none⟩) (by simp) (.slice A' n' c');clear hz hzf hb1 hb2 hb12;go_wp2;exact bodyPost_ret (v:=.agg #[.bool ng',.slice A' n' c']) (by simp [results,Tryz.results138,go_sem,v0,v1]) rfl ⟨⟨_,_,_,_,rfl,by rw [hif.out,HEx.out]; exact HZ.out⟩,hbf⟩
 ·have hif:Hid (r=x):=by show _=_; rw [HR.out,if_neg fun h=>hneg (HSg.out.2 h)]
  go_enter Tryz.func138,Tryz.ntmps138
  go_wp2_with fail
  refine zAg (fun W=>Below w w W/\Box4 W w (.bool v.num.ng) (.slice v.num.A v.num.n v.num.c) (.bool v.den.ng) (.slice v.den.A v.den.n v.den.c)/\Box2 W (w+1) (.bool false) (.slice none 0 0)/\w.heap.size<W.heap.size/\w.heap.size+1<W.heap.size) ⟨(az (az (brf _ _))),bx4,bx2,by simp <;> omega,by simp <;> omega⟩ ?_;rintro W ⟨hbW,bA,bR,s0,s1⟩;have hBW:=hbW.size;refine (zBJ v.den.ng (HY.out.below hbW) (by have:=HM.out; omega)).mono ?_;rw [HS.out];rintro e w1 ⟨rfl,hb1⟩;obtain ⟨a0,a1,a2,a3,-⟩:=bA.below hb1 s0;have HX1:=hdq ((HX.out.below hbW).below hb1);go_wp2_with fail
  refine (zCr v.num.ng HX1.out (by have:=HN.out; omega)).mono ?_;rintro e w2 ⟨⟨ng',A',n',c',rfl,hz⟩,hb2⟩;have hb12:=hb1.trans (hb2.mono hb1.size);have bR2:=bR.below hb12 s1;have sR2:=ltl s1 hb12.size;have hb1s:=hb1.size;obtain ⟨r0,r1,rf⟩:=id bR2;obtain ⟨v0,v1⟩:=bR2.stored (.bool ng') (.slice A' n' c');have hzf:=((hz.set (p:=⟨w+1,0,none⟩) (by show w.heap.size+1<w1.heap.size; omega) (.bool ng')).set (p:=⟨w.heap.size+1,1,none⟩) (by show w.heap.size+1<w1.heap.size; omega) (.slice A' n' c')).lower (B':=w) (by omega);have HZ:=hdq hzf;have hbf:=((hbW.trans (hb12.mono hBW)).setCell (p:=⟨w+1,0,none⟩) (by simp) (.bool ng')).setCell (p:=⟨w.heap.size+1,1,none⟩) (by simp) (.slice A' n' c');clear hz hzf hb1 hb2 hb12;go_wp2;exact bodyPost_ret (v:=.agg #[.bool ng',.slice A' n' c']) (by simp [results,Tryz.results138,go_sem,v0,v1]) rfl ⟨⟨_,_,_,_,rfl,by rw [hif.out,HEx.out]; exact HZ.out⟩,hbf⟩
theorem zDz :Calls Tryz.prog 195 #[] w fun e w'=>ZRet1 w 1 e w'/\Below w w w':=by
 go_enter Tryz.func195,Tryz.ntmps195
 go_wp2_with fail
 refine zAg (fun W=>Below w w W/\Box2 W w (.bool false) (.slice none 0 0)/\w.heap.size<W.heap.size) ⟨(az (brf _ _)),bx2,by simp <;> omega⟩ ?_;rintro W ⟨hbW,bR,s0⟩;have hBW:=hbW.size;refine (zB9 1 (by decide) (by decide) (by decide)).mono ?_;rintro e w1 ⟨⟨ng',A',n',c',rfl,hz⟩,hb1⟩;have bR2:=bR.below hb1 s0;obtain ⟨r0,r1,rf⟩:=id bR2;obtain ⟨v0,v1⟩:=bR2.stored (.bool ng') (.slice A' n' c');have sR2:=ltl s0 hb1.size;have hzf:=((hz.set (p:=w) s0 (.bool ng')).set (p:=⟨w.heap.size,1,none⟩) s0 (.slice A' n' c')).lower (B':=w) hBW;have HZ:=hdq hzf;have hbf:=((hbW.trans (hb1.mono hBW)).setCell (p:=w) (nlr _) (.bool ng')).setCell (p:=⟨w.heap.size,1,none⟩) (nlr _) (.slice A' n' c');clear hz hzf hb1;go_wp2;exact bodyPost_ret (v:=.agg #[.bool ng',.slice A' n' c']) (by simp [results,Tryz.results195,go_sem,v0,v1]) rfl ⟨⟨_,_,_,_,rfl,HZ.out⟩,hbf⟩
theorem zHN {v:QV} {r:Int} (hr:r=if y=0 then 1 else (y.natAbs:Int)) (hy:ZIs w Y M v.den y) (hM:M<=400000) :
  Calls Tryz.prog 139 #[v.val] w fun e w'=>ZRet1 w r e w'/\Below w w w':=by
 have HR:=hdq hr;clear hr;obtain ⟨ly,hly,hlm,ey⟩:=hy;have HY:=hdq hly.old;have HM:Hid (v.den.n<=400000):=nlt hlm hM;have hsg:zsign v.den.ng (Num.nat ly)=0 ↔ y=0:=by rw [ey]; unfold zsign zval; split <;> (try split) <;> simp_all <;> omega
 have habs:y.natAbs=Num.nat ly:=by rw [ey]; unfold zval; split <;> omega
 have HAb:=hdq habs;have HSg:=hdq hsg;clear hly hlm hM ey hsg habs;obtain ⟨s,hs⟩:∃ s,zsign v.den.ng (Num.nat ly)=s:=⟨_,rfl⟩;rw [hs] at HSg;have HS:=hdq hs;clear hs;by_cases h0:s=0
 ·have hif:Hid (r=1):=by show _=_; rw [HR.out,if_pos (HSg.out.1 h0)]
  subst h0;go_enter Tryz.func139,Tryz.ntmps139
  go_wp2_with fail
  refine zAg (fun W=>Below w w W/\Box4 W w (.bool v.num.ng) (.slice v.num.A v.num.n v.num.c) (.bool v.den.ng) (.slice v.den.A v.den.n v.den.c)/\Box2 W (w+1) (.bool false) (.slice none 0 0)/\w.heap.size<W.heap.size/\w.heap.size+1<W.heap.size) ⟨(az (az (brf _ _))),bx4,bx2,by simp <;> omega,by simp <;> omega⟩ ?_;rintro W ⟨hbW,bA,bR,s0,s1⟩;have hBW:=hbW.size;refine (zBJ v.den.ng (HY.out.below hbW) (by have:=HM.out; omega)).mono ?_;rw [HS.out];rintro e w1 ⟨rfl,hb1⟩;go_wp2_with fail
  refine zDz.mono ?_;rintro e w2 ⟨⟨ng',A',n',c',rfl,hz⟩,hb2⟩;have hb12:=hb1.trans (hb2.mono hb1.size);have bR2:=bR.below hb12 s1;have sR2:=ltl s1 hb12.size;have hb1s:=hb1.size;obtain ⟨r0,r1,rf⟩:=id bR2;obtain ⟨v0,v1⟩:=bR2.stored (.bool ng') (.slice A' n' c');have hzf:=((hz.set (p:=⟨w+1,0,none⟩) (by show w.heap.size+1<w1.heap.size; omega) (.bool ng')).set (p:=⟨w.heap.size+1,1,none⟩) (by show w.heap.size+1<w1.heap.size; omega) (.slice A' n' c')).lower (B':=w) (by omega);have HZ:=hdq hzf;have hbf:=((hbW.trans (hb12.mono hBW)).setCell (p:=⟨w+1,0,none⟩) (by simp) (.bool ng')).setCell (p:=⟨w.heap.size+1,1,none⟩) (by simp) (.slice A' n' c');clear hz hzf hb1 hb2 hb12;go_wp2;exact bodyPost_ret (v:=.agg #[.bool ng',.slice A' n' c']) (by simp [results,Tryz.results139,go_sem,v0,v1]) rfl ⟨⟨_,_,_,_,rfl,by rw [hif.out]; exact HZ.out⟩,hbf⟩
 ·have hif:Hid (r=((Num.nat ly:Nat):Int)):=by show _=_; rw [HR.out,if_neg fun h=>h0 (HSg.out.2 h),HAb.out]
  have hb0:(s == 0)=false:=by simpa using h0
  go_enter Tryz.func139,Tryz.ntmps139
  go_wp2_with fail
  refine zAg (fun W=>Below w w W/\Box4 W w (.bool v.num.ng) (.slice v.num.A v.num.n v.num.c) (.bool v.den.ng) (.slice v.den.A v.den.n v.den.c)/\Box2 W (w+1) (.bool false) (.slice none 0 0)/\w.heap.size<W.heap.size/\w.heap.size+1<W.heap.size) ⟨(az (az (brf _ _))),bx4,bx2,by simp <;> omega,by simp <;> omega⟩ ?_;rintro W ⟨hbW,bA,bR,s0,s1⟩;have hBW:=hbW.size;refine (zBJ v.den.ng (HY.out.below hbW) (by have:=HM.out; omega)).mono ?_;rw [HS.out];rintro e w1 ⟨rfl,hb1⟩;obtain ⟨a0,a1,a2,a3,-⟩:=bA.below hb1 s0;have HY1:=hdq ((HY.out.below hbW).below hb1);go_wp2_with fail
  refine (zHM v.den.ng HY1.out (by have:=HM.out; omega)).mono ?_;rintro e w2 ⟨⟨ng',A',n',c',rfl,hz⟩,hb2⟩;have hb12:=hb1.trans (hb2.mono hb1.size);have bR2:=bR.below hb12 s1;have sR2:=ltl s1 hb12.size;have hb1s:=hb1.size;obtain ⟨r0,r1,rf⟩:=id bR2;obtain ⟨v0,v1⟩:=bR2.stored (.bool ng') (.slice A' n' c');have hzf:=((hz.set (p:=⟨w+1,0,none⟩) (by show w.heap.size+1<w1.heap.size; omega) (.bool ng')).set (p:=⟨w.heap.size+1,1,none⟩) (by show w.heap.size+1<w1.heap.size; omega) (.slice A' n' c')).lower (B':=w) (by omega);have HZ:=hdq hzf;have hbf:=((hbW.trans (hb12.mono hBW)).setCell (p:=⟨w+1,0,none⟩) (by simp) (.bool ng')).setCell (p:=⟨w.heap.size+1,1,none⟩) (by simp) (.slice A' n' c');clear hz hzf hb1 hb2 hb12;go_wp2;exact bodyPost_ret (v:=.agg #[.bool ng',.slice A' n' c']) (by simp [results,Tryz.results139,go_sem,v0,v1]) rfl ⟨⟨_,_,_,_,rfl,by rw [hif.out]; exact HZ.out⟩,hbf⟩
theorem zIA {x:Int} (hy:0<y) (hq:q=(x:Rat) / (y:Rat)) (hg:g=Nat.gcd x.natAbs y.natAbs) :
  g ≠ 0/\x.natAbs % g=0/\y.natAbs % g=0/\x.natAbs / g=q.num.natAbs/\y.natAbs / g=q.den/\(x<0 ↔ q.num<0):=by
 obtain ⟨m,hm,hx,hyy⟩:=zEf hy hq;have hx2:x.natAbs=q.num.natAbs*m:=by rw [hx,Int.natAbs_mul]; simp
 have hy2:y.natAbs=q.den*m:=by rw [hyy,Int.natAbs_mul]; simp
 have hgm:g=m:=by
  rw [hg,hx2,hy2,Nat.gcd_mul_right];have:Nat.gcd q.num.natAbs q.den=1:=q.reduced;rw [this,Nat.one_mul]
 subst hgm;have hmp:0<g:=by omega
 refine ⟨hm,by rw [hx2,Nat.mul_mod_left],by rw [hy2,Nat.mul_mod_left],by rw [hx2,Nat.mul_div_cancel _ hmp],by rw [hy2,Nat.mul_div_cancel _ hmp],?_⟩;have hmi:(0:Int)<(g:Int):=by omega
 constructor
 ·intro h;rw [hx] at h;rcases (by omega:q.num<0\/0<=q.num) with h1 | h1
  ·exact h1
  ·have:=Int.mul_nonneg h1 (Int.le_of_lt hmi); omega
 ·intro h;rw [hx];have:=Int.mul_neg_of_neg_of_pos h hmi; exact this
theorem zEx {B:Option Addr} {y:Nat} (o:Int) (ho:cmpN y 1=o) (hy:0<y) (ha:WordsAt w X A n c (Num.words y)) (hb:WordsAt w Y B m d (Num.words (Int.natAbs 1))) (hn:n<=400000) :
  Calls Tryz.prog 194 #[.agg #[.bool false,.slice A n c],.agg #[.bool false,.slice B m d]] w fun e w'=>e = .returned (.int .i64 o)/\Below w w w':=by
 have h1:Num.nat (Num.words (Int.natAbs 1))=1:=by rw [Num.nat_words]; rfl
 have hm:m<=400000:=by
  rw [<-hb.len];exact nlt (Num.words_length_le (k:=1) (by decide)) (by decide)
 refine (zGF ha hb hn hm (by rw [Num.nat_words]; omega) (by rw [h1]; decide)).mono ?_;rw [h1,Num.nat_words,ho];exact fun _ _ h=>h
theorem zHE {B:Option Addr} {mg:Bool} {x:Int} (ha:ZAt w X ng A n c x) (hb:ZAt w Y mg B m d y) (hn:n<=400000) (hm:m<=400000) (hy:0<y) (hq:q=(x:Rat) / (y:Rat)) :
  Calls Tryz.prog 137 #[.agg #[.bool ng,.slice A n c],.agg #[.bool mg,.slice B m d]] w fun e w'=>QRet w q e w'/\Below w w w':=by
 obtain ⟨g,hg⟩:∃ g,g=Nat.gcd x.natAbs y.natAbs:=⟨_,rfl⟩;obtain ⟨m1,m2,m3,m4,m5,m6⟩:=zIA hy hq hg;have hmg:mg=false:=by rw [hb.sign]; simp; omega
 subst hmg;have hng:ng=decide (q.num<0):=by rw [ha.sign]; simp [m6]
 have HA:=hdq ha.words.old;have HB:=hdq hb.words.old;have HN:=hdq hn;have HM:=hdq hm;have hgx:Hid (Nat.gcd (Num.nat (Num.words x.natAbs)) (Num.nat (Num.words y.natAbs))=g):=by show _=_; rw [Num.nat_words,Num.nat_words]; exact hg.symm
 have M1:=hdq m1;have M2:Hid (Num.nat (Num.words x.natAbs) % Num.nat (Num.words g)=0):=by show _=_; rw [Num.nat_words,Num.nat_words]; exact m2
 have M3:Hid (Num.nat (Num.words y.natAbs) % Num.nat (Num.words g)=0):=by show _=_; rw [Num.nat_words,Num.nat_words]; exact m3
 have M4:Hid (Num.nat (Num.words x.natAbs) / Num.nat (Num.words g)=q.num.natAbs):=by show _=_; rw [Num.nat_words,Num.nat_words]; exact m4
 have M5:Hid (Num.nat (Num.words y.natAbs) / Num.nat (Num.words g)=q.den):=by show _=_; rw [Num.nat_words,Num.nat_words]; exact m5
 have MG:Hid (Num.nat (Num.words g) ≠ 0):=by show _ ≠ _; rw [Num.nat_words]; exact m1
 have HNg:=hdq hng
 have HGl:Hid ((Num.words g).length<=400000):=by
  have h1:g<=y.natAbs:=by rw [hg]; exact Nat.le_of_dvd (by omega) (Nat.gcd_dvd_right _ _)
  have h2:=Num.words_length_le (Nat.lt_of_le_of_lt h1 (Num.lt_words_length y.natAbs));rw [hb.words.len] at h2;show _<=_; omega
 have HDl:Hid ((Num.words q.den).length<=400000):=by
  have h1:q.den<=y.natAbs:=by rw [<-m5]; exact Nat.div_le_self _ _
  have h2:=Num.words_length_le (Nat.lt_of_le_of_lt h1 (Num.lt_words_length y.natAbs));rw [hb.words.len] at h2;show _<=_; omega
 clear ha hb hn hm hy hq hg m1 m2 m3 m4 m5 m6 hng;go_enter Tryz.func137,Tryz.ntmps137
 go_wp2_with fail
 refine zAg (fun W=>Below w w W/\Box2 W w (.bool ng) (.slice A n c)/\Box2 W (w+1) (.bool false) (.slice B m d)/\Box4 W (w+1+1) (.bool false) (.slice none 0 0) (.bool false) (.slice none 0 0)/\w.heap.size<W.heap.size/\w.heap.size+1<W.heap.size/\w.heap.size+1+1<W.heap.size) ⟨(az (az (az (brf _ _)))),bx2,bx2,bx4,by simp <;> omega,by simp <;> omega,by simp <;> omega⟩ ?_;rintro W ⟨hbW,bA,bB,bR,s0,s1,s2⟩;have hBW:=hbW.size;have ne02:¬ (w.heap.size=w.heap.size+1+1):=by omega
 refine (zHO ng false (HA.out.below hbW) (HB.out.below hbW) HN.out HM.out).mono ?_;rw [hgx.out];rintro e w1 ⟨⟨gg,gA,gn,gc,rfl,hgz⟩,hb1⟩;have hgg:gg=false:=by rw [hgz.sign]; simp
 subst hgg;have hgw:=hgz.words;rw [Int.natAbs_natCast] at hgw;have HG:=hdq hgw;have HGn:Hid (gn<=400000):=by show _<=_; rw [<-hgw.len]; exact HGl.out
 clear hgw;clear hgz;replace bA:=bA.below hb1 s0;replace bB:=bB.below hb1 s1;replace bR:=bR.below hb1 s2;replace s0:=ltl s0 hb1.size;replace s1:=ltl s1 hb1.size;replace s2:=ltl s2 hb1.size;replace hbW:=hbW.trans (hb1.mono hbW.size);try clear a0 a1 b0 b1
 obtain ⟨a0,a1,-⟩:=id bA;obtain ⟨b0,b1,-⟩:=id bB;go_wp2_with fail
 have al1:Below w1 w1 (w1.alloc (.cells #[.bool false,.slice gA gn gc] 28)):=bal;have bG:Box2 (w1.alloc (.cells #[.bool false,.slice gA gn gc] 28)) w1 (.bool false) (.slice gA gn gc):=bx2;have sG:w1.heap.size<(w1.alloc (.cells #[.bool false,.slice gA gn gc] 28)).heap.size:=by simp
 replace HG:=hdq (HG.out.below al1);have w1s:=hbW.size;replace bA:=bA.below al1 s0;replace bB:=bB.below al1 s1;replace bR:=bR.below al1 s2;replace s0:=ltl s0 al1.size;replace s1:=ltl s1 al1.size;replace s2:=ltl s2 al1.size;replace hbW:=hbW.trans (al1.mono hbW.size);try clear a0 a1 b0 b1
 obtain ⟨a0,a1,-⟩:=id bA;obtain ⟨b0,b1,-⟩:=id bB;generalize w1.alloc (.cells #[.bool false,.slice gA gn gc] 28)=W1 at *;have f1:=s2;clear al1 hb1;refine (zEZ ng false (HA.out.below hbW) HG.out HN.out HGn.out MG.out M2.out).mono ?_;rw [M4.out];rintro e w2 ⟨⟨pg,pA,pn,pc,eg,eA,en,ec,rfl,hp⟩,hb2⟩;replace bG:=bG.below hb2 sG;replace sG:=ltl sG hb2.size;replace bA:=bA.below hb2 s0;replace bB:=bB.below hb2 s1;replace bR:=bR.below hb2 s2;replace s0:=ltl s0 hb2.size;replace s1:=ltl s1 hb2.size;replace s2:=ltl s2 hb2.size;replace hbW:=hbW.trans (hb2.mono hbW.size);try clear a0 a1 b0 b1
 obtain ⟨a0,a1,-⟩:=id bA;obtain ⟨b0,b1,-⟩:=id bB;try clear g0 g1
 obtain ⟨g0,g1,-⟩:=id bG;have HP:=hdq hp;replace HG:=hdq (HG.out.below hb2);clear hp;go_wp2_with fail
 have al2:Below w2 w2 ((w2.alloc (.cells #[.bool pg,.slice pA pn pc] 28)).alloc (.cells #[.bool eg,.slice eA en ec] 28)):=(bal).alloc (by simp) _;have bP:Box2 ((w2.alloc (.cells #[.bool pg,.slice pA pn pc] 28)).alloc (.cells #[.bool eg,.slice eA en ec] 28)) w2 (.bool pg) (.slice pA pn pc):=bx2;have sP:w2.heap.size<((w2.alloc (.cells #[.bool pg,.slice pA pn pc] 28)).alloc (.cells #[.bool eg,.slice eA en ec] 28)).heap.size:=by simp; omega
 have f2:W1.heap.size<=w2.heap.size:=hb2.size;have f3:=al2.size;replace HP:=hdq (HP.out.below al2);replace HG:=hdq (HG.out.below al2);replace bG:=bG.below al2 sG;replace sG:=ltl sG al2.size;replace bA:=bA.below al2 s0;replace bB:=bB.below al2 s1;replace bR:=bR.below al2 s2;replace s0:=ltl s0 al2.size;replace s1:=ltl s1 al2.size;replace s2:=ltl s2 al2.size;replace hbW:=hbW.trans (al2.mono hbW.size);try clear a0 a1 b0 b1
 obtain ⟨a0,a1,-⟩:=id bA;obtain ⟨b0,b1,-⟩:=id bB;try clear g0 g1
 obtain ⟨g0,g1,-⟩:=id bG;generalize (w2.alloc (.cells #[.bool pg,.slice pA pn pc] 28)).alloc (.cells #[.bool eg,.slice eA en ec] 28)=W2 at *;have f4:W1.heap.size<=W2.heap.size:=nlt f2 f3;clear al2 hb2;refine (zEZ false false (HB.out.below hbW) HG.out HM.out HGn.out MG.out M3.out).mono ?_;rw [M5.out];rintro e w3 ⟨⟨qg,qA,qn,qc,fg,fA,fn,fc,rfl,hq2⟩,hb3⟩;have hqg:qg=false:=by rw [hq2.sign]; simp [zval]
 subst hqg;have hqw:=hq2.words;rw [show (zval (false != false) q.den).natAbs=q.den by simp [zval]] at hqw;have HQ:=hdq hqw;have HQn:Hid (qn<=400000):=by show _<=_; rw [<-hqw.len]; exact HDl.out
 clear hq2 hqw;replace HP:=hdq (HP.out.below hb3);replace bP:=bP.below hb3 sP;replace sP:=ltl sP hb3.size;replace bG:=bG.below hb3 sG;replace sG:=ltl sG hb3.size;replace bA:=bA.below hb3 s0;replace bB:=bB.below hb3 s1;replace bR:=bR.below hb3 s2;replace s0:=ltl s0 hb3.size;replace s1:=ltl s1 hb3.size;replace s2:=ltl s2 hb3.size;replace hbW:=hbW.trans (hb3.mono hbW.size);try clear a0 a1 b0 b1
 obtain ⟨a0,a1,-⟩:=id bA;obtain ⟨b0,b1,-⟩:=id bB;try clear g0 g1
 obtain ⟨g0,g1,-⟩:=id bG;go_wp2;have al3:Below w3 w3 ((w3.alloc (.cells #[.bool false,.slice qA qn qc] 28)).alloc (.cells #[.bool fg,.slice fA fn fc] 28)):=(bal).alloc (by simp) _;have bQ:Box2 ((w3.alloc (.cells #[.bool false,.slice qA qn qc] 28)).alloc (.cells #[.bool fg,.slice fA fn fc] 28)) w3 (.bool false) (.slice qA qn qc):=bx2;have sQ:w3.heap.size<((w3.alloc (.cells #[.bool false,.slice qA qn qc] 28)).alloc (.cells #[.bool fg,.slice fA fn fc] 28)).heap.size:=by simp; omega
 have w3s:=hbW.size;have w3p:=sP;replace HP:=hdq (HP.out.below al3);replace HQ:=hdq (HQ.out.below al3);replace bP:=bP.below al3 sP;replace sP:=ltl sP al3.size;replace bG:=bG.below al3 sG;replace sG:=ltl sG al3.size;replace bA:=bA.below al3 s0;replace bB:=bB.below al3 s1;replace bR:=bR.below al3 s2;replace s0:=ltl s0 al3.size;replace s1:=ltl s1 al3.size;replace s2:=ltl s2 al3.size;replace hbW:=hbW.trans (al3.mono hbW.size);try clear a0 a1 b0 b1
 obtain ⟨a0,a1,-⟩:=id bA;obtain ⟨b0,b1,-⟩:=id bB;try clear g0 g1
 obtain ⟨g0,g1,-⟩:=id bG;generalize (w3.alloc (.cells #[.bool false,.slice qA qn qc] 28)).alloc (.cells #[.bool fg,.slice fA fn fc] 28)=W3 at *;obtain ⟨p0,p1,-⟩:=id bP;obtain ⟨q0,q1,-⟩:=id bQ;have hBW3:=hbW.size;clear al3 hb3 a0 a1 b0 b1 g0 g1 bA bB bG sG HG HA HB
 have hnum:Hid (zval (ng != false) q.num.natAbs=q.num):=by
  show _=_;rw [HNg.out];by_cases h:q.num<0 <;> simp [h,zval] <;> omega
 by_cases hd1:q.den=1
 ·have ho:Hid (cmpN q.den 1=0):=by show _=_; rw [hd1]; rfl
  have hcd:Hid (cden q=0):=by show _=_; simp [cden,hd1]
  go_region_held3 (Sees w [] W3) (exact kp)
   (first
    | (go_at_call 195; ((with_reducible refine (zDz).mono ?_); rintro e w4 ⟨⟨og,oA,on,oc,rfl,hone⟩,hb4⟩; obtain rfl:og=false:=by rw [hone.sign]; rfl))
    | (go_at_call 194; ((with_reducible refine (zEx 0 ho.out q.den_pos ((HQ.out.below (Sees.kept (by assumption)).whole)) hone.words HQn.out).mono ?_); rintro e w5 ⟨rfl,hb5⟩))
    | fail)
  rename_i hS;have hS3:Below W3 W3 w5:=hS.kept.whole;clear hS hone hb4 hb5;replace HP:=hdq (HP.out.below hS3);replace HQ:=hdq (HQ.out.below hS3);replace bP:=bP.below hS3 sP;replace bQ:=bQ.below hS3 sQ;replace bR:=bR.below hS3 s2;replace s2:=ltl s2 hS3.size;replace sP:=ltl sP hS3.size;replace sQ:=ltl sQ hS3.size;replace hbW:=hbW.trans (hS3.mono hbW.size);clear p0 p1 q0 q1 hS3;obtain ⟨p0,p1,-⟩:=id bP;obtain ⟨q0,q1,-⟩:=id bQ;obtain ⟨r0,r1,r2,r3,rf⟩:=id bR;obtain ⟨v0,v1,v2,v3,-⟩:=bR.stored (.bool pg) (.slice pA pn pc) (.bool false) (.slice none 0 0);have hqc:QCan w5 (New W1) ⟨⟨pg,pA,pn,pc⟩,⟨false,none,0,0⟩⟩ q:=⟨by rw [<-hnum.out]; exact HP.out,by rw [hcd.out]; exact ⟨rfl,by rw [show (0:Int).natAbs=0 from rfl,Num.words_zero]; exact WordsAt.nil _ _ none 0 (by decide)⟩⟩;have HQC:=hdq ((hqc.set4 (x0:=.bool pg) (x1:=.slice pA pn pc) (x2:=.bool false) (x3:=.slice none 0 0) f1).lower (B':=w) (by omega));have hbf:=zAl (x0:=.bool pg) (x1:=.slice pA pn pc) (x2:=.bool false) (x3:=.slice none 0 0) (b:=w+1+1) hbW (by omega);clear r0 r1 r2 r3 hqc;obtain ⟨r0,r1,r2,r3,rf⟩:=id bR;go_wp2;exact bodyPost_ret (v:=QV.val ⟨⟨pg,pA,pn,pc⟩,⟨false,none,0,0⟩⟩) (by simp [results,Tryz.results137,go_sem,v0,v1,v2,v3]) rfl ⟨⟨⟨⟨pg,pA,pn,pc⟩,⟨false,none,0,0⟩⟩,rfl,HQC.out⟩,hbf⟩
 ·have ho:Hid (cmpN q.den 1=1):=by
   show _=_;have:=q.den_pos;unfold cmpN; rw [if_neg (by omega),if_pos (by omega)]
  have hcd:Hid (cden q=(q.den:Int)):=by show _=_; simp [cden,hd1]
  go_region_held3 (Sees w [] W3) (exact kp)
   (first
    | (go_at_call 195; ((with_reducible refine (zDz).mono ?_); rintro e w4 ⟨⟨og,oA,on,oc,rfl,hone⟩,hb4⟩; obtain rfl:og=false:=by rw [hone.sign]; rfl))
    | (go_at_call 194; ((with_reducible refine (zEx 1 ho.out q.den_pos ((HQ.out.below (Sees.kept (by assumption)).whole)) hone.words HQn.out).mono ?_); rintro e w5 ⟨rfl,hb5⟩))
    | fail)
  rename_i hS;have hS3:Below W3 W3 w5:=hS.kept.whole;clear hS hone hb4 hb5;replace HP:=hdq (HP.out.below hS3);replace HQ:=hdq (HQ.out.below hS3);replace bP:=bP.below hS3 sP;replace bQ:=bQ.below hS3 sQ;replace bR:=bR.below hS3 s2;replace s2:=ltl s2 hS3.size;replace sP:=ltl sP hS3.size;replace sQ:=ltl sQ hS3.size;replace hbW:=hbW.trans (hS3.mono hbW.size);clear p0 p1 q0 q1 hS3;obtain ⟨p0,p1,-⟩:=id bP;obtain ⟨q0,q1,-⟩:=id bQ;obtain ⟨r0,r1,r2,r3,rf⟩:=id bR;obtain ⟨v0,v1,v2,v3,-⟩:=bR.stored (.bool pg) (.slice pA pn pc) (.bool false) (.slice qA qn qc);have hqc:QCan w5 (New W1) ⟨⟨pg,pA,pn,pc⟩,⟨false,qA,qn,qc⟩⟩ q:=⟨by rw [<-hnum.out]; exact HP.out,by rw [hcd.out]; exact ⟨by simp,by rw [Int.natAbs_natCast]; exact HQ.out.imp fun b _ hb=>by simp only [New] at hb ⊢; omega⟩⟩;have HQC:=hdq ((hqc.set4 (x0:=.bool pg) (x1:=.slice pA pn pc) (x2:=.bool false) (x3:=.slice qA qn qc) f1).lower (B':=w) (by omega));have hbf:=zAl (x0:=.bool pg) (x1:=.slice pA pn pc) (x2:=.bool false) (x3:=.slice qA qn qc) (b:=w+1+1) hbW (by omega);clear r0 r1 r2 r3 hqc;obtain ⟨r0,r1,r2,r3,rf⟩:=id bR;go_wp2;exact bodyPost_ret (v:=QV.val ⟨⟨pg,pA,pn,pc⟩,⟨false,qA,qn,qc⟩⟩) (by simp [results,Tryz.results137,go_sem,v0,v1,v2,v3]) rfl ⟨⟨⟨⟨pg,pA,pn,pc⟩,⟨false,qA,qn,qc⟩⟩,rfl,HQC.out⟩,hbf⟩
theorem zJu (x y:Int):qv x y=(((if y<0 then -x else x):Int):Rat) / (((if y=0 then (1:Int) else (y.natAbs:Int)):Int):Rat):=by
 unfold qv;by_cases h0:y=0
 ·subst h0; simp; grind
 ·rw [if_neg h0,if_neg h0];by_cases h1:y<0
  ·rw [if_pos h1];have e:(y.natAbs:Int)=-y:=(by omega);rw [e];have:(y:Rat) ≠ 0:=(by exact_mod_cast h0);simp only [Rat.intCast_neg];grind
  ·rw [if_neg h1];have e:(y.natAbs:Int)=y:=(by omega);rw [e]
theorem zDg {v:QV} (h:QIs w X L v q) (hL:L<=300000) :
  Calls Tryz.prog 59 #[v.val] w fun e w'=>QRet w q e w'/\Below w w w':=by
 obtain ⟨x,y,hx,hy,hq⟩:=h;obtain ⟨a,ha⟩:∃ a,a=if y<0 then -x else x:=⟨_,rfl⟩
 obtain ⟨b,hb⟩:∃ b,b=if y=0 then (1:Int) else (y.natAbs:Int):=⟨_,rfl⟩
 have hqe:q=(a:Rat) / (b:Rat):=by rw [hq,ha,hb]; exact zJu x y
 have hbp:0<b:=by rw [hb]; split <;> omega
 obtain ⟨lx,hlx,hln,ex⟩:=id hx;obtain ⟨ly,hly,hlm,ey⟩:=id hy
 have hla:Hid ((Num.words a.natAbs).length<=400000):=by
  have e:a.natAbs=Num.nat lx:=by rw [ha,ex]; unfold zval; split <;> split <;> omega
  show _<=_;have h1:=Num.words_length_le (Num.nat_lt hlx.ok);rw [hlx.len] at h1;rw [e]; omega
 have hlb:Hid ((Num.words b.natAbs).length<=400000):=by
  show _<=_;by_cases h0:y=0
  ·rw [hb,if_pos h0];exact nlt (Num.words_length_le (k:=1) (by decide)) (by decide)
  ·have e:b.natAbs=Num.nat ly:=by rw [hb,if_neg h0,ey]; unfold zval; split <;> omega
   have h1:=Num.words_length_le (Num.nat_lt hly.ok);rw [hly.len] at h1;rw [e]; omega
 have HX:=hdq hx;have HY:=hdq hy;have HA:=hdq ha;have HB:=hdq hb;have HQ:=hdq hqe;have HP:=hdq hbp;clear hx hy hq ha hb hqe hbp hlx hln ex hly hlm ey;go_enter Tryz.func59,Tryz.ntmps59
 go_wp2;refine zAo (fun W=>Below w w W/\Box4 W w (.bool v.num.ng) (.slice v.num.A v.num.n v.num.c) (.bool v.den.ng) (.slice v.den.A v.den.n v.den.c)/\Box4 W (w+1) (.bool false) (.slice none 0 0) (.bool false) (.slice none 0 0)/\w.heap.size<W.heap.size/\w.heap.size+1<W.heap.size) ⟨(az (az (brf _ _))),bx4,bx4,by simp <;> omega,by simp <;> omega⟩ ?_;rintro W ⟨hbW,bA,bR,s0,s1⟩;have hBW:=hbW.size;have HX2:Hid (ZIs W (Old w) L v.num x):=by obtain ⟨l,h1,h2⟩:=HX.out; exact ⟨l,h1.old.below hbW,h2⟩
 have HY2:Hid (ZIs W (Old w) L v.den y):=by obtain ⟨l,h1,h2⟩:=HY.out; exact ⟨l,h1.old.below hbW,h2⟩
 obtain ⟨a0,a1,a2,a3,-⟩:=id bA;clear HX HY
 go_region_held3 (Sees w [w.heap.size+1] W) (exact kp)
  (first
   | (go_at_call 138; ((with_reducible refine (zHQ (v:=v) HA.out (HX2.out.keptOld (Sees.kept (by assumption))) (HY2.out.keptOld (Sees.kept (by assumption))) (by omega) (by omega)).mono ?_); rintro e w1 ⟨⟨ng1,A1,n1,c1,rfl,hz1⟩,hb1⟩))
   | (go_at_call 139; ((with_reducible refine (zHN (v:=v) HB.out (HY2.out.keptOld (Sees.kept (by assumption))) (by omega)).mono ?_); rintro e w2 ⟨⟨ng2,A2,n2,c2,rfl,hz2⟩,hb2⟩))
   | (go_at_call 137; ((with_reducible refine (zHE (hz1.below hb2) hz2 (by rw [<-hz1.words.len]; exact hla.out) (by rw [<-hz2.words.len]; exact hlb.out) HP.out HQ.out).mono ?_); rintro e w3 ⟨⟨z,rfl,hz⟩,hb3⟩))
   | fail)
 rename_i hS;obtain ⟨v0,v1,v2,v3⟩:=hS.kept.val4 (by simp) (by rw [bR.1]; rfl) (by rw [bR.2.1]; rfl) (by rw [bR.2.2.1]; rfl) (by rw [bR.2.2.2.1]; rfl);have hbf:=hbW.trans hS.kept.below;have hb2s:=hb2.size;have hb1s:=hb1.size;have hb3s:=hb3.size;simp only [World.size_drew] at hb1s hb2s hb3s;have HZ:=hdq ((hz.set4 (b:=w+1) (x0:=.bool z.num.ng) (x1:=.slice z.num.A z.num.n z.num.c) (x2:=.bool z.den.ng) (x3:=.slice z.den.A z.den.n z.den.c) (by omega)).lower (B':=w) (by omega));clear hS hz hz1 hz2 hb1 hb2 hb3;go_wp2;exact bodyPost_ret (v:=z.val) (by simp [results,Tryz.results59,go_sem,v0,v1,v2,v3]) rfl ⟨⟨z,rfl,HZ.out⟩,hbf⟩
theorem ZAt.zis1 {z:Int} (h:ZAt w X ng A n c z) (hL:n<=L):ZIs w X L ⟨ng,A,n,c⟩ z:=
 ⟨_,h.words,hL,by rw [Num.nat_words,show ZV.ng ⟨ng,A,n,c⟩=ng from rfl,h.sign]; unfold zval; split <;> simp_all <;> omega⟩
theorem ZIs.imp' {z:ZV} {x:Int} (h:ZIs w X L z x):ZIs w (fun _=>True) L z x:=by
 obtain ⟨l,h1,h2⟩:=h;exact ⟨l,h1.imp fun _ _ _=>trivial,h2⟩
theorem zG5 {z:Int} (h1:-1000000<=z) (h2:z<=1000000):(Num.words z.natAbs).length<=1:=Num.words_length_le (by simp only [Num.base]; omega)
theorem zIR (n d:Int) (q:Rat) (h1:-1000000<=n) (h2:n<=1000000) (h0:n ≠ 0) (h3:0<d) (h4:d<=1000000) (hq:q=(n:Rat) / (d:Rat)) :
  Calls Tryz.prog 15 #[.int .i64 n,.int .i64 d] w fun e w'=>QRet w q e w'/\Below w w w':=by
 have HC:=hdq (fun w=>zB9 (w:=w) n h1 h2 h0);have HD:=hdq (fun w=>zB9 (w:=w) d (by omega) h4 (by omega));have W1:=hdq (zG5 h1 h2);have W2:=hdq (zG5 (z:=d) (by omega) h4);have HQ:Hid (q=qv n d):=by show _=_; rw [hq]; unfold qv; rw [if_neg (by omega)]
 clear h1 h2 h0 h3 h4 hq;go_enter Tryz.func15,Tryz.ntmps15
 go_wp2_with fail
 refine zAg (fun W=>Below w w W/\Box4 W w (.bool false) (.slice none 0 0) (.bool false) (.slice none 0 0)/\w.heap.size<W.heap.size) ⟨(az (brf _ _)),bx4,by simp <;> omega⟩ ?_;rintro W ⟨hbW,bR,s0⟩;have hBW:=hbW.size;refine (HC.out W).mono ?_;rintro e w1 ⟨⟨ng,A,k,c,rfl,hz⟩,hb1⟩;have HZ:=hdq hz;clear hz;go_wp2_with fail
 refine (HD.out w1).mono ?_;rintro e w2 ⟨⟨mg,B,m,d',rfl,hz2⟩,hb2⟩;have hb12:=hb1.trans (hb2.mono hb1.size);have hqi:QIs w2 (fun _=>True) 1 ⟨⟨ng,A,k,c⟩,⟨mg,B,m,d'⟩⟩ q:=⟨n,d,(ZAt.zis1 (HZ.out.below hb2) (by rw [<-HZ.out.words.len]; exact W1.out)).imp',(hz2.zis1 (by rw [<-hz2.words.len]; exact W2.out)).imp',HQ.out⟩;have HQI:=hdq hqi;clear hz2 hqi;go_wp2_with fail
 refine (zDg HQI.out (by decide)).mono ?_;rintro e w3 ⟨⟨z,rfl,hz⟩,hb3⟩;have hb13:=hb12.trans (hb3.mono hb12.size);have bR1:=bR.below hb13 s0;obtain ⟨r0,r1,r2,r3,rf⟩:=id bR1;obtain ⟨v0,v1,v2,v3,-⟩:=bR1.stored (.bool z.num.ng) (.slice z.num.A z.num.n z.num.c) (.bool z.den.ng) (.slice z.den.A z.den.n z.den.c);have hsz:=hb12.size;have HQC:=hdq ((hz.set4 (b:=w) (x0:=.bool z.num.ng) (x1:=.slice z.num.A z.num.n z.num.c) (x2:=.bool z.den.ng) (x3:=.slice z.den.A z.den.n z.den.c) (by omega)).lower (B':=w) (by omega));have hbf:=zAl (x0:=.bool z.num.ng) (x1:=.slice z.num.A z.num.n z.num.c) (x2:=.bool z.den.ng) (x3:=.slice z.den.A z.den.n z.den.c) (b:=w) (hbW.trans (hb13.mono hBW)) (nlr _);clear hz hb1 hb2 hb3 hb12 hb13;go_wp2;exact bodyPost_ret (v:=z.val) (by simp [results,Tryz.results15,go_sem,v0,v1,v2,v3]) rfl ⟨⟨z,rfl,HQC.out⟩,hbf⟩
open Go.RowKit Go.Shelf
section
variable {W W':World} {G G':Nat->Prop} {x:TV} {V n m L:Nat} {base:List Rat} {bn cn:Nat->Nat} {a:Nat->Nat->Rat} {lv:Nat->Bool} {g:Option (Nat->Rat)}
end
structure ValS (W:World) (B L:Nat) (G:Nat->Prop) (v:Value) (k:Nat) (qs:List QV) (l:List Rat):Prop where
 own:W.ownsRow B 30 4 v k (qs.flatMap cells4q)
 row:∀ j,v.ownBlock=some j->G j
 len:qs.length=k
 llen:l.length=k
 elem:∀ j,j<k->QIs W (fun b=>¬ G b) L (qs.getD j QV.zero) (l.getD j 0)
section
variable {W W' W2:World} {B L k:Nat} {G G' H:Nat->Prop} {v v':Value} {qs:List QV} {l:List Rat}
theorem ValS.nil (W:World) (B L:Nat) (G:Nat->Prop):ValS W B L G (.slice none 0 0) 0 [] []:=⟨⟨rfl,.inl ⟨rfl,rfl⟩⟩,fun j h=>by simp [Value.ownBlock] at h,rfl,rfl,fun j h=>absurd h (Nat.not_lt_zero j)⟩
theorem ValS.lt (h:ValS W B L G v k qs l) (e:v.ownBlock=some j):B<=j/\j<W.heap.size:=by
 obtain ⟨h1,cs,hh⟩:=zAc h.own e;exact ⟨h1,zAa hh⟩
theorem ValS.keep (h:ValS W B L G v k qs l) (hF:Fr H W W') (hH:∀ j,v.ownBlock=some j->¬ H j) (hHG:∀ y,H y->G y) (hG:More W G G'):ValS W' B L G' v k qs l:=by
 refine ⟨zAr h.own fun j hj=>hF.block j (h.lt hj).2 (hH j hj),fun j hj=>hG.old j (h.row j hj),h.len,h.llen,fun j hj=>?_⟩;exact (((h.elem j hj).imp (Y:=fun b=>¬ G b/\b<W.heap.size) fun b hl hb=>⟨hb,hl⟩).keep fun p hp hl=>hF.cell hl fun z=>hp.1 (hHG _ z)).imp fun b _ hb hg=>hb.1 ((hG.new b hg).resolve_right (by omega))
theorem ValS.step (h:ValS W B L G v k qs l) {o:Obj} (hz:QIs W (fun b=>¬ G b) L z q) (hown:W2.ownsRow B 30 4 v' (k+1) (qs.flatMap cells4q++cells4q z)) (hg:(W.alloc o).grownBy W2 v.ownBlock) (hat:v'.ownBlock=v.ownBlock\/v'.ownBlock=some (W.alloc o).heap.size) :
  ValS W2 B L (fun y=>G y\/v'.ownBlock=some y) v' (k+1) (qs++[z]) (l++[q])/\Fr (fun y=>v.ownBlock=some y) W W2/\More W G (fun y=>G y\/v'.ownBlock=some y):=by
 have hsz:W.heap.size+1<=W2.heap.size:=by have:=hg.size; simpa using this
 have key:∀ y,y<W.heap.size->¬ v.ownBlock=some y->W2.heap[y]?=W.heap[y]?:=fun y hy h2=>(hg.block y (by simp; omega) fun e=>h2 e.symm).trans (Below.heap_alloc _ _ _ hy)
 have hv':∀ j,v'.ownBlock=some j->v.ownBlock=some j\/W.heap.size<=j:=fun j hj=>by
  rcases hat with e | e
  ·exact .inl (e.symm.trans hj)
  ·rw [e] at hj; cases hj; right; simp
 have kq:∀ {u r},QIs W (fun b=>¬ G b) L u r->QIs W2 (fun b=>¬ (G b\/v'.ownBlock=some b)) L u r:=fun {u r} hu=>
  ((hu.imp (Y:=fun b=>¬ G b/\b<W.heap.size) fun b hl hb=>⟨hb,hl⟩).keep fun p hp hl=>cob (key _ hl fun e=>hp.1 (h.row _ e))).imp fun b _ hb hg=>hg.elim hb.1 fun e=>(hv' b e).elim (fun e=>hb.1 (h.row b e)) fun e=>by omega
 refine ⟨⟨by rw [List.flatMap_append]; simpa using hown,fun j hj=>.inr hj,by rw [List.length_append,h.len]; rfl,by rw [List.length_append,h.llen]; rfl,fun j hj=>?_⟩,⟨hg.os,hg.tape,hg.output,by omega,fun b hb hn=>key b hb hn⟩,⟨fun y hy=>.inl hy,fun y hy=>hy.elim .inl fun e=>(hv' y e).imp (h.row y) id⟩⟩;by_cases hjk:j<k
 ·rw [zAE _ _ _ (by rw [h.len]; exact hjk),zAE _ _ _ (by rw [h.llen]; exact hjk)];exact kq (h.elem j hjk)
 ·obtain rfl:j=k:=by omega
  have e1:(qs++[z]).getD j QV.zero=z:=by rw [<-h.len]; simp
  have e2:(l++[q]).getD j 0=q:=by rw [<-h.llen]; simp
  rw [e1,e2];exact kq hz
theorem ValS.vec (h:ValS W B L G v k qs l):∃ s:SV,v=s.val/\s.n=k/\VecIs W (fun _=>True) (fun b=>¬ G b) L s l:=by
 rcases h.own.2 with ⟨rfl,rfl⟩ | ⟨g,cap,cur,rfl,hbg,hh,hnc,hcap,hcur,ht⟩
 ·exact ⟨⟨none,0,0⟩,rfl,rfl,h.llen,nlr _,nzl _,fun k hk=>absurd hk (Nat.not_lt_zero k)⟩
 ·refine ⟨⟨some ⟨g,0,none⟩,k,cap⟩,rfl,rfl,h.llen,hnc,(by show cap<=_; exact nlt ‹_› (show maxLen<=9223372036854775807 by decide)),fun j hj=>⟨⟨g,0,none⟩,qs.getD j QV.zero,rfl,trivial,?_,h.elem j hj⟩⟩;have hj':j<k:=hj;have hl:=h.len
  have ec:∀ o,o<4->W.cell? ⟨g,j*4+o,none⟩=(cells4q (qs.getD j QV.zero))[o]?:=fun o ho=>by
   have e2:(cur.toList.take (k*4))[j*4+o]?=(qs.flatMap cells4q)[j*4+o]?:=(by rw [ht]);rw [List.getElem?_take_of_lt (by omega),zCy qs j o (by omega) ho QV.zero] at e2;simp only [World.cell?,hh];simpa using e2
  rw [zA4,Nat.zero_add];exact ⟨ec 0 (by omega),ec 1 (by omega),ec 2 (by omega),ec 3 (by omega)⟩
end
structure ValC (W:World) (B:Nat) (G:Nat->Prop) (v:Value) (k:Nat) (qs:List QV) (l:List Rat):Prop where
 own:W.ownsRow B 30 4 v k (qs.flatMap cells4q)
 row:∀ j,v.ownBlock=some j->G j
 len:qs.length=k
 llen:l.length=k
 elem:∀ j,j<k->QCan W (fun b=>¬ G b) (qs.getD j QV.zero) (l.getD j 0)
section
variable {W W' W2:World} {B k:Nat} {G G' H:Nat->Prop} {v v':Value} {qs:List QV} {l:List Rat}
theorem ValC.nil (W:World) (B:Nat) (G:Nat->Prop):ValC W B G (.slice none 0 0) 0 [] []:=⟨⟨rfl,.inl ⟨rfl,rfl⟩⟩,fun j h=>by simp [Value.ownBlock] at h,rfl,rfl,fun j h=>absurd h (Nat.not_lt_zero j)⟩
theorem ValC.lt (h:ValC W B G v k qs l) (e:v.ownBlock=some j):B<=j/\j<W.heap.size:=by
 obtain ⟨h1,cs,hh⟩:=zAc h.own e;exact ⟨h1,zAa hh⟩
theorem ValC.keep (h:ValC W B G v k qs l) (hF:Fr H W W') (hH:∀ j,v.ownBlock=some j->¬ H j) (hHG:∀ y,H y->G y) (hG:More W G G'):ValC W' B G' v k qs l:=by
 refine ⟨zAr h.own fun j hj=>hF.block j (h.lt hj).2 (hH j hj),fun j hj=>hG.old j (h.row j hj),h.len,h.llen,fun j hj=>?_⟩;exact (((h.elem j hj).imp (Y:=fun b=>¬ G b/\b<W.heap.size) fun b hl hb=>⟨hb,hl⟩).keep fun p hp hl=>hF.cell hl fun z=>hp.1 (hHG _ z)).imp fun b _ hb hg=>hb.1 ((hG.new b hg).resolve_right (by omega))
theorem ValC.step (h:ValC W B G v k qs l) {o:Obj} (hz:QCan W (fun b=>¬ G b) z q) (hown:W2.ownsRow B 30 4 v' (k+1) (qs.flatMap cells4q++cells4q z)) (hg:(W.alloc o).grownBy W2 v.ownBlock) (hat:v'.ownBlock=v.ownBlock\/v'.ownBlock=some (W.alloc o).heap.size) :
  ValC W2 B (fun y=>G y\/v'.ownBlock=some y) v' (k+1) (qs++[z]) (l++[q])/\Fr (fun y=>v.ownBlock=some y) W W2/\More W G (fun y=>G y\/v'.ownBlock=some y):=by
 have hsz:W.heap.size+1<=W2.heap.size:=by have:=hg.size; simpa using this
 have key:∀ y,y<W.heap.size->¬ v.ownBlock=some y->W2.heap[y]?=W.heap[y]?:=fun y hy h2=>(hg.block y (by simp; omega) fun e=>h2 e.symm).trans (Below.heap_alloc _ _ _ hy)
 have hv':∀ j,v'.ownBlock=some j->v.ownBlock=some j\/W.heap.size<=j:=fun j hj=>by
  rcases hat with e | e
  ·exact .inl (e.symm.trans hj)
  ·rw [e] at hj; cases hj; right; simp
 have kq:∀ {u r},QCan W (fun b=>¬ G b) u r->QCan W2 (fun b=>¬ (G b\/v'.ownBlock=some b)) u r:=fun {u r} hu=>
  ((hu.imp (Y:=fun b=>¬ G b/\b<W.heap.size) fun b hl hb=>⟨hb,hl⟩).keep fun p hp hl=>cob (key _ hl fun e=>hp.1 (h.row _ e))).imp fun b _ hb hg=>hg.elim hb.1 fun e=>(hv' b e).elim (fun e=>hb.1 (h.row b e)) fun e=>by omega
 refine ⟨⟨by rw [List.flatMap_append]; simpa using hown,fun j hj=>.inr hj,by rw [List.length_append,h.len]; rfl,by rw [List.length_append,h.llen]; rfl,fun j hj=>?_⟩,⟨hg.os,hg.tape,hg.output,by omega,fun b hb hn=>key b hb hn⟩,⟨fun y hy=>.inl hy,fun y hy=>hy.elim .inl fun e=>(hv' y e).imp (h.row y) id⟩⟩;by_cases hjk:j<k
 ·rw [zAE _ _ _ (by rw [h.len]; exact hjk),zAE _ _ _ (by rw [h.llen]; exact hjk)];exact kq (h.elem j hjk)
 ·obtain rfl:j=k:=by omega
  have e1:(qs++[z]).getD j QV.zero=z:=by rw [<-h.len]; simp
  have e2:(l++[q]).getD j 0=q:=by rw [<-h.llen]; simp
  rw [e1,e2];exact kq hz
theorem ValC.vec (h:ValC W B G v k qs l):∃ s:SV,v=s.val/\s.n=k/\VecCan W (fun _=>True) (fun b=>¬ G b) s l:=by
 rcases h.own.2 with ⟨rfl,rfl⟩ | ⟨g,cap,cur,rfl,hbg,hh,hnc,hcap,hcur,ht⟩
 ·exact ⟨⟨none,0,0⟩,rfl,rfl,h.llen,nlr _,nzl _,fun k hk=>absurd hk (Nat.not_lt_zero k)⟩
 ·refine ⟨⟨some ⟨g,0,none⟩,k,cap⟩,rfl,rfl,h.llen,hnc,(by show cap<=_; exact nlt ‹_› (show maxLen<=9223372036854775807 by decide)),fun j hj=>⟨⟨g,0,none⟩,qs.getD j QV.zero,rfl,trivial,?_,h.elem j hj⟩⟩;have hj':j<k:=hj;have hl:=h.len
  have ec:∀ o,o<4->W.cell? ⟨g,j*4+o,none⟩=(cells4q (qs.getD j QV.zero))[o]?:=fun o ho=>by
   have e2:(cur.toList.take (k*4))[j*4+o]?=(qs.flatMap cells4q)[j*4+o]?:=(by rw [ht]);rw [List.getElem?_take_of_lt (by omega),zCy qs j o (by omega) ho QV.zero] at e2;simp only [World.cell?,hh];simpa using e2
  rw [zA4,Nat.zero_add];exact ⟨ec 0 (by omega),ec 1 (by omega),ec 2 (by omega),ec 3 (by omega)⟩
end
def bset (bs:List Rat) (row:Nat) (s:Rat):List Rat:=bs.set row (bs.getD row 0+s)
def OptAt (V:Nat) (os rs:List (List Rat)) (bs:List Rat) (row:Nat) (s r:Rat):Prop:=
 ∃ D,PInv (prob1 V os rs (bset bs row s)) none D/\Ends (prob1 V os rs (bset bs row s)) none D 1/\r=D.c 0 V
def OptsRet (_w:World) (V:Nat) (os rs:List (List Rat)) (bs:List Rat) (row:Nat) (ll:List Rat) (e:Ending) (w':World):Prop:=
 (∃ (y:SV) (vs:List Rat),e = .returned (.tuple #[y.val,.int .i64 0])/\VecCan w' AllB AllB y vs/\vs.length=ll.length/\∀ j,j<ll.length->OptAt V os rs bs row (ll.getD j 0) (vs.getD j 0)/\QFit 200000 (vs.getD j 0))\/
 ∃ (j k:Nat) (c:Int) (D:Lin.Dict),j<ll.length/\PInv (prob1 V os rs (bset bs row (ll.getD j 0))) none D/\Ends (prob1 V os rs (bset bs row (ll.getD j 0))) none D k/\(k=2/\c=8\/k=3/\c=9)/\e = .returned (.tuple #[.slice none 0 0,.int .i64 c])
def OptL (w:World) (V N:Nat) (p:LPV) (os rs:List (List Rat)) (bs:List Rat) (row:Nat) (ll:List Rat) (v t:Value) (W:World):Prop:=
 ∃ (i:Nat) (G:Nat->Prop) (qs:List QV) (vs:List Rat),i<=N/\t = .int .i64 (i:Int)/\Below w w W/\BoxL W w p/\ValC W (w+1) G v i qs vs/\(∀ y,G y->w.heap.size<y/\y<W.heap.size)/\∀ j,j<i->OptAt V os rs bs row (ll.getD j 0) (vs.getD j 0)/\QFit 200000 (vs.getD j 0)
theorem zSr (bs:List Rat) (row:Nat) (s:Rat):(bset bs row s).length=bs.length:=by simp [bset]
theorem zS8 (bs:List Rat) (row:Nat) (s:Rat) (j:Nat) (h:row<bs.length):(bset bs row s).getD j 0=bs.getD j 0+if j=row then s else 0:=by
 unfold bset;by_cases e:j=row
 ·subst e; rw [if_pos rfl]; simp [h]
 ·rw [if_neg e]; simp [List.getElem?_set_ne (show ¬ row=j from fun h=>e h.symm)]; grind
theorem zSq {s:Rat} (hb:∀ j,QFit (L+1) (bs.getD j 0)) (hs:QFit (L+1) s) (j:Nat):QFit (2*L+3) ((bset bs row s).getD j 0):=by
 unfold bset;by_cases e:row<bs.length
 ·by_cases h:j=row
  ·subst h;rw [show (bs.set j (bs.getD j 0+s)).getD j 0=bs.getD j 0+s by simp [e]];exact zBn ((zAR (hb j)).add (zAR hs)) (by omega)
  ·rw [show (bs.set row (bs.getD row 0+s)).getD j 0=bs.getD j 0 by simp [List.getElem?_set_ne (show ¬ row=j from fun e=>h e.symm)]];exact (hb j).up (by omega)
 ·rw [List.set_eq_of_length_le (by omega)];exact (hb j).up (by omega)
theorem rowN {l:List Rat} (h:RowAt W G b l) (hn:l.length=n) (hn2:n<=1000):VecCan W (fun x=>x=b) (fun x=>¬ G x) ⟨some ⟨b,0,none⟩,n,n⟩ l:=by
 subst hn;exact h.vec (by omega) _ (nlr _) (by omega)
abbrev OpS (c b bn:Nat) (u:QV) (_:Bool) (w':World):Prop:=
 (w'.cell? c=some (.bool u.num.ng)/\w'.cell? ⟨c,1,none⟩=some (.slice u.num.A u.num.n u.num.c)/\w'.cell? ⟨c,2,none⟩=some (.bool u.den.ng)/\w'.cell? ⟨c,3,none⟩=some (.slice u.den.A u.den.n u.den.c))/\w'.cell? ⟨c+1,3,none⟩=some (.slice (some b) bn bn)
theorem zRF {bn:Nat} {u:QV} {f:Bool} (h:OpS c b bn u f w) (hb:Below w w w'):OpS c b bn u f' w':=by
 obtain ⟨⟨a0,a1,a2,a3⟩,a4⟩:=h;exact ⟨⟨cellK hb a0,cellK hb a1,cellK hb a2,cellK hb a3⟩,cellK hb a4⟩
theorem zSt {bn:Nat} {u:QV} {f:Bool} (h:OpS c b bn u f w) (h1:c ≠ b) (h2:c+1 ≠ b) (k:Nat) (x:QV):OpS c b bn u f' (put4 w b k x):=by
 obtain ⟨⟨a0,a1,a2,a3⟩,a4⟩:=h;exact ⟨⟨(zCq w b k x h1).trans a0,(zCq w b k x h1).trans a1,(zCq w b k x h1).trans a2,(zCq w b k x h1).trans a3⟩,(zCq w b k x h2).trans a4⟩
theorem zRB (h:Box4 w b u0 u1 u2 u3) (x:Value):Box4 (w.setCell ⟨b,3,none⟩ x) b u0 u1 u2 x:=by
 obtain ⟨h0,h1,h2,h3,hf⟩:=h;exact ⟨(World.cell?_setCell_other _ _ _ _ (by simp)).trans h0,(World.cell?_setCell_other _ _ _ _ (by simp)).trans h1,(World.cell?_setCell_other _ _ _ _ (by simp)).trans h2,World.cell?_setCell_same' _ _ _ (by rw [h3]; rfl),fun o=>by simp only [World.frozen?_setCell]; exact hf o⟩
theorem zRG {ll:List Rat} {ls:SV} (h:LPIs w AllB AllB L p os rs bs) (hn:p.n=V) (hV:V<=4) (ho:1<=p.O.n) (ho2:p.O.n<=4) (hr:p.R.n<=5) (hb:p.B.n=p.R.n) (hco:colsOf os<=V) (hcr:colsOf rs<=V) (hi:row<p.R.n) (hl:VecIs w AllB AllB L ls ll) (hln:ls.n<=1000) (hL:L<=40) :
  Calls Tryz.prog 16 #[p.val,.int .i64 (row:Int),ls.val] w fun e w'=>OptsRet w V os rs bs row ll e w'/\Below w w w':=by
 obtain ⟨n,⟨oA,on,oc⟩,⟨rA,rn,rc⟩,⟨bA,bn,bc⟩⟩:=p;obtain ⟨lA,ln,lc⟩:=ls;dsimp only at hn hr hb hi ho ho2 hln;subst hn hb;have H:=hdq h;have HLs:=hdq hl;have HCr:=hdq hcr;have HCo:=hdq hco;have HLen:Hid (ll.length=ln):=hl.len;have HBl:Hid (bn=bs.length):=h.bounds.len.symm;have HL1:Hid (L+1<=LM):=hdq (by rw [zAZ]; omega);clear h hl hcr hco;have hiq:=hdq hi;have HL0:Hid (L<=LM):=hdq (by rw [zAZ]; omega);obtain ⟨k0,hk0,hx0,hx1,hx2⟩:=info_parts zEv;dsimp only [LPV.val,SV.val];go_enter Tryz.func16,Tryz.ntmps16
 go_upto_region 1 with fail
 refine zAo (fun W=>Below w w W/\Box4 W w (.int .i64 V) (.slice oA on oc) (.slice rA bn rc) (.slice bA bn bc)/\w.heap.size<W.heap.size) ⟨(az (brf _ _)),bx4,by simp <;> omega⟩ ?_;rintro W ⟨hbW,bP,s0⟩;have hBW:=hbW.size;obtain ⟨p0,p1,p2,p3,-⟩:=id bP;have hii:(row:Int)<(bn:Int):=by omega
 have hi0:¬ ((row:Int)<0):=by omega
 have hi1:¬ ((bn:Int)<=(row:Int)):=by omega
 go_wp2_with fail
 refine (zBv (p:=⟨V,⟨oA,on,oc⟩,⟨rA,bn,rc⟩,⟨bA,bn,bc⟩⟩) (H.out.below hbW) rfl (by omega) ho ho2 (by show bn<=_; omega) rfl HCo.out HCr.out).mono ?_;rintro e w1 ⟨rfl,hb1⟩;replace bP:=bP.below hb1 s0;have hb01:=hbW.trans (hb1.mono hBW);have hs1:=hb1.size;clear p0 p1 p2 p3 hb1 hbW;obtain ⟨p0,p1,p2,p3,-⟩:=id bP;go_wp2
 have H0:OptL w V ln ⟨V,⟨oA,on,oc⟩,⟨rA,bn,rc⟩,⟨bA,bn,bc⟩⟩ os rs bs row ll (.slice none 0 0) (.int .i64 0) w1:=
  ⟨0,fun _=>False,[],[],nzl _,rfl,hb01,bP,ValC.nil _ _ _,fun y h=>h.elim,fun j h=>absurd h (Nat.not_lt_zero j)⟩
 clear p0 p1 p2 p3 bP hb01;simp only [show decide ((row:Int)<0)=false from decide_eq_false (by omega),show decide (bn<=row)=false from decide_eq_false (by omega),Bool.or_false];go_loopw [8,30] (fun v t W=>OptL w V ln ⟨V,⟨oA,on,oc⟩,⟨rA,bn,rc⟩,⟨bA,bn,bc⟩⟩ os rs bs row ll v t W) (fun _ t _=>ln-(intOf t).toNat)
 case atStart=>exact H0
 case round=>
  clear H0;obtain ⟨i,G,qs,vs,hin,rfl,hB,bP,hv,hG,hA⟩:=hrel;have sP:w.heap.size<wr.heap.size:=zAb bP.1;by_cases hlt:i<ln
  ·have hki:(i:Int)<(ln:Int):=(by omega);obtain ⟨ad,u,ea,-,hu,hq⟩:=(HLs.out.below hB).elem i hlt;cases ea;obtain ⟨u0,u1,u2,u3⟩:=id hu;obtain ⟨p0,p1,p2,p3,-⟩:=id bP;dsimp only at p0 p1 p2 p3;have HA:=hdq hA;have HQ:=hdq hq;have HV:=hdq hv;clear hA hq hv;(go_upto_region 8 with fail);have al:Below wr wr ((wr.alloc (.cells #[.bool u.num.ng,.slice u.num.A u.num.n u.num.c,.bool u.den.ng,.slice u.den.A u.den.n u.den.c] 30)).alloc (.cells #[.int .i64 V,.slice oA on oc,.slice rA bn rc,.slice bA bn bc] 25)):=(bal).alloc (by simp) _;have bC:BoxQ ((wr.alloc (.cells #[.bool u.num.ng,.slice u.num.A u.num.n u.num.c,.bool u.den.ng,.slice u.den.A u.den.n u.den.c] 30)).alloc (.cells #[.int .i64 V,.slice oA on oc,.slice rA bn rc,.slice bA bn bc] 25)) wr u:=bx4;have bQ:BoxL ((wr.alloc (.cells #[.bool u.num.ng,.slice u.num.A u.num.n u.num.c,.bool u.den.ng,.slice u.den.A u.den.n u.den.c] 30)).alloc (.cells #[.int .i64 V,.slice oA on oc,.slice rA bn rc,.slice bA bn bc] 25)) (wr+1) ⟨V,⟨oA,on,oc⟩,⟨rA,bn,rc⟩,⟨bA,bn,bc⟩⟩:=bx4;have sC:wr.heap.size+2<=((wr.alloc (.cells #[.bool u.num.ng,.slice u.num.A u.num.n u.num.c,.bool u.den.ng,.slice u.den.A u.den.n u.den.c] 30)).alloc (.cells #[.int .i64 V,.slice oA on oc,.slice rA bn rc,.slice bA bn bc] 25)).heap.size:=(by simp);have bPA:=bP.below al sP;have HQ0:=hdq HQ.out;have HQA:=hdq (HQ.out.below al);have hBA:=hB.trans (al.mono hB.size);have hwr:=hB.size;clear u0 u1 u2 u3 hu p0 p1 p2 p3 HQ;generalize (wr.alloc (.cells #[.bool u.num.ng,.slice u.num.A u.num.n u.num.c,.bool u.den.ng,.slice u.den.A u.den.n u.den.c] 30)).alloc (.cells #[.int .i64 V,.slice oA on oc,.slice rA bn rc,.slice bA bn bc] 25)=wA at *;obtain ⟨q0,q1,q2,q3,qf⟩:=id bQ;obtain ⟨p0,p1,p2,p3,-⟩:=id bPA;dsimp only at p0 p1 p2 p3 q0 q1 q2 q3;(go_wp2_with fail);refine (zRp (s:=⟨bA,bn,bc⟩) (H.out.bounds.below hBA) (by show 1<=bn; omega) (by show bn<=_; omega) HL0.out).mono ?_;rintro e y1 ⟨⟨b,rfl,hb,hR⟩,hb1⟩;have hy1:=hb1.size;have bQ1:=bQ.below hb1 (by omega);have bC1:=bC.below hb1 (by omega);have bP1:=bPA.below hb1 (by omega);have HQ1:=hdq (HQA.out.below hb1);have hB1:=hBA.trans (hb1.mono hBA.size);have al1:=al.trans (hb1.mono al.size);clear q0 q1 q2 q3 qf p0 p1 p2 p3 bQ bC bPA HQA hBA hb1 al;obtain ⟨q0,q1,q2,q3,qf⟩:=id bQ1;dsimp only at q0 q1 q2 q3;(go_upto_region 9 with fail);have bQ2:=zRB bQ1 (.slice (some b) bn bn);have bC2:=bC1.setNe (p:=⟨wr.heap.size+1,3,none⟩) (v:=.slice (some b) bn bn) (by show wr.heap.size ≠ wr.heap.size+1; omega);have bP2:=bP1.setNe (p:=⟨wr.heap.size+1,3,none⟩) (v:=.slice (some b) bn bn) (by show w.heap.size ≠ wr.heap.size+1; omega);have al2:=al1.setCell (p:=⟨wr.heap.size+1,3,none⟩) (by show wr.heap.size<=wr.heap.size+1; omega) (.slice (some b) bn bn);have hR2:RowAt (y1.setCell ⟨wr.heap.size+1,3,none⟩ (.slice (some b) bn bn)) (fun x=>x<wA.heap.size\/x=b) b bs:=hR.keep (bhs _ _ _ _ (by show b ≠ wr.heap.size+1; omega)) fun p hp _=>cob (bhs _ _ _ _ (by show p.block ≠ wr.heap.size+1; intro e; apply hp; left; omega))
   have HQ2:=hdq ((HQ0.out.below al2));have hsz2:(y1.setCell ⟨wr.heap.size+1,3,none⟩ (.slice (some b) bn bn)).heap.size=y1.heap.size:=(by simp [World.setCell]);clear q0 q1 q2 q3 qf bQ1 bC1 bP1 hR HQ1 al1 hB1;generalize y1.setCell ⟨wr.heap.size+1,3,none⟩ (.slice (some b) bn bn)=y2 at *;rw [<-hsz2] at hy1;clear hsz2;obtain ⟨q0,q1,q2,q3,qf⟩:=id bQ2;obtain ⟨c0,c1,c2,c3,-⟩:=id bC2;obtain ⟨zv,⟨d0,d1,d2,d3⟩,hzv⟩:=hR2.elem row (by rw [<-HBl.out]; omega);have fz:=hR2.frozen;dsimp only at d1 d2 d3 q0 q1 q2 q3;have hbl:=hR2.lt;refine zAp 11 (OpS wr b bn u) (by kernel_rfl) ?_;have hS0:OpS wr b bn u false y2.drew:=⟨⟨c0,c1,c2,c3⟩,q3⟩;refine tx4 0 1 2 3 hS0 ?_;refine tx4 4 5 6 8 hS0 ?_;refine tk1 7 ?_;intro K hK;go_simp;refine hK.out _ _ hS0 ?_;clear hK K;refine tk1 9 ?_;intro K hK;go_simp;have hd:Below y2 y2 y2.drew:=(brf _ _).drew;refine (zCD (a:=zv) (b:=u) ((hzv.below hd).qis (VecAt.fit H.out.bounds row)) (HQ2.out.below hd) HL1.out HL0.out).mono ?_;rintro e y3 ⟨⟨x,rfl,hx⟩,hb3⟩;have h3:Below y2 y2 y3:=hd.trans hb3;refine hK.out _ _ (zRF hS0 hb3) ?_;clear hK K;have hS1:=zRF (f':=true) hS0 hb3;have hR3:=hR2.below h3;have bQ3:=bQ2.below h3 (by omega);have bP3:=bP2.below h3 (by omega);have al3:=al2.trans (h3.mono al2.size);have hsz3:=h3.size;clear d0 d1 d2 d3 q0 q1 q2 q3 qf c0 c1 c2 c3 hS0 bQ2 bC2 bP2 hzv fz al2 hd h3 hb3 HQ2;obtain ⟨zv,⟨d0,d1,d2,d3⟩,-⟩:=hR3.elem row (by rw [<-HBl.out]; omega);have fz:=hR3.frozen;dsimp only at d1 d2 d3;refine tk1 10 ?_;intro K hK;go_simp;refine hK.out _ _ hS1 ?_;clear hK K;refine tk1 11 ?_;intro K hK;go_simp;refine hK.out _ _ (zSt hS1 (by omega) (by omega) row x) ?_;clear hK K;refine zAf (by kernel_rfl) ?_ _;have hrl:row<bs.length:=by rw [<-HBl.out]; exact hi
   have h4:RowAt (put4 y3 b row x) (fun x=>x<wA.heap.size\/x=b) b (bset bs row (ll.getD i 0)):=hR3.put4 hrl (hx.imp fun y _ hy hg=>by simp only [New,World.size_drew] at hy; omega);have bQ4:=bQ3.heap (zAx y3 b row x (show wr.heap.size+1 ≠ b by omega));have bP4:=bP3.heap (zAx y3 b row x (show w.heap.size ≠ b by omega));have al4:=zBq al3 (show wr.heap.size<=b by omega) row x;have hsz4:(put4 y3 b row x).heap.size=y3.heap.size:=zBI _ _ _ _;clear d0 d1 d2 d3 fz hS1 hR3 hx bQ3 bP3 al3;change Exit.then _ _ _ _ (put4 y3 b row x);generalize put4 y3 b row x=y4 at *;have hB4:=hB.trans (al4.mono hB.size);have hfr:∀ j,QFit (2*L+3) ((bset bs row (ll.getD i 0)).getD j 0):=(fun j=>zSq (fun j=>VecAt.fit H.out.bounds j) (VecAt.fit HLs.out i) j);have hvb:VecIs y4 AllB AllB (2*L+3) ⟨some ⟨b,0,none⟩,bn,bn⟩ (bset bs row (ll.getD i 0)):=((rowN h4 (n:=bn) (by rw [zSr,HBl.out]) (by omega)).loose hfr).allB;have hLP:=hdq (show LPIs y4 AllB AllB (2*L+3) ⟨V,⟨oA,on,oc⟩,⟨rA,bn,rc⟩,⟨some ⟨b,0,none⟩,bn,bn⟩⟩ os rs (bset bs row (ll.getD i 0)) from ⟨((H.out.below hB4).more (show L<=2*L+3 by omega)).obj,((H.out.below hB4).more (show L<=2*L+3 by omega)).rows,hvb⟩);clear hfr hvb h4;obtain ⟨q0,q1,q2,q3,qf⟩:=id bQ4;(go_wp2_with fail);refine (zBd (V:=V) (p:=⟨V,⟨oA,on,oc⟩,⟨rA,bn,rc⟩,⟨some ⟨b,0,none⟩,bn,bn⟩⟩) hLP.out rfl (by omega) ho ho2 (by show bn<=_; omega) rfl HCo.out HCr.out (by omega)).mono ?_;rintro e y5 ⟨hO,hb5⟩;have al5:=al4.trans (hb5.mono al4.size);have bP5:=bP4.below hb5 (by omega);have hB5:=hB.trans (al5.mono hB.size);have hs5:=hb5.size;clear q0 q1 q2 q3 qf bQ4 bP4 hb5 hB4;rcases hO with ⟨D,z,hI,hE,rfl,hz⟩ | ⟨D,hI,hE,rfl⟩ | ⟨D,hI,hE,rfl⟩
   ·have HIE:=hdq (And.intro hI hE);have HF:=hdq ((zEc hLP.out hV (E:=V) (by simp [Lin.given]) (nlr _) (fun c hc=>by cases hc) hI).2);have HZ:=hdq hz;have HQF:=hdq (zBn (L:=200000) HF.out (by omega));clear hI hE hz HF;(go_upto_region 13 with fail);have al6:Below y5 y5 (y5.alloc (.cells #[.bool z.num.ng,.slice z.num.A z.num.n z.num.c,.bool z.den.ng,.slice z.den.A z.den.n z.den.c] 30)):=bal;have bz:BoxQ (y5.alloc (.cells #[.bool z.num.ng,.slice z.num.A z.num.n z.num.c,.bool z.den.ng,.slice z.den.A z.den.n z.den.c] 30)) y5 z:=bx4;have hs6:Hid ((y5.alloc (.cells #[.bool z.num.ng,.slice z.num.A z.num.n z.num.c,.bool z.den.ng,.slice z.den.A z.den.n z.den.c] 30)).heap.size=y5.heap.size+1):=hdq (by simp);have HZ6:=hdq (HZ.out.below al6);have bP6:=bP5.below al6 (by omega);have hBr:=al5.trans (al6.mono al5.size);have hBw:=hB.trans (hBr.mono hB.size);clear bP5 al5 hB5 HZ al6;generalize y5.alloc (.cells #[.bool z.num.ng,.slice z.num.A z.num.n z.num.c,.bool z.den.ng,.slice z.den.A z.den.n z.den.c] 30)=y6 at *;have hv6:=HV.out.keep (W':=y6) (H:=fun _=>False) (Fr.of_below hBr) (fun _ _ e=>e) (fun _ e=>e.elim) (More.refl _ _);have hzG:QCan y6 (fun b=>¬ G b) z (D.c 0 V):=HZ6.out.imp fun y _ hy hg=>by have:=(hG y hg).2; simp only [New] at hy; omega
    have hown:=hv6.own;obtain ⟨z0,z1,z2,z3,-⟩:=id bz;have HV6:=hdq hv6;have HZG:=hdq hzG;have hqs:qs.length=i:=hv6.len;have hlt6:w.heap.size+1<y6.heap.size:=by have:=hs6.out; omega
    clear hv6 hzG HZ6 bz;(go_wp2_with (at_builtin; refine wpList_append_own_at _ rfl _ _ 23 rfl (w+1) 30 k0 (.agg #[.bool false,.slice none 0 0,.bool false,.slice none 0 0]) 4 64 Tryz.underlying23 hk0 hx0 hx1 hx2 rfl (by decide) _ i (qs.flatMap cells4q) rfl (hown.alloc _) ⟨y6,0,none⟩ 1 1 (cells4q z) rfl rfl (zA1 _ _) (by intro u hu; simp [cells4q] at hu; rcases hu with rfl | rfl | rfl | rfl <;> rfl) (by simp [maxLen]; omega) (by omega) (by simp; omega) ?_));intro v7 y7 hown7 hg7 hnil7 hat7;obtain ⟨g7,c7,rfl⟩:=ownsRow_succ hown7;have hat7':=hat7.imp (id) fun (e:_=_)=>show (Value.slice (some g7) (i+1) c7).ownBlock=some (y6.alloc (.cells #[.bool z.num.ng,.slice z.num.A z.num.n z.num.c,.bool z.den.ng,.slice z.den.A z.den.n z.den.c] 30)).heap.size by rw [e]; simp
    have hs6':=hs6.out;obtain ⟨hv7,hF7,-⟩:=HV6.out.step HZG.out hown7 hg7 hat7';have hlt7:w.heap.size<y6.heap.size:=(by omega);clear hqs;have hB7:Below w w y7:=hBw.trans (hF7.below (by omega) fun y e=>by have:=(HV6.out.lt e).1; omega);have bP7:=bP6.heap (hF7.block _ hlt7 fun e=>by have:=(HV6.out.lt e).1; omega)
    have hin7:∀ y,(G y\/(Value.slice (some g7) (i+1) c7).ownBlock=some y)->w.heap.size<y/\y<y7.heap.size:=fun y hy=>by
     rcases hy with hy | hy
     ·exact ⟨(hG y hy).1,by have:=(hG y hy).2; have:=hF7.size; have:=hBr.size; omega⟩
     ·have:=hv7.lt hy; exact ⟨by omega,this.2⟩
    have Hfin:Hid (OptL w V ln ⟨V,⟨oA,on,oc⟩,⟨rA,bn,rc⟩,⟨bA,bn,bc⟩⟩ os rs bs row ll (.slice (some g7) (i+1) c7) (.int .i64 ((i:Int)+1)) y7):=
     ⟨i+1,_,_,_,by omega,by simp,hB7,bP7,hv7,hin7,fun j hj=>by
      have hl:vs.length=i:=HV6.out.llen;by_cases e:j=i
      ·subst e;rw [show (vs++[D.c 0 V]).getD j 0=D.c 0 V by rw [<-hl]; simp];exact ⟨⟨D,HIE.out.1,HIE.out.2,rfl⟩,HQF.out⟩
      ·rw [zAE _ _ _ (by omega)];exact HA.out j (by omega)⟩
    clear hown7 hg7 hnil7 hat7 hat7' hv7 hF7 hB7 bP7 hin7 hown hBw hBr bP6 z0 z1 z2 z3 HV6 HZG HA HIE;go_wp2;go_roundw;case rel=>exact fn_ Hfin.out
    case measure=>simp [intOf]; omega
   ·have HIE:=hdq (And.intro hI hE);have HB:=hdq hB5;clear hI hE hB5;go_wp2;(try rw [Exit.noGoto_ret]);refine bodyPost_ret (v:=.tuple #[.slice none 0 0,.int .i64 8]) (by simp [results,Tryz.results16,go_sem]) rfl ?_;exact ⟨.inr ⟨i,2,8,D,by rw [HLen.out]; exact hlt,HIE.out.1,HIE.out.2,.inl ⟨rfl,rfl⟩,rfl⟩,HB.out.alloc (by omega) _⟩
   ·have HIE:=hdq (And.intro hI hE);have HB:=hdq hB5;clear hI hE hB5;go_wp2;(try rw [Exit.noGoto_ret]);refine bodyPost_ret (v:=.tuple #[.slice none 0 0,.int .i64 9]) (by simp [results,Tryz.results16,go_sem]) rfl ?_;exact ⟨.inr ⟨i,3,9,D,by rw [HLen.out]; exact hlt,HIE.out.1,HIE.out.2,.inr ⟨rfl,rfl⟩,rfl⟩,HB.out.alloc (by omega) _⟩
  ·(obtain rfl:i=ln:=by omega);have hki:¬ ((i:Int)<(i:Int)):=(by omega);have HV:=hdq hv;have HA:=hdq hA;have HB:=hdq hB;clear hv hA hB hG bP;obtain ⟨⟨yA,yn,yc⟩,e,hn,hy⟩:=HV.out.vec;dsimp only at hn;subst hn;replace HV:=hdq HV.out.llen;have HY:=hdq (show VecCan _ AllB AllB ⟨yA,yn,yc⟩ vs from hy.imp (fun _ _ _=>trivial) fun _ _ hq=>hq.imp fun _ _ _=>trivial);clear hy;subst e;dsimp only [SV.val];go_wp2;(try rw [Exit.noGoto_ret]);refine bodyPost_ret (v:=.tuple #[.slice yA yn yc,.int .i64 0]) (by simp [results,Tryz.results16,go_sem]) rfl ?_;refine ⟨.inl ⟨⟨yA,yn,yc⟩,vs,rfl,HY.out,by rw [HLen.out]; exact HV.out,fun j hj=>HA.out j (by rw [<-HLen.out]; exact hj)⟩,HB.out⟩
theorem zSb {P:Lin.Prob} {D D':Lin.Dict} (hK:0<P.K) (hI:PInv P none D) (hE:Ends P none D 1) (hI':PInv P none D') (hE':Ends P none D' k):k=1:=by
 obtain ⟨hy,⟨x,hx,-⟩,-⟩:=ends1 hI hE hK;rcases hE'.cases with rfl | rfl | rfl
 ·rfl
 ·exact absurd hx (ends2 hI' hE' x)
 ·exact absurd hy (ends3 hI' hE' hK _)
theorem zSc {P:Lin.Prob} {D D':Lin.Dict} (hK:0<P.K) (hI:PInv P none D) (hE:Ends P none D 1) (hI':PInv P none D') (hE':Ends P none D' 1):D.c 0 P.n=D'.c 0 P.n/\∀ i,i<P.m->D.dual P i=D'.dual P i:=by
 have h1:=zA5 hI hE hK;have h2:=zA5 hI' hE' hK;have e1:=(ends1 hI hE hK).2.2.1;have e2:=(ends1 hI' hE' hK).2.2.1;refine ⟨by rw [e1,e2]; exact zBW h1 h2,?_⟩;rcases zII hI hE hK h2 with h | ⟨i,hi,hlt,hj⟩
 ·exact h
 ·rcases zII hI' hE' hK h1 with h | ⟨i',hi',hlt',hj'⟩
  ·exact fun i hi=>(h i hi).symm
  ·exfalso;by_cases e:i<i'
   ·have:=hj' i e; grind
   ·by_cases e2:i'<i
    ·have:=hj i' e2; grind
    ·(obtain rfl:i=i':=by omega);grind
def SideRet (B:Nat) (R:Option Rat->Prop) (e:Ending) (w':World):Prop:=
 ∃ b v o,e = .returned (limV b v)/\LimIs w' (New B) b v o/\R o
def Sides (W:World) (g:Nat) (v1 v2:Value) (R1 R2:Option Rat->Prop):Prop:=
 ∃ (fn1 fn2:Nat) (caps1 caps2:Array Value),v1 = .func (.func fn1) #[] caps1/\v2 = .func (.func fn2) #[] caps2/\
  (∀ (args:Array Value) (w:World),Sem.run Tryz.prog (callFunc fn1 args) w = .ok (.enter fn1 args) w)/\(∀ (args:Array Value) (w:World),Sem.run Tryz.prog (callFunc fn2 args) w = .ok (.enter fn2 args) w)/\
  ∀ W1,Below W W W1->Calls Tryz.prog fn1 caps1 W1 fun e W2=>SideRet W1 R1 e W2/\Fr (fun x=>x=g) W1 W2/\
   ∀ W3,Below W2 W2 W3->Calls Tryz.prog fn2 caps2 W3 fun e W4=>SideRet W3 R2 e W4/\Fr (fun x=>x=g) W3 W4
theorem LimIs.keep {b:Bool} {v:QV} {o:Option Rat} (h:LimIs w X b v o) (hk:∀ p:Addr,X p.block->p.block<w->w'.cell? p=w.cell? p):LimIs w' X b v o:=
 h.imp id fun ⟨q,h1,h2,h3⟩=>⟨q,h1,h2,h3.keep hk⟩
theorem Sides.below {R1 R2:Option Rat->Prop} (h:Sides W g v1 v2 R1 R2) (hb:Below W W W'):Sides W' g v1 v2 R1 R2:=by
 obtain ⟨fn1,fn2,caps1,caps2,e1,e2,c1,c2,h⟩:=h;exact ⟨fn1,fn2,caps1,caps2,e1,e2,c1,c2,fun W1 h1=>h W1 (hb.trans (h1.mono hb.size))⟩
theorem Sides.imp {R1 R2 R1' R2':Option Rat->Prop} (h:Sides W g v1 v2 R1 R2) (h1:∀ o,R1 o->R1' o) (h2:∀ o,R2 o->R2' o):Sides W g v1 v2 R1' R2':=by
 obtain ⟨fn1,fn2,caps1,caps2,e1,e2,c1,c2,h⟩:=h;refine ⟨fn1,fn2,caps1,caps2,e1,e2,c1,c2,fun W1 hb=>(h W1 hb).mono ?_⟩;rintro e W2 ⟨⟨b,v,o,r1,r2,r3⟩,hf,hn⟩;refine ⟨⟨b,v,o,r1,r2,h1 o r3⟩,hf,fun W3 hb3=>(hn W3 hb3).mono ?_⟩;rintro e W4 ⟨⟨b,v,o,r1,r2,r3⟩,hf⟩;exact ⟨⟨b,v,o,r1,r2,h2 o r3⟩,hf⟩
abbrev CnS (pb zb:Nat) (p:LPV) (z:QV) (ad:Addr) (yv:QV) (_:Bool) (w':World):Prop:=BoxL w' pb p/\BoxQ w' zb z/\(w'.cell? ad=some (.bool yv.num.ng)/\w'.cell? ⟨ad.block,ad.off+1,none⟩=some (.slice yv.num.A yv.num.n yv.num.c)/\w'.cell? ⟨ad.block,ad.off+2,none⟩=some (.bool yv.den.ng)/\w'.cell? ⟨ad.block,ad.off+3,none⟩=some (.slice yv.den.A yv.den.n yv.den.c))
theorem QCell.belowC {a:Addr} {v:QV} (h:QCell w a v) (hb:Below w w w'):QCell w' a v:=by
 obtain ⟨a0,a1,a2,a3⟩:=h;exact ⟨cellK hb a0,cellK hb a1,cellK hb a2,cellK hb a3⟩
theorem zRC {pb zb:Nat} {yv:QV} {f:Bool} (h:CnS pb zb p z ad yv f w) (hb:Below w w w'):CnS pb zb p z ad yv f' w':=
 ⟨h.1.below hb (zAb h.1.1),h.2.1.below hb (zAb h.2.1.1),QCell.belowC (v:=yv) h.2.2 hb⟩
theorem zRL {pb zb:Nat} {yv:QV} {f:Bool} (h:CnS pb zb p z ad yv f w) (h1:pb ≠ c) (h2:zb ≠ c) (h3:ad.block ≠ c) (v:Value):CnS pb zb p z ad yv f' (w.setCell c v):=by
 obtain ⟨a,b,e⟩:=h;obtain ⟨a0,a1,a2,a3⟩:=e;have k:∀ q:Addr,q.block ≠ c->(w.setCell c v).cell? q=w.cell? q:=fun q hq=>cob (bhs _ _ _ _ hq)
 exact ⟨a.heap (bhs _ _ _ _ h1),b.heap (bhs _ _ _ _ h2),(k _ h3).trans a0,(k ⟨_,_,none⟩ h3).trans a1,(k ⟨_,_,none⟩ h3).trans a2,(k ⟨_,_,none⟩ h3).trans a3⟩
theorem zRM {gs:SV} {m:QV} {gl:List Rat} {base:Rat} (h:TgAt W c0 g c2 V L n R S gs m gl bs rs base) (hV:V<=4) (hn:n<=5) (hL:L<=200000) (hf:∀ i,QFit L (gl.getD i 0)) (hbf:QFit L base) (hg:gl.length<=V) (hcr:colsOf rs<=V) :
  Sides W g (.func (.func 130) #[] #[.pointer (some c0),.pointer (some g),.pointer (some c2)]) (.func (.func 132) #[] #[.pointer (some c0),.pointer (some g),.pointer (some c2)])
   (Lim (prob1 V [gl.map (-1*·)] rs bs) fun t=>-(t+base)) (Lim (prob1 V [gl] rs bs) fun t=>t-base):=by
 refine ⟨_,_,_,_,rfl,rfl,fun _ _=>rfl,fun _ _=>rfl,fun W1 h1=>(zSo (h.below h1) hV hn hL hf hbf hg hcr).mono ?_⟩;rintro e W2 ⟨hr,hT,hF⟩;refine ⟨hr,hF,fun W3 h3=>(zSp (hT.below h3) hV hn hL hg hcr).mono ?_⟩;rintro e W4 ⟨hr,-,hF⟩;exact ⟨hr,hF⟩
theorem zR4 {c3:Nat} {m:QV} {v:Rat} (h:LPIs W AllB AllB L p os rs bs) (hn:p.n=V) (hV:V<=4) (ho:1<=p.O.n) (hr:p.R.n<=5) (hb:p.B.n=p.R.n) (hco:colsOf os<=V) (hcr:colsOf rs<=V) (hi:row<p.R.n) (hL:L<=100000)
  (b0:BoxL W c0 p) (b1:W.cell? c1=some (.int .i64 (row:Int))) (b2:BoxQ W c2 m) (b3:BoxQ W c3 z) (hm:QIs W AllB 1 m (-1)) (hz:QIs W AllB (L+1) z v) (hvf:QFit (L+1) v) :
  Sides W g (.func (.func 125) #[] #[.pointer (some c0),.pointer (some c1),.pointer (some c2),.pointer (some c3)]) (.func (.func 128) #[] #[])
   (Lim (prob1 V [(rs.getD row []).map (-1*·)] ((rs.map fun r=>resize r (colsOf rs)).set row ((os.getD 0 []).map (-1*·))) (bs.set row (-v))) fun t=>-(t+bs.getD row 0)) fun o=>o=none:=by
 refine ⟨_,_,_,_,rfl,rfl,fun _ _=>rfl,fun _ _=>rfl,fun W1 h1=>(zSd (h.below h1) hn hV ho hr hb hco hcr hi hL (b0.below h1 (zAb b0.1)) (cellK h1 b1) (b2.below h1 (zAb b2.1)) (b3.below h1 (zAb b3.1)) (hm.below h1) (hz.below h1) hvf).mono ?_⟩;rintro e W2 ⟨hr,hb⟩;refine ⟨hr,Fr.of_below hb,fun W3 h3=>zSe.mono ?_⟩;rintro e W4 ⟨rfl,hb⟩;exact ⟨⟨true,q0V,none,rfl,.inl ⟨rfl,rfl,rfl⟩,rfl⟩,Fr.of_below hb⟩
theorem Box5.heap {v4:Value} (h:Box5 w b v0 v1 v2 v3 v4) (e:w'.heap[b]?=w.heap[b]?):Box5 w' b v0 v1 v2 v3 v4:=by
 have k:∀ o,w'.cell? ⟨b,o,none⟩=w.cell? ⟨b,o,none⟩:=fun o=>cob (a:=⟨b,o,none⟩) e
 obtain ⟨h0,h1,h2,h3,h4,hf⟩:=h;exact ⟨(k 0).trans h0,(k 1).trans h1,(k 2).trans h2,(k 3).trans h3,(k 4).trans h4,fun o=>(World.frozen?_of_block (a:=⟨b,o,none⟩) e).trans (hf o)⟩
theorem zRf {l u:Nat} (hl:l ≠ u) {a0 a1 a2 a3 a4 c0 c1 c2 c3 c4:Value} (bL:Box5 W l a0 a1 a2 a3 a4) (bU:Box5 W u c0 c1 c2 c3 c4) (x0 x1 x2 x3 x4 y0 y1 y2 y3 y4:Value) :
  Box5 (set5 (set5 W l x0 x1 x2 x3 x4) u y0 y1 y2 y3 y4) l x0 x1 x2 x3 x4/\Box5 (set5 (set5 W l x0 x1 x2 x3 x4) u y0 y1 y2 y3 y4) u y0 y1 y2 y3 y4/\Fr (fun x=>x=l\/x=u) W (set5 (set5 W l x0 x1 x2 x3 x4) u y0 y1 y2 y3 y4):=by
 have far:∀ {W:World} {b c:Nat} {a0 a1 a2 a3 a4:Value} (x0 x1 x2 x3 x4:Value),b ≠ c->Box5 W b a0 a1 a2 a3 a4->Box5 (set5 W c x0 x1 x2 x3 x4) b a0 a1 a2 a3 a4:=fun {W b c a0 a1 a2 a3 a4} x0 x1 x2 x3 x4 h hb=>
  ((((hb.setCell_ne (p:=c) (v:=x0) (Ne.symm h)).setCell_ne (p:=⟨c,1,none⟩) (v:=x1) (Ne.symm h)).setCell_ne (p:=⟨c,2,none⟩) (v:=x2) (Ne.symm h)).setCell_ne (p:=⟨c,3,none⟩) (v:=x3) (Ne.symm h)).setCell_ne (p:=⟨c,4,none⟩) (v:=x4) (Ne.symm h)
 have fr:∀ {G:Nat->Prop} {W W':World} {b:Nat} (x0 x1 x2 x3 x4:Value),Fr G W W'->G b->Fr G W (set5 W' b x0 x1 x2 x3 x4):=fun {G W W' b} x0 x1 x2 x3 x4 h hb=>
  ((((h.set (p:=b) hb x0).set (p:=⟨b,1,none⟩) hb x1).set (p:=⟨b,2,none⟩) hb x2).set (p:=⟨b,3,none⟩) hb x3).set (p:=⟨b,4,none⟩) hb x4
 exact ⟨far _ _ _ _ _ hl (bL.stored x0 x1 x2 x3 x4),(far x0 x1 x2 x3 x4 (Ne.symm hl) bU).stored y0 y1 y2 y3 y4,fr _ _ _ _ _ (fr _ _ _ _ _ (Fr.refl _ W) (.inl rfl)) (.inr rfl)⟩
theorem zQX {p:Addr} (h:p.block ≠ b):(set5 w b x0 x1 x2 x3 x4).cell? p=w.cell? p:=by
 have s:∀ (w:World) (o:Nat) (x:Value),(w.setCell ⟨b,o,none⟩ x).cell? p=w.cell? p:=fun w o x=>cob (bhs _ _ _ _ h)
 simp only [s]
def FreeLim (V:Nat) (os rs:List (List Rat)) (bs:List Rat) (row:Nat) (v:Rat):Option Rat->Prop:=
 Lim (prob1 V [(rs.getD row []).map (-1*·)] ((rs.map fun r=>resize r (colsOf rs)).set row ((os.getD 0 []).map (-1*·))) (bs.set row (-v))) fun t=>-(t+bs.getD row 0)
def tgRows (os rs:List (List Rat)) (row:Nat) (d:Rat):List (List Rat):=
 (rs.map fun r=>resize r (colsOf rs)).set row ((List.range (max (rs.getD row []).length (os.getD 0 []).length)).map fun i=>(rs.getD row []).getD i 0-((os.getD 0 []).map (d⁻¹*·)).getD i 0)
def TgLo (V:Nat) (os rs:List (List Rat)) (bs:List Rat) (row:Nat) (v d:Rat):Option Rat->Prop:=
 Lim (prob1 V [((os.getD 0 []).map (d⁻¹*·)).map (-1*·)] (tgRows os rs row d) (bs.set row (bs.getD row 0-d⁻¹*v))) fun t=>-(t+d⁻¹*v)
def TgUp (V:Nat) (os rs:List (List Rat)) (bs:List Rat) (row:Nat) (v d:Rat):Option Rat->Prop:=
 Lim (prob1 V [(os.getD 0 []).map (d⁻¹*·)] (tgRows os rs row d) (bs.set row (bs.getD row 0-d⁻¹*v))) fun t=>t-d⁻¹*v
def RangeLo (V:Nat) (os rs:List (List Rat)) (bs:List Rat) (row:Nat) (v d:Rat) (o:Option Rat):Prop:=(d=0->FreeLim V os rs bs row v o)/\(d ≠ 0->TgLo V os rs bs row v d o)
def RangeUp (V:Nat) (os rs:List (List Rat)) (bs:List Rat) (row:Nat) (v d:Rat) (o:Option Rat):Prop:=(d=0->o=none)/\(d ≠ 0->TgUp V os rs bs row v d o)
def ConsRet (w:World) (V:Nat) (os rs:List (List Rat)) (bs:List Rat) (row:Nat) (e:Ending) (w':World):Prop:=
 (∃ (D:Lin.Dict) (b1 b2:Bool) (v1 v2:QV) (o1 o2:Option Rat),PInv (prob1 V os rs bs) none D/\Ends (prob1 V os rs bs) none D 1/\e = .returned (.tuple #[limV b1 v1,limV b2 v2,.int .i64 0])/\LimIs w' (New w) b1 v1 o1/\LimIs w' (New w) b2 v2 o2/\
  RangeLo V os rs bs row (D.c 0 V) (D.dual (prob1 V os rs bs) row) o1/\RangeUp V os rs bs row (D.c 0 V) (D.dual (prob1 V os rs bs) row) o2)\/
 ∃ (D:Lin.Dict) (k:Nat) (c:Int),PInv (prob1 V os rs bs) none D/\Ends (prob1 V os rs bs) none D k/\(k=2/\c=8\/k=3/\c=9)/\e = .returned (.tuple #[limV false q0V,limV false q0V,.int .i64 c])
theorem zSA {d:Rat} (hco:colsOf os<=V) (hcr:colsOf rs<=V):colsOf (tgRows os rs row d)<=V:=
 zRP hcr (by
  have h1:=zBT hco 0;have h2:=zBT hcr row;simp only [List.length_map,List.length_range];omega)
theorem zQ5 (h:LPIs w AllB AllB L p os rs bs) (hn:p.n=V) (hV:V<=4) (ho:1<=p.O.n) (ho2:p.O.n<=4) (hr:p.R.n<=5) (hb:p.B.n=p.R.n) (hco:colsOf os<=V) (hcr:colsOf rs<=V) (hi:row<p.R.n) (hL:L<=40) :
  Calls Tryz.prog 12 #[p.val,.int .i64 (row:Int)] w fun e w'=>ConsRet w V os rs bs row e w'/\Below w w w':=by
 obtain ⟨n,⟨oA,on,oc⟩,⟨rA,rn,rc⟩,⟨bA,bn,bc⟩⟩:=p;dsimp only at hn hr hb hi ho ho2;subst hn hb;have H:=hdq h;have HCr:=hdq hcr;have HCo:=hdq hco;have HLen:Hid (rs.length=bn):=h.rows.len
 have HF:Hid (∀ D,PInv (prob1 V os rs bs) none D->(∀ i,QFit 26000 (D.dual (prob1 V os rs bs) i))/\QFit 26000 (D.c 0 V)):=fun D hD=>by
  obtain ⟨h1,h2⟩:=zEc h hV (E:=V) (by simp [Lin.given]) (nlr _) (fun c hc=>by cases hc) hD;exact ⟨fun i=>zBn (h1 i) (by omega),zBn h2 (by omega)⟩
 clear h hcr hco;dsimp only [LPV.val,SV.val];go_enter Tryz.func12,Tryz.ntmps12
 go_upto_region 1 with fail
 refine zAo (fun W=>Below w w W/\Box4 W w (.int .i64 V) (.slice oA on oc) (.slice rA bn rc) (.slice bA bn bc)/\Box5 W (w+1) (.bool false) (.bool false) (.slice none 0 0) (.bool false) (.slice none 0 0)/\Box5 W (w+1+1) (.bool false) (.bool false) (.slice none 0 0) (.bool false) (.slice none 0 0)/\w.heap.size<W.heap.size/\w.heap.size+1<W.heap.size/\w.heap.size+1+1<W.heap.size) ⟨(az (az (az (brf _ _)))),bx4,⟨by go_simp,by go_simp,by go_simp,by go_simp,by go_simp,by intro o; go_simp⟩,⟨by go_simp,by go_simp,by go_simp,by go_simp,by go_simp,by intro o; go_simp⟩,by simp <;> omega,by simp <;> omega,by simp <;> omega⟩ ?_;rintro W ⟨hbW,bP,bL,bU,s0,s1,s2⟩;have hBW:=hbW.size;have ne02:¬ (w.heap.size=w.heap.size+1+1):=by omega
 obtain ⟨p0,p1,p2,p3,-⟩:=id bP;have hii:(row:Int)<(bn:Int):=by omega
 have hi0:¬ ((row:Int)<0):=by omega
 have hi1:¬ ((bn:Int)<=(row:Int)):=by omega
 have hi2:row<bn:=hi;go_wp2_with fail
 refine (zBv (p:=⟨V,⟨oA,on,oc⟩,⟨rA,bn,rc⟩,⟨bA,bn,bc⟩⟩) (H.out.below hbW) rfl (by omega) ho ho2 (by show bn<=_; omega) rfl HCo.out HCr.out).mono ?_;rintro e w1 ⟨rfl,hb1⟩;replace bP:=bP.below hb1 s0;replace bL:=bL.below hb1 s1;replace bU:=bU.below hb1 s2;have hB:=hbW.trans (hb1.mono hBW);have hz1:w.heap.size+1+1<w1.heap.size:=ltl s2 hb1.size;clear p0 p1 p2 p3 hb1 hbW hBW s0 s1 s2 ne02;obtain ⟨p0,p1,p2,p3,-⟩:=id bP;go_wp2_with fail
 refine (zBd (V:=V) (p:=⟨V,⟨oA,on,oc⟩,⟨rA,bn,rc⟩,⟨bA,bn,bc⟩⟩) (H.out.below hB) rfl (by omega) ho ho2 (by show bn<=_; omega) rfl HCo.out HCr.out (by omega)).mono ?_;rintro e w2 ⟨hO,hb2⟩;replace bP:=bP.below hb2 (by omega);replace bL:=bL.below hb2 (by omega);replace bU:=bU.below hb2 (by omega);replace hB:=hB.trans (hb2.mono hB.size);have hz2:w.heap.size+1+1<w2.heap.size:=ltl hz1 hb2.size;clear p0 p1 p2 p3 hb2 hz1;rcases hO with ⟨D,z,hI,hE,rfl,hz⟩ | ⟨D,hI,hE,rfl⟩ | ⟨D,hI,hE,rfl⟩
 ·have HD:=hdq (And.intro hI hE);have HZ:=hdq (hz.qis (HF.out D hI).2);clear hI hE;go_upto_region 6 with fail
  have al:Below w2 w2 (w2.alloc (.cells #[.bool z.num.ng,.slice z.num.A z.num.n z.num.c,.bool z.den.ng,.slice z.den.A z.den.n z.den.c] 30)):=bal;have bZ:=zAA (zAd w2 (.cells #[.bool z.num.ng,.slice z.num.A z.num.n z.num.c,.bool z.den.ng,.slice z.den.A z.den.n z.den.c] 30) rfl);replace bP:=bP.below al (by omega);replace bL:=bL.below al (by omega);replace bU:=bU.below al (by omega);replace HZ:=hdq (HZ.out.below al);replace hB:=hB.trans (al.mono hB.size);have hz3:w2.heap.size<(w2.alloc (.cells #[.bool z.num.ng,.slice z.num.A z.num.n z.num.c,.bool z.den.ng,.slice z.den.A z.den.n z.den.c] 30)).heap.size:=by simp
  have hz4:w.heap.size+1+1<w2.heap.size:=hz2;clear al hz hz2;generalize w2.alloc (.cells #[.bool z.num.ng,.slice z.num.A z.num.n z.num.c,.bool z.den.ng,.slice z.den.A z.den.n z.den.c] 30)=W3 at *;generalize w2.heap.size=zb at *;obtain ⟨p0,p1,p2,p3,-⟩:=id bP;go_wp2_with fail
  refine (zDb (V:=V) (p:=⟨V,⟨oA,on,oc⟩,⟨rA,bn,rc⟩,⟨bA,bn,bc⟩⟩) (H.out.below hB) rfl (by omega) ho ho2 (by show bn<=_; omega) rfl HCo.out HCr.out (by omega)).mono ?_;rintro e w4 ⟨hO,hb4⟩;have hone:∀ {k:Nat} {D':Lin.Dict},PInv (prob1 V os rs bs) none D'->Ends (prob1 V os rs bs) none D' k->k=1:=fun h1 h2=>zSb Nat.one_pos HD.out.1 HD.out.2 h1 h2
  rcases hO with ⟨D',y,hI',hE',rfl,hy⟩ | ⟨D',hI',hE',rfl⟩ | ⟨D',hI',hE',rfl⟩
  rotate_left
  ·have:=hone hI' hE'; omega
  ·have:=hone hI' hE'; omega
  obtain ⟨yA,yn,yc⟩:=y;obtain rfl:bn=yn:=by have:=hy.len; simpa [prob1,HLen.out] using this
  replace bP:=bP.below hb4 (by omega);replace bL:=bL.below hb4 (by omega);replace bU:=bU.below hb4 (by omega);replace bZ:=bZ.below hb4 (by omega);replace HZ:=hdq (HZ.out.below hb4);replace hB:=hB.trans (hb4.mono hB.size);have hz5:zb<w4.heap.size:=ltl hz3 hb4.size;have HD2:Hid (PInv (prob1 V os rs bs) none D'/\Ends (prob1 V os rs bs) none D' 1/\D.c 0 V=D'.c 0 V):=⟨hI',hE',(zSc Nat.one_pos HD.out.1 HD.out.2 hI' hE').1⟩;have HY:=hdq hy;clear p0 p1 p2 p3 hb4 hone hI' hE' hy hz3;obtain ⟨p0,p1,p2,p3,-⟩:=id bP;obtain ⟨z0,z1,z2,z3,-⟩:=id bZ;dsimp only [SV.val];go_wp2_with fail
  refine (zR0 (p:=⟨V,⟨oA,on,oc⟩,⟨rA,bn,rc⟩,⟨bA,bn,bc⟩⟩) (row:=row) (z:=z)).mono ?_;rintro e w5 ⟨⟨c0,c1,c2,c3,m,rfl,bc0,bc1,bc2,bc3,hm⟩,hb5⟩;replace bP:=bP.below hb5 (by omega);replace bL:=bL.below hb5 (by omega);replace bU:=bU.below hb5 (by omega);replace bZ:=bZ.below hb5 (by omega);replace HZ:=hdq (HZ.out.below hb5);replace HY:=hdq (HY.out.belowC hb5);replace hB:=hB.trans (hb5.mono hB.size);have hz6:zb<w5.heap.size:=ltl hz5 hb5.size;clear p0 p1 p2 p3 z0 z1 z2 z3 hb5 hz5;go_upto_region 10 with fail
  obtain ⟨yad,yv,ey,-,hyc,hyq⟩:=HY.out.elem row hi2;dsimp only at ey;cases ey;have hyl:yad.block<w5:=by have h1:=zAb hyc.1; rwa [zAj] at h1
  have HSf:=hdq (zR4 (W:=w5) (g:=w) (p:=⟨V,⟨oA,on,oc⟩,⟨rA,bn,rc⟩,⟨bA,bn,bc⟩⟩) ((H.out.below hB).more (show L<=26000 by omega)) rfl hV ho hr rfl HCo.out HCr.out hi (by omega) bc0 bc1 bc2 bc3 hm ((HZ.out.mono (show 26000<=26000+1 by omega)).imp fun _ _ _=>trivial) ((HF.out D HD.out.1).2.up (by omega)));have al1:Below w5 w5 (w5.alloc (.cells #[.func (.func 125) #[] #[.pointer (some c0),.pointer (some c1),.pointer (some c2),.pointer (some c3)]] 92)):=bal;have bX:Box1 (w5.alloc (.cells #[.func (.func 125) #[] #[.pointer (some c0),.pointer (some c1),.pointer (some c2),.pointer (some c3)]] 92)) w5 (.func (.func 125) #[] #[.pointer (some c0),.pointer (some c1),.pointer (some c2),.pointer (some c3)]):=⟨by go_simp,by intro o; go_simp⟩;have sX:(w5.alloc (.cells #[.func (.func 125) #[] #[.pointer (some c0),.pointer (some c1),.pointer (some c2),.pointer (some c3)]] 92)).heap.size=w5.heap.size+1:=by simp
  rw [<-sX];clear bc0 bc1 bc2 bc3 hm;generalize w5.alloc (.cells #[.func (.func 125) #[] #[.pointer (some c0),.pointer (some c1),.pointer (some c2),.pointer (some c3)]] 92)=wx at *;have al2:Below wx wx (wx.alloc (.cells #[.func (.func 128) #[] #[]] 92)):=bal;have bY:Box1 (wx.alloc (.cells #[.func (.func 128) #[] #[]] 92)) wx (.func (.func 128) #[] #[]):=⟨by go_simp,by intro o; go_simp⟩;have al:=al1.trans (al2.mono al1.size);replace bX:=bX.below al2 (by omega);replace bP:=bP.below al (by omega);replace bL:=bL.below al (by omega);replace bU:=bU.below al (by omega);replace bZ:=bZ.below al (by omega);replace HZ:=hdq (HZ.out.below al);replace hyq:=hyq.below al;replace hyc:=hyc.belowC al;replace HSf:=hdq (HSf.out.below al);replace hB:=hB.trans (al.mono hB.size);have lX:=zAb bX.1;have lY:=zAb bY.1;have HSX:=hdq sX;clear al1 al2 al sX;dsimp only at lX lY;generalize wx.alloc (.cells #[.func (.func 128) #[] #[]] 92)=W at *;generalize w5.heap.size=lb at *;generalize wx.heap.size=ub at *;have hlu:ub=lb+1:=HSX.out;obtain ⟨d,hd⟩:∃ d,D'.dual (prob1 V os rs bs) row=d:=⟨_,rfl⟩
  have hyd:QIs W AllB 26000 yv d:=by
   have e:(List.map (D'.dual (prob1 V os rs bs)) (List.range (prob1 V os rs bs).m)).getD row 0=d:=by
    rw [zA6 _ _ _ _ (show row<(prob1 V os rs bs).m by show row<rs.length; rw [HLen.out]; exact hi2)]; exact hd
   rw [e] at hyq;exact (hyq.qis (by rw [<-hd]; exact (HF.out D' HD2.out.1).1 row)).imp fun _ _ _=>trivial
  have HYD:=hdq hyd;have HDd:=hdq hd;obtain ⟨y0,y1,y2,y3⟩:=id hyc;have nlu:lb ≠ ub:=by omega
  have nlu2:lb<ub:=by omega
  have HB:=hdq hB;clear hyq hd hyd hlu hB;go_wp2_with fail
  refine (zAn HYD.out).mono ?_;rintro e w7 ⟨rfl,hb7⟩;have hz7:=hb7.size;have bX7:=bX.below hb7 lX;have bY7:=bY.below hb7 lY;have bL7:=bL.below hb7 (by omega);have bU7:=bU.below hb7 (by omega);have hB7:=HB.out.trans (hb7.mono HB.out.size);by_cases hd0:d=0
  ·have hq:qsign d=0:=by rw [hd0]; rfl
   rw [hq];have HS7:=hdq ((HSf.out.below hb7).imp (R1':=RangeLo V os rs bs row (D'.c 0 V) d) (R2':=RangeUp V os rs bs row (D'.c 0 V) d) (fun o h=>⟨fun _=>by rw [<-HD2.out.2.2]; exact h,fun h'=>absurd hd0 h'⟩) fun o h=>⟨fun _=>h,fun h'=>absurd hd0 h'⟩);clear hq y0 y1 y2 y3 HSf;(go_upto_region 12 with fail);generalize w7=W at *;obtain ⟨x0,xf⟩:=id bX7;obtain ⟨y0,yf⟩:=id bY7;have HSd:=HS7;have bL:=bL7;have bU:=bU7;have hB:=hB7;clear bL7 bU7 hB7 HS7 bX7 bY7;obtain ⟨fn1,fn2,caps1,caps2,e1,e2,hc1,hc2,hcalls⟩:=HSd.out;cases e1;cases e2;have hlW:=zAb x0;have huW:=zAb y0;dsimp only at hlW huW;refine zAp 8 (fun _ w'=>w'.cell? lb=some (.func (.func 125) #[] #[.pointer (some c0),.pointer (some c1),.pointer (some c2),.pointer (some c3)])/\w'.cell? ub=some (.func (.func 128) #[] #[])) (by kernel_rfl) ?_;have hS0:W.drew.cell? lb=some (.func (.func 125) #[] #[.pointer (some c0),.pointer (some c1),.pointer (some c2),.pointer (some c3)])/\W.drew.cell? ub=some (.func (.func 128) #[] #[]):=⟨x0,y0⟩;refine tx4 0 1 3 4 hS0 ?_;refine tk1 2 ?_;intro K hK;go_simp;have hd:Below W W W.drew:=(brf _ _).drew;refine (hcalls W.drew hd).mono ?_;rintro e w1 ⟨⟨b1,v1,o1,rfl,hl1,hr1⟩,hf1,hcalls2⟩;have hS1:w1.cell? lb=some (.func (.func 125) #[] #[.pointer (some c0),.pointer (some c1),.pointer (some c2),.pointer (some c3)])/\w1.cell? ub=some (.func (.func 128) #[] #[]):=⟨(hf1.cell (p:=lb) hlW (show ¬ (lb=w.heap.size) by omega)).trans x0,(hf1.cell (p:=ub) huW (show ¬ (ub=w.heap.size) by omega)).trans y0⟩;have hz1:W.heap.size<=w1.heap.size:=hf1.size;dsimp only [limV];refine hK.out _ _ hS1 ?_;clear hK K;refine tk1 5 ?_;intro K hK;go_simp;refine (hcalls2 w1 (brf _ _)).mono ?_;rintro e w2 ⟨⟨b2,v2,o2,rfl,hl2,hr2⟩,hf2⟩;have hS2:w2.cell? lb=some (.func (.func 125) #[] #[.pointer (some c0),.pointer (some c1),.pointer (some c2),.pointer (some c3)])/\w2.cell? ub=some (.func (.func 128) #[] #[]):=⟨(hf2.cell (p:=lb) (show lb<w1.heap.size by omega) (show ¬ (lb=w.heap.size) by omega)).trans hS1.1,(hf2.cell (p:=ub) (show ub<w1.heap.size by omega) (show ¬ (ub=w.heap.size) by omega)).trans hS1.2⟩;have hz2:=hf2.size;dsimp only [limV];refine hK.out _ _ hS2 ?_;clear hK K;have bL2:=(bL.heap (hf1.block (w+1) (show w.heap.size+1<W.heap.size by omega) (show ¬ (w.heap.size+1=w.heap.size) by omega))).heap (hf2.block (w+1) (by omega) (show ¬ (w.heap.size+1=w.heap.size) by omega));have bU2:=(bU.heap (hf1.block (w+1+1) (show w.heap.size+1+1<W.heap.size by omega) (show ¬ (w.heap.size+1+1=w.heap.size) by omega))).heap (hf2.block (w+1+1) (by omega) (show ¬ (w.heap.size+1+1=w.heap.size) by omega));obtain ⟨bL9,bU9,fr9⟩:=zRf (show w.heap.size+1 ≠ w.heap.size+1+1 by omega) bL2 bU2 (.bool b1) (.bool v1.num.ng) (.slice v1.num.A v1.num.n v1.num.c) (.bool v1.den.ng) (.slice v1.den.A v1.den.n v1.den.c) (.bool b2) (.bool v2.num.ng) (.slice v2.num.A v2.num.n v2.num.c) (.bool v2.den.ng) (.slice v2.den.A v2.den.n v2.den.c);refine tk1 6 ?_;intro K hK;go_simp;refine hK.out _ _ ⟨(zQX (by dsimp only; omega)).trans hS2.1,(zQX (by dsimp only; omega)).trans hS2.2⟩ ?_;clear hK K;refine tk1 7 ?_;intro K hK;go_simp;refine hK.out _ _ ⟨(zQX (by dsimp only; omega)).trans ((zQX (by dsimp only; omega)).trans hS2.1),(zQX (by dsimp only; omega)).trans ((zQX (by dsimp only; omega)).trans hS2.2)⟩ ?_;clear hK K;refine tk1 8 ?_;intro K hK;go_simp;refine hK.out _ _ ⟨(zQX (by dsimp only; omega)).trans ((zQX (by dsimp only; omega)).trans hS2.1),(zQX (by dsimp only; omega)).trans ((zQX (by dsimp only; omega)).trans hS2.2)⟩ ?_;clear hK K;refine zAf (by kernel_rfl) ?_ _;have HBf:=hdq (((hB.trans (hd.mono hB.size)).trans ((hf1.mono (H:=fun x=>x=w.heap.size) fun _ h=>h).below (B:=w) (by show _<=W.heap.size; omega) (by intro b hb; omega))).trans ((hf2.below (B:=w) (by omega) (by intro b hb; omega)).trans (fr9.below (B:=w) (by omega) (by intro b hb; omega))));have k2:∀ p:Addr,New W p.block->p.block<w1->w2.cell? p=w1.cell? p:=(fun p hp hl=>hf2.cell hl (by simp only [New] at hp; omega));have k9:∀ p:Addr,New W p.block->p.block<w2->(set5 (set5 w2 (w+1) (.bool b1) (.bool v1.num.ng) (.slice v1.num.A v1.num.n v1.num.c) (.bool v1.den.ng) (.slice v1.den.A v1.den.n v1.den.c)) (w+1+1) (.bool b2) (.bool v2.num.ng) (.slice v2.num.A v2.num.n v2.num.c) (.bool v2.den.ng) (.slice v2.den.A v2.den.n v2.den.c)).cell? p=w2.cell? p:=(fun p hp hl=>fr9.cell hl (by simp only [New] at hp; omega));have HL1:=hdq ((((hl1.low (B':=W) (nlr _)).keep k2).keep k9).low (B':=w) hB.size);have HL2:=hdq (((hl2.low (B':=W) hz1).keep k9).low (B':=w) hB.size);clear hl1 hl2 hf1 hf2 fr9 k2 k9 hS0 hS1 hS2 hcalls hcalls2 hB hd bL2 bU2 bL bU;have HLU:=hdq (And.intro bL9 bU9);clear bL9 bU9;go_wp2;(try rw [Exit.noGoto_ret]);obtain ⟨⟨l0,l1,l2,l3,l4,-⟩,u0,u1,u2,u3,u4,-⟩:=HLU.out;exact bodyPost_ret (v:=.tuple #[limV b1 v1,limV b2 v2,.int .i64 0]) (by simp [results,Tryz.results12,go_sem,l0,l1,l2,l3,l4,u0,u1,u2,u3,u4,limV]) rfl ⟨.inl ⟨D',b1,b2,v1,v2,o1,o2,HD2.out.1,HD2.out.2.1,rfl,HL1.out,HL2.out,by rw [HDd.out]; exact hr1,by rw [HDd.out]; exact hr2⟩,HBf.out⟩
  ·have hq:¬ (qsign d=0):=by unfold qsign; split <;> (try split) <;> (first | omega | (intro h; exact absurd h (by decide)) | (exfalso; grind))
   generalize qsign d=o at *;have hq2:(o != 0)=true:=(by simpa using hq);(go_upto_region 11 with fail);have hS0:CnS w zb ⟨V,⟨oA,on,oc⟩,⟨rA,bn,rc⟩,⟨bA,bn,bc⟩⟩ z (yad.add (row*4)) yv false w7.drew:=zRC (f:=false) (w:=w7) ⟨bP.below hb7 (by omega),bZ.below hb7 (by omega),hyc.belowC hb7⟩ (brf _ _).drew;refine zAp 12 (CnS w zb ⟨V,⟨oA,on,oc⟩,⟨rA,bn,rc⟩,⟨bA,bn,bc⟩⟩ z (yad.add (row*4)) yv) (by kernel_rfl) ?_;clear y0 y1 y2 y3;refine tx4 0 1 2 3 hS0 ?_;refine tx1 4 hS0 ?_;refine tx1 5 hS0 ?_;refine tx1 6 hS0 ?_;refine tk1 7 ?_;intro K hK;go_simp;have hd7:Below w7 w7 w7.drew:=(brf _ _).drew;have h7:=hb7.trans (hd7.mono hz7);have hBd:=hB7.trans (hd7.mono hB7.size);refine (zRN (L:=26000) (p:=⟨V,⟨oA,on,oc⟩,⟨rA,bn,rc⟩,⟨bA,bn,bc⟩⟩) (z:=z) (d:=yv) (v:=D.c 0 V) (dv:=d) ((H.out.below hBd).more (by omega)) rfl hV ho hr rfl HCo.out HCr.out hi (by omega) ((HZ.out.below h7).imp fun _ _ _=>trivial) (HYD.out.below h7) (HF.out D HD.out.1).2 (by rw [<-HDd.out]; exact (HF.out D' HD2.out.1).1 row) hd0).mono ?_;rintro e w8 ⟨⟨t0,g,t2,R,S,gs,m',rfl,hg,hT⟩,hb8⟩;have hS8:=zRC (f':=true) hS0 hb8;have h8:=hd7.trans (hb8.mono hd7.size);have hz8:=h8.size;refine hK.out _ _ hS8 ?_;clear hK K;refine tx1 8 hS8 ?_;refine tx1 9 hS8 ?_;refine tx1 10 hS8 ?_;obtain ⟨x0,xf⟩:=bX7.below h8 (by omega);obtain ⟨y0,yf⟩:=bY7.below h8 (by omega);have nyl:(yad.add (row*4)).block<lb:=by rw [zAj]; exact hyl
   refine tk1 11 ?_;intro K hK;go_simp;refine hK.out _ _ (zRL (c:=lb) hS8 (by omega) (by omega) (by omega) _) ?_;clear hK K;refine tk1 12 ?_;intro K hK;go_simp;refine hK.out _ _ (zRL (c:=ub) (zRL (c:=lb) (f':=true) hS8 (by omega) (by omega) (by omega) _) (by omega) (by omega) (by omega) _) ?_;clear hK K;refine zAf (by kernel_rfl) ?_ _;have bX8:=bX7.below h8 (by omega);have bY8:=bY7.below h8 (by omega);have bL8:=bL7.below h8 (by omega);have bU8:=bU7.below h8 (by omega);have hB8:=hB7.trans (h8.mono hB7.size);obtain ⟨bX9,bY9,fr9⟩:=zRm nlu bX8 bY8 (.func (.func 130) #[] #[.pointer (some t0),.pointer (some g),.pointer (some t2)]) (.func (.func 132) #[] #[.pointer (some t0),.pointer (some g),.pointer (some t2)]) _ rfl;have bL:=bL8.heap (fr9.block _ (by omega) (by omega));have bU:=bU8.heap (fr9.block _ (by omega) (by omega));have hB:=hB8.trans (fr9.below (B:=w) (by omega) (by intro b hb; omega));have hT9:=hT _ (fr9.mono fun x hx=>by simp only [World.size_drew]; omega);simp only [World.size_drew] at hg;obtain ⟨o9,ho9⟩:=hT9.prog;have hg9:=zAb ho9.1;dsimp only at hg9;clear ho9;have fi:Lin.Fits (32*26000) d⁻¹:=(zAR (show QFit 26000 d by rw [<-HDd.out]; exact (HF.out D' HD2.out.1).1 row)).inv;have HGF:Hid (∀ i,QFit (3*26000+3) (((os.getD 0 []).map (d⁻¹*·)).getD i 0)):=fun i=>by rw [zRw]; exact zBn (fi.mul (zAR (MatAt.fit H.out.obj 0 i))) (by omega)
   have HGB:Hid (QFit (3*26000+3) (d⁻¹*D.c 0 V)):=zBn (fi.mul (zAR (HF.out D HD.out.1).2)) (by omega);have HGL:Hid (((os.getD 0 []).map (d⁻¹*·)).length<=V):=hdq (by rw [List.length_map]; exact zBT HCo.out 0);have HSd:=hdq ((zRM hT9 hV hr (by omega) (fun i=>HGF.out i) HGB.out HGL.out (zSA HCo.out HCr.out)).imp (R1':=RangeLo V os rs bs row (D'.c 0 V) d) (R2':=RangeUp V os rs bs row (D'.c 0 V) d) (fun o h=>⟨fun h'=>absurd h' hd0,fun _=>by rw [<-HD2.out.2.2]; exact h⟩) fun o h=>⟨fun h'=>absurd h' hd0,fun _=>by rw [<-HD2.out.2.2]; exact h⟩);clear bX8 bY8 bL8 bU8 hB8 bX7 bY7 bL7 bU7 hB7 hS0 hS8 hT hT9 fr9 x0 xf y0 yf;generalize (w8.setCell lb (.func (.func 130) #[] #[.pointer (some t0),.pointer (some g),.pointer (some t2)])).setCell ub (.func (.func 132) #[] #[.pointer (some t0),.pointer (some g),.pointer (some t2)])=W at *;obtain ⟨x0,xf⟩:=id bX9;obtain ⟨y0,yf⟩:=id bY9;clear bX9 bY9;(go_upto_region 12 with fail);obtain ⟨fn1,fn2,caps1,caps2,e1,e2,hc1,hc2,hcalls⟩:=HSd.out;cases e1;cases e2;have hlW:=zAb x0;have huW:=zAb y0;dsimp only at hlW huW;refine zAp 8 (fun _ w'=>w'.cell? lb=some (.func (.func 130) #[] #[.pointer (some t0),.pointer (some g),.pointer (some t2)])/\w'.cell? ub=some (.func (.func 132) #[] #[.pointer (some t0),.pointer (some g),.pointer (some t2)])) (by kernel_rfl) ?_;have hS0:W.drew.cell? lb=some (.func (.func 130) #[] #[.pointer (some t0),.pointer (some g),.pointer (some t2)])/\W.drew.cell? ub=some (.func (.func 132) #[] #[.pointer (some t0),.pointer (some g),.pointer (some t2)]):=⟨x0,y0⟩;refine tx4 0 1 3 4 hS0 ?_;refine tk1 2 ?_;intro K hK;go_simp;have hd:Below W W W.drew:=(brf _ _).drew;refine (hcalls W.drew hd).mono ?_;rintro e w1 ⟨⟨b1,v1,o1,rfl,hl1,hr1⟩,hf1,hcalls2⟩;have hS1:w1.cell? lb=some (.func (.func 130) #[] #[.pointer (some t0),.pointer (some g),.pointer (some t2)])/\w1.cell? ub=some (.func (.func 132) #[] #[.pointer (some t0),.pointer (some g),.pointer (some t2)]):=⟨(hf1.cell (p:=lb) hlW (show ¬ (lb=g) by omega)).trans x0,(hf1.cell (p:=ub) huW (show ¬ (ub=g) by omega)).trans y0⟩;have hz1:W.heap.size<=w1.heap.size:=hf1.size;dsimp only [limV];refine hK.out _ _ hS1 ?_;clear hK K;refine tk1 5 ?_;intro K hK;go_simp;refine (hcalls2 w1 (brf _ _)).mono ?_;rintro e w2 ⟨⟨b2,v2,o2,rfl,hl2,hr2⟩,hf2⟩;have hS2:w2.cell? lb=some (.func (.func 130) #[] #[.pointer (some t0),.pointer (some g),.pointer (some t2)])/\w2.cell? ub=some (.func (.func 132) #[] #[.pointer (some t0),.pointer (some g),.pointer (some t2)]):=⟨(hf2.cell (p:=lb) (show lb<w1.heap.size by omega) (show ¬ (lb=g) by omega)).trans hS1.1,(hf2.cell (p:=ub) (show ub<w1.heap.size by omega) (show ¬ (ub=g) by omega)).trans hS1.2⟩;have hz2:=hf2.size;dsimp only [limV];refine hK.out _ _ hS2 ?_;clear hK K;have bL2:=(bL.heap (hf1.block (w+1) (show w.heap.size+1<W.heap.size by omega) (show ¬ (w.heap.size+1=g) by omega))).heap (hf2.block (w+1) (by omega) (show ¬ (w.heap.size+1=g) by omega));have bU2:=(bU.heap (hf1.block (w+1+1) (show w.heap.size+1+1<W.heap.size by omega) (show ¬ (w.heap.size+1+1=g) by omega))).heap (hf2.block (w+1+1) (by omega) (show ¬ (w.heap.size+1+1=g) by omega));obtain ⟨bL9,bU9,fr9⟩:=zRf (show w.heap.size+1 ≠ w.heap.size+1+1 by omega) bL2 bU2 (.bool b1) (.bool v1.num.ng) (.slice v1.num.A v1.num.n v1.num.c) (.bool v1.den.ng) (.slice v1.den.A v1.den.n v1.den.c) (.bool b2) (.bool v2.num.ng) (.slice v2.num.A v2.num.n v2.num.c) (.bool v2.den.ng) (.slice v2.den.A v2.den.n v2.den.c);refine tk1 6 ?_;intro K hK;go_simp;refine hK.out _ _ ⟨(zQX (by dsimp only; omega)).trans hS2.1,(zQX (by dsimp only; omega)).trans hS2.2⟩ ?_;clear hK K;refine tk1 7 ?_;intro K hK;go_simp;refine hK.out _ _ ⟨(zQX (by dsimp only; omega)).trans ((zQX (by dsimp only; omega)).trans hS2.1),(zQX (by dsimp only; omega)).trans ((zQX (by dsimp only; omega)).trans hS2.2)⟩ ?_;clear hK K;refine tk1 8 ?_;intro K hK;go_simp;refine hK.out _ _ ⟨(zQX (by dsimp only; omega)).trans ((zQX (by dsimp only; omega)).trans hS2.1),(zQX (by dsimp only; omega)).trans ((zQX (by dsimp only; omega)).trans hS2.2)⟩ ?_;clear hK K;refine zAf (by kernel_rfl) ?_ _;have HBf:=hdq (((hB.trans (hd.mono hB.size)).trans ((hf1.mono (H:=fun x=>x=g) fun _ h=>h).below (B:=w) (by show _<=W.heap.size; omega) (by intro b hb; omega))).trans ((hf2.below (B:=w) (by omega) (by intro b hb; omega)).trans (fr9.below (B:=w) (by omega) (by intro b hb; omega))));have k2:∀ p:Addr,New W p.block->p.block<w1->w2.cell? p=w1.cell? p:=(fun p hp hl=>hf2.cell hl (by simp only [New] at hp; omega));have k9:∀ p:Addr,New W p.block->p.block<w2->(set5 (set5 w2 (w+1) (.bool b1) (.bool v1.num.ng) (.slice v1.num.A v1.num.n v1.num.c) (.bool v1.den.ng) (.slice v1.den.A v1.den.n v1.den.c)) (w+1+1) (.bool b2) (.bool v2.num.ng) (.slice v2.num.A v2.num.n v2.num.c) (.bool v2.den.ng) (.slice v2.den.A v2.den.n v2.den.c)).cell? p=w2.cell? p:=(fun p hp hl=>fr9.cell hl (by simp only [New] at hp; omega));have HL1:=hdq ((((hl1.low (B':=W) (nlr _)).keep k2).keep k9).low (B':=w) hB.size);have HL2:=hdq (((hl2.low (B':=W) hz1).keep k9).low (B':=w) hB.size);clear hl1 hl2 hf1 hf2 fr9 k2 k9 hS0 hS1 hS2 hcalls hcalls2 hB hd bL2 bU2 bL bU;have HLU:=hdq (And.intro bL9 bU9);clear bL9 bU9;go_wp2;(try rw [Exit.noGoto_ret]);obtain ⟨⟨l0,l1,l2,l3,l4,-⟩,u0,u1,u2,u3,u4,-⟩:=HLU.out;exact bodyPost_ret (v:=.tuple #[limV b1 v1,limV b2 v2,.int .i64 0]) (by simp [results,Tryz.results12,go_sem,l0,l1,l2,l3,l4,u0,u1,u2,u3,u4,limV]) rfl ⟨.inl ⟨D',b1,b2,v1,v2,o1,o2,HD2.out.1,HD2.out.2.1,rfl,HL1.out,HL2.out,by rw [HDd.out]; exact hr1,by rw [HDd.out]; exact hr2⟩,HBf.out⟩
 ·have HIE:=hdq (And.intro hI hE);clear hI hE;go_upto_region 5 with fail
  have al:Below w2 w2 (w2.alloc (.cells #[.bool false,.slice none 0 0,.bool false,.slice none 0 0] 30)):=bal;replace bL:=bL.below al (by omega);replace bU:=bU.below al (by omega);replace hB:=hB.trans (al.mono hB.size);have hz3:w2.heap.size<(w2.alloc (.cells #[.bool false,.slice none 0 0,.bool false,.slice none 0 0] 30)).heap.size:=by simp
  clear al;generalize w2.alloc (.cells #[.bool false,.slice none 0 0,.bool false,.slice none 0 0] 30)=W3 at *;obtain ⟨bL9,bU9,fr9⟩:=zRf (show w.heap.size+1 ≠ w.heap.size+1+1 by omega) bL bU (.bool false) (.bool false) (.slice none 0 0) (.bool false) (.slice none 0 0) (.bool false) (.bool false) (.slice none 0 0) (.bool false) (.slice none 0 0);have HB:=hdq (hB.trans (fr9.below (B:=w) (by omega) (by intro b hb; omega)));have HLU:=hdq (And.intro bL9 bU9);clear bL9 bU9 fr9 hB;obtain ⟨x0,x1,x2,x3,x4,xf⟩:=id bL;obtain ⟨y0,y1,y2,y3,y4,yf⟩:=id bU;clear bL bU;go_wp2;try rw [Exit.noGoto_ret]
  obtain ⟨⟨l0,l1,l2,l3,l4,-⟩,u0,u1,u2,u3,u4,-⟩:=HLU.out;exact bodyPost_ret (v:=.tuple #[limV false q0V,limV false q0V,.int .i64 8]) (by simp [results,Tryz.results12,go_sem,l0,l1,l2,l3,l4,u0,u1,u2,u3,u4,limV,q0V]) rfl ⟨.inr ⟨D,2,8,HIE.out.1,HIE.out.2,.inl ⟨rfl,rfl⟩,rfl⟩,HB.out⟩
 ·have HIE:=hdq (And.intro hI hE);clear hI hE;go_upto_region 5 with fail
  have al:Below w2 w2 (w2.alloc (.cells #[.bool false,.slice none 0 0,.bool false,.slice none 0 0] 30)):=bal;replace bL:=bL.below al (by omega);replace bU:=bU.below al (by omega);replace hB:=hB.trans (al.mono hB.size);have hz3:w2.heap.size<(w2.alloc (.cells #[.bool false,.slice none 0 0,.bool false,.slice none 0 0] 30)).heap.size:=by simp
  clear al;generalize w2.alloc (.cells #[.bool false,.slice none 0 0,.bool false,.slice none 0 0] 30)=W3 at *;obtain ⟨bL9,bU9,fr9⟩:=zRf (show w.heap.size+1 ≠ w.heap.size+1+1 by omega) bL bU (.bool false) (.bool false) (.slice none 0 0) (.bool false) (.slice none 0 0) (.bool false) (.bool false) (.slice none 0 0) (.bool false) (.slice none 0 0);have HB:=hdq (hB.trans (fr9.below (B:=w) (by omega) (by intro b hb; omega)));have HLU:=hdq (And.intro bL9 bU9);clear bL9 bU9 fr9 hB;obtain ⟨x0,x1,x2,x3,x4,xf⟩:=id bL;obtain ⟨y0,y1,y2,y3,y4,yf⟩:=id bU;clear bL bU;go_wp2;try rw [Exit.noGoto_ret]
  obtain ⟨⟨l0,l1,l2,l3,l4,-⟩,u0,u1,u2,u3,u4,-⟩:=HLU.out;exact bodyPost_ret (v:=.tuple #[limV false q0V,limV false q0V,.int .i64 9]) (by simp [results,Tryz.results12,go_sem,l0,l1,l2,l3,l4,u0,u1,u2,u3,u4,limV,q0V]) rfl ⟨.inr ⟨D,3,9,HIE.out.1,HIE.out.2,.inr ⟨rfl,rfl⟩,rfl⟩,HB.out⟩
structure DirAt (w:World) (c0 c1 g c3 cc ck V k n L:Nat) (p:LPV) (pl vv:QV) (O R cs:SV) (ol cl:List Rat) (rows os rs:List (List Rat)) (bs:List Rat) (q v:Rat):Prop where
 n0:c0 ≠ g
 n1:c1 ≠ g
 n3:c3 ≠ g
 nc:cc ≠ g
 nk:ck ≠ g
 b0:BoxQ w c0 pl
 b1:BoxL w c1 p
 b3:BoxQ w c3 vv
 bc:w.cell? cc=some cs.val
 bk:w.cell? ck=some (.int .i64 (k:Int))
 prog:∃ B:SV,Box4 w g (.int .i64 V) O.val R.val B.val
 on:O.n=1
 rn:R.n=n
 pn:p.B.n=n
 cn:cs.n=n
 po:1<=p.O.n
 hO:MatIs w (fun x=>x ≠ g) (fun x=>x ≠ g) 3000 O [ol]
 hR:MatIs w (fun x=>x ≠ g) (fun x=>x ≠ g) 3000 R rows
 col:VecIs w (fun x=>x ≠ g) (fun x=>x ≠ g) (L+1) cs cl
 lp:LPIs w (fun x=>x ≠ g) (fun x=>x ≠ g) L p os rs bs
 hq:QIs w (fun x=>x ≠ g) 1000 pl q
 hv:QIs w (fun x=>x ≠ g) 1000 vv v
section
variable {w w':World} {c0 c1 g c3 cc ck V k n L:Nat} {p:LPV} {pl vv:QV} {O R cs:SV} {ol cl:List Rat} {rows os rs:List (List Rat)} {bs:List Rat} {q v:Rat}
theorem DirAt.fr (h:DirAt w c0 c1 g c3 cc ck V k n L p pl vv O R cs ol cl rows os rs bs q v) (hf:Fr (fun x=>x=g) w w') (ho:∃ B:SV,Box4 w' g (.int .i64 V) O.val R.val B.val):DirAt w' c0 c1 g c3 cc ck V k n L p pl vv O R cs ol cl rows os rs bs q v:=
 have hk:∀ a:Addr,a.block ≠ g->a.block<w->w'.cell? a=w.cell? a:=fun _ ha hl=>hf.cell hl ha
 ⟨h.n0,h.n1,h.n3,h.nc,h.nk,h.b0.heap (hf.block _ (zAb h.b0.1) h.n0),h.b1.heap (hf.block _ (zAb h.b1.1) h.n1),h.b3.heap (hf.block _ (zAb h.b3.1) h.n3),(hk _ h.nc (zAb h.bc)).trans h.bc,(hk _ h.nk (zAb h.bk)).trans h.bk,ho,h.on,h.rn,h.pn,h.cn,h.po,
  h.hO.keep hk fun _ _ hq=>hq.keep hk,h.hR.keep hk fun _ _ hq=>hq.keep hk,h.col.keep hk fun _ _ hq=>hq.keep hk,⟨h.lp.obj.keep hk fun _ _ hq=>hq.keep hk,h.lp.rows.keep hk fun _ _ hq=>hq.keep hk,h.lp.bounds.keep hk fun _ _ hq=>hq.keep hk⟩,h.hq.keep hk,h.hv.keep hk⟩
theorem DirAt.below (h:DirAt w c0 c1 g c3 cc ck V k n L p pl vv O R cs ol cl rows os rs bs q v) (hb:Below w w w'):DirAt w' c0 c1 g c3 cc ck V k n L p pl vv O R cs ol cl rows os rs bs q v:=by
 obtain ⟨B,hB⟩:=h.prog;exact h.fr (Fr.of_below hb) ⟨B,hB.below hb (zAb hB.1)⟩
theorem zR9 {w:World} (h:Box4 w b u0 u1 u2 u3) (x:Value):Box4 (w.setCell ⟨b,3,none⟩ x) b u0 u1 u2 x:=zRB h x
theorem DirAt.store (h:DirAt w c0 c1 g c3 cc ck V k n L p pl vv O R cs ol cl rows os rs bs q v) {B:SV} {bl:List Rat} (_hn:B.n=n) (hB:VecIs w (fun x=>x ≠ g) (fun x=>x ≠ g) 3000 B bl) (WF:World) (e:WF=w.setCell ⟨g,3,none⟩ B.val) :
  DirAt WF c0 c1 g c3 cc ck V k n L p pl vv O R cs ol cl rows os rs bs q v/\LPIs WF AllB AllB 3000 ⟨V,O,R,B⟩ [ol] rows bl/\Box4 WF g (.int .i64 V) O.val R.val B.val/\Fr (fun x=>x=g) w WF:=by
 subst e;obtain ⟨B0,hg⟩:=h.prog;have bx:=zR9 hg B.val;have hf:Fr (fun x=>x=g) w (w.setCell ⟨g,3,none⟩ B.val):=(Fr.refl (fun x=>x=g) w).set (p:=⟨g,3,none⟩) rfl _;have kx:∀ a:Addr,a.block ≠ g->a.block<w->(w.setCell ⟨g,3,none⟩ B.val).cell? a=w.cell? a:=fun a ha _=>cob (bhs _ _ _ _ ha)
 refine ⟨h.fr hf ⟨B,bx⟩,⟨?_,?_,?_⟩,bx,hf⟩
 ·exact (h.hO.keep (R':=QIs _ (fun x=>x ≠ g) 3000) kx fun _ _ hq=>hq.keep kx).imp (fun _ _ _=>trivial) fun _ _ hq=>hq.imp fun _ _ _=>trivial
 ·exact (h.hR.keep (R':=QIs _ (fun x=>x ≠ g) 3000) kx fun _ _ hq=>hq.keep kx).imp (fun _ _ _=>trivial) fun _ _ hq=>hq.imp fun _ _ _=>trivial
 ·exact (hB.keep (R':=QIs _ (fun x=>x ≠ g) 3000) kx fun _ _ hq=>hq.keep kx).imp (fun _ _ _=>trivial) fun _ _ hq=>hq.imp fun _ _ _=>trivial
end
theorem zRz {b':Nat} (h:Box4 w b u0 u1 u2 u3) (hb:b ≠ b'):Box4 (set5 w b' x0 x1 x2 x3 x4) b u0 u1 u2 u3:=h.five hb
theorem zSi {c3 cc ck:Nat} {vv:QV} {O cs:SV} {ol:List Rat} {rows:List (List Rat)} {v:Rat} (h:DirAt w c0 c1 g c3 cc ck V k n L p pl vv O R cs ol cl rows os rs bs q v) (hV:V<=4) (hn:n<=4) (hL:L<=40) (hk:k<=1000) (hg:ol.length<=V) (hcr:colsOf rows<=V) (hcf:∀ i,QFit (L+1) (cl.getD i 0)) :
  Calls Tryz.prog 114 #[.pointer (some cc),.pointer (some g),.pointer (some c1),.pointer (some ck)] w fun e w'=>LimRet w (prob1 V [ol] rows (cl.map (-1*·))) (fun t=>-(t+(os.getD 0 []).getD k 0)) e w'/\DirAt w' c0 c1 g c3 cc ck V k n L p pl vv O R cs ol cl rows os rs bs q v/\Fr (fun x=>x=g) w w':=by
 have H:=hdq h;have HC:=hdq hcr;have HG:=hdq (zQ8 hg);have HFL:=hdq (fun i=>(zRd hcf i).up (show L+1<=3000 by omega));have HL:Hid (L+1<=LM):=hdq (by rw [zAZ]; omega);have H1:Hid (1<=LM):=hdq (by rw [zAZ]; omega);obtain ⟨B0,bG⟩:=h.prog;have k0:=h.bc;have e2:=h.on;have e3:=h.rn;have e4:=h.cn;have nc:=h.nc;obtain ⟨B0A,B0n,B0c⟩:=B0;obtain ⟨RA,Rn,Rc⟩:=R;obtain ⟨OA,On,Oc⟩:=O;obtain ⟨cA,cn,c4⟩:=cs;dsimp only at e2 e3 e4;clear h hcr hg hcf;subst e2 e4;cases e3;dsimp only [SV.val] at *;have lg:=zAb bG.1;dsimp only at lg;go_enter Tryz.func114,Tryz.ntmps114
 go_upto_region 1 with fail
 refine zAo (fun W=>Below w w W/\Box5 W w (.bool false) (.bool false) (.slice none 0 0) (.bool false) (.slice none 0 0)/\w.heap.size<W.heap.size) ⟨(az (brf _ _)),⟨by go_simp,by go_simp,by go_simp,by go_simp,by go_simp,by intro o; go_simp⟩,by simp <;> omega⟩ ?_;rintro W ⟨hbW,bR,s0⟩;have hBW:=hbW.size;replace k0:=cellK hbW k0;have bG1:=bG.below hbW lg;refine zAp 4 (fun _ w'=>w'.cell? cc=some (.slice cA Rn c4)) (by kernel_rfl) ?_;have hS0:W.drew.cell? cc=some (.slice cA Rn c4):=k0;refine tx1 1 hS0 ?_;refine tk1 0 ?_;intro K hK;go_simp;refine (zAN (-1) (by decide) (by decide) _).mono ?_;rintro e w1 ⟨⟨u,rfl,hu⟩,hb1⟩;have hd:Below W W W.drew:=(brf _ _).drew;have h1:Below W W w1:=hd.trans hb1;refine hK.out _ _ (cellK h1 k0) ?_;clear hK K;refine tk1 2 ?_;intro K hK;go_simp;refine (zQ1 (N:=3000) (k:=u) (s:=⟨cA,Rn,c4⟩) (hu.qis (L:=1) ⟨by decide +kernel,by decide +kernel⟩) (H.out.col.below (hbW.trans (h1.mono hBW))) (by show Rn<=_; omega) HL.out H1.out HFL.out).mono ?_;rintro e w2 ⟨⟨⟨sA,sn,sc⟩,rfl,hs⟩,hb2⟩;have h2:Below W W w2:=h1.trans (hb2.mono h1.size);refine hK.out _ _ (cellK h2 k0) ?_;clear hK K
 obtain rfl:Rn=sn:=by
  have e1:=hs.len;have e2:=H.out.col.len;rw [List.length_map,e2] at e1;exact e1
 have lgW:g<W.heap.size:=ltl lg hBW;have hs':VecIs w2 (fun x=>x ≠ g) (fun x=>x ≠ g) 3000 ⟨sA,Rn,sc⟩ (cl.map (-1*·)):=hs.imp (fun b _ hb=>by simp only [New] at hb; have:=h1.size; omega) fun _ _ hq=>hq.imp fun b _ hb=>by simp only [New] at hb; have:=h1.size; omega
 have hb02:=hbW.trans (h2.mono hBW);have bR2:=bR.below h2 s0;have bG2:=bG1.below h2 lgW;have hs2:=h2.size;have k2:=cellK h2 k0;clear hs hb1 hb2 hu h1 h2 hd bR hS0 bG1;obtain ⟨q0,q1,q2,q3,qf⟩:=id bG2;refine tk1 3 ?_;intro K hK;go_simp;refine hK.out _ _ k2 ?_;clear hK K;refine tk1 4 ?_;intro K hK;go_simp;have bRF:=bR2.setCell_ne (p:=⟨g,3,none⟩) (v:=.slice sA Rn sc) (by show g ≠ w.heap.size; omega);obtain ⟨hT,hQ,bGF,hf⟩:=(H.out.below hb02).store (B:=⟨sA,Rn,sc⟩) rfl hs' _ rfl;refine hK.out _ _ hT.bc ?_;clear hK K;refine zAf (by kernel_rfl) ?_ _;have HT:=hdq hT;have HQ:=hdq hQ;have hFR:=(Fr.of_below hb02).trans hf;have hWF:=hf.size;clear bG q0 q1 q2 q3 qf k0 k2 hT hQ hf bR2 bG2 hs' hb02;dsimp only [SV.val] at *;generalize w2.setCell ⟨g,3,none⟩ (.slice sA Rn sc)=WF at *;obtain ⟨k0,k1,k2,k3,kf⟩:=id bGF;go_wp2_with fail
 refine (zQZ (f:=fun t=>-(t+(os.getD 0 []).getD k 0)) (caps:=#[.pointer (some c1),.pointer (some ck)]) HQ.out rfl hV rfl (by show Rn<=5; omega) rfl HG.out HC.out (by omega) (fun _ _=>rfl) fun W' z' q' hb' hz' hf'=>by
  have hD:=HT.out.below hb';have h11:=zR2 (N:=100000000) hz' (LPIs.old' hD.lp) hD.po hk hD.b1 hD.bk (zBn (hf'.add (zAR (MatAt.fit hD.lp.obj 0 k))) (by omega)) (by rw [zAZ]; omega) HL.out (by rw [zAZ]; omega);simpa using h11).mono ?_
 rintro e w9 ⟨⟨b9,v9,o9,rfl,hl9,hL9⟩,hb9⟩;clear k0 k1 k2 k3 kf;have HL9:=hdq hL9;have bR9:=bRF.below hb9 (by omega);have bG9:=bGF.below hb9 (zAb bGF.1);have hF9:=hFR.trans (Fr.of_below hb9);have hl9':=hl9.low (show w.heap.size+1<=WF.heap.size by omega);obtain ⟨v0,v1,v2,v3,v4,-⟩:=bR9.stored (.bool b9) (.bool v9.num.ng) (.slice v9.num.A v9.num.n v9.num.c) (.bool v9.den.ng) (.slice v9.den.A v9.den.n v9.den.c);have hF5:=zRt (x0:=.bool b9) (x1:=.bool v9.num.ng) (x2:=.slice v9.num.A v9.num.n v9.num.c) (x3:=.bool v9.den.ng) (x4:=.slice v9.den.A v9.den.n v9.den.c) (b:=w) hF9 (nlr _);have HT5:=hdq (H.out.fr hF5 ⟨⟨sA,Rn,sc⟩,zRz bG9 (by omega)⟩);have HF5:=hdq hF5;have HO9:=hdq (hl9'.set5 (x0:=.bool b9) (x1:=.bool v9.num.ng) (x2:=.slice v9.num.A v9.num.n v9.num.c) (x3:=.bool v9.den.ng) (x4:=.slice v9.den.A v9.den.n v9.den.c) (b0:=w) (Nat.lt_succ_self _));clear hl9' hl9 hL9 hF5 hF9 hFR bG9 HT HQ bRF hb9 bGF;obtain ⟨r0,r1,r2,r3,r4,rf⟩:=bR9;dsimp only [limV] at *;go_wp2;try rw [Exit.noGoto_ret]
 exact bodyPost_ret (v:=limV b9 v9) (by simp [results,Tryz.results114,go_sem,v0,v1,v2,v3,v4,limV]) rfl ⟨⟨b9,v9,o9,rfl,HO9.out.low (Nat.le_succ _),HL9.out⟩,HT5.out,HF5.out⟩
theorem zSh {c3 cc ck:Nat} {vv:QV} {O cs:SV} {ol:List Rat} {rows:List (List Rat)} {v:Rat} (h:DirAt w c0 c1 g c3 cc ck V k n L p pl vv O R cs ol cl rows os rs bs q v) (hV:V<=4) (hn:n<=4) (hL:L<=40) (hg:ol.length<=V) (hcr:colsOf rows<=V) (hq0:q ≠ 0) (hqf:QFit 1000 q) (hvf:QFit 1000 v) :
  Calls Tryz.prog 108 #[.pointer (some c0),.pointer (some c1),.pointer (some g),.pointer (some c3)] w fun e w'=>LimRet w (prob1 V [ol] rows (bs.map (q⁻¹*·))) (fun t=>t-v*q⁻¹) e w'/\DirAt w' c0 c1 g c3 cc ck V k n L p pl vv O R cs ol cl rows os rs bs q v/\Fr (fun x=>x=g) w w':=by
 have H:=hdq h;have HC:=hdq hcr;have HG:=hdq (zQ8 hg);have HQ0:=hdq hq0;have fi:Lin.Fits 32000 q⁻¹:=(zAR hqf).inv;have FI:=hdq (zBn (L:=1001) fi (by omega))
 have HFB:Hid (∀ i,QFit 3000 ((bs.map (q⁻¹*·)).getD i 0)):=fun i=>by
  rw [zRw];exact zBn (fi.mul (zAR (VecAt.fit h.lp.bounds i))) (by omega)
 have HFV:Hid (QFit LM (v*q⁻¹)):=zBn (L:=LM) ((zAR hvf).mul fi) (by rw [zAZ]; omega);have HL:Hid (L<=LM):=hdq (by rw [zAZ]; omega);have H1:Hid (1<=LM):=hdq (by rw [zAZ]; omega);have HK:Hid (1000<=LM):=hdq (by rw [zAZ]; omega);have HK1:Hid (1001<=LM):=hdq (by rw [zAZ]; omega);have HQ1:Hid (QFit 1 ((1:Int):Rat)):=⟨by decide +kernel,by decide +kernel⟩;obtain ⟨B0,bG⟩:=h.prog;have b0:=h.b0;have b1:=h.b1;have e1:=h.pn;have e2:=h.on;have e3:=h.rn;have n0:=h.n0;have n1:=h.n1;have n3:=h.n3;obtain ⟨B0A,B0n,B0c⟩:=B0;obtain ⟨RA,Rn,Rc⟩:=R;obtain ⟨OA,On,Oc⟩:=O;obtain ⟨pz,⟨oA,on,oc⟩,⟨rA,rn,rc⟩,⟨bA,bn,bc⟩⟩:=p;dsimp only at e1 e2 e3;clear h hcr hg hqf hvf hq0 fi;subst e1 e2;cases e3;dsimp only [SV.val] at *;have lg:=zAb bG.1;have l0:=zAb b0.1;have l1:=zAb b1.1;dsimp only at lg l0 l1;go_enter Tryz.func108,Tryz.ntmps108
 go_upto_region 1 with fail
 refine zAo (fun W=>Below w w W/\Box5 W w (.bool false) (.bool false) (.slice none 0 0) (.bool false) (.slice none 0 0)/\w.heap.size<W.heap.size) ⟨(az (brf _ _)),⟨by go_simp,by go_simp,by go_simp,by go_simp,by go_simp,by intro o; go_simp⟩,by simp <;> omega⟩ ?_;rintro W ⟨hbW,bR,s0⟩;have hBW:=hbW.size;obtain ⟨d0,d1,d2,d3,-⟩:=b0.below hbW l0;have ltW0:c0<W.heap.size:=by omega
 go_cut [5,6] from 7 to 13 (fun p e W'=>CellQ W p q⁻¹ W'/\e = .int .i64 0)
 case first=>
  go_region_held3 (Sees w [] W) (exact kp)
   (first
    | (go_at_call 44; ((with_reducible refine (zAN 1 (by decide) (by decide) _).mono ?_); rintro e w3 ⟨⟨y,rfl,hy⟩,hb3⟩; (have sz3:W.heap.size<=w3.heap.size:=by exact nlt (Sees.kept (by assumption):Kept w [] W _).size hb3.size); (obtain ⟨hc3,hf3⟩:=bcell hb3); (have lt3:=fun (b:Nat) h=>ltl (n:=b) h hb3.size)))
    | (go_at_call 109; ((with_reducible refine (zEY (a:=y) (b:=pl) (hy.qis HQ1.out) (H.out.hq.below (hbW.trans ((Sees.kept (by assumption)).whole.mono hBW))) H1.out HK.out HQ0.out).mono ?_); rintro e w4 ⟨⟨x,rfl,hx⟩,hb4⟩; (have sz4:W.heap.size<=w4.heap.size:=by exact nlt (Sees.kept (by assumption):Kept w [] W _).size hb4.size); (obtain ⟨hc4,hf4⟩:=bcell hb4); (have lt4:=fun (b:Nat) h=>ltl (n:=b) h hb4.size)))
    | (go_at_call 109; ((with_reducible refine (zEY (a:=y) (b:=pl) ((hy.below (bal)).qis HQ1.out) (H.out.hq.below (hbW.trans ((Sees.kept (by assumption)).whole.mono hBW))) H1.out HK.out HQ0.out).mono ?_); rintro e w4 ⟨⟨x,rfl,hx⟩,hb4⟩; (have sz4:W.heap.size<=w4.heap.size:=by exact nlt (Sees.kept (by assumption):Kept w [] W _).size hb4.size); (obtain ⟨hc4,hf4⟩:=bcell hb4); (have lt4:=fun (b:Nat) h=>ltl (n:=b) h hb4.size)))
    | fail)
  focus
   rename_i hS;(go_wp2_with fail);go_meet
   case rel=>
    rw [Rat.div_def] at hx;exact ⟨⟨_,x,rfl,sz4,bx4,(zRa q⁻¹ ▸ hx.below (bal)).lower sz3,hS.kept.whole⟩,rfl⟩
  focus
   rename_i hS;(go_wp2_with fail);go_meet
   case rel=>
    rw [Rat.div_def] at hx;exact ⟨⟨_,x,rfl,sz3,bx4,(zRa q⁻¹ ▸ hx.set4 (by simp)).lower (by simp; omega),hS.kept.whole⟩,rfl⟩
  focus
   rename_i hS;(go_wp2_with fail);go_meet
   case rel=>
    rw [Rat.div_def] at hx;have b0:Box4 (W.alloc (.cells #[.bool false,.slice none 0 0,.bool false,.slice none 0 0] 30)).drew W (.bool false) (.slice none 0 0) (.bool false) (.slice none 0 0):=bx4;exact ⟨⟨_,x,rfl,nlr _,((b0.below hb3 (by simp)).below hb4 (lt3 _ (by simp))).stored _ _ _ _,(zRa q⁻¹ ▸ hx.set4 (lt3 _ (by simp))).lower (by omega),hS.kept.whole⟩,rfl⟩
 case rest=>
  obtain ⟨⟨ig,x,rfl,hig,bI,hx,hbc1⟩,rfl⟩:=hcut
  rename World=>W1
  have HX:=hdq (hx.qis FI.out);have bR1:=bR.below hbc1 s0;have hb1:=hbW.trans (hbc1.mono hBW);have hz1:=hbc1.size;clear d0 d1 d2 d3 hx hbc1 hbW bR;have sI:=zAb bI.1;dsimp only at sI;obtain ⟨p0,p1,p2,p3,-⟩:=b1.below hb1 l1;dsimp only at p0 p1 p2 p3;obtain ⟨x0,x1,x2,x3,-⟩:=id bI;go_wp2_with fail
  refine (zQ1 (N:=3000) (k:=x) (s:=⟨bA,Rn,bc⟩) HX.out ((H.out.below hb1).lp.bounds) (by show Rn<=_; omega) HL.out HK1.out HFB.out).mono ?_;rintro e w2 ⟨⟨⟨sA,sn,sc⟩,rfl,hs⟩,hb2⟩
  obtain rfl:Rn=sn:=by
   have e1:=hs.len;have e2:=H.out.lp.bounds.len;rw [List.length_map,e2] at e1;exact e1
  have hb02:=hb1.trans (hb2.mono hb1.size);have bR2:=bR1.below hb2 (by omega);have bI2:=bI.below hb2 sI;have bG2:=bG.below hb02 lg;have HX2:=hdq (HX.out.below hb2);have hz2:=hb2.size;have hs':VecIs w2 (fun x=>x ≠ g) (fun x=>x ≠ g) 3000 ⟨sA,Rn,sc⟩ (bs.map (q⁻¹*·)):=hs.imp (fun b _ hb=>by simp only [New] at hb; omega) fun _ _ hq=>hq.imp fun b _ hb=>by simp only [New] at hb; omega
  clear hs hb2 hb1 HX p0 p1 p2 p3 x0 x1 x2 x3 bR1 bI;obtain ⟨q0,q1,q2,q3,qf⟩:=id bG2;go_upto_region 5 with fail
  have bRF:=bR2.setCell_ne (p:=⟨g,3,none⟩) (v:=.slice sA Rn sc) (by show g ≠ w.heap.size; omega);have bIF:=bI2.setNe (p:=⟨g,3,none⟩) (v:=.slice sA Rn sc) (by show ig ≠ g; omega);obtain ⟨hT,hQ,bGF,hf⟩:=(H.out.below hb02).store (B:=⟨sA,Rn,sc⟩) rfl hs' _ rfl;have HT:=hdq hT;have HQ:=hdq hQ;have hXF:QIs (w2.setCell ⟨g,3,none⟩ (.slice sA Rn sc)) (fun y=>y ≠ g/\New W y) 1001 x q⁻¹:=(HX2.out.imp (Y:=fun y=>y ≠ g/\New W y) fun b _ hb=>⟨by simp only [New] at hb; omega,hb⟩).keep fun p hp _=>cob (bhs _ _ _ _ hp.1)
  have HXF:=hdq hXF;have hFR:=(Fr.of_below hb02).trans hf;have hWF:=hf.size;clear bG q0 q1 q2 q3 qf hT hQ hf bR2 bG2 hs' hb02 bI2 HX2 hXF;dsimp only [SV.val] at *;generalize w2.setCell ⟨g,3,none⟩ (.slice sA Rn sc)=WF at *;obtain ⟨k0,k1,k2,k3,kf⟩:=id bGF;go_wp2_with fail
  refine (zQZ (f:=fun t=>t-v*q⁻¹) (caps:=#[.pointer (some c3),.pointer (some ig)]) HQ.out rfl hV rfl (by show Rn<=5; omega) rfl HG.out HC.out (by omega) (fun _ _=>rfl) fun W' z' q' hb' hz' hf'=>by
   have hD:=HT.out.below hb';have h11:=zR1 hz' hD.b3 (bIF.below hb' (zAb bIF.1)) hD.hv (HXF.out.below hb') HFV.out (by rw [zAZ]; omega) HK.out HK1.out;simpa using h11).mono ?_
  rintro e w9 ⟨⟨b9,v9,o9,rfl,hl9,hL9⟩,hb9⟩;clear k0 k1 k2 k3 kf bIF HXF;have HL9:=hdq hL9;have bR9:=bRF.below hb9 (by omega);have bG9:=bGF.below hb9 (zAb bGF.1);have hF9:=hFR.trans (Fr.of_below hb9);have hl9':=hl9.low (show w.heap.size+1<=WF.heap.size by omega);obtain ⟨v0,v1,v2,v3,v4,-⟩:=bR9.stored (.bool b9) (.bool v9.num.ng) (.slice v9.num.A v9.num.n v9.num.c) (.bool v9.den.ng) (.slice v9.den.A v9.den.n v9.den.c);have hF5:=zRt (x0:=.bool b9) (x1:=.bool v9.num.ng) (x2:=.slice v9.num.A v9.num.n v9.num.c) (x3:=.bool v9.den.ng) (x4:=.slice v9.den.A v9.den.n v9.den.c) (b:=w) hF9 (nlr _);have HT5:=hdq (H.out.fr hF5 ⟨⟨sA,Rn,sc⟩,zRz bG9 (by omega)⟩);have HF5:=hdq hF5;have HO9:=hdq (hl9'.set5 (x0:=.bool b9) (x1:=.bool v9.num.ng) (x2:=.slice v9.num.A v9.num.n v9.num.c) (x3:=.bool v9.den.ng) (x4:=.slice v9.den.A v9.den.n v9.den.c) (b0:=w) (Nat.lt_succ_self _));clear hl9' hl9 hL9 hF5 hF9 hFR bG9 HT HQ bRF hb9 bGF;obtain ⟨r0,r1,r2,r3,r4,rf⟩:=bR9;dsimp only [limV] at *;go_wp2;try rw [Exit.noGoto_ret]
  exact bodyPost_ret (v:=limV b9 v9) (by simp [results,Tryz.results108,go_sem,v0,v1,v2,v3,v4,limV]) rfl ⟨⟨b9,v9,o9,rfl,HO9.out.low (Nat.le_succ _),HL9.out⟩,HT5.out,HF5.out⟩
end Go.Proofs.YtbpngececjihlaaGreat
