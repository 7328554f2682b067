/- Texts Rb2 Rb3 Rb4 Rc1 Rc2 Rc3 BnC BnQ BnR BnS BnT BnU BnV BnW of this claim. -/
import Derived.Test.YtpjaodcimomaiaaGreatS42
import Derived.Test.YtpjaodcimomaiaaGreatS43
import Derived.Test.YtpjaodcimomaiaaGreatS40
import Derived.Test.YtpjaodcimomaiaaGreatS36
set_option maxHeartbeats 4000000
set_option maxRecDepth 20000
namespace Go.Proofs.YtpjaodcimomaiaaGreat
open Go.RowKit
variable {n c m d L M g j:Nat} {A:Option Addr} {X Y:Nat->Prop} {w:World} {l:List Nat} {y z:Int} {q:Rat} {ng:Bool}
def GcLoop (w:World) (x y N:Nat) (k:Nat) (v1 v2:Value) (W:World):Prop:=
 ∃ (a b:Nat) (A:Option Addr) (n c:Nat) (B:Option Addr) (m d:Nat),k=b/\v1 = .slice A n c/\v2 = .slice B m d/\HAt W (New (w+1+1+1)) A n c (Hal.words a)/\HAt W (New (w+1+1+1)) B m d (Hal.words b)/\Nat.gcd a b=Nat.gcd x y/\n<=N/\m<=N/\Below w w W/\Box2 W (w+1+1) (.bool false) (.slice none 0 0)/\w+1+1<(W:Nat)
theorem zHO {B:Option Addr} {la lb:List Nat} (ng mg:Bool) (ha:WordsAt w X A n c la) (hb:WordsAt w Y B m d lb) (hn:n<=400000) (hm:m<=400000) :
  Calls Tryz.prog 210 #[.agg #[.bool ng,.slice A n c],.agg #[.bool mg,.slice B m d]] w fun e w'=>ZRet1 w ((Nat.gcd (Num.nat la) (Num.nat lb):Nat):Int) e w'/\Below w w w':=by
 have HLA:Hid ((Hal.words (Num.nat la)).length<=800000):=by
  have h1:=zCR ha.ok;rw [ha.len] at h1;show _<=_; omega
 have HLB:Hid ((Hal.words (Num.nat lb)).length<=800000):=by
  have h1:=zCR hb.ok;rw [hb.len] at h1;show _<=_; omega
 obtain ⟨x,hx⟩:∃ x,Num.nat la=x:=⟨_,rfl⟩;obtain ⟨y,hy⟩:∃ y,Num.nat lb=y:=⟨_,rfl⟩;rw [hx] at HLA ⊢;rw [hy] at HLB ⊢;have HX:=hdq hx;have HY:=hdq hy;clear hx hy;have HA:=hdq ha.old;have HB:=hdq hb.old;have HN:=hdq hn;have HM:=hdq hm;clear ha hb hn hm;go_enter Tryz.func210,Tryz.ntmps210
 go_wp2;refine zAo (fun W=>Below w w W/\Box2 W w (.bool ng) (.slice A n c)/\Box2 W (w+1) (.bool mg) (.slice B m d)/\Box2 W (w+1+1) (.bool false) (.slice none 0 0)/\w<(W:Nat)/\w+1<(W:Nat)/\w+1+1<(W:Nat)) ⟨(az (az (az (brf _ _)))),bx2,bx2,bx2,by simp <;> omega,by simp <;> omega,by simp <;> omega⟩ ?_;rintro W ⟨hbW,bA,bB,bR,s0,s1,s2⟩;have hBW:=hbW.size;have ne02:¬ (w=(w+1+1:Nat)):=by omega
 have HA2:=hdq (HA.out.below hbW);have HB2:=hdq (HB.out.below hbW);obtain ⟨a0,a1,-⟩:=id bA;obtain ⟨b0,b1,-⟩:=id bB;clear HA HB
 go_region_held3 (Sees w [] W) (exact kp)
  (first
   | (go_at_call 185; ((with_reducible refine (zAH (HA2.out.keptOld (Sees.kept (by assumption))) (by have:=HN.out; omega)).mono ?_); rintro e w1 ⟨⟨A1,n1,c1,rfl,-,h1⟩,hb1⟩))
   | (go_at_call 185; ((with_reducible refine (zAH (HB2.out.keptOld (Sees.kept (by assumption))) (by have:=HM.out; omega)).mono ?_); rintro e w2 ⟨⟨A2,n2,c2,rfl,-,h2⟩,hb2⟩))
   | fail)
 rename_i hS;have hW2:Below W W w2:=hS.kept.whole;have hB2:=hbW.trans (hW2.mono hBW);have hb1s:=hb1.size;simp only [World.size_drew] at hb1s;rw [HX.out] at h1;rw [HY.out] at h2;have e1:=h1.len;have e2:=h2.len;have H0:Hid (GcLoop w x y 800000 y (.slice A1 n1 c1) (.slice A2 n2 c2) w2):=⟨x,y,A1,n1,c1,A2,n2,c2,rfl,rfl,rfl,(h1.below hb2).low (by simp only [World.size_drew]; omega),h2.low (by omega),rfl,by rw [<-e1]; exact HLA.out,by rw [<-e2]; exact HLB.out,hB2,bR.below hW2 s2,ltl s2 hW2.size⟩;clear hS h1 h2 hb1 hb2 hW2 hB2 e1 e2 bA bB bR a0 a1 b0 b1 HA2 HB2 HLA HLB hb1s hbW hBW;go_wp2;go_loopg [5,6] y (fun k v1 v2 W=>GcLoop w x y 800000 k v1 v2 W)
 case atStart=>exact H0.out
 case round=>
  clear H0;obtain ⟨a,b,A1,n1,c1,A2,n2,c2,rfl,rfl,rfl,h1,h2,hg,l1,l2,hB,bR,sR⟩:=hrel;have Hg:=hdq hg;clear hg;by_cases hb0:gk=0
  ·subst hb0;have hn2:n2=0:=by rw [<-h2.len,Hal.words_zero]; rfl
   subst hn2;have ha:a=Nat.gcd x y:=by have:=Hg.out; rw [Nat.gcd_zero_right] at this; exact this
   have HA1:=hdq h1;have HEq:=hdq ha;obtain ⟨r0,r1,rf⟩:=id bR;clear h1 h2 ha;(go_wp2_with fail);refine (zCA false HA1.out (by omega)).mono ?_;rintro e w3 ⟨⟨ng',A',n',c',rfl,hz⟩,hb3⟩;rw [Hal.nat_words,HEq.out] at hz;have bR2:=bR.below hb3 sR;have sR2:=ltl sR hb3.size;have hBs:=hB.size;clear r0 r1 rf;obtain ⟨r0,r1,rf⟩:=id bR2;obtain ⟨v0,v1⟩:=bR2.stored (.bool ng') (.slice A' n' c');have hzf:=((hz.set (p:=⟨w+1+1,0,none⟩) sR (.bool ng')).set (p:=⟨w+1+1,1,none⟩) sR (.slice A' n' c')).lower (B':=w) hBs;have HZ:=hdq hzf;have hbf:=((hB.trans (hb3.mono hBs)).setCell (p:=⟨w+1+1,0,none⟩) (by show w<=(w+1+1:Nat); omega) (.bool ng')).setCell (p:=⟨w+1+1,1,none⟩) (by show w<=(w+1+1:Nat); omega) (.slice A' n' c');clear hz hzf hb3;go_wp2;exact bodyPost_ret (v:=.agg #[.bool ng',.slice A' n' c']) (by simp [results,Tryz.results210,go_sem,v0,v1]) rfl ⟨⟨_,_,_,_,rfl,HZ.out⟩,hbf⟩
  ·have hn2:0<n2:=by
    rcases Nat.eq_zero_or_pos n2 with h | h
    ·exact absurd (by rw [<-Hal.nat_words gk,List.eq_nil_of_length_eq_zero (h2.len.trans h)]; rfl) hb0
    ·exact h
   have hn2i:(0:Int)<(n2:Int):=(by omega);have HD:=hdq (zE2 h1 h2 (by omega) (by omega) (by omega));have H2:=hdq h2;have hlt:a % gk<gk:=Nat.mod_lt _ (by omega);clear h1 h2;(go_wp2_with fail);refine HD.out.mono ?_;rintro e w3 ⟨⟨A3,n3,c3,A4,n4,c4,rfl,h3,h4⟩,hb3⟩;have hBs:=hB.size
   have Hfin:Hid (GcLoop w x y 800000 (a % gk) (.slice A2 n2 c2) (.slice A4 n4 c4) w3):=⟨gk,a % gk,A2,n2,c2,A4,n4,c4,rfl,rfl,rfl,H2.out.below hb3,h4.low (by omega),by rw [<-Hg.out,Nat.gcd_comm a gk,Nat.gcd_rec gk a,Nat.gcd_comm],l2,by
    have h5:=zBF (Nat.le_of_lt hlt);rw [h4.len,H2.out.len] at h5; omega,hB.trans (hb3.mono hBs),bR.below hb3 sR,ltl sR hb3.size⟩
   clear h3 h4 hb3 hB bR;go_wp2;(go_roundg (a % gk));case rel=>exact fn_ Hfin.out
   case measure=>exact hlt
def DivZ (w:World) (z:Int) (e:Ending) (w':World):Prop:=
 ∃ ng A n c ng2 A2 n2 c2,e = .returned (.tuple #[.agg #[.bool ng,.slice A n c],.agg #[.bool ng2,.slice A2 n2 c2],.int .i64 0])/\ZAt w' (New w) ng A n c z
theorem zEZ {B:Option Addr} {la lb:List Nat} (ng mg:Bool) (ha:WordsAt w X A n c la) (hb:WordsAt w Y B m d lb) (hn:n<=400000) (hm:m<=400000) (hb0:Num.nat lb ≠ 0) (hdv:Num.nat la % Num.nat lb=0) :
  Calls Tryz.prog 211 #[.agg #[.bool ng,.slice A n c],.agg #[.bool mg,.slice B m d]] w fun e w'=>DivZ w (zval (ng != mg) (Num.nat la / Num.nat lb)) e w'/\Below w w w':=by
 have HLA:Hid ((Hal.words (Num.nat la)).length<=800000):=by
  have h1:=zCR ha.ok;rw [ha.len] at h1;show _<=_; omega
 have HLB:Hid ((Hal.words (Num.nat lb)).length<=800000):=by
  have h1:=zCR hb.ok;rw [hb.len] at h1;show _<=_; omega
 obtain ⟨x,hx⟩:∃ x,Num.nat la=x:=⟨_,rfl⟩;obtain ⟨y,hy⟩:∃ y,Num.nat lb=y:=⟨_,rfl⟩;rw [hx] at HLA hdv ⊢;rw [hy] at HLB hdv hb0 ⊢;have HX:=hdq hx;have HY:=hdq hy;have HDv:=hdq hdv;have HB0:=hdq hb0;clear hx hy hdv hb0;have HA:=hdq ha.old;have HB:=hdq hb.old;have HN:=hdq hn;have HM:=hdq hm;clear ha hb hn hm;go_enter Tryz.func211,Tryz.ntmps211
 go_wp2;refine zAo (fun W=>Below w w W/\Box2 W w (.bool ng) (.slice A n c)/\Box2 W (w+1) (.bool mg) (.slice B m d)/\Box2 W (w+1+1) (.bool false) (.slice none 0 0)/\Box2 W (w+1+1+1) (.bool false) (.slice none 0 0)/\w<(W:Nat)/\w+1<(W:Nat)/\w+1+1<(W:Nat)/\w+1+1+1<(W:Nat)) ⟨(az (az (az (az (brf _ _))))),bx2,bx2,bx2,bx2,by simp <;> omega,by simp <;> omega,by simp <;> omega,by simp <;> omega⟩ ?_;rintro W ⟨hbW,bA,bB,bR,bS,s0,s1,s2,s3⟩;have hBW:=hbW.size;have ne02:¬ (w=(w+1+1:Nat)):=by omega
 have ne03:¬ (w=(w+1+1+1:Nat)):=by omega
 have ne13:¬ (w+1=(w+1+1+1:Nat)):=by omega
 have HA2:=hdq (HA.out.below hbW);have HB2:=hdq (HB.out.below hbW);obtain ⟨a0,a1,-⟩:=id bA;obtain ⟨b0,b1,-⟩:=id bB;clear HA HB
 go_region_held3 (Sees w [] W) (exact kp)
  (first
   | (go_at_call 185; ((with_reducible refine (zAH (HA2.out.keptOld (Sees.kept (by assumption))) (by have:=HN.out; omega)).mono ?_); rintro e w1 ⟨⟨A1,n1,c1,rfl,-,h1⟩,hb1⟩))
   | (go_at_call 185; ((with_reducible refine (zAH (HB2.out.keptOld (Sees.kept (by assumption))) (by have:=HM.out; omega)).mono ?_); rintro e w2 ⟨⟨A2,n2,c2,rfl,-,h2⟩,hb2⟩))
   | fail)
 rename_i hS;have hW2:Below W W w2:=hS.kept.whole;have hB2:=hbW.trans (hW2.mono hBW);rw [HX.out] at h1;rw [HY.out] at h2;have e1:=h1.len;have e2:=h2.len;have H1:=hdq (h1.below hb2);have H2:=hdq h2;have l1:n1<=800000:=by rw [<-e1]; exact HLA.out
 have l2:n2<=800000:=by rw [<-e2]; exact HLB.out
 have hn2:((n2:Int) == 0)=false:=by
  have:n2 ≠ 0:=fun h=>HB0.out (by rw [<-Hal.nat_words y,List.eq_nil_of_length_eq_zero (e2.trans h)]; rfl)
  simp; omega
 have HD:=hdq (zE2 H1.out H2.out (Nat.pos_of_ne_zero HB0.out) (by omega) (by omega));replace bA:=bA.below hW2 s0;replace bB:=bB.below hW2 s1;replace bR:=bR.below hW2 s2;replace bS:=bS.below hW2 s3;replace s3:=ltl s3 hW2.size;clear hS h1 h2 hb1 hb2 e1 e2 a0 a1 b0 b1 HA2 HB2 HLA HLB hbW hW2 s0 s1 s2;go_wp2_with fail
 refine HD.out.mono ?_;rintro e w3 ⟨⟨A3,n3,c3,A4,n4,c4,rfl,h3,h4⟩,hb3⟩;rw [HDv.out] at h4;have hn4:n4=0:=by rw [<-h4.len,Hal.words_zero]; rfl
 subst hn4;have hB3:=hB2.trans (hb3.mono hB2.size);replace bA:=bA.below hb3 (by omega);replace bB:=bB.below hb3 (by omega);replace bR:=bR.below hb3 (by omega);replace bS:=bS.below hb3 s3;have s3':=ltl s3 hb3.size;obtain ⟨a0,a1,-⟩:=id bA;obtain ⟨b0,b1,-⟩:=id bB
 have l3:n3<=800000:=by
  have:=zBF (Nat.div_le_self x y);rw [h3.len,H1.out.len] at this; omega
 have H3:=hdq h3;have H4:=hdq h4;have hb3s:=hb3.size;clear h3 h4 HD;cases ng
 all_goals
  go_wp2_with fail
  refine (zCA _ H3.out (by omega)).mono ?_;rintro e w4 ⟨⟨ng',A',n',c',rfl,hz⟩,hb4⟩;have HZ:=hdq hz;clear hz;go_wp2_with fail
  refine (zCA false (H4.out.below hb4) (by omega)).mono ?_;rintro e w5 ⟨⟨ng2,A2',n2',c2',rfl,hz2⟩,hb5⟩;have hb45:=hb4.trans (hb5.mono hb4.size);have bR5:=bR.below hb45 (by omega);have bS5:=bS.below hb45 s3';obtain ⟨r0,r1,rf⟩:=id bR5;obtain ⟨q0,q1,qf⟩:=id bS5;have s5:=ltl s3' hb45.size;have hB5:=hB3.trans (hb45.mono hB3.size);have hzf:=HZ.out.below hb5;rw [Hal.nat_words] at hzf;have HZF:=hdq hzf;clear hz2 hzf hb4 hb5 HZ a0 a1 b0 b1;have bR6:=bR5.restored (.bool ng') (.slice A' n' c');have bS6:=(bS5.far2 (b':=w+1+1) (o:=0) (by omega) (.bool ng')).far2 (b':=w+1+1) (o:=1) (by omega) (.slice A' n' c');have bS7:=bS6.restored (.bool ng2) (.slice A2' n2' c2');have bR7:=(bR6.far2 (b':=w+1+1+1) (o:=0) (by omega) (.bool ng2)).far2 (b':=w+1+1+1) (o:=1) (by omega) (.slice A2' n2' c2');have hB7:=(((hB5.setCell (p:=⟨w+1+1,0,none⟩) (by show w<=(w+1+1:Nat); omega) (.bool ng')).setCell (p:=⟨w+1+1,1,none⟩) (by show w<=(w+1+1:Nat); omega) (.slice A' n' c')).setCell (p:=⟨w+1+1+1,0,none⟩) (by show w<=(w+1+1+1:Nat); omega) (.bool ng2)).setCell (p:=⟨w+1+1+1,1,none⟩) (by show w<=(w+1+1+1:Nat); omega) (.slice A2' n2' c2');have hB3s:=hB3.size;have HZ7:=hdq ((((HZF.out.set (p:=⟨w+1+1,0,none⟩) (by show w+1+1<(w3:Nat); omega) (.bool ng')).set (p:=⟨w+1+1,1,none⟩) (by show w+1+1<(w3:Nat); omega) (.slice A' n' c')).set (p:=⟨w+1+1+1,0,none⟩) (by show w+1+1+1<(w3:Nat); omega) (.bool ng2)).set (p:=⟨w+1+1+1,1,none⟩) (by show w+1+1+1<(w3:Nat); omega) (.slice A2' n2' c2'));clear bR6 bS6 hB3 hB5 HZF bR5 bS5;go_wp2;generalize (((w5.setCell ⟨w+1+1,0,none⟩ (.bool ng')).setCell ⟨w+1+1,1,none⟩ (.slice A' n' c')).setCell ⟨w+1+1+1,0,none⟩ (.bool ng2)).setCell ⟨w+1+1+1,1,none⟩ (.slice A2' n2' c2')=W9 at *;obtain ⟨v0,v1,-⟩:=bR7;obtain ⟨v2,v3,-⟩:=bS7;refine bodyPost_ret (v:=.tuple #[.agg #[.bool ng',.slice A' n' c'],.agg #[.bool ng2,.slice A2' n2' c2'],.int .i64 0]) (by simp [results,Tryz.results211,go_sem,v0,v1,v2,v3]) rfl ⟨⟨_,_,_,_,_,_,_,_,rfl,?_⟩,hB7⟩;have:=HZ7.out.lower (B':=w) (by omega);cases mg <;> simpa using this
theorem zCs (h:WordsAt w X A n c l) (hn:n<=100000000000) (h0:Num.nat l ≠ 0) :
  Calls Tryz.prog 214 #[.agg #[.bool false,.slice A n c]] w fun e w'=>e = .returned (.int .i64 1)/\Below w w w':=
 (zBJ false h hn).mono fun e w' ⟨h1,h2⟩=>⟨by rw [h1]; simp [zsign,h0],h2⟩
theorem zGF {B:Option Addr} {la lb:List Nat} (ha:WordsAt w X A n c la) (hb:WordsAt w Y B m d lb) (hn:n<=400000) (hm:m<=400000) (ha0:Num.nat la ≠ 0) (hb0:Num.nat lb ≠ 0) :
  Calls Tryz.prog 212 #[.agg #[.bool false,.slice A n c],.agg #[.bool false,.slice B m d]] w fun e w'=>e = .returned (.int .i64 (cmpN (Num.nat la) (Num.nat lb)))/\Below w w w':=by
 obtain ⟨o,ho⟩:∃ o,cmpN (Num.nat la) (Num.nat lb)=o:=⟨_,rfl⟩;rw [ho];have HO:=hdq ho;clear ho;have HA:=hdq ha.old;have HB:=hdq hb.old;have HN:=hdq hn;have HM:=hdq hm;have HA0:=hdq ha0;have HB0:=hdq hb0;clear ha hb hn hm ha0 hb0;go_enter Tryz.func212,Tryz.ntmps212
 go_wp2;refine zAo (fun W=>Below w w W/\Box2 W w (.bool false) (.slice A n c)/\Box2 W (w+1) (.bool false) (.slice B m d)/\w<(W:Nat)/\w+1<(W:Nat)) ⟨(az (az (brf _ _))),bx2,bx2,by simp <;> omega,by simp <;> omega⟩ ?_;rintro W ⟨hbW,bA,bB,s0,s1⟩;have hBW:=hbW.size;have HA2:=hdq (HA.out.below hbW);have HB2:=hdq (HB.out.below hbW);obtain ⟨a0,a1,-⟩:=id bA;obtain ⟨b0,b1,-⟩:=id bB;clear HA HB
 go_region_held3 (Sees w [] W) (exact kp)
  (first
   | (go_at_call 214; ((with_reducible refine (zCs (HA2.out.keptOld (Sees.kept (by assumption))) (by have:=HN.out; omega) HA0.out).mono ?_); rintro e w1 ⟨rfl,hb1⟩))
   | (go_at_call 214; ((with_reducible refine (zCs (HB2.out.keptOld (Sees.kept (by assumption))) (by have:=HM.out; omega) HB0.out).mono ?_); rintro e w2 ⟨rfl,hb2⟩))
   | fail)
 rename_i hS;go_wp2
 go_region_held3 (Sees w [] W) (exact kp)
  (first
   | (go_at_call 185; ((with_reducible refine (zAH (HA2.out.keptOld (Sees.kept (by assumption))) (by have:=HN.out; omega)).mono ?_); rintro e w3 ⟨⟨A1,n1,c1,rfl,-,h1⟩,hb3⟩))
   | (go_at_call 185; ((with_reducible refine (zAH (HB2.out.keptOld (Sees.kept (by assumption))) (by have:=HM.out; omega)).mono ?_); rintro e w4 ⟨⟨A2,n2,c2,rfl,-,h2⟩,hb4⟩))
   | (go_at_call 236; ((with_reducible refine (zE1 (h1.below hb4) h2).mono ?_); rintro e w5 ⟨rfl,rfl⟩))
   | fail)
 rename_i hS2;rw [Hal.nat_words,Hal.nat_words,HO.out];have hS3:=hS2.kept.whole;have hbf:=hbW.trans (hS3.mono hBW);have HA4:=hdq (HA2.out.below hS3);clear hS hS2 h1 h2 hb1 hb2 hb3 hb4;obtain ⟨a0',a1',-⟩:=bA.below hS3 s0;clear a0 a1 b0 b1;go_wp2_with fail
 refine (zCs HA4.out (by have:=HN.out; omega) HA0.out).mono ?_;rintro e w6 ⟨rfl,hb6⟩;have hbf2:=hbf.trans (hb6.mono hbf.size);go_wp2;go_ret;exact ⟨rfl,hbf2⟩
theorem zHQ {v:QV} {x r:Int} (hr:r=if y<0 then -x else x) (hx:ZIs w X L v.num x) (hy:ZIs w Y M v.den y) (hL:L<=400000) (hM:M<=400000) :
  Calls Tryz.prog 170 #[v.val] w fun e w'=>ZRet1 w r e w'/\Below w w w':=by
 have HR:=hdq hr;clear hr;obtain ⟨lx,hlx,hln,ex⟩:=hx;obtain ⟨ly,hly,hlm,ey⟩:=hy;have HX:=hdq hlx.old;have HY:=hdq hly.old;have HN:Hid (v.num.n<=400000):=nlt hln hL;have HM:Hid (v.den.n<=400000):=nlt hlm hM;have hsg:zsign v.den.ng (Num.nat ly)<0 ↔ y<0:=by rw [ey]; exact zI4
 have HEx:=hdq ex;have HSg:=hdq hsg;clear hlx hly hln hlm hL hM ex ey hsg;obtain ⟨s,hs⟩:∃ s,zsign v.den.ng (Num.nat ly)=s:=⟨_,rfl⟩;rw [hs] at HSg;have HS:=hdq hs;clear hs;by_cases hneg:s<0
 ·have hif:Hid (r=-x):=by show _=_; rw [HR.out,if_pos (HSg.out.1 hneg)]
  go_enter Tryz.func170,Tryz.ntmps170
  go_wp2_with fail
  refine zAg (fun W=>Below w w W/\Box4 W w (.bool v.num.ng) (.slice v.num.A v.num.n v.num.c) (.bool v.den.ng) (.slice v.den.A v.den.n v.den.c)/\Box2 W (w+1) (.bool false) (.slice none 0 0)/\w<(W:Nat)/\w+1<(W:Nat)) ⟨(az (az (brf _ _))),bx4,bx2,by simp <;> omega,by simp <;> omega⟩ ?_;rintro W ⟨hbW,bA,bR,s0,s1⟩;have hBW:=hbW.size;refine (zBJ v.den.ng (HY.out.below hbW) (by have:=HM.out; omega)).mono ?_;rw [HS.out];rintro e w1 ⟨rfl,hb1⟩;obtain ⟨a0,a1,a2,a3,-⟩:=bA.below hb1 s0;have HX1:=hdq ((HX.out.below hbW).below hb1);go_wp2_with fail
  refine (zHP v.num.ng HX1.out (by have:=HN.out; omega)).mono ?_;rintro e w2 ⟨⟨ng',A',n',c',rfl,hz⟩,hb2⟩;have hb12:=hb1.trans (hb2.mono hb1.size);have bR2:=bR.below hb12 s1;have sR2:=ltl s1 hb12.size;have hb1s:=hb1.size;obtain ⟨r0,r1,rf⟩:=id bR2;obtain ⟨v0,v1⟩:=bR2.stored (.bool ng') (.slice A' n' c');have hzf:=((hz.set (p:=⟨w+1,0,none⟩) (by show w+1<(w1:Nat); omega) (.bool ng')).set (p:=⟨w+1,1,none⟩) (by show w+1<(w1:Nat); omega) (.slice A' n' c')).lower (B':=w) (by omega);have HZ:=hdq hzf;have hbf:=((hbW.trans (hb12.mono hBW)).setCell (p:=⟨w+1,0,none⟩) (by simp) (.bool ng')).setCell (p:=⟨w+1,1,none⟩) (by simp) (.slice A' n' c');clear hz hzf hb1 hb2 hb12;go_wp2;exact bodyPost_ret (v:=.agg #[.bool ng',.slice A' n' c']) (by simp [results,Tryz.results170,go_sem,v0,v1]) rfl ⟨⟨_,_,_,_,rfl,by rw [hif.out,HEx.out]; exact HZ.out⟩,hbf⟩
 ·have hif:Hid (r=x):=by show _=_; rw [HR.out,if_neg fun h=>hneg (HSg.out.2 h)]
  go_enter Tryz.func170,Tryz.ntmps170
  go_wp2_with fail
  refine zAg (fun W=>Below w w W/\Box4 W w (.bool v.num.ng) (.slice v.num.A v.num.n v.num.c) (.bool v.den.ng) (.slice v.den.A v.den.n v.den.c)/\Box2 W (w+1) (.bool false) (.slice none 0 0)/\w<(W:Nat)/\w+1<(W:Nat)) ⟨(az (az (brf _ _))),bx4,bx2,by simp <;> omega,by simp <;> omega⟩ ?_;rintro W ⟨hbW,bA,bR,s0,s1⟩;have hBW:=hbW.size;refine (zBJ v.den.ng (HY.out.below hbW) (by have:=HM.out; omega)).mono ?_;rw [HS.out];rintro e w1 ⟨rfl,hb1⟩;obtain ⟨a0,a1,a2,a3,-⟩:=bA.below hb1 s0;have HX1:=hdq ((HX.out.below hbW).below hb1);go_wp2_with fail
  refine (zCr v.num.ng HX1.out (by have:=HN.out; omega)).mono ?_;rintro e w2 ⟨⟨ng',A',n',c',rfl,hz⟩,hb2⟩;have hb12:=hb1.trans (hb2.mono hb1.size);have bR2:=bR.below hb12 s1;have sR2:=ltl s1 hb12.size;have hb1s:=hb1.size;obtain ⟨r0,r1,rf⟩:=id bR2;obtain ⟨v0,v1⟩:=bR2.stored (.bool ng') (.slice A' n' c');have hzf:=((hz.set (p:=⟨w+1,0,none⟩) (by show w+1<(w1:Nat); omega) (.bool ng')).set (p:=⟨w+1,1,none⟩) (by show w+1<(w1:Nat); omega) (.slice A' n' c')).lower (B':=w) (by omega);have HZ:=hdq hzf;have hbf:=((hbW.trans (hb12.mono hBW)).setCell (p:=⟨w+1,0,none⟩) (by simp) (.bool ng')).setCell (p:=⟨w+1,1,none⟩) (by simp) (.slice A' n' c');clear hz hzf hb1 hb2 hb12;go_wp2;exact bodyPost_ret (v:=.agg #[.bool ng',.slice A' n' c']) (by simp [results,Tryz.results170,go_sem,v0,v1]) rfl ⟨⟨_,_,_,_,rfl,by rw [hif.out,HEx.out]; exact HZ.out⟩,hbf⟩
theorem zDz :Calls Tryz.prog 213 #[] w fun e w'=>ZRet1 w 1 e w'/\Below w w w':=by
 go_enter Tryz.func213,Tryz.ntmps213
 go_wp2_with fail
 refine zAg (fun W=>Below w w W/\Box2 W w (.bool false) (.slice none 0 0)/\w<(W:Nat)) ⟨(az (brf _ _)),bx2,by simp <;> omega⟩ ?_;rintro W ⟨hbW,bR,s0⟩;have hBW:=hbW.size;refine (zB9 1 (by decide) (by decide) (by decide)).mono ?_;rintro e w1 ⟨⟨ng',A',n',c',rfl,hz⟩,hb1⟩;have bR2:=bR.below hb1 s0;obtain ⟨r0,r1,rf⟩:=id bR2;obtain ⟨v0,v1⟩:=bR2.stored (.bool ng') (.slice A' n' c');have sR2:=ltl s0 hb1.size;have hzf:=((hz.set (p:=w) s0 (.bool ng')).set (p:=⟨w,1,none⟩) s0 (.slice A' n' c')).lower (B':=w) hBW;have HZ:=hdq hzf;have hbf:=((hbW.trans (hb1.mono hBW)).setCell (p:=w) (nlr _) (.bool ng')).setCell (p:=⟨w,1,none⟩) (nlr _) (.slice A' n' c');clear hz hzf hb1;go_wp2;exact bodyPost_ret (v:=.agg #[.bool ng',.slice A' n' c']) (by simp [results,Tryz.results213,go_sem,v0,v1]) rfl ⟨⟨_,_,_,_,rfl,HZ.out⟩,hbf⟩
theorem zHN {v:QV} {r:Int} (hr:r=if y=0 then 1 else (y.natAbs:Int)) (hy:ZIs w Y M v.den y) (hM:M<=400000) :
  Calls Tryz.prog 171 #[v.val] w fun e w'=>ZRet1 w r e w'/\Below w w w':=by
 have HR:=hdq hr;clear hr;obtain ⟨ly,hly,hlm,ey⟩:=hy;have HY:=hdq hly.old;have HM:Hid (v.den.n<=400000):=nlt hlm hM;have hsg:zsign v.den.ng (Num.nat ly)=0 ↔ y=0:=by rw [ey]; unfold zsign zval; split <;> (try split) <;> simp_all <;> omega
 have habs:y.natAbs=Num.nat ly:=by rw [ey]; unfold zval; split <;> omega
 have HAb:=hdq habs;have HSg:=hdq hsg;clear hly hlm hM ey hsg habs;obtain ⟨s,hs⟩:∃ s,zsign v.den.ng (Num.nat ly)=s:=⟨_,rfl⟩;rw [hs] at HSg;have HS:=hdq hs;clear hs;by_cases h0:s=0
 ·have hif:Hid (r=1):=by show _=_; rw [HR.out,if_pos (HSg.out.1 h0)]
  subst h0;go_enter Tryz.func171,Tryz.ntmps171
  go_wp2_with fail
  refine zAg (fun W=>Below w w W/\Box4 W w (.bool v.num.ng) (.slice v.num.A v.num.n v.num.c) (.bool v.den.ng) (.slice v.den.A v.den.n v.den.c)/\Box2 W (w+1) (.bool false) (.slice none 0 0)/\w<(W:Nat)/\w+1<(W:Nat)) ⟨(az (az (brf _ _))),bx4,bx2,by simp <;> omega,by simp <;> omega⟩ ?_;rintro W ⟨hbW,bA,bR,s0,s1⟩;have hBW:=hbW.size;refine (zBJ v.den.ng (HY.out.below hbW) (by have:=HM.out; omega)).mono ?_;rw [HS.out];rintro e w1 ⟨rfl,hb1⟩;go_wp2_with fail
  refine zDz.mono ?_;rintro e w2 ⟨⟨ng',A',n',c',rfl,hz⟩,hb2⟩;have hb12:=hb1.trans (hb2.mono hb1.size);have bR2:=bR.below hb12 s1;have sR2:=ltl s1 hb12.size;have hb1s:=hb1.size;obtain ⟨r0,r1,rf⟩:=id bR2;obtain ⟨v0,v1⟩:=bR2.stored (.bool ng') (.slice A' n' c');have hzf:=((hz.set (p:=⟨w+1,0,none⟩) (by show w+1<(w1:Nat); omega) (.bool ng')).set (p:=⟨w+1,1,none⟩) (by show w+1<(w1:Nat); omega) (.slice A' n' c')).lower (B':=w) (by omega);have HZ:=hdq hzf;have hbf:=((hbW.trans (hb12.mono hBW)).setCell (p:=⟨w+1,0,none⟩) (by simp) (.bool ng')).setCell (p:=⟨w+1,1,none⟩) (by simp) (.slice A' n' c');clear hz hzf hb1 hb2 hb12;go_wp2;exact bodyPost_ret (v:=.agg #[.bool ng',.slice A' n' c']) (by simp [results,Tryz.results171,go_sem,v0,v1]) rfl ⟨⟨_,_,_,_,rfl,by rw [hif.out]; exact HZ.out⟩,hbf⟩
 ·have hif:Hid (r=((Num.nat ly:Nat):Int)):=by show _=_; rw [HR.out,if_neg fun h=>h0 (HSg.out.2 h),HAb.out]
  have hb0:(s == 0)=false:=by simpa using h0
  go_enter Tryz.func171,Tryz.ntmps171
  go_wp2_with fail
  refine zAg (fun W=>Below w w W/\Box4 W w (.bool v.num.ng) (.slice v.num.A v.num.n v.num.c) (.bool v.den.ng) (.slice v.den.A v.den.n v.den.c)/\Box2 W (w+1) (.bool false) (.slice none 0 0)/\w<(W:Nat)/\w+1<(W:Nat)) ⟨(az (az (brf _ _))),bx4,bx2,by simp <;> omega,by simp <;> omega⟩ ?_;rintro W ⟨hbW,bA,bR,s0,s1⟩;have hBW:=hbW.size;refine (zBJ v.den.ng (HY.out.below hbW) (by have:=HM.out; omega)).mono ?_;rw [HS.out];rintro e w1 ⟨rfl,hb1⟩;obtain ⟨a0,a1,a2,a3,-⟩:=bA.below hb1 s0;have HY1:=hdq ((HY.out.below hbW).below hb1);go_wp2_with fail
  refine (zHM v.den.ng HY1.out (by have:=HM.out; omega)).mono ?_;rintro e w2 ⟨⟨ng',A',n',c',rfl,hz⟩,hb2⟩;have hb12:=hb1.trans (hb2.mono hb1.size);have bR2:=bR.below hb12 s1;have sR2:=ltl s1 hb12.size;have hb1s:=hb1.size;obtain ⟨r0,r1,rf⟩:=id bR2;obtain ⟨v0,v1⟩:=bR2.stored (.bool ng') (.slice A' n' c');have hzf:=((hz.set (p:=⟨w+1,0,none⟩) (by show w+1<(w1:Nat); omega) (.bool ng')).set (p:=⟨w+1,1,none⟩) (by show w+1<(w1:Nat); omega) (.slice A' n' c')).lower (B':=w) (by omega);have HZ:=hdq hzf;have hbf:=((hbW.trans (hb12.mono hBW)).setCell (p:=⟨w+1,0,none⟩) (by simp) (.bool ng')).setCell (p:=⟨w+1,1,none⟩) (by simp) (.slice A' n' c');clear hz hzf hb1 hb2 hb12;go_wp2;exact bodyPost_ret (v:=.agg #[.bool ng',.slice A' n' c']) (by simp [results,Tryz.results171,go_sem,v0,v1]) rfl ⟨⟨_,_,_,_,rfl,by rw [hif.out]; exact HZ.out⟩,hbf⟩
theorem zIA {x:Int} (hy:0<y) (hq:q=(x:Rat) / (y:Rat)) (hg:g=Nat.gcd x.natAbs y.natAbs) :
  g ≠ 0/\x.natAbs % g=0/\y.natAbs % g=0/\x.natAbs / g=q.num.natAbs/\y.natAbs / g=q.den/\(x<0 ↔ q.num<0):=by
 obtain ⟨m,hm,hx,hyy⟩:=zEf hy hq;have hx2:x.natAbs=q.num.natAbs*m:=by rw [hx,Int.natAbs_mul]; simp
 have hy2:y.natAbs=q.den*m:=by rw [hyy,Int.natAbs_mul]; simp
 have hgm:g=m:=by
  rw [hg,hx2,hy2,Nat.gcd_mul_right];have:Nat.gcd q.num.natAbs q.den=1:=q.reduced;rw [this,Nat.one_mul]
 subst hgm;have hmp:0<g:=by omega
 refine ⟨hm,by rw [hx2,Nat.mul_mod_left],by rw [hy2,Nat.mul_mod_left],by rw [hx2,Nat.mul_div_cancel _ hmp],by rw [hy2,Nat.mul_div_cancel _ hmp],?_⟩;have hmi:(0:Int)<(g:Int):=by omega
 constructor
 ·intro h;rw [hx] at h;rcases (by omega:q.num<0\/0<=q.num) with h1 | h1
  ·exact h1
  ·have:=Int.mul_nonneg h1 (Int.le_of_lt hmi); omega
 ·intro h;rw [hx];have:=Int.mul_neg_of_neg_of_pos h hmi; exact this
theorem zEx {B:Option Addr} {y:Nat} (o:Int) (ho:cmpN y 1=o) (hy:0<y) (ha:WordsAt w X A n c (Num.words y)) (hb:WordsAt w Y B m d (Num.words (Int.natAbs 1))) (hn:n<=400000) :
  Calls Tryz.prog 212 #[.agg #[.bool false,.slice A n c],.agg #[.bool false,.slice B m d]] w fun e w'=>e = .returned (.int .i64 o)/\Below w w w':=by
 have h1:Num.nat (Num.words (Int.natAbs 1))=1:=by rw [Num.nat_words]; rfl
 have hm:m<=400000:=by
  rw [<-hb.len];exact nlt (Num.words_length_le (k:=1) (by decide)) (by decide)
 refine (zGF ha hb hn hm (by rw [Num.nat_words]; omega) (by rw [h1]; decide)).mono ?_;rw [h1,Num.nat_words,ho];exact fun _ _ h=>h
theorem zHE {B:Option Addr} {mg:Bool} {x:Int} (ha:ZAt w X ng A n c x) (hb:ZAt w Y mg B m d y) (hn:n<=400000) (hm:m<=400000) (hy:0<y) (hq:q=(x:Rat) / (y:Rat)) :
  Calls Tryz.prog 169 #[.agg #[.bool ng,.slice A n c],.agg #[.bool mg,.slice B m d]] w fun e w'=>QRet w q e w'/\Below w w w':=by
 obtain ⟨g,hg⟩:∃ g,g=Nat.gcd x.natAbs y.natAbs:=⟨_,rfl⟩;obtain ⟨m1,m2,m3,m4,m5,m6⟩:=zIA hy hq hg;have hmg:mg=false:=by rw [hb.sign]; simp; omega
 subst hmg;have hng:ng=decide (q.num<0):=by rw [ha.sign]; simp [m6]
 have HA:=hdq ha.words.old;have HB:=hdq hb.words.old;have HN:=hdq hn;have HM:=hdq hm;have hgx:Hid (Nat.gcd (Num.nat (Num.words x.natAbs)) (Num.nat (Num.words y.natAbs))=g):=by show _=_; rw [Num.nat_words,Num.nat_words]; exact hg.symm
 have M1:=hdq m1;have M2:Hid (Num.nat (Num.words x.natAbs) % Num.nat (Num.words g)=0):=by show _=_; rw [Num.nat_words,Num.nat_words]; exact m2
 have M3:Hid (Num.nat (Num.words y.natAbs) % Num.nat (Num.words g)=0):=by show _=_; rw [Num.nat_words,Num.nat_words]; exact m3
 have M4:Hid (Num.nat (Num.words x.natAbs) / Num.nat (Num.words g)=q.num.natAbs):=by show _=_; rw [Num.nat_words,Num.nat_words]; exact m4
 have M5:Hid (Num.nat (Num.words y.natAbs) / Num.nat (Num.words g)=q.den):=by show _=_; rw [Num.nat_words,Num.nat_words]; exact m5
 have MG:Hid (Num.nat (Num.words g) ≠ 0):=by show _ ≠ _; rw [Num.nat_words]; exact m1
 have HNg:=hdq hng
 have HGl:Hid ((Num.words g).length<=400000):=by
  have h1:g<=y.natAbs:=by rw [hg]; exact Nat.le_of_dvd (by omega) (Nat.gcd_dvd_right _ _)
  have h2:=Num.words_length_le (Nat.lt_of_le_of_lt h1 (Num.lt_words_length y.natAbs));rw [hb.words.len] at h2;show _<=_; omega
 have HDl:Hid ((Num.words q.den).length<=400000):=by
  have h1:q.den<=y.natAbs:=by rw [<-m5]; exact Nat.div_le_self _ _
  have h2:=Num.words_length_le (Nat.lt_of_le_of_lt h1 (Num.lt_words_length y.natAbs));rw [hb.words.len] at h2;show _<=_; omega
 clear ha hb hn hm hy hq hg m1 m2 m3 m4 m5 m6 hng;go_enter Tryz.func169,Tryz.ntmps169
 go_wp2_with fail
 refine zAg (fun W=>Below w w W/\Box2 W w (.bool ng) (.slice A n c)/\Box2 W (w+1) (.bool false) (.slice B m d)/\Box4 W (w+1+1) (.bool false) (.slice none 0 0) (.bool false) (.slice none 0 0)/\w<(W:Nat)/\w+1<(W:Nat)/\w+1+1<(W:Nat)) ⟨(az (az (az (brf _ _)))),bx2,bx2,bx4,by simp <;> omega,by simp <;> omega,by simp <;> omega⟩ ?_;rintro W ⟨hbW,bA,bB,bR,s0,s1,s2⟩;have hBW:=hbW.size;have ne02:¬ (w=(w+1+1:Nat)):=by omega
 refine (zHO ng false (HA.out.below hbW) (HB.out.below hbW) HN.out HM.out).mono ?_;rw [hgx.out];rintro e w1 ⟨⟨gg,gA,gn,gc,rfl,hgz⟩,hb1⟩;have hgg:gg=false:=by rw [hgz.sign]; simp
 subst hgg;have hgw:=hgz.words;rw [Int.natAbs_natCast] at hgw;have HG:=hdq hgw;have HGn:Hid (gn<=400000):=by show _<=_; rw [<-hgw.len]; exact HGl.out
 clear hgw;clear hgz;replace bA:=bA.below hb1 s0;replace bB:=bB.below hb1 s1;replace bR:=bR.below hb1 s2;replace s0:=ltl s0 hb1.size;replace s1:=ltl s1 hb1.size;replace s2:=ltl s2 hb1.size;replace hbW:=hbW.trans (hb1.mono hbW.size);try clear a0 a1 b0 b1
 obtain ⟨a0,a1,-⟩:=id bA;obtain ⟨b0,b1,-⟩:=id bB;go_wp2_with fail
 have al1:Below w1 w1 (w1.alloc (.cells #[.bool false,.slice gA gn gc] 35)):=bal;have bG:Box2 (w1.alloc (.cells #[.bool false,.slice gA gn gc] 35)) w1 (.bool false) (.slice gA gn gc):=bx2;have sG:w1.heap.size<(w1.alloc (.cells #[.bool false,.slice gA gn gc] 35)).heap.size:=by simp
 replace HG:=hdq (HG.out.below al1);have w1s:=hbW.size;replace bA:=bA.below al1 s0;replace bB:=bB.below al1 s1;replace bR:=bR.below al1 s2;replace s0:=ltl s0 al1.size;replace s1:=ltl s1 al1.size;replace s2:=ltl s2 al1.size;replace hbW:=hbW.trans (al1.mono hbW.size);try clear a0 a1 b0 b1
 obtain ⟨a0,a1,-⟩:=id bA;obtain ⟨b0,b1,-⟩:=id bB;generalize w1.alloc (.cells #[.bool false,.slice gA gn gc] 35)=W1 at *;have f1:=s2;clear al1 hb1;refine (zEZ ng false (HA.out.below hbW) HG.out HN.out HGn.out MG.out M2.out).mono ?_;rw [M4.out];rintro e w2 ⟨⟨pg,pA,pn,pc,eg,eA,en,ec,rfl,hp⟩,hb2⟩;replace bG:=bG.below hb2 sG;replace sG:=ltl sG hb2.size;replace bA:=bA.below hb2 s0;replace bB:=bB.below hb2 s1;replace bR:=bR.below hb2 s2;replace s0:=ltl s0 hb2.size;replace s1:=ltl s1 hb2.size;replace s2:=ltl s2 hb2.size;replace hbW:=hbW.trans (hb2.mono hbW.size);try clear a0 a1 b0 b1
 obtain ⟨a0,a1,-⟩:=id bA;obtain ⟨b0,b1,-⟩:=id bB;try clear g0 g1
 obtain ⟨g0,g1,-⟩:=id bG;have HP:=hdq hp;replace HG:=hdq (HG.out.below hb2);clear hp;go_wp2_with fail
 have al2:Below w2 w2 ((w2.alloc (.cells #[.bool pg,.slice pA pn pc] 35)).alloc (.cells #[.bool eg,.slice eA en ec] 35)):=(bal).alloc (by simp) _;have bP:Box2 ((w2.alloc (.cells #[.bool pg,.slice pA pn pc] 35)).alloc (.cells #[.bool eg,.slice eA en ec] 35)) w2 (.bool pg) (.slice pA pn pc):=bx2;have sP:w2.heap.size<((w2.alloc (.cells #[.bool pg,.slice pA pn pc] 35)).alloc (.cells #[.bool eg,.slice eA en ec] 35)).heap.size:=by simp; omega
 have f2:W1<=(w2:Nat):=hb2.size;have f3:=al2.size;replace HP:=hdq (HP.out.below al2);replace HG:=hdq (HG.out.below al2);replace bG:=bG.below al2 sG;replace sG:=ltl sG al2.size;replace bA:=bA.below al2 s0;replace bB:=bB.below al2 s1;replace bR:=bR.below al2 s2;replace s0:=ltl s0 al2.size;replace s1:=ltl s1 al2.size;replace s2:=ltl s2 al2.size;replace hbW:=hbW.trans (al2.mono hbW.size);try clear a0 a1 b0 b1
 obtain ⟨a0,a1,-⟩:=id bA;obtain ⟨b0,b1,-⟩:=id bB;try clear g0 g1
 obtain ⟨g0,g1,-⟩:=id bG;generalize (w2.alloc (.cells #[.bool pg,.slice pA pn pc] 35)).alloc (.cells #[.bool eg,.slice eA en ec] 35)=W2 at *;have f4:W1<=(W2:Nat):=nlt f2 f3;clear al2 hb2;refine (zEZ false false (HB.out.below hbW) HG.out HM.out HGn.out MG.out M3.out).mono ?_;rw [M5.out];rintro e w3 ⟨⟨qg,qA,qn,qc,fg,fA,fn,fc,rfl,hq2⟩,hb3⟩;have hqg:qg=false:=by rw [hq2.sign]; simp [zval]
 subst hqg;have hqw:=hq2.words;rw [show (zval (false != false) q.den).natAbs=q.den by simp [zval]] at hqw;have HQ:=hdq hqw;have HQn:Hid (qn<=400000):=by show _<=_; rw [<-hqw.len]; exact HDl.out
 clear hq2 hqw;replace HP:=hdq (HP.out.below hb3);replace bP:=bP.below hb3 sP;replace sP:=ltl sP hb3.size;replace bG:=bG.below hb3 sG;replace sG:=ltl sG hb3.size;replace bA:=bA.below hb3 s0;replace bB:=bB.below hb3 s1;replace bR:=bR.below hb3 s2;replace s0:=ltl s0 hb3.size;replace s1:=ltl s1 hb3.size;replace s2:=ltl s2 hb3.size;replace hbW:=hbW.trans (hb3.mono hbW.size);try clear a0 a1 b0 b1
 obtain ⟨a0,a1,-⟩:=id bA;obtain ⟨b0,b1,-⟩:=id bB;try clear g0 g1
 obtain ⟨g0,g1,-⟩:=id bG;go_wp2;have al3:Below w3 w3 ((w3.alloc (.cells #[.bool false,.slice qA qn qc] 35)).alloc (.cells #[.bool fg,.slice fA fn fc] 35)):=(bal).alloc (by simp) _;have bQ:Box2 ((w3.alloc (.cells #[.bool false,.slice qA qn qc] 35)).alloc (.cells #[.bool fg,.slice fA fn fc] 35)) w3 (.bool false) (.slice qA qn qc):=bx2;have sQ:w3.heap.size<((w3.alloc (.cells #[.bool false,.slice qA qn qc] 35)).alloc (.cells #[.bool fg,.slice fA fn fc] 35)).heap.size:=by simp; omega
 have w3s:=hbW.size;have w3p:=sP;replace HP:=hdq (HP.out.below al3);replace HQ:=hdq (HQ.out.below al3);replace bP:=bP.below al3 sP;replace sP:=ltl sP al3.size;replace bG:=bG.below al3 sG;replace sG:=ltl sG al3.size;replace bA:=bA.below al3 s0;replace bB:=bB.below al3 s1;replace bR:=bR.below al3 s2;replace s0:=ltl s0 al3.size;replace s1:=ltl s1 al3.size;replace s2:=ltl s2 al3.size;replace hbW:=hbW.trans (al3.mono hbW.size);try clear a0 a1 b0 b1
 obtain ⟨a0,a1,-⟩:=id bA;obtain ⟨b0,b1,-⟩:=id bB;try clear g0 g1
 obtain ⟨g0,g1,-⟩:=id bG;generalize (w3.alloc (.cells #[.bool false,.slice qA qn qc] 35)).alloc (.cells #[.bool fg,.slice fA fn fc] 35)=W3 at *;obtain ⟨p0,p1,-⟩:=id bP;obtain ⟨q0,q1,-⟩:=id bQ;have hBW3:=hbW.size;clear al3 hb3 a0 a1 b0 b1 g0 g1 bA bB bG sG HG HA HB
 have hnum:Hid (zval (ng != false) q.num.natAbs=q.num):=by
  show _=_;rw [HNg.out];by_cases h:q.num<0 <;> simp [h,zval] <;> omega
 by_cases hd1:q.den=1
 ·have ho:Hid (cmpN q.den 1=0):=by show _=_; rw [hd1]; rfl
  have hcd:Hid (cden q=0):=by show _=_; simp [cden,hd1]
  go_region_held3 (Sees w [] W3) (exact kp)
   (first
    | (go_at_call 213; ((with_reducible refine (zDz).mono ?_); rintro e w4 ⟨⟨og,oA,on,oc,rfl,hone⟩,hb4⟩; obtain rfl:og=false:=by rw [hone.sign]; rfl))
    | (go_at_call 212; ((with_reducible refine (zEx 0 ho.out q.den_pos ((HQ.out.below (Sees.kept (by assumption)).whole)) hone.words HQn.out).mono ?_); rintro e w5 ⟨rfl,hb5⟩))
    | fail)
  rename_i hS;have hS3:Below W3 W3 w5:=hS.kept.whole;clear hS hone hb4 hb5;replace HP:=hdq (HP.out.below hS3);replace HQ:=hdq (HQ.out.below hS3);replace bP:=bP.below hS3 sP;replace bQ:=bQ.below hS3 sQ;replace bR:=bR.below hS3 s2;replace s2:=ltl s2 hS3.size;replace sP:=ltl sP hS3.size;replace sQ:=ltl sQ hS3.size;replace hbW:=hbW.trans (hS3.mono hbW.size);clear p0 p1 q0 q1 hS3;obtain ⟨p0,p1,-⟩:=id bP;obtain ⟨q0,q1,-⟩:=id bQ;obtain ⟨r0,r1,r2,r3,rf⟩:=id bR;obtain ⟨v0,v1,v2,v3,-⟩:=bR.stored (.bool pg) (.slice pA pn pc) (.bool false) (.slice none 0 0);have hqc:QCan w5 (New W1) ⟨⟨pg,pA,pn,pc⟩,⟨false,none,0,0⟩⟩ q:=⟨by rw [<-hnum.out]; exact HP.out,by rw [hcd.out]; exact ⟨rfl,by rw [show (0:Int).natAbs=0 from rfl,Num.words_zero]; exact WordsAt.nil _ _ none 0 (by decide)⟩⟩;have HQC:=hdq ((hqc.set4 (x0:=.bool pg) (x1:=.slice pA pn pc) (x2:=.bool false) (x3:=.slice none 0 0) f1).lower (B':=w) (by omega));have hbf:=zAl (x0:=.bool pg) (x1:=.slice pA pn pc) (x2:=.bool false) (x3:=.slice none 0 0) (b:=w+1+1) hbW (by omega);clear r0 r1 r2 r3 hqc;obtain ⟨r0,r1,r2,r3,rf⟩:=id bR;go_wp2;exact bodyPost_ret (v:=QV.val ⟨⟨pg,pA,pn,pc⟩,⟨false,none,0,0⟩⟩) (by simp [results,Tryz.results169,go_sem,v0,v1,v2,v3]) rfl ⟨⟨⟨⟨pg,pA,pn,pc⟩,⟨false,none,0,0⟩⟩,rfl,HQC.out⟩,hbf⟩
 ·have ho:Hid (cmpN q.den 1=1):=by
   show _=_;have:=q.den_pos;unfold cmpN; rw [if_neg (by omega),if_pos (by omega)]
  have hcd:Hid (cden q=(q.den:Int)):=by show _=_; simp [cden,hd1]
  go_region_held3 (Sees w [] W3) (exact kp)
   (first
    | (go_at_call 213; ((with_reducible refine (zDz).mono ?_); rintro e w4 ⟨⟨og,oA,on,oc,rfl,hone⟩,hb4⟩; obtain rfl:og=false:=by rw [hone.sign]; rfl))
    | (go_at_call 212; ((with_reducible refine (zEx 1 ho.out q.den_pos ((HQ.out.below (Sees.kept (by assumption)).whole)) hone.words HQn.out).mono ?_); rintro e w5 ⟨rfl,hb5⟩))
    | fail)
  rename_i hS;have hS3:Below W3 W3 w5:=hS.kept.whole;clear hS hone hb4 hb5;replace HP:=hdq (HP.out.below hS3);replace HQ:=hdq (HQ.out.below hS3);replace bP:=bP.below hS3 sP;replace bQ:=bQ.below hS3 sQ;replace bR:=bR.below hS3 s2;replace s2:=ltl s2 hS3.size;replace sP:=ltl sP hS3.size;replace sQ:=ltl sQ hS3.size;replace hbW:=hbW.trans (hS3.mono hbW.size);clear p0 p1 q0 q1 hS3;obtain ⟨p0,p1,-⟩:=id bP;obtain ⟨q0,q1,-⟩:=id bQ;obtain ⟨r0,r1,r2,r3,rf⟩:=id bR;obtain ⟨v0,v1,v2,v3,-⟩:=bR.stored (.bool pg) (.slice pA pn pc) (.bool false) (.slice qA qn qc);have hqc:QCan w5 (New W1) ⟨⟨pg,pA,pn,pc⟩,⟨false,qA,qn,qc⟩⟩ q:=⟨by rw [<-hnum.out]; exact HP.out,by rw [hcd.out]; exact ⟨by simp,by rw [Int.natAbs_natCast]; exact HQ.out.imp fun b _ hb=>by simp only [New] at hb ⊢; omega⟩⟩;have HQC:=hdq ((hqc.set4 (x0:=.bool pg) (x1:=.slice pA pn pc) (x2:=.bool false) (x3:=.slice qA qn qc) f1).lower (B':=w) (by omega));have hbf:=zAl (x0:=.bool pg) (x1:=.slice pA pn pc) (x2:=.bool false) (x3:=.slice qA qn qc) (b:=w+1+1) hbW (by omega);clear r0 r1 r2 r3 hqc;obtain ⟨r0,r1,r2,r3,rf⟩:=id bR;go_wp2;exact bodyPost_ret (v:=QV.val ⟨⟨pg,pA,pn,pc⟩,⟨false,qA,qn,qc⟩⟩) (by simp [results,Tryz.results169,go_sem,v0,v1,v2,v3]) rfl ⟨⟨⟨⟨pg,pA,pn,pc⟩,⟨false,qA,qn,qc⟩⟩,rfl,HQC.out⟩,hbf⟩
theorem zJu (x y:Int):qv x y=(((if y<0 then -x else x):Int):Rat) / (((if y=0 then (1:Int) else (y.natAbs:Int)):Int):Rat):=by
 unfold qv;by_cases h0:y=0
 ·subst h0; simp; grind
 ·rw [if_neg h0,if_neg h0];by_cases h1:y<0
  ·rw [if_pos h1];have e:(y.natAbs:Int)=-y:=(by omega);rw [e];have:(y:Rat) ≠ 0:=(by exact_mod_cast h0);simp only [Rat.intCast_neg];grind
  ·rw [if_neg h1];have e:(y.natAbs:Int)=y:=(by omega);rw [e]
theorem zDg {v:QV} (h:QIs w X L v q) (hL:L<=300000) :
  Calls Tryz.prog 98 #[v.val] w fun e w'=>QRet w q e w'/\Below w w w':=by
 obtain ⟨x,y,hx,hy,hq⟩:=h;obtain ⟨a,ha⟩:∃ a,a=if y<0 then -x else x:=⟨_,rfl⟩
 obtain ⟨b,hb⟩:∃ b,b=if y=0 then (1:Int) else (y.natAbs:Int):=⟨_,rfl⟩
 have hqe:q=(a:Rat) / (b:Rat):=by rw [hq,ha,hb]; exact zJu x y
 have hbp:0<b:=by rw [hb]; split <;> omega
 obtain ⟨lx,hlx,hln,ex⟩:=id hx;obtain ⟨ly,hly,hlm,ey⟩:=id hy
 have hla:Hid ((Num.words a.natAbs).length<=400000):=by
  have e:a.natAbs=Num.nat lx:=by rw [ha,ex]; unfold zval; split <;> split <;> omega
  show _<=_;have h1:=Num.words_length_le (Num.nat_lt hlx.ok);rw [hlx.len] at h1;rw [e]; omega
 have hlb:Hid ((Num.words b.natAbs).length<=400000):=by
  show _<=_;by_cases h0:y=0
  ·rw [hb,if_pos h0];exact nlt (Num.words_length_le (k:=1) (by decide)) (by decide)
  ·have e:b.natAbs=Num.nat ly:=by rw [hb,if_neg h0,ey]; unfold zval; split <;> omega
   have h1:=Num.words_length_le (Num.nat_lt hly.ok);rw [hly.len] at h1;rw [e]; omega
 have HX:=hdq hx;have HY:=hdq hy;have HA:=hdq ha;have HB:=hdq hb;have HQ:=hdq hqe;have HP:=hdq hbp;clear hx hy hq ha hb hqe hbp hlx hln ex hly hlm ey;go_enter Tryz.func98,Tryz.ntmps98
 go_wp2;refine zAo (fun W=>Below w w W/\Box4 W w (.bool v.num.ng) (.slice v.num.A v.num.n v.num.c) (.bool v.den.ng) (.slice v.den.A v.den.n v.den.c)/\Box4 W (w+1) (.bool false) (.slice none 0 0) (.bool false) (.slice none 0 0)/\w<(W:Nat)/\w+1<(W:Nat)) ⟨(az (az (brf _ _))),bx4,bx4,by simp <;> omega,by simp <;> omega⟩ ?_;rintro W ⟨hbW,bA,bR,s0,s1⟩;have hBW:=hbW.size;have HX2:Hid (ZIs W (Old w) L v.num x):=by obtain ⟨l,h1,h2⟩:=HX.out; exact ⟨l,h1.old.below hbW,h2⟩
 have HY2:Hid (ZIs W (Old w) L v.den y):=by obtain ⟨l,h1,h2⟩:=HY.out; exact ⟨l,h1.old.below hbW,h2⟩
 obtain ⟨a0,a1,a2,a3,-⟩:=id bA;clear HX HY
 go_region_held3 (Sees w [w+1] W) (exact kp)
  (first
   | (go_at_call 170; ((with_reducible refine (zHQ (v:=v) HA.out (HX2.out.keptOld (Sees.kept (by assumption))) (HY2.out.keptOld (Sees.kept (by assumption))) (by omega) (by omega)).mono ?_); rintro e w1 ⟨⟨ng1,A1,n1,c1,rfl,hz1⟩,hb1⟩))
   | (go_at_call 171; ((with_reducible refine (zHN (v:=v) HB.out (HY2.out.keptOld (Sees.kept (by assumption))) (by omega)).mono ?_); rintro e w2 ⟨⟨ng2,A2,n2,c2,rfl,hz2⟩,hb2⟩))
   | (go_at_call 169; ((with_reducible refine (zHE (hz1.below hb2) hz2 (by rw [<-hz1.words.len]; exact hla.out) (by rw [<-hz2.words.len]; exact hlb.out) HP.out HQ.out).mono ?_); rintro e w3 ⟨⟨z,rfl,hz⟩,hb3⟩))
   | fail)
 rename_i hS;obtain ⟨v0,v1,v2,v3⟩:=hS.kept.val4 (by simp) (by rw [bR.1]; rfl) (by rw [bR.2.1]; rfl) (by rw [bR.2.2.1]; rfl) (by rw [bR.2.2.2.1]; rfl);have hbf:=hbW.trans hS.kept.below;have hb2s:=hb2.size;have hb1s:=hb1.size;have hb3s:=hb3.size;simp only [World.size_drew] at hb1s hb2s hb3s;have HZ:=hdq ((hz.set4 (b:=w+1) (x0:=.bool z.num.ng) (x1:=.slice z.num.A z.num.n z.num.c) (x2:=.bool z.den.ng) (x3:=.slice z.den.A z.den.n z.den.c) (by omega)).lower (B':=w) (by omega));clear hS hz hz1 hz2 hb1 hb2 hb3;go_wp2;exact bodyPost_ret (v:=z.val) (by simp [results,Tryz.results98,go_sem,v0,v1,v2,v3]) rfl ⟨⟨z,rfl,HZ.out⟩,hbf⟩
theorem zJV (n:Int):cden (n:Rat)=0:=by simp [cden]
theorem zDy (n:Int) (h1:-1000000<=n) (h2:n<=1000000) (h0:n ≠ 0) :
  Calls Tryz.prog 15 #[.int .i64 n] w fun e w'=>QRet w (n:Rat) e w'/\Below w w w':=by
 have HC:=hdq (fun w=>zB9 (w:=w) n h1 h2 h0);clear h1 h2 h0;go_enter Tryz.func15,Tryz.ntmps15
 go_wp2_with fail
 refine zAg (fun W=>Below w w W/\Box4 W w (.bool false) (.slice none 0 0) (.bool false) (.slice none 0 0)/\w<(W:Nat)) ⟨(az (brf _ _)),bx4,by simp <;> omega⟩ ?_;rintro W ⟨hbW,bR,s0⟩;have hBW:=hbW.size;refine (HC.out W).mono ?_;rintro e w1 ⟨⟨ng,A,k,c,rfl,hz⟩,hb1⟩;have bR1:=bR.below hb1 s0;obtain ⟨r0,r1,r2,r3,rf⟩:=id bR1;obtain ⟨v0,v1,v2,v3,-⟩:=bR1.stored (.bool ng) (.slice A k c) (.bool false) (.slice none 0 0);have hqc:QCan w1 (New W) ⟨⟨ng,A,k,c⟩,⟨false,none,0,0⟩⟩ (n:Rat):=⟨by simpa using hz,by rw [zJV]; exact ⟨rfl,by rw [show (0:Int).natAbs=0 from rfl,Num.words_zero]; exact WordsAt.nil _ _ none 0 (by decide)⟩⟩;have HQC:=hdq ((hqc.set4 (x0:=.bool ng) (x1:=.slice A k c) (x2:=.bool false) (x3:=.slice none 0 0) s0).lower (B':=w) hBW);have hbf:=zAl (x0:=.bool ng) (x1:=.slice A k c) (x2:=.bool false) (x3:=.slice none 0 0) (b:=w) (hbW.trans (hb1.mono hBW)) (nlr _);clear hqc hz hb1;go_wp2;exact bodyPost_ret (v:=QV.val ⟨⟨ng,A,k,c⟩,⟨false,none,0,0⟩⟩) (by simp [results,Tryz.results15,go_sem,v0,v1,v2,v3]) rfl ⟨⟨⟨⟨ng,A,k,c⟩,⟨false,none,0,0⟩⟩,rfl,HQC.out⟩,hbf⟩
theorem ZAt.zis1 (h:ZAt w X ng A n c z) (hL:n<=L):ZIs w X L ⟨ng,A,n,c⟩ z:=
 ⟨_,h.words,hL,by rw [Num.nat_words,show ZV.ng ⟨ng,A,n,c⟩=ng from rfl,h.sign]; unfold zval; split <;> simp_all <;> omega⟩
theorem ZIs.imp' {z:ZV} {x:Int} (h:ZIs w X L z x):ZIs w (fun _=>True) L z x:=by
 obtain ⟨l,h1,h2⟩:=h;exact ⟨l,h1.imp fun _ _ _=>trivial,h2⟩
theorem zG5 (h1:-1000000<=z) (h2:z<=1000000):(Num.words z.natAbs).length<=1:=Num.words_length_le (by simp only [Num.base]; omega)
theorem zIR (n d:Int) (q:Rat) (h1:-1000000<=n) (h2:n<=1000000) (h0:n ≠ 0) (h3:0<d) (h4:d<=1000000) (hq:q=(n:Rat) / (d:Rat)) :
  Calls Tryz.prog 39 #[.int .i64 n,.int .i64 d] w fun e w'=>QRet w q e w'/\Below w w w':=by
 have HC:=hdq (fun w=>zB9 (w:=w) n h1 h2 h0);have HD:=hdq (fun w=>zB9 (w:=w) d (by omega) h4 (by omega));have W1:=hdq (zG5 h1 h2);have W2:=hdq (zG5 (z:=d) (by omega) h4);have HQ:Hid (q=qv n d):=by show _=_; rw [hq]; unfold qv; rw [if_neg (by omega)]
 clear h1 h2 h0 h3 h4 hq;go_enter Tryz.func39,Tryz.ntmps39
 go_wp2_with fail
 refine zAg (fun W=>Below w w W/\Box4 W w (.bool false) (.slice none 0 0) (.bool false) (.slice none 0 0)/\w<(W:Nat)) ⟨(az (brf _ _)),bx4,by simp <;> omega⟩ ?_;rintro W ⟨hbW,bR,s0⟩;have hBW:=hbW.size;refine (HC.out W).mono ?_;rintro e w1 ⟨⟨ng,A,k,c,rfl,hz⟩,hb1⟩;have HZ:=hdq hz;clear hz;go_wp2_with fail
 refine (HD.out w1).mono ?_;rintro e w2 ⟨⟨mg,B,m,d',rfl,hz2⟩,hb2⟩;have hb12:=hb1.trans (hb2.mono hb1.size);have hqi:QIs w2 (fun _=>True) 1 ⟨⟨ng,A,k,c⟩,⟨mg,B,m,d'⟩⟩ q:=⟨n,d,(ZAt.zis1 (HZ.out.below hb2) (by rw [<-HZ.out.words.len]; exact W1.out)).imp',(hz2.zis1 (by rw [<-hz2.words.len]; exact W2.out)).imp',HQ.out⟩;have HQI:=hdq hqi;clear hz2 hqi;go_wp2_with fail
 refine (zDg HQI.out (by decide)).mono ?_;rintro e w3 ⟨⟨z,rfl,hz⟩,hb3⟩;have hb13:=hb12.trans (hb3.mono hb12.size);have bR1:=bR.below hb13 s0;obtain ⟨r0,r1,r2,r3,rf⟩:=id bR1;obtain ⟨v0,v1,v2,v3,-⟩:=bR1.stored (.bool z.num.ng) (.slice z.num.A z.num.n z.num.c) (.bool z.den.ng) (.slice z.den.A z.den.n z.den.c);have hsz:=hb12.size;have HQC:=hdq ((hz.set4 (b:=w) (x0:=.bool z.num.ng) (x1:=.slice z.num.A z.num.n z.num.c) (x2:=.bool z.den.ng) (x3:=.slice z.den.A z.den.n z.den.c) (by omega)).lower (B':=w) (by omega));have hbf:=zAl (x0:=.bool z.num.ng) (x1:=.slice z.num.A z.num.n z.num.c) (x2:=.bool z.den.ng) (x3:=.slice z.den.A z.den.n z.den.c) (b:=w) (hbW.trans (hb13.mono hBW)) (nlr _);clear hz hb1 hb2 hb3 hb12 hb13;go_wp2;exact bodyPost_ret (v:=z.val) (by simp [results,Tryz.results39,go_sem,v0,v1,v2,v3]) rfl ⟨⟨z,rfl,HQC.out⟩,hbf⟩
open Go.RowKit Go.Shelf
section
variable {W W':World} {G G':Nat->Prop} {x:TV} {V n m L:Nat} {base:List Rat} {bn cn:Nat->Nat} {a:Nat->Nat->Rat} {lv:Nat->Bool} {g:Option (Nat->Rat)}
end
structure ValS (W:World) (B L:Nat) (G:Nat->Prop) (v:Value) (k:Nat) (qs:List QV) (l:List Rat):Prop where
 own:W.ownsRow B 37 4 v k (qs.flatMap cells4q)
 row:∀ j,v.ownBlock=some j->G j
 len:qs.length=k
 llen:l.length=k
 elem:∀ j,j<k->QIs W (fun b=>¬ G b) L (qs.getD j QV.zero) (l.getD j 0)
section
variable {W W' W2:World} {B L k:Nat} {G G' H:Nat->Prop} {v v':Value} {qs:List QV} {l:List Rat}
theorem ValS.nil (W:World) (B L:Nat) (G:Nat->Prop):ValS W B L G (.slice none 0 0) 0 [] []:=⟨⟨rfl,.inl ⟨rfl,rfl⟩⟩,fun j h=>by simp [Value.ownBlock] at h,rfl,rfl,fun j h=>absurd h (Nat.not_lt_zero j)⟩
theorem ValS.lt (h:ValS W B L G v k qs l) (e:v.ownBlock=some j):B<=j/\j<W:=by
 obtain ⟨h1,cs,hh⟩:=zAc h.own e;exact ⟨h1,zAa hh⟩
theorem ValS.keep (h:ValS W B L G v k qs l) (hF:Fr H W W') (hH:∀ j,v.ownBlock=some j->¬ H j) (hHG:∀ y,H y->G y) (hG:More W G G'):ValS W' B L G' v k qs l:=by
 refine ⟨zAr h.own fun j hj=>hF.block j (h.lt hj).2 (hH j hj),fun j hj=>hG.old j (h.row j hj),h.len,h.llen,fun j hj=>?_⟩;exact (((h.elem j hj).imp (Y:=fun b=>¬ G b/\b<W.heap.size) fun b hl hb=>⟨hb,hl⟩).keep fun p hp hl=>hF.cell hl fun z=>hp.1 (hHG _ z)).imp fun b _ hb hg=>hb.1 ((hG.new b hg).resolve_right (by omega))
theorem ValS.step (h:ValS W B L G v k qs l) {o:Obj} {z:QV} (hz:QIs W (fun b=>¬ G b) L z q) (hown:W2.ownsRow B 37 4 v' (k+1) (qs.flatMap cells4q++cells4q z)) (hg:(W.alloc o).grownBy W2 v.ownBlock) (hat:v'.ownBlock=v.ownBlock\/v'.ownBlock=some (W.alloc o).heap.size) :
  ValS W2 B L (fun y=>G y\/v'.ownBlock=some y) v' (k+1) (qs++[z]) (l++[q])/\Fr (fun y=>v.ownBlock=some y) W W2/\More W G (fun y=>G y\/v'.ownBlock=some y):=by
 have hsz:W+1<=(W2:Nat):=by have:=hg.size; simpa using this
 have key:∀ y,y<W.heap.size->¬ v.ownBlock=some y->W2.heap[y]?=W.heap[y]?:=fun y hy h2=>(hg.block y (by simp; omega) fun e=>h2 e.symm).trans (Below.heap_alloc _ _ _ hy)
 have hv':∀ j,v'.ownBlock=some j->v.ownBlock=some j\/W.heap.size<=j:=fun j hj=>by
  rcases hat with e | e
  ·exact .inl (e.symm.trans hj)
  ·rw [e] at hj; cases hj; right; simp
 have kq:∀ {u r},QIs W (fun b=>¬ G b) L u r->QIs W2 (fun b=>¬ (G b\/v'.ownBlock=some b)) L u r:=fun {u r} hu=>
  ((hu.imp (Y:=fun b=>¬ G b/\b<W.heap.size) fun b hl hb=>⟨hb,hl⟩).keep fun p hp hl=>cob (key _ hl fun e=>hp.1 (h.row _ e))).imp fun b _ hb hg=>hg.elim hb.1 fun e=>(hv' b e).elim (fun e=>hb.1 (h.row b e)) fun e=>by omega
 refine ⟨⟨by rw [List.flatMap_append]; simpa using hown,fun j hj=>.inr hj,by rw [List.length_append,h.len]; rfl,by rw [List.length_append,h.llen]; rfl,fun j hj=>?_⟩,⟨hg.os,hg.tape,hg.output,by omega,fun b hb hn=>key b hb hn⟩,⟨fun y hy=>.inl hy,fun y hy=>hy.elim .inl fun e=>(hv' y e).imp (h.row y) id⟩⟩;by_cases hjk:j<k
 ·rw [zAE _ _ _ (by rw [h.len]; exact hjk),zAE _ _ _ (by rw [h.llen]; exact hjk)];exact kq (h.elem j hjk)
 ·obtain rfl:j=k:=by omega
  have e1:(qs++[z]).getD j QV.zero=z:=by rw [<-h.len]; simp
  have e2:(l++[q]).getD j 0=q:=by rw [<-h.llen]; simp
  rw [e1,e2];exact kq hz
theorem ValS.vec (h:ValS W B L G v k qs l):∃ s:SV,v=s.val/\s.n=k/\VecIs W (fun _=>True) (fun b=>¬ G b) L s l:=by
 rcases h.own.2 with ⟨rfl,rfl⟩ | ⟨g,cap,cur,rfl,hbg,hh,hnc,hcap,hcur,ht⟩
 ·exact ⟨⟨none,0,0⟩,rfl,rfl,h.llen,nlr _,nzl _,fun k hk=>absurd hk (Nat.not_lt_zero k)⟩
 ·refine ⟨⟨some ⟨g,0,none⟩,k,cap⟩,rfl,rfl,h.llen,hnc,(by show cap<=_; exact nlt ‹_› (show maxLen<=9223372036854775807 by decide)),fun j hj=>⟨⟨g,0,none⟩,qs.getD j QV.zero,rfl,trivial,?_,h.elem j hj⟩⟩;have hj':j<k:=hj;have hl:=h.len
  have ec:∀ o,o<4->W.cell? ⟨g,j*4+o,none⟩=(cells4q (qs.getD j QV.zero))[o]?:=fun o ho=>by
   have e2:(cur.toList.take (k*4))[j*4+o]?=(qs.flatMap cells4q)[j*4+o]?:=(by rw [ht]);rw [List.getElem?_take_of_lt (by omega),zCy qs j o (by omega) ho QV.zero] at e2;simp only [World.cell?,hh];simpa using e2
  rw [zA4,Nat.zero_add];exact ⟨ec 0 (by omega),ec 1 (by omega),ec 2 (by omega),ec 3 (by omega)⟩
end
section
variable {w W W':World} {B d:Nat} {n:Int} {bv va vb vc vd:Value} {al:Nat->List Value} {cnt:Nat->Nat} {G:Nat->Prop}
end
section
variable {W W':World} {G G':Nat->Prop} {L:Nat}
end
section
variable {w W W1 W2:World} {B d V:Nat} {bs:SV} {base:List Rat} {sr bl cl:List Nat} {ll n L:Nat} {rf:Nat->Nat->Rat} {va vb vc vd v':Value} {G:Nat->Prop} {o:Obj}
end
namespace Lin.BP
variable {B:BP} {av:Nat->Int} {i k:Nat}
end Lin.BP
namespace Lin
end Lin
end Go.Proofs.YtpjaodcimomaiaaGreat
