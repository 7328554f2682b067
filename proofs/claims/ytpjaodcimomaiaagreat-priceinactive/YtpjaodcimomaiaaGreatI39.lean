/- Texts Rb2 Rb3 Rb4 Rc1 Rc2 Rc3 PrW PsI of this claim. -/
import Derived.Test.YtpjaodcimomaiaaGreatI37
import Derived.Test.YtpjaodcimomaiaaGreatI38
import Derived.Test.YtpjaodcimomaiaaGreatI35
import Derived.Test.YtpjaodcimomaiaaGreatI31
set_option maxHeartbeats 4000000
set_option maxRecDepth 40000
namespace Go.Proofs.YtpjaodcimomaiaaGreat
open Go.RowKit
variable {n c m d L M g b V:Nat} {A:Option Addr} {X Y X' Y':Nat->Prop} {w W W' w':World} {l:List Nat} {y z:Int} {q:Rat} {ng:Bool} {T:TypeId} {la lb bs:List Rat} {sa sb s:SV} {D:Lin.Dict} {os rs:List (List Rat)} {p:LPV}
def GcLoop (w:World) (x y N:Nat) (k:Nat) (v1 v2:Value) (W:World):Prop:=
 ∃ (a b:Nat) (A:Option Addr) (n c:Nat) (B:Option Addr) (m d:Nat),k=b/\v1 = .slice A n c/\v2 = .slice B m d/\HAt W (New (w+1+1+1)) A n c (Hal.words a)/\HAt W (New (w+1+1+1)) B m d (Hal.words b)/\Nat.gcd a b=Nat.gcd x y/\n<=N/\m<=N/\Below w w W/\Box2 W (w+1+1) (.bool false) (.slice none 0 0)/\w+1+1<(W:Nat)
theorem zHO {B:Option Addr} {la lb:List Nat} (ng mg:Bool) (ha:WordsAt w X A n c la) (hb:WordsAt w Y B m d lb) (hn:n<=400000) (hm:m<=400000) :
  Calls Tryz.prog 210 #[.agg #[.bool ng,.slice A n c],.agg #[.bool mg,.slice B m d]] w fun e w'=>ZRet1 w ((Nat.gcd (Num.nat la) (Num.nat lb):Nat):Int) e w'/\Below w w w':=by
 have HLA:Hid ((Hal.words (Num.nat la)).length<=800000):=by
  have h1:=zCR ha.ok;rw [ha.len] at h1;show _<=_; omega
 have HLB:Hid ((Hal.words (Num.nat lb)).length<=800000):=by
  have h1:=zCR hb.ok;rw [hb.len] at h1;show _<=_; omega
 obtain ⟨x,hx⟩:∃ x,Num.nat la=x:=⟨_,rfl⟩;obtain ⟨y,hy⟩:∃ y,Num.nat lb=y:=⟨_,rfl⟩;rw [hx] at HLA ⊢;rw [hy] at HLB ⊢;have HX:=hdq hx;have HY:=hdq hy;clear hx hy;have HA:=hdq ha.old;have HB:=hdq hb.old;have HN:=hdq hn;have HM:=hdq hm;clear ha hb hn hm;go_enter Tryz.func210,Tryz.ntmps210
 go_wp2;refine zAo (fun W=>Below w w W/\Box2 W w (.bool ng) (.slice A n c)/\Box2 W (w+1) (.bool mg) (.slice B m d)/\Box2 W (w+1+1) (.bool false) (.slice none 0 0)/\w<(W:Nat)/\w+1<(W:Nat)/\w+1+1<(W:Nat)) ⟨(az (az (az (brf _ _)))),bx2,bx2,bx2,by simp <;> omega,by simp <;> omega,by simp <;> omega⟩ ?_;rintro W ⟨hbW,bA,bB,bR,s0,s1,s2⟩;have hBW:=hbW.size;have ne02:¬ (w=(w+1+1:Nat)):=by omega
 have HA2:=hdq (HA.out.below hbW);have HB2:=hdq (HB.out.below hbW);obtain ⟨a0,a1,-⟩:=id bA;obtain ⟨b0,b1,-⟩:=id bB;clear HA HB
 go_region_held3 (Sees w [] W) (exact kp)
  (first
   | (go_at_call 185; ((with_reducible refine (zAH (HA2.out.keptOld (Sees.kept (by assumption))) (by have:=HN.out; omega)).mono ?_); rintro e w1 ⟨⟨A1,n1,c1,rfl,-,h1⟩,hb1⟩))
   | (go_at_call 185; ((with_reducible refine (zAH (HB2.out.keptOld (Sees.kept (by assumption))) (by have:=HM.out; omega)).mono ?_); rintro e w2 ⟨⟨A2,n2,c2,rfl,-,h2⟩,hb2⟩))
   | fail)
 rename_i hS;have hW2:Below W W w2:=hS.kept.whole;have hB2:=hbW.trans (hW2.mono hBW);have hb1s:=hb1.size;simp only [World.size_drew] at hb1s;rw [HX.out] at h1;rw [HY.out] at h2;have e1:=h1.len;have e2:=h2.len;have H0:Hid (GcLoop w x y 800000 y (.slice A1 n1 c1) (.slice A2 n2 c2) w2):=⟨x,y,A1,n1,c1,A2,n2,c2,rfl,rfl,rfl,(h1.below hb2).low (by simp only [World.size_drew]; omega),h2.low (by omega),rfl,by rw [<-e1]; exact HLA.out,by rw [<-e2]; exact HLB.out,hB2,bR.below hW2 s2,ltl s2 hW2.size⟩;clear hS h1 h2 hb1 hb2 hW2 hB2 e1 e2 bA bB bR a0 a1 b0 b1 HA2 HB2 HLA HLB hb1s hbW hBW;go_wp2;go_loopg [5,6] y (fun k v1 v2 W=>GcLoop w x y 800000 k v1 v2 W)
 case atStart=>exact H0.out
 case round=>
  clear H0;obtain ⟨a,b,A1,n1,c1,A2,n2,c2,rfl,rfl,rfl,h1,h2,hg,l1,l2,hB,bR,sR⟩:=hrel;have Hg:=hdq hg;clear hg;by_cases hb0:gk=0
  ·subst hb0;have hn2:n2=0:=by rw [<-h2.len,Hal.words_zero]; rfl
   subst hn2;have ha:a=Nat.gcd x y:=by have:=Hg.out; rw [Nat.gcd_zero_right] at this; exact this
   have HA1:=hdq h1;have HEq:=hdq ha;obtain ⟨r0,r1,rf⟩:=id bR;clear h1 h2 ha;(go_wp2_with fail);refine (zCA false HA1.out (by omega)).mono ?_;rintro e w3 ⟨⟨ng',A',n',c',rfl,hz⟩,hb3⟩;rw [Hal.nat_words,HEq.out] at hz;have bR2:=bR.below hb3 sR;have sR2:=ltl sR hb3.size;have hBs:=hB.size;clear r0 r1 rf;obtain ⟨r0,r1,rf⟩:=id bR2;obtain ⟨v0,v1⟩:=bR2.stored (.bool ng') (.slice A' n' c');have hzf:=((hz.set (p:=⟨w+1+1,0,none⟩) sR (.bool ng')).set (p:=⟨w+1+1,1,none⟩) sR (.slice A' n' c')).lower (B':=w) hBs;have HZ:=hdq hzf;have hbf:=((hB.trans (hb3.mono hBs)).setCell (p:=⟨w+1+1,0,none⟩) (by show w<=(w+1+1:Nat); omega) (.bool ng')).setCell (p:=⟨w+1+1,1,none⟩) (by show w<=(w+1+1:Nat); omega) (.slice A' n' c');clear hz hzf hb3;go_wp2;exact bodyPost_ret (v:=.agg #[.bool ng',.slice A' n' c']) (by simp [results,Tryz.results210,go_sem,v0,v1]) rfl ⟨⟨_,_,_,_,rfl,HZ.out⟩,hbf⟩
  ·have hn2:0<n2:=by
    rcases Nat.eq_zero_or_pos n2 with h | h
    ·exact absurd (by rw [<-Hal.nat_words gk,List.eq_nil_of_length_eq_zero (h2.len.trans h)]; rfl) hb0
    ·exact h
   have hn2i:(0:Int)<(n2:Int):=(by omega);have HD:=hdq (zE2 h1 h2 (by omega) (by omega) (by omega));have H2:=hdq h2;have hlt:a % gk<gk:=Nat.mod_lt _ (by omega);clear h1 h2;(go_wp2_with fail);refine HD.out.mono ?_;rintro e w3 ⟨⟨A3,n3,c3,A4,n4,c4,rfl,h3,h4⟩,hb3⟩;have hBs:=hB.size
   have Hfin:Hid (GcLoop w x y 800000 (a % gk) (.slice A2 n2 c2) (.slice A4 n4 c4) w3):=⟨gk,a % gk,A2,n2,c2,A4,n4,c4,rfl,rfl,rfl,H2.out.below hb3,h4.low (by omega),by rw [<-Hg.out,Nat.gcd_comm a gk,Nat.gcd_rec gk a,Nat.gcd_comm],l2,by
    have h5:=zBF (Nat.le_of_lt hlt);rw [h4.len,H2.out.len] at h5; omega,hB.trans (hb3.mono hBs),bR.below hb3 sR,ltl sR hb3.size⟩
   clear h3 h4 hb3 hB bR;go_wp2;(go_roundg (a % gk));case rel=>exact fn_ Hfin.out
   case measure=>exact hlt
def DivZ (w:World) (z:Int) (e:Ending) (w':World):Prop:=
 ∃ ng A n c ng2 A2 n2 c2,e = .returned (.tuple #[.agg #[.bool ng,.slice A n c],.agg #[.bool ng2,.slice A2 n2 c2],.int .i64 0])/\ZAt w' (New w) ng A n c z
theorem zEZ {B:Option Addr} {la lb:List Nat} (ng mg:Bool) (ha:WordsAt w X A n c la) (hb:WordsAt w Y B m d lb) (hn:n<=400000) (hm:m<=400000) (hb0:Num.nat lb ≠ 0) (hdv:Num.nat la % Num.nat lb=0) :
  Calls Tryz.prog 211 #[.agg #[.bool ng,.slice A n c],.agg #[.bool mg,.slice B m d]] w fun e w'=>DivZ w (zval (ng != mg) (Num.nat la / Num.nat lb)) e w'/\Below w w w':=by
 have HLA:Hid ((Hal.words (Num.nat la)).length<=800000):=by
  have h1:=zCR ha.ok;rw [ha.len] at h1;show _<=_; omega
 have HLB:Hid ((Hal.words (Num.nat lb)).length<=800000):=by
  have h1:=zCR hb.ok;rw [hb.len] at h1;show _<=_; omega
 obtain ⟨x,hx⟩:∃ x,Num.nat la=x:=⟨_,rfl⟩;obtain ⟨y,hy⟩:∃ y,Num.nat lb=y:=⟨_,rfl⟩;rw [hx] at HLA hdv ⊢;rw [hy] at HLB hdv hb0 ⊢;have HX:=hdq hx;have HY:=hdq hy;have HDv:=hdq hdv;have HB0:=hdq hb0;clear hx hy hdv hb0;have HA:=hdq ha.old;have HB:=hdq hb.old;have HN:=hdq hn;have HM:=hdq hm;clear ha hb hn hm;go_enter Tryz.func211,Tryz.ntmps211
 go_wp2;refine zAo (fun W=>Below w w W/\Box2 W w (.bool ng) (.slice A n c)/\Box2 W (w+1) (.bool mg) (.slice B m d)/\Box2 W (w+1+1) (.bool false) (.slice none 0 0)/\Box2 W (w+1+1+1) (.bool false) (.slice none 0 0)/\w<(W:Nat)/\w+1<(W:Nat)/\w+1+1<(W:Nat)/\w+1+1+1<(W:Nat)) ⟨(az (az (az (az (brf _ _))))),bx2,bx2,bx2,bx2,by simp <;> omega,by simp <;> omega,by simp <;> omega,by simp <;> omega⟩ ?_;rintro W ⟨hbW,bA,bB,bR,bS,s0,s1,s2,s3⟩;have hBW:=hbW.size;have ne02:¬ (w=(w+1+1:Nat)):=by omega
 have ne03:¬ (w=(w+1+1+1:Nat)):=by omega
 have ne13:¬ (w+1=(w+1+1+1:Nat)):=by omega
 have HA2:=hdq (HA.out.below hbW);have HB2:=hdq (HB.out.below hbW);obtain ⟨a0,a1,-⟩:=id bA;obtain ⟨b0,b1,-⟩:=id bB;clear HA HB
 go_region_held3 (Sees w [] W) (exact kp)
  (first
   | (go_at_call 185; ((with_reducible refine (zAH (HA2.out.keptOld (Sees.kept (by assumption))) (by have:=HN.out; omega)).mono ?_); rintro e w1 ⟨⟨A1,n1,c1,rfl,-,h1⟩,hb1⟩))
   | (go_at_call 185; ((with_reducible refine (zAH (HB2.out.keptOld (Sees.kept (by assumption))) (by have:=HM.out; omega)).mono ?_); rintro e w2 ⟨⟨A2,n2,c2,rfl,-,h2⟩,hb2⟩))
   | fail)
 rename_i hS;have hW2:Below W W w2:=hS.kept.whole;have hB2:=hbW.trans (hW2.mono hBW);rw [HX.out] at h1;rw [HY.out] at h2;have e1:=h1.len;have e2:=h2.len;have H1:=hdq (h1.below hb2);have H2:=hdq h2;have l1:n1<=800000:=by rw [<-e1]; exact HLA.out
 have l2:n2<=800000:=by rw [<-e2]; exact HLB.out
 have hn2:((n2:Int) == 0)=false:=by
  have:n2 ≠ 0:=fun h=>HB0.out (by rw [<-Hal.nat_words y,List.eq_nil_of_length_eq_zero (e2.trans h)]; rfl)
  simp; omega
 have HD:=hdq (zE2 H1.out H2.out (Nat.pos_of_ne_zero HB0.out) (by omega) (by omega));replace bA:=bA.below hW2 s0;replace bB:=bB.below hW2 s1;replace bR:=bR.below hW2 s2;replace bS:=bS.below hW2 s3;replace s3:=ltl s3 hW2.size;clear hS h1 h2 hb1 hb2 e1 e2 a0 a1 b0 b1 HA2 HB2 HLA HLB hbW hW2 s0 s1 s2;go_wp2_with fail
 refine HD.out.mono ?_;rintro e w3 ⟨⟨A3,n3,c3,A4,n4,c4,rfl,h3,h4⟩,hb3⟩;rw [HDv.out] at h4;have hn4:n4=0:=by rw [<-h4.len,Hal.words_zero]; rfl
 subst hn4;have hB3:=hB2.trans (hb3.mono hB2.size);replace bA:=bA.below hb3 (by omega);replace bB:=bB.below hb3 (by omega);replace bR:=bR.below hb3 (by omega);replace bS:=bS.below hb3 s3;have s3':=ltl s3 hb3.size;obtain ⟨a0,a1,-⟩:=id bA;obtain ⟨b0,b1,-⟩:=id bB
 have l3:n3<=800000:=by
  have:=zBF (Nat.div_le_self x y);rw [h3.len,H1.out.len] at this; omega
 have H3:=hdq h3;have H4:=hdq h4;have hb3s:=hb3.size;clear h3 h4 HD;cases ng
 all_goals
  go_wp2_with fail
  refine (zCA _ H3.out (by omega)).mono ?_;rintro e w4 ⟨⟨ng',A',n',c',rfl,hz⟩,hb4⟩;have HZ:=hdq hz;clear hz;go_wp2_with fail
  refine (zCA false (H4.out.below hb4) (by omega)).mono ?_;rintro e w5 ⟨⟨ng2,A2',n2',c2',rfl,hz2⟩,hb5⟩;have hb45:=hb4.trans (hb5.mono hb4.size);have bR5:=bR.below hb45 (by omega);have bS5:=bS.below hb45 s3';obtain ⟨r0,r1,rf⟩:=id bR5;obtain ⟨q0,q1,qf⟩:=id bS5;have s5:=ltl s3' hb45.size;have hB5:=hB3.trans (hb45.mono hB3.size);have hzf:=HZ.out.below hb5;rw [Hal.nat_words] at hzf;have HZF:=hdq hzf;clear hz2 hzf hb4 hb5 HZ a0 a1 b0 b1;have bR6:=bR5.restored (.bool ng') (.slice A' n' c');have bS6:=(bS5.far2 (b':=w+1+1) (o:=0) (by omega) (.bool ng')).far2 (b':=w+1+1) (o:=1) (by omega) (.slice A' n' c');have bS7:=bS6.restored (.bool ng2) (.slice A2' n2' c2');have bR7:=(bR6.far2 (b':=w+1+1+1) (o:=0) (by omega) (.bool ng2)).far2 (b':=w+1+1+1) (o:=1) (by omega) (.slice A2' n2' c2');have hB7:=(((hB5.setCell (p:=⟨w+1+1,0,none⟩) (by show w<=(w+1+1:Nat); omega) (.bool ng')).setCell (p:=⟨w+1+1,1,none⟩) (by show w<=(w+1+1:Nat); omega) (.slice A' n' c')).setCell (p:=⟨w+1+1+1,0,none⟩) (by show w<=(w+1+1+1:Nat); omega) (.bool ng2)).setCell (p:=⟨w+1+1+1,1,none⟩) (by show w<=(w+1+1+1:Nat); omega) (.slice A2' n2' c2');have hB3s:=hB3.size;have HZ7:=hdq ((((HZF.out.set (p:=⟨w+1+1,0,none⟩) (by show w+1+1<(w3:Nat); omega) (.bool ng')).set (p:=⟨w+1+1,1,none⟩) (by show w+1+1<(w3:Nat); omega) (.slice A' n' c')).set (p:=⟨w+1+1+1,0,none⟩) (by show w+1+1+1<(w3:Nat); omega) (.bool ng2)).set (p:=⟨w+1+1+1,1,none⟩) (by show w+1+1+1<(w3:Nat); omega) (.slice A2' n2' c2'));clear bR6 bS6 hB3 hB5 HZF bR5 bS5;go_wp2;generalize (((w5.setCell ⟨w+1+1,0,none⟩ (.bool ng')).setCell ⟨w+1+1,1,none⟩ (.slice A' n' c')).setCell ⟨w+1+1+1,0,none⟩ (.bool ng2)).setCell ⟨w+1+1+1,1,none⟩ (.slice A2' n2' c2')=W9 at *;obtain ⟨v0,v1,-⟩:=bR7;obtain ⟨v2,v3,-⟩:=bS7;refine bodyPost_ret (v:=.tuple #[.agg #[.bool ng',.slice A' n' c'],.agg #[.bool ng2,.slice A2' n2' c2'],.int .i64 0]) (by simp [results,Tryz.results211,go_sem,v0,v1,v2,v3]) rfl ⟨⟨_,_,_,_,_,_,_,_,rfl,?_⟩,hB7⟩;have:=HZ7.out.lower (B':=w) (by omega);cases mg <;> simpa using this
theorem zCs (h:WordsAt w X A n c l) (hn:n<=100000000000) (h0:Num.nat l ≠ 0) :
  Calls Tryz.prog 214 #[.agg #[.bool false,.slice A n c]] w fun e w'=>e = .returned (.int .i64 1)/\Below w w w':=
 (zBJ false h hn).mono fun e w' ⟨h1,h2⟩=>⟨by rw [h1]; simp [zsign,h0],h2⟩
theorem zGF {B:Option Addr} {la lb:List Nat} (ha:WordsAt w X A n c la) (hb:WordsAt w Y B m d lb) (hn:n<=400000) (hm:m<=400000) (ha0:Num.nat la ≠ 0) (hb0:Num.nat lb ≠ 0) :
  Calls Tryz.prog 212 #[.agg #[.bool false,.slice A n c],.agg #[.bool false,.slice B m d]] w fun e w'=>e = .returned (.int .i64 (cmpN (Num.nat la) (Num.nat lb)))/\Below w w w':=by
 obtain ⟨o,ho⟩:∃ o,cmpN (Num.nat la) (Num.nat lb)=o:=⟨_,rfl⟩;rw [ho];have HO:=hdq ho;clear ho;have HA:=hdq ha.old;have HB:=hdq hb.old;have HN:=hdq hn;have HM:=hdq hm;have HA0:=hdq ha0;have HB0:=hdq hb0;clear ha hb hn hm ha0 hb0;go_enter Tryz.func212,Tryz.ntmps212
 go_wp2;refine zAo (fun W=>Below w w W/\Box2 W w (.bool false) (.slice A n c)/\Box2 W (w+1) (.bool false) (.slice B m d)/\w<(W:Nat)/\w+1<(W:Nat)) ⟨(az (az (brf _ _))),bx2,bx2,by simp <;> omega,by simp <;> omega⟩ ?_;rintro W ⟨hbW,bA,bB,s0,s1⟩;have hBW:=hbW.size;have HA2:=hdq (HA.out.below hbW);have HB2:=hdq (HB.out.below hbW);obtain ⟨a0,a1,-⟩:=id bA;obtain ⟨b0,b1,-⟩:=id bB;clear HA HB
 go_region_held3 (Sees w [] W) (exact kp)
  (first
   | (go_at_call 214; ((with_reducible refine (zCs (HA2.out.keptOld (Sees.kept (by assumption))) (by have:=HN.out; omega) HA0.out).mono ?_); rintro e w1 ⟨rfl,hb1⟩))
   | (go_at_call 214; ((with_reducible refine (zCs (HB2.out.keptOld (Sees.kept (by assumption))) (by have:=HM.out; omega) HB0.out).mono ?_); rintro e w2 ⟨rfl,hb2⟩))
   | fail)
 rename_i hS;go_wp2
 go_region_held3 (Sees w [] W) (exact kp)
  (first
   | (go_at_call 185; ((with_reducible refine (zAH (HA2.out.keptOld (Sees.kept (by assumption))) (by have:=HN.out; omega)).mono ?_); rintro e w3 ⟨⟨A1,n1,c1,rfl,-,h1⟩,hb3⟩))
   | (go_at_call 185; ((with_reducible refine (zAH (HB2.out.keptOld (Sees.kept (by assumption))) (by have:=HM.out; omega)).mono ?_); rintro e w4 ⟨⟨A2,n2,c2,rfl,-,h2⟩,hb4⟩))
   | (go_at_call 236; ((with_reducible refine (zE1 (h1.below hb4) h2).mono ?_); rintro e w5 ⟨rfl,rfl⟩))
   | fail)
 rename_i hS2;rw [Hal.nat_words,Hal.nat_words,HO.out];have hS3:=hS2.kept.whole;have hbf:=hbW.trans (hS3.mono hBW);have HA4:=hdq (HA2.out.below hS3);clear hS hS2 h1 h2 hb1 hb2 hb3 hb4;obtain ⟨a0',a1',-⟩:=bA.below hS3 s0;clear a0 a1 b0 b1;go_wp2_with fail
 refine (zCs HA4.out (by have:=HN.out; omega) HA0.out).mono ?_;rintro e w6 ⟨rfl,hb6⟩;have hbf2:=hbf.trans (hb6.mono hbf.size);go_wp2;go_ret;exact ⟨rfl,hbf2⟩
theorem zHQ {v:QV} {x r:Int} (hr:r=if y<0 then -x else x) (hx:ZIs w X L v.num x) (hy:ZIs w Y M v.den y) (hL:L<=400000) (hM:M<=400000) :
  Calls Tryz.prog 170 #[v.val] w fun e w'=>ZRet1 w r e w'/\Below w w w':=by
 have HR:=hdq hr;clear hr;obtain ⟨lx,hlx,hln,ex⟩:=hx;obtain ⟨ly,hly,hlm,ey⟩:=hy;have HX:=hdq hlx.old;have HY:=hdq hly.old;have HN:Hid (v.num.n<=400000):=nlt hln hL;have HM:Hid (v.den.n<=400000):=nlt hlm hM;have hsg:zsign v.den.ng (Num.nat ly)<0 ↔ y<0:=by rw [ey]; exact zI4
 have HEx:=hdq ex;have HSg:=hdq hsg;clear hlx hly hln hlm hL hM ex ey hsg;obtain ⟨s,hs⟩:∃ s,zsign v.den.ng (Num.nat ly)=s:=⟨_,rfl⟩;rw [hs] at HSg;have HS:=hdq hs;clear hs;by_cases hneg:s<0
 ·have hif:Hid (r=-x):=by show _=_; rw [HR.out,if_pos (HSg.out.1 hneg)]
  go_enter Tryz.func170,Tryz.ntmps170
  go_wp2_with fail
  refine zAg (fun W=>Below w w W/\Box4 W w (.bool v.num.ng) (.slice v.num.A v.num.n v.num.c) (.bool v.den.ng) (.slice v.den.A v.den.n v.den.c)/\Box2 W (w+1) (.bool false) (.slice none 0 0)/\w<(W:Nat)/\w+1<(W:Nat)) ⟨(az (az (brf _ _))),bx4,bx2,by simp <;> omega,by simp <;> omega⟩ ?_;rintro W ⟨hbW,bA,bR,s0,s1⟩;have hBW:=hbW.size;refine (zBJ v.den.ng (HY.out.below hbW) (by have:=HM.out; omega)).mono ?_;rw [HS.out];rintro e w1 ⟨rfl,hb1⟩;obtain ⟨a0,a1,a2,a3,-⟩:=bA.below hb1 s0;have HX1:=hdq ((HX.out.below hbW).below hb1);go_wp2_with fail
  refine (zHP v.num.ng HX1.out (by have:=HN.out; omega)).mono ?_;rintro e w2 ⟨⟨ng',A',n',c',rfl,hz⟩,hb2⟩;have hb12:=hb1.trans (hb2.mono hb1.size);have bR2:=bR.below hb12 s1;have sR2:=ltl s1 hb12.size;have hb1s:=hb1.size;obtain ⟨r0,r1,rf⟩:=id bR2;obtain ⟨v0,v1⟩:=bR2.stored (.bool ng') (.slice A' n' c');have hzf:=((hz.set (p:=⟨w+1,0,none⟩) (by show w+1<(w1:Nat); omega) (.bool ng')).set (p:=⟨w+1,1,none⟩) (by show w+1<(w1:Nat); omega) (.slice A' n' c')).lower (B':=w) (by omega);have HZ:=hdq hzf;have hbf:=((hbW.trans (hb12.mono hBW)).setCell (p:=⟨w+1,0,none⟩) (by simp) (.bool ng')).setCell (p:=⟨w+1,1,none⟩) (by simp) (.slice A' n' c');clear hz hzf hb1 hb2 hb12;go_wp2;exact bodyPost_ret (v:=.agg #[.bool ng',.slice A' n' c']) (by simp [results,Tryz.results170,go_sem,v0,v1]) rfl ⟨⟨_,_,_,_,rfl,by rw [hif.out,HEx.out]; exact HZ.out⟩,hbf⟩
 ·have hif:Hid (r=x):=by show _=_; rw [HR.out,if_neg fun h=>hneg (HSg.out.2 h)]
  go_enter Tryz.func170,Tryz.ntmps170
  go_wp2_with fail
  refine zAg (fun W=>Below w w W/\Box4 W w (.bool v.num.ng) (.slice v.num.A v.num.n v.num.c) (.bool v.den.ng) (.slice v.den.A v.den.n v.den.c)/\Box2 W (w+1) (.bool false) (.slice none 0 0)/\w<(W:Nat)/\w+1<(W:Nat)) ⟨(az (az (brf _ _))),bx4,bx2,by simp <;> omega,by simp <;> omega⟩ ?_;rintro W ⟨hbW,bA,bR,s0,s1⟩;have hBW:=hbW.size;refine (zBJ v.den.ng (HY.out.below hbW) (by have:=HM.out; omega)).mono ?_;rw [HS.out];rintro e w1 ⟨rfl,hb1⟩;obtain ⟨a0,a1,a2,a3,-⟩:=bA.below hb1 s0;have HX1:=hdq ((HX.out.below hbW).below hb1);go_wp2_with fail
  refine (zCr v.num.ng HX1.out (by have:=HN.out; omega)).mono ?_;rintro e w2 ⟨⟨ng',A',n',c',rfl,hz⟩,hb2⟩;have hb12:=hb1.trans (hb2.mono hb1.size);have bR2:=bR.below hb12 s1;have sR2:=ltl s1 hb12.size;have hb1s:=hb1.size;obtain ⟨r0,r1,rf⟩:=id bR2;obtain ⟨v0,v1⟩:=bR2.stored (.bool ng') (.slice A' n' c');have hzf:=((hz.set (p:=⟨w+1,0,none⟩) (by show w+1<(w1:Nat); omega) (.bool ng')).set (p:=⟨w+1,1,none⟩) (by show w+1<(w1:Nat); omega) (.slice A' n' c')).lower (B':=w) (by omega);have HZ:=hdq hzf;have hbf:=((hbW.trans (hb12.mono hBW)).setCell (p:=⟨w+1,0,none⟩) (by simp) (.bool ng')).setCell (p:=⟨w+1,1,none⟩) (by simp) (.slice A' n' c');clear hz hzf hb1 hb2 hb12;go_wp2;exact bodyPost_ret (v:=.agg #[.bool ng',.slice A' n' c']) (by simp [results,Tryz.results170,go_sem,v0,v1]) rfl ⟨⟨_,_,_,_,rfl,by rw [hif.out,HEx.out]; exact HZ.out⟩,hbf⟩
theorem zDz :Calls Tryz.prog 213 #[] w fun e w'=>ZRet1 w 1 e w'/\Below w w w':=by
 go_enter Tryz.func213,Tryz.ntmps213
 go_wp2_with fail
 refine zAg (fun W=>Below w w W/\Box2 W w (.bool false) (.slice none 0 0)/\w<(W:Nat)) ⟨(az (brf _ _)),bx2,by simp <;> omega⟩ ?_;rintro W ⟨hbW,bR,s0⟩;have hBW:=hbW.size;refine (zB9 1 (by decide) (by decide) (by decide)).mono ?_;rintro e w1 ⟨⟨ng',A',n',c',rfl,hz⟩,hb1⟩;have bR2:=bR.below hb1 s0;obtain ⟨r0,r1,rf⟩:=id bR2;obtain ⟨v0,v1⟩:=bR2.stored (.bool ng') (.slice A' n' c');have sR2:=ltl s0 hb1.size;have hzf:=((hz.set (p:=w) s0 (.bool ng')).set (p:=⟨w,1,none⟩) s0 (.slice A' n' c')).lower (B':=w) hBW;have HZ:=hdq hzf;have hbf:=((hbW.trans (hb1.mono hBW)).setCell (p:=w) (nlr _) (.bool ng')).setCell (p:=⟨w,1,none⟩) (nlr _) (.slice A' n' c');clear hz hzf hb1;go_wp2;exact bodyPost_ret (v:=.agg #[.bool ng',.slice A' n' c']) (by simp [results,Tryz.results213,go_sem,v0,v1]) rfl ⟨⟨_,_,_,_,rfl,HZ.out⟩,hbf⟩
theorem zHN {v:QV} {r:Int} (hr:r=if y=0 then 1 else (y.natAbs:Int)) (hy:ZIs w Y M v.den y) (hM:M<=400000) :
  Calls Tryz.prog 171 #[v.val] w fun e w'=>ZRet1 w r e w'/\Below w w w':=by
 have HR:=hdq hr;clear hr;obtain ⟨ly,hly,hlm,ey⟩:=hy;have HY:=hdq hly.old;have HM:Hid (v.den.n<=400000):=nlt hlm hM;have hsg:zsign v.den.ng (Num.nat ly)=0 ↔ y=0:=by rw [ey]; unfold zsign zval; split <;> (try split) <;> simp_all <;> omega
 have habs:y.natAbs=Num.nat ly:=by rw [ey]; unfold zval; split <;> omega
 have HAb:=hdq habs;have HSg:=hdq hsg;clear hly hlm hM ey hsg habs;obtain ⟨s,hs⟩:∃ s,zsign v.den.ng (Num.nat ly)=s:=⟨_,rfl⟩;rw [hs] at HSg;have HS:=hdq hs;clear hs;by_cases h0:s=0
 ·have hif:Hid (r=1):=by show _=_; rw [HR.out,if_pos (HSg.out.1 h0)]
  subst h0;go_enter Tryz.func171,Tryz.ntmps171
  go_wp2_with fail
  refine zAg (fun W=>Below w w W/\Box4 W w (.bool v.num.ng) (.slice v.num.A v.num.n v.num.c) (.bool v.den.ng) (.slice v.den.A v.den.n v.den.c)/\Box2 W (w+1) (.bool false) (.slice none 0 0)/\w<(W:Nat)/\w+1<(W:Nat)) ⟨(az (az (brf _ _))),bx4,bx2,by simp <;> omega,by simp <;> omega⟩ ?_;rintro W ⟨hbW,bA,bR,s0,s1⟩;have hBW:=hbW.size;refine (zBJ v.den.ng (HY.out.below hbW) (by have:=HM.out; omega)).mono ?_;rw [HS.out];rintro e w1 ⟨rfl,hb1⟩;go_wp2_with fail
  refine zDz.mono ?_;rintro e w2 ⟨⟨ng',A',n',c',rfl,hz⟩,hb2⟩;have hb12:=hb1.trans (hb2.mono hb1.size);have bR2:=bR.below hb12 s1;have sR2:=ltl s1 hb12.size;have hb1s:=hb1.size;obtain ⟨r0,r1,rf⟩:=id bR2;obtain ⟨v0,v1⟩:=bR2.stored (.bool ng') (.slice A' n' c');have hzf:=((hz.set (p:=⟨w+1,0,none⟩) (by show w+1<(w1:Nat); omega) (.bool ng')).set (p:=⟨w+1,1,none⟩) (by show w+1<(w1:Nat); omega) (.slice A' n' c')).lower (B':=w) (by omega);have HZ:=hdq hzf;have hbf:=((hbW.trans (hb12.mono hBW)).setCell (p:=⟨w+1,0,none⟩) (by simp) (.bool ng')).setCell (p:=⟨w+1,1,none⟩) (by simp) (.slice A' n' c');clear hz hzf hb1 hb2 hb12;go_wp2;exact bodyPost_ret (v:=.agg #[.bool ng',.slice A' n' c']) (by simp [results,Tryz.results171,go_sem,v0,v1]) rfl ⟨⟨_,_,_,_,rfl,by rw [hif.out]; exact HZ.out⟩,hbf⟩
 ·have hif:Hid (r=((Num.nat ly:Nat):Int)):=by show _=_; rw [HR.out,if_neg fun h=>h0 (HSg.out.2 h),HAb.out]
  have hb0:(s == 0)=false:=by simpa using h0
  go_enter Tryz.func171,Tryz.ntmps171
  go_wp2_with fail
  refine zAg (fun W=>Below w w W/\Box4 W w (.bool v.num.ng) (.slice v.num.A v.num.n v.num.c) (.bool v.den.ng) (.slice v.den.A v.den.n v.den.c)/\Box2 W (w+1) (.bool false) (.slice none 0 0)/\w<(W:Nat)/\w+1<(W:Nat)) ⟨(az (az (brf _ _))),bx4,bx2,by simp <;> omega,by simp <;> omega⟩ ?_;rintro W ⟨hbW,bA,bR,s0,s1⟩;have hBW:=hbW.size;refine (zBJ v.den.ng (HY.out.below hbW) (by have:=HM.out; omega)).mono ?_;rw [HS.out];rintro e w1 ⟨rfl,hb1⟩;obtain ⟨a0,a1,a2,a3,-⟩:=bA.below hb1 s0;have HY1:=hdq ((HY.out.below hbW).below hb1);go_wp2_with fail
  refine (zHM v.den.ng HY1.out (by have:=HM.out; omega)).mono ?_;rintro e w2 ⟨⟨ng',A',n',c',rfl,hz⟩,hb2⟩;have hb12:=hb1.trans (hb2.mono hb1.size);have bR2:=bR.below hb12 s1;have sR2:=ltl s1 hb12.size;have hb1s:=hb1.size;obtain ⟨r0,r1,rf⟩:=id bR2;obtain ⟨v0,v1⟩:=bR2.stored (.bool ng') (.slice A' n' c');have hzf:=((hz.set (p:=⟨w+1,0,none⟩) (by show w+1<(w1:Nat); omega) (.bool ng')).set (p:=⟨w+1,1,none⟩) (by show w+1<(w1:Nat); omega) (.slice A' n' c')).lower (B':=w) (by omega);have HZ:=hdq hzf;have hbf:=((hbW.trans (hb12.mono hBW)).setCell (p:=⟨w+1,0,none⟩) (by simp) (.bool ng')).setCell (p:=⟨w+1,1,none⟩) (by simp) (.slice A' n' c');clear hz hzf hb1 hb2 hb12;go_wp2;exact bodyPost_ret (v:=.agg #[.bool ng',.slice A' n' c']) (by simp [results,Tryz.results171,go_sem,v0,v1]) rfl ⟨⟨_,_,_,_,rfl,by rw [hif.out]; exact HZ.out⟩,hbf⟩
theorem zIA {x:Int} (hy:0<y) (hq:q=(x:Rat) / (y:Rat)) (hg:g=Nat.gcd x.natAbs y.natAbs) :
  g ≠ 0/\x.natAbs % g=0/\y.natAbs % g=0/\x.natAbs / g=q.num.natAbs/\y.natAbs / g=q.den/\(x<0 ↔ q.num<0):=by
 obtain ⟨m,hm,hx,hyy⟩:=zEf hy hq;have hx2:x.natAbs=q.num.natAbs*m:=by rw [hx,Int.natAbs_mul]; simp
 have hy2:y.natAbs=q.den*m:=by rw [hyy,Int.natAbs_mul]; simp
 have hgm:g=m:=by
  rw [hg,hx2,hy2,Nat.gcd_mul_right];have:Nat.gcd q.num.natAbs q.den=1:=q.reduced;rw [this,Nat.one_mul]
 subst hgm;have hmp:0<g:=by omega
 refine ⟨hm,by rw [hx2,Nat.mul_mod_left],by rw [hy2,Nat.mul_mod_left],by rw [hx2,Nat.mul_div_cancel _ hmp],by rw [hy2,Nat.mul_div_cancel _ hmp],?_⟩;have hmi:(0:Int)<(g:Int):=by omega
 constructor
 ·intro h;rw [hx] at h;rcases (by omega:q.num<0\/0<=q.num) with h1 | h1
  ·exact h1
  ·have:=Int.mul_nonneg h1 (Int.le_of_lt hmi); omega
 ·intro h;rw [hx];have:=Int.mul_neg_of_neg_of_pos h hmi; exact this
theorem zEx {B:Option Addr} {y:Nat} (o:Int) (ho:cmpN y 1=o) (hy:0<y) (ha:WordsAt w X A n c (Num.words y)) (hb:WordsAt w Y B m d (Num.words (Int.natAbs 1))) (hn:n<=400000) :
  Calls Tryz.prog 212 #[.agg #[.bool false,.slice A n c],.agg #[.bool false,.slice B m d]] w fun e w'=>e = .returned (.int .i64 o)/\Below w w w':=by
 have h1:Num.nat (Num.words (Int.natAbs 1))=1:=by rw [Num.nat_words]; rfl
 have hm:m<=400000:=by
  rw [<-hb.len];exact nlt (Num.words_length_le (k:=1) (by decide)) (by decide)
 refine (zGF ha hb hn hm (by rw [Num.nat_words]; omega) (by rw [h1]; decide)).mono ?_;rw [h1,Num.nat_words,ho];exact fun _ _ h=>h
theorem zHE {B:Option Addr} {mg:Bool} {x:Int} (ha:ZAt w X ng A n c x) (hb:ZAt w Y mg B m d y) (hn:n<=400000) (hm:m<=400000) (hy:0<y) (hq:q=(x:Rat) / (y:Rat)) :
  Calls Tryz.prog 169 #[.agg #[.bool ng,.slice A n c],.agg #[.bool mg,.slice B m d]] w fun e w'=>QRet w q e w'/\Below w w w':=by
 obtain ⟨g,hg⟩:∃ g,g=Nat.gcd x.natAbs y.natAbs:=⟨_,rfl⟩;obtain ⟨m1,m2,m3,m4,m5,m6⟩:=zIA hy hq hg;have hmg:mg=false:=by rw [hb.sign]; simp; omega
 subst hmg;have hng:ng=decide (q.num<0):=by rw [ha.sign]; simp [m6]
 have HA:=hdq ha.words.old;have HB:=hdq hb.words.old;have HN:=hdq hn;have HM:=hdq hm;have hgx:Hid (Nat.gcd (Num.nat (Num.words x.natAbs)) (Num.nat (Num.words y.natAbs))=g):=by show _=_; rw [Num.nat_words,Num.nat_words]; exact hg.symm
 have M1:=hdq m1;have M2:Hid (Num.nat (Num.words x.natAbs) % Num.nat (Num.words g)=0):=by show _=_; rw [Num.nat_words,Num.nat_words]; exact m2
 have M3:Hid (Num.nat (Num.words y.natAbs) % Num.nat (Num.words g)=0):=by show _=_; rw [Num.nat_words,Num.nat_words]; exact m3
 have M4:Hid (Num.nat (Num.words x.natAbs) / Num.nat (Num.words g)=q.num.natAbs):=by show _=_; rw [Num.nat_words,Num.nat_words]; exact m4
 have M5:Hid (Num.nat (Num.words y.natAbs) / Num.nat (Num.words g)=q.den):=by show _=_; rw [Num.nat_words,Num.nat_words]; exact m5
 have MG:Hid (Num.nat (Num.words g) ≠ 0):=by show _ ≠ _; rw [Num.nat_words]; exact m1
 have HNg:=hdq hng
 have HGl:Hid ((Num.words g).length<=400000):=by
  have h1:g<=y.natAbs:=by rw [hg]; exact Nat.le_of_dvd (by omega) (Nat.gcd_dvd_right _ _)
  have h2:=Num.words_length_le (Nat.lt_of_le_of_lt h1 (Num.lt_words_length y.natAbs));rw [hb.words.len] at h2;show _<=_; omega
 have HDl:Hid ((Num.words q.den).length<=400000):=by
  have h1:q.den<=y.natAbs:=by rw [<-m5]; exact Nat.div_le_self _ _
  have h2:=Num.words_length_le (Nat.lt_of_le_of_lt h1 (Num.lt_words_length y.natAbs));rw [hb.words.len] at h2;show _<=_; omega
 clear ha hb hn hm hy hq hg m1 m2 m3 m4 m5 m6 hng;go_enter Tryz.func169,Tryz.ntmps169
 go_wp2_with fail
 refine zAg (fun W=>Below w w W/\Box2 W w (.bool ng) (.slice A n c)/\Box2 W (w+1) (.bool false) (.slice B m d)/\Box4 W (w+1+1) (.bool false) (.slice none 0 0) (.bool false) (.slice none 0 0)/\w<(W:Nat)/\w+1<(W:Nat)/\w+1+1<(W:Nat)) ⟨(az (az (az (brf _ _)))),bx2,bx2,bx4,by simp <;> omega,by simp <;> omega,by simp <;> omega⟩ ?_;rintro W ⟨hbW,bA,bB,bR,s0,s1,s2⟩;have hBW:=hbW.size;have ne02:¬ (w=(w+1+1:Nat)):=by omega
 refine (zHO ng false (HA.out.below hbW) (HB.out.below hbW) HN.out HM.out).mono ?_;rw [hgx.out];rintro e w1 ⟨⟨gg,gA,gn,gc,rfl,hgz⟩,hb1⟩;have hgg:gg=false:=by rw [hgz.sign]; simp
 subst hgg;have hgw:=hgz.words;rw [Int.natAbs_natCast] at hgw;have HG:=hdq hgw;have HGn:Hid (gn<=400000):=by show _<=_; rw [<-hgw.len]; exact HGl.out
 clear hgw;clear hgz;replace bA:=bA.below hb1 s0;replace bB:=bB.below hb1 s1;replace bR:=bR.below hb1 s2;replace s0:=ltl s0 hb1.size;replace s1:=ltl s1 hb1.size;replace s2:=ltl s2 hb1.size;replace hbW:=hbW.trans (hb1.mono hbW.size);try clear a0 a1 b0 b1
 obtain ⟨a0,a1,-⟩:=id bA;obtain ⟨b0,b1,-⟩:=id bB;go_wp2_with fail
 have al1:Below w1 w1 (w1.alloc (.cells #[.bool false,.slice gA gn gc] 35)):=bal;have bG:Box2 (w1.alloc (.cells #[.bool false,.slice gA gn gc] 35)) w1 (.bool false) (.slice gA gn gc):=bx2;have sG:w1.heap.size<(w1.alloc (.cells #[.bool false,.slice gA gn gc] 35)).heap.size:=by simp
 replace HG:=hdq (HG.out.below al1);have w1s:=hbW.size;replace bA:=bA.below al1 s0;replace bB:=bB.below al1 s1;replace bR:=bR.below al1 s2;replace s0:=ltl s0 al1.size;replace s1:=ltl s1 al1.size;replace s2:=ltl s2 al1.size;replace hbW:=hbW.trans (al1.mono hbW.size);try clear a0 a1 b0 b1
 obtain ⟨a0,a1,-⟩:=id bA;obtain ⟨b0,b1,-⟩:=id bB;generalize w1.alloc (.cells #[.bool false,.slice gA gn gc] 35)=W1 at *;have f1:=s2;clear al1 hb1;refine (zEZ ng false (HA.out.below hbW) HG.out HN.out HGn.out MG.out M2.out).mono ?_;rw [M4.out];rintro e w2 ⟨⟨pg,pA,pn,pc,eg,eA,en,ec,rfl,hp⟩,hb2⟩;replace bG:=bG.below hb2 sG;replace sG:=ltl sG hb2.size;replace bA:=bA.below hb2 s0;replace bB:=bB.below hb2 s1;replace bR:=bR.below hb2 s2;replace s0:=ltl s0 hb2.size;replace s1:=ltl s1 hb2.size;replace s2:=ltl s2 hb2.size;replace hbW:=hbW.trans (hb2.mono hbW.size);try clear a0 a1 b0 b1
 obtain ⟨a0,a1,-⟩:=id bA;obtain ⟨b0,b1,-⟩:=id bB;try clear g0 g1
 obtain ⟨g0,g1,-⟩:=id bG;have HP:=hdq hp;replace HG:=hdq (HG.out.below hb2);clear hp;go_wp2_with fail
 have al2:Below w2 w2 ((w2.alloc (.cells #[.bool pg,.slice pA pn pc] 35)).alloc (.cells #[.bool eg,.slice eA en ec] 35)):=(bal).alloc (by simp) _;have bP:Box2 ((w2.alloc (.cells #[.bool pg,.slice pA pn pc] 35)).alloc (.cells #[.bool eg,.slice eA en ec] 35)) w2 (.bool pg) (.slice pA pn pc):=bx2;have sP:w2.heap.size<((w2.alloc (.cells #[.bool pg,.slice pA pn pc] 35)).alloc (.cells #[.bool eg,.slice eA en ec] 35)).heap.size:=by simp; omega
 have f2:W1<=(w2:Nat):=hb2.size;have f3:=al2.size;replace HP:=hdq (HP.out.below al2);replace HG:=hdq (HG.out.below al2);replace bG:=bG.below al2 sG;replace sG:=ltl sG al2.size;replace bA:=bA.below al2 s0;replace bB:=bB.below al2 s1;replace bR:=bR.below al2 s2;replace s0:=ltl s0 al2.size;replace s1:=ltl s1 al2.size;replace s2:=ltl s2 al2.size;replace hbW:=hbW.trans (al2.mono hbW.size);try clear a0 a1 b0 b1
 obtain ⟨a0,a1,-⟩:=id bA;obtain ⟨b0,b1,-⟩:=id bB;try clear g0 g1
 obtain ⟨g0,g1,-⟩:=id bG;generalize (w2.alloc (.cells #[.bool pg,.slice pA pn pc] 35)).alloc (.cells #[.bool eg,.slice eA en ec] 35)=W2 at *;have f4:W1<=(W2:Nat):=nlt f2 f3;clear al2 hb2;refine (zEZ false false (HB.out.below hbW) HG.out HM.out HGn.out MG.out M3.out).mono ?_;rw [M5.out];rintro e w3 ⟨⟨qg,qA,qn,qc,fg,fA,fn,fc,rfl,hq2⟩,hb3⟩;have hqg:qg=false:=by rw [hq2.sign]; simp [zval]
 subst hqg;have hqw:=hq2.words;rw [show (zval (false != false) q.den).natAbs=q.den by simp [zval]] at hqw;have HQ:=hdq hqw;have HQn:Hid (qn<=400000):=by show _<=_; rw [<-hqw.len]; exact HDl.out
 clear hq2 hqw;replace HP:=hdq (HP.out.below hb3);replace bP:=bP.below hb3 sP;replace sP:=ltl sP hb3.size;replace bG:=bG.below hb3 sG;replace sG:=ltl sG hb3.size;replace bA:=bA.below hb3 s0;replace bB:=bB.below hb3 s1;replace bR:=bR.below hb3 s2;replace s0:=ltl s0 hb3.size;replace s1:=ltl s1 hb3.size;replace s2:=ltl s2 hb3.size;replace hbW:=hbW.trans (hb3.mono hbW.size);try clear a0 a1 b0 b1
 obtain ⟨a0,a1,-⟩:=id bA;obtain ⟨b0,b1,-⟩:=id bB;try clear g0 g1
 obtain ⟨g0,g1,-⟩:=id bG;go_wp2;have al3:Below w3 w3 ((w3.alloc (.cells #[.bool false,.slice qA qn qc] 35)).alloc (.cells #[.bool fg,.slice fA fn fc] 35)):=(bal).alloc (by simp) _;have bQ:Box2 ((w3.alloc (.cells #[.bool false,.slice qA qn qc] 35)).alloc (.cells #[.bool fg,.slice fA fn fc] 35)) w3 (.bool false) (.slice qA qn qc):=bx2;have sQ:w3.heap.size<((w3.alloc (.cells #[.bool false,.slice qA qn qc] 35)).alloc (.cells #[.bool fg,.slice fA fn fc] 35)).heap.size:=by simp; omega
 have w3s:=hbW.size;have w3p:=sP;replace HP:=hdq (HP.out.below al3);replace HQ:=hdq (HQ.out.below al3);replace bP:=bP.below al3 sP;replace sP:=ltl sP al3.size;replace bG:=bG.below al3 sG;replace sG:=ltl sG al3.size;replace bA:=bA.below al3 s0;replace bB:=bB.below al3 s1;replace bR:=bR.below al3 s2;replace s0:=ltl s0 al3.size;replace s1:=ltl s1 al3.size;replace s2:=ltl s2 al3.size;replace hbW:=hbW.trans (al3.mono hbW.size);try clear a0 a1 b0 b1
 obtain ⟨a0,a1,-⟩:=id bA;obtain ⟨b0,b1,-⟩:=id bB;try clear g0 g1
 obtain ⟨g0,g1,-⟩:=id bG;generalize (w3.alloc (.cells #[.bool false,.slice qA qn qc] 35)).alloc (.cells #[.bool fg,.slice fA fn fc] 35)=W3 at *;obtain ⟨p0,p1,-⟩:=id bP;obtain ⟨q0,q1,-⟩:=id bQ;have hBW3:=hbW.size;clear al3 hb3 a0 a1 b0 b1 g0 g1 bA bB bG sG HG HA HB
 have hnum:Hid (zval (ng != false) q.num.natAbs=q.num):=by
  show _=_;rw [HNg.out];by_cases h:q.num<0 <;> simp [h,zval] <;> omega
 by_cases hd1:q.den=1
 ·have ho:Hid (cmpN q.den 1=0):=by show _=_; rw [hd1]; rfl
  have hcd:Hid (cden q=0):=by show _=_; simp [cden,hd1]
  go_region_held3 (Sees w [] W3) (exact kp)
   (first
    | (go_at_call 213; ((with_reducible refine (zDz).mono ?_); rintro e w4 ⟨⟨og,oA,on,oc,rfl,hone⟩,hb4⟩; obtain rfl:og=false:=by rw [hone.sign]; rfl))
    | (go_at_call 212; ((with_reducible refine (zEx 0 ho.out q.den_pos ((HQ.out.below (Sees.kept (by assumption)).whole)) hone.words HQn.out).mono ?_); rintro e w5 ⟨rfl,hb5⟩))
    | fail)
  rename_i hS;have hS3:Below W3 W3 w5:=hS.kept.whole;clear hS hone hb4 hb5;replace HP:=hdq (HP.out.below hS3);replace HQ:=hdq (HQ.out.below hS3);replace bP:=bP.below hS3 sP;replace bQ:=bQ.below hS3 sQ;replace bR:=bR.below hS3 s2;replace s2:=ltl s2 hS3.size;replace sP:=ltl sP hS3.size;replace sQ:=ltl sQ hS3.size;replace hbW:=hbW.trans (hS3.mono hbW.size);clear p0 p1 q0 q1 hS3;obtain ⟨p0,p1,-⟩:=id bP;obtain ⟨q0,q1,-⟩:=id bQ;obtain ⟨r0,r1,r2,r3,rf⟩:=id bR;obtain ⟨v0,v1,v2,v3,-⟩:=bR.stored (.bool pg) (.slice pA pn pc) (.bool false) (.slice none 0 0);have hqc:QCan w5 (New W1) ⟨⟨pg,pA,pn,pc⟩,⟨false,none,0,0⟩⟩ q:=⟨by rw [<-hnum.out]; exact HP.out,by rw [hcd.out]; exact ⟨rfl,by rw [show (0:Int).natAbs=0 from rfl,Num.words_zero]; exact WordsAt.nil _ _ none 0 (by decide)⟩⟩;have HQC:=hdq ((hqc.set4 (x0:=.bool pg) (x1:=.slice pA pn pc) (x2:=.bool false) (x3:=.slice none 0 0) f1).lower (B':=w) (by omega));have hbf:=zAl (x0:=.bool pg) (x1:=.slice pA pn pc) (x2:=.bool false) (x3:=.slice none 0 0) (b:=w+1+1) hbW (by omega);clear r0 r1 r2 r3 hqc;obtain ⟨r0,r1,r2,r3,rf⟩:=id bR;go_wp2;exact bodyPost_ret (v:=QV.val ⟨⟨pg,pA,pn,pc⟩,⟨false,none,0,0⟩⟩) (by simp [results,Tryz.results169,go_sem,v0,v1,v2,v3]) rfl ⟨⟨⟨⟨pg,pA,pn,pc⟩,⟨false,none,0,0⟩⟩,rfl,HQC.out⟩,hbf⟩
 ·have ho:Hid (cmpN q.den 1=1):=by
   show _=_;have:=q.den_pos;unfold cmpN; rw [if_neg (by omega),if_pos (by omega)]
  have hcd:Hid (cden q=(q.den:Int)):=by show _=_; simp [cden,hd1]
  go_region_held3 (Sees w [] W3) (exact kp)
   (first
    | (go_at_call 213; ((with_reducible refine (zDz).mono ?_); rintro e w4 ⟨⟨og,oA,on,oc,rfl,hone⟩,hb4⟩; obtain rfl:og=false:=by rw [hone.sign]; rfl))
    | (go_at_call 212; ((with_reducible refine (zEx 1 ho.out q.den_pos ((HQ.out.below (Sees.kept (by assumption)).whole)) hone.words HQn.out).mono ?_); rintro e w5 ⟨rfl,hb5⟩))
    | fail)
  rename_i hS;have hS3:Below W3 W3 w5:=hS.kept.whole;clear hS hone hb4 hb5;replace HP:=hdq (HP.out.below hS3);replace HQ:=hdq (HQ.out.below hS3);replace bP:=bP.below hS3 sP;replace bQ:=bQ.below hS3 sQ;replace bR:=bR.below hS3 s2;replace s2:=ltl s2 hS3.size;replace sP:=ltl sP hS3.size;replace sQ:=ltl sQ hS3.size;replace hbW:=hbW.trans (hS3.mono hbW.size);clear p0 p1 q0 q1 hS3;obtain ⟨p0,p1,-⟩:=id bP;obtain ⟨q0,q1,-⟩:=id bQ;obtain ⟨r0,r1,r2,r3,rf⟩:=id bR;obtain ⟨v0,v1,v2,v3,-⟩:=bR.stored (.bool pg) (.slice pA pn pc) (.bool false) (.slice qA qn qc);have hqc:QCan w5 (New W1) ⟨⟨pg,pA,pn,pc⟩,⟨false,qA,qn,qc⟩⟩ q:=⟨by rw [<-hnum.out]; exact HP.out,by rw [hcd.out]; exact ⟨by simp,by rw [Int.natAbs_natCast]; exact HQ.out.imp fun b _ hb=>by simp only [New] at hb ⊢; omega⟩⟩;have HQC:=hdq ((hqc.set4 (x0:=.bool pg) (x1:=.slice pA pn pc) (x2:=.bool false) (x3:=.slice qA qn qc) f1).lower (B':=w) (by omega));have hbf:=zAl (x0:=.bool pg) (x1:=.slice pA pn pc) (x2:=.bool false) (x3:=.slice qA qn qc) (b:=w+1+1) hbW (by omega);clear r0 r1 r2 r3 hqc;obtain ⟨r0,r1,r2,r3,rf⟩:=id bR;go_wp2;exact bodyPost_ret (v:=QV.val ⟨⟨pg,pA,pn,pc⟩,⟨false,qA,qn,qc⟩⟩) (by simp [results,Tryz.results169,go_sem,v0,v1,v2,v3]) rfl ⟨⟨⟨⟨pg,pA,pn,pc⟩,⟨false,qA,qn,qc⟩⟩,rfl,HQC.out⟩,hbf⟩
theorem zJu (x y:Int):qv x y=(((if y<0 then -x else x):Int):Rat) / (((if y=0 then (1:Int) else (y.natAbs:Int)):Int):Rat):=by
 unfold qv;by_cases h0:y=0
 ·subst h0; simp; grind
 ·rw [if_neg h0,if_neg h0];by_cases h1:y<0
  ·rw [if_pos h1];have e:(y.natAbs:Int)=-y:=(by omega);rw [e];have:(y:Rat) ≠ 0:=(by exact_mod_cast h0);simp only [Rat.intCast_neg];grind
  ·rw [if_neg h1];have e:(y.natAbs:Int)=y:=(by omega);rw [e]
theorem zDg {v:QV} (h:QIs w X L v q) (hL:L<=300000) :
  Calls Tryz.prog 98 #[v.val] w fun e w'=>QRet w q e w'/\Below w w w':=by
 obtain ⟨x,y,hx,hy,hq⟩:=h;obtain ⟨a,ha⟩:∃ a,a=if y<0 then -x else x:=⟨_,rfl⟩
 obtain ⟨b,hb⟩:∃ b,b=if y=0 then (1:Int) else (y.natAbs:Int):=⟨_,rfl⟩
 have hqe:q=(a:Rat) / (b:Rat):=by rw [hq,ha,hb]; exact zJu x y
 have hbp:0<b:=by rw [hb]; split <;> omega
 obtain ⟨lx,hlx,hln,ex⟩:=id hx;obtain ⟨ly,hly,hlm,ey⟩:=id hy
 have hla:Hid ((Num.words a.natAbs).length<=400000):=by
  have e:a.natAbs=Num.nat lx:=by rw [ha,ex]; unfold zval; split <;> split <;> omega
  show _<=_;have h1:=Num.words_length_le (Num.nat_lt hlx.ok);rw [hlx.len] at h1;rw [e]; omega
 have hlb:Hid ((Num.words b.natAbs).length<=400000):=by
  show _<=_;by_cases h0:y=0
  ·rw [hb,if_pos h0];exact nlt (Num.words_length_le (k:=1) (by decide)) (by decide)
  ·have e:b.natAbs=Num.nat ly:=by rw [hb,if_neg h0,ey]; unfold zval; split <;> omega
   have h1:=Num.words_length_le (Num.nat_lt hly.ok);rw [hly.len] at h1;rw [e]; omega
 have HX:=hdq hx;have HY:=hdq hy;have HA:=hdq ha;have HB:=hdq hb;have HQ:=hdq hqe;have HP:=hdq hbp;clear hx hy hq ha hb hqe hbp hlx hln ex hly hlm ey;go_enter Tryz.func98,Tryz.ntmps98
 go_wp2;refine zAo (fun W=>Below w w W/\Box4 W w (.bool v.num.ng) (.slice v.num.A v.num.n v.num.c) (.bool v.den.ng) (.slice v.den.A v.den.n v.den.c)/\Box4 W (w+1) (.bool false) (.slice none 0 0) (.bool false) (.slice none 0 0)/\w<(W:Nat)/\w+1<(W:Nat)) ⟨(az (az (brf _ _))),bx4,bx4,by simp <;> omega,by simp <;> omega⟩ ?_;rintro W ⟨hbW,bA,bR,s0,s1⟩;have hBW:=hbW.size;have HX2:Hid (ZIs W (Old w) L v.num x):=by obtain ⟨l,h1,h2⟩:=HX.out; exact ⟨l,h1.old.below hbW,h2⟩
 have HY2:Hid (ZIs W (Old w) L v.den y):=by obtain ⟨l,h1,h2⟩:=HY.out; exact ⟨l,h1.old.below hbW,h2⟩
 obtain ⟨a0,a1,a2,a3,-⟩:=id bA;clear HX HY
 go_region_held3 (Sees w [w+1] W) (exact kp)
  (first
   | (go_at_call 170; ((with_reducible refine (zHQ (v:=v) HA.out (HX2.out.keptOld (Sees.kept (by assumption))) (HY2.out.keptOld (Sees.kept (by assumption))) (by omega) (by omega)).mono ?_); rintro e w1 ⟨⟨ng1,A1,n1,c1,rfl,hz1⟩,hb1⟩))
   | (go_at_call 171; ((with_reducible refine (zHN (v:=v) HB.out (HY2.out.keptOld (Sees.kept (by assumption))) (by omega)).mono ?_); rintro e w2 ⟨⟨ng2,A2,n2,c2,rfl,hz2⟩,hb2⟩))
   | (go_at_call 169; ((with_reducible refine (zHE (hz1.below hb2) hz2 (by rw [<-hz1.words.len]; exact hla.out) (by rw [<-hz2.words.len]; exact hlb.out) HP.out HQ.out).mono ?_); rintro e w3 ⟨⟨z,rfl,hz⟩,hb3⟩))
   | fail)
 rename_i hS;obtain ⟨v0,v1,v2,v3⟩:=hS.kept.val4 (by simp) (by rw [bR.1]; rfl) (by rw [bR.2.1]; rfl) (by rw [bR.2.2.1]; rfl) (by rw [bR.2.2.2.1]; rfl);have hbf:=hbW.trans hS.kept.below;have hb2s:=hb2.size;have hb1s:=hb1.size;have hb3s:=hb3.size;simp only [World.size_drew] at hb1s hb2s hb3s;have HZ:=hdq ((hz.set4 (b:=w+1) (x0:=.bool z.num.ng) (x1:=.slice z.num.A z.num.n z.num.c) (x2:=.bool z.den.ng) (x3:=.slice z.den.A z.den.n z.den.c) (by omega)).lower (B':=w) (by omega));clear hS hz hz1 hz2 hb1 hb2 hb3;go_wp2;exact bodyPost_ret (v:=z.val) (by simp [results,Tryz.results98,go_sem,v0,v1,v2,v3]) rfl ⟨⟨z,rfl,HZ.out⟩,hbf⟩
theorem zJV (n:Int):cden (n:Rat)=0:=by simp [cden]
theorem zDy (n:Int) (h1:-1000000<=n) (h2:n<=1000000) (h0:n ≠ 0) :
  Calls Tryz.prog 15 #[.int .i64 n] w fun e w'=>QRet w (n:Rat) e w'/\Below w w w':=by
 have HC:=hdq (fun w=>zB9 (w:=w) n h1 h2 h0);clear h1 h2 h0;go_enter Tryz.func15,Tryz.ntmps15
 go_wp2_with fail
 refine zAg (fun W=>Below w w W/\Box4 W w (.bool false) (.slice none 0 0) (.bool false) (.slice none 0 0)/\w<(W:Nat)) ⟨(az (brf _ _)),bx4,by simp <;> omega⟩ ?_;rintro W ⟨hbW,bR,s0⟩;have hBW:=hbW.size;refine (HC.out W).mono ?_;rintro e w1 ⟨⟨ng,A,k,c,rfl,hz⟩,hb1⟩;have bR1:=bR.below hb1 s0;obtain ⟨r0,r1,r2,r3,rf⟩:=id bR1;obtain ⟨v0,v1,v2,v3,-⟩:=bR1.stored (.bool ng) (.slice A k c) (.bool false) (.slice none 0 0);have hqc:QCan w1 (New W) ⟨⟨ng,A,k,c⟩,⟨false,none,0,0⟩⟩ (n:Rat):=⟨by simpa using hz,by rw [zJV]; exact ⟨rfl,by rw [show (0:Int).natAbs=0 from rfl,Num.words_zero]; exact WordsAt.nil _ _ none 0 (by decide)⟩⟩;have HQC:=hdq ((hqc.set4 (x0:=.bool ng) (x1:=.slice A k c) (x2:=.bool false) (x3:=.slice none 0 0) s0).lower (B':=w) hBW);have hbf:=zAl (x0:=.bool ng) (x1:=.slice A k c) (x2:=.bool false) (x3:=.slice none 0 0) (b:=w) (hbW.trans (hb1.mono hBW)) (nlr _);clear hqc hz hb1;go_wp2;exact bodyPost_ret (v:=QV.val ⟨⟨ng,A,k,c⟩,⟨false,none,0,0⟩⟩) (by simp [results,Tryz.results15,go_sem,v0,v1,v2,v3]) rfl ⟨⟨⟨⟨ng,A,k,c⟩,⟨false,none,0,0⟩⟩,rfl,HQC.out⟩,hbf⟩
theorem ZAt.zis1 (h:ZAt w X ng A n c z) (hL:n<=L):ZIs w X L ⟨ng,A,n,c⟩ z:=
 ⟨_,h.words,hL,by rw [Num.nat_words,show ZV.ng ⟨ng,A,n,c⟩=ng from rfl,h.sign]; unfold zval; split <;> simp_all <;> omega⟩
theorem ZIs.imp' {z:ZV} {x:Int} (h:ZIs w X L z x):ZIs w (fun _=>True) L z x:=by
 obtain ⟨l,h1,h2⟩:=h;exact ⟨l,h1.imp fun _ _ _=>trivial,h2⟩
theorem zG5 (h1:-1000000<=z) (h2:z<=1000000):(Num.words z.natAbs).length<=1:=Num.words_length_le (by simp only [Num.base]; omega)
theorem zIR (n d:Int) (q:Rat) (h1:-1000000<=n) (h2:n<=1000000) (h0:n ≠ 0) (h3:0<d) (h4:d<=1000000) (hq:q=(n:Rat) / (d:Rat)) :
  Calls Tryz.prog 39 #[.int .i64 n,.int .i64 d] w fun e w'=>QRet w q e w'/\Below w w w':=by
 have HC:=hdq (fun w=>zB9 (w:=w) n h1 h2 h0);have HD:=hdq (fun w=>zB9 (w:=w) d (by omega) h4 (by omega));have W1:=hdq (zG5 h1 h2);have W2:=hdq (zG5 (z:=d) (by omega) h4);have HQ:Hid (q=qv n d):=by show _=_; rw [hq]; unfold qv; rw [if_neg (by omega)]
 clear h1 h2 h0 h3 h4 hq;go_enter Tryz.func39,Tryz.ntmps39
 go_wp2_with fail
 refine zAg (fun W=>Below w w W/\Box4 W w (.bool false) (.slice none 0 0) (.bool false) (.slice none 0 0)/\w<(W:Nat)) ⟨(az (brf _ _)),bx4,by simp <;> omega⟩ ?_;rintro W ⟨hbW,bR,s0⟩;have hBW:=hbW.size;refine (HC.out W).mono ?_;rintro e w1 ⟨⟨ng,A,k,c,rfl,hz⟩,hb1⟩;have HZ:=hdq hz;clear hz;go_wp2_with fail
 refine (HD.out w1).mono ?_;rintro e w2 ⟨⟨mg,B,m,d',rfl,hz2⟩,hb2⟩;have hb12:=hb1.trans (hb2.mono hb1.size);have hqi:QIs w2 (fun _=>True) 1 ⟨⟨ng,A,k,c⟩,⟨mg,B,m,d'⟩⟩ q:=⟨n,d,(ZAt.zis1 (HZ.out.below hb2) (by rw [<-HZ.out.words.len]; exact W1.out)).imp',(hz2.zis1 (by rw [<-hz2.words.len]; exact W2.out)).imp',HQ.out⟩;have HQI:=hdq hqi;clear hz2 hqi;go_wp2_with fail
 refine (zDg HQI.out (by decide)).mono ?_;rintro e w3 ⟨⟨z,rfl,hz⟩,hb3⟩;have hb13:=hb12.trans (hb3.mono hb12.size);have bR1:=bR.below hb13 s0;obtain ⟨r0,r1,r2,r3,rf⟩:=id bR1;obtain ⟨v0,v1,v2,v3,-⟩:=bR1.stored (.bool z.num.ng) (.slice z.num.A z.num.n z.num.c) (.bool z.den.ng) (.slice z.den.A z.den.n z.den.c);have hsz:=hb12.size;have HQC:=hdq ((hz.set4 (b:=w) (x0:=.bool z.num.ng) (x1:=.slice z.num.A z.num.n z.num.c) (x2:=.bool z.den.ng) (x3:=.slice z.den.A z.den.n z.den.c) (by omega)).lower (B':=w) (by omega));have hbf:=zAl (x0:=.bool z.num.ng) (x1:=.slice z.num.A z.num.n z.num.c) (x2:=.bool z.den.ng) (x3:=.slice z.den.A z.den.n z.den.c) (b:=w) (hbW.trans (hb13.mono hBW)) (nlr _);clear hz hb1 hb2 hb3 hb12 hb13;go_wp2;exact bodyPost_ret (v:=z.val) (by simp [results,Tryz.results39,go_sem,v0,v1,v2,v3]) rfl ⟨⟨z,rfl,HQC.out⟩,hbf⟩
open Go.RowKit Go.Shelf
abbrev LBlk (W:World) (b:Nat) (z:Int) (O R B:SV):Prop:=W.heap[b]?=some (.cells #[.int .i64 z,.slice O.A O.n O.c,.slice R.A R.n R.c,.slice B.A B.n B.c] 28 (0,0))
theorem zB7 {O R B:SV} (h:LBlk W b z O R B):Box4 W b (.int .i64 z) (.slice O.A O.n O.c) (.slice R.A R.n R.c) (.slice B.A B.n B.c):=
 ⟨by simp [World.cell?,h],by simp [World.cell?,h],by simp [World.cell?,h],by simp [World.cell?,h],by intro o; simp [World.frozen?,h]⟩
theorem zJA {qs:List QV} {l:List Rat} (hl:qs.length=l.length) (hn:l.length<=1000) (he:∀ k,k<l.length->QCan w X (qs.getD k QV.zero) (l.getD k 0)) :
  VecCan (w.alloc (.cells (qs.flatMap cells4q).toArray T)) (fun _=>True) X ⟨some ⟨w,0,none⟩,l.length,l.length⟩ l:=by
 have hb:Below w w (w.alloc (.cells (qs.flatMap cells4q).toArray T)):=bal;have hh:(w.alloc (.cells (qs.flatMap cells4q).toArray T)).heap[w.heap.size]?=some (.cells (qs.flatMap cells4q).toArray T (0,0)):=zAd _ _ rfl;refine ⟨rfl,nlr _,by show l.length<=_; omega,fun k hk=>⟨⟨w,0,none⟩,qs.getD k QV.zero,rfl,trivial,?_,(he k hk).below hb⟩⟩;have hk':k<l.length:=hk
 have ec:∀ o,o<4->(w.alloc (.cells (qs.flatMap cells4q).toArray T)).cell? ⟨w,k*4+o,none⟩=(cells4q (qs.getD k QV.zero))[o]?:=fun o ho=>by
  simp only [World.cell?,hh];rw [<-zCy qs k o (by omega) ho QV.zero];simp
 rw [zA4,Nat.zero_add];exact ⟨ec 0 (by omega),ec 1 (by omega),ec 2 (by omega),ec 3 (by omega)⟩
theorem fit3 (k:Nat):QFit 1 (([0,3/2,1]:List Rat).getD k 0):=by
 rcases (show k=0\/k=1\/k=2\/3<=k by omega) with rfl | rfl | rfl | h
 ·exact QFit.zero _
 ·exact ⟨by decide +kernel,by decide +kernel⟩
 ·exact ⟨by decide +kernel,by decide +kernel⟩
 ·rw [zAw _ _ _ h]; exact QFit.zero _
theorem zAG :Calls Tryz.prog 42 #[] w fun e w'=>e = .returned (.bool true)/\Below w w w':=by
 go_enter Tryz.func42,Tryz.ntmps42
 go_wp2_with fail
 refine zEF.mono ?_; rintro e w1 ⟨⟨⟨z,⟨oA,on,oc⟩,⟨rA,rn,rc⟩,⟨bA,bn,bc⟩⟩,rfl,hn1,ho1,hr1,hv1⟩,hB⟩
 dsimp only at hn1;subst hn1;obtain rfl:1=on:=ho1.len;obtain rfl:3=rn:=hr1.len;obtain rfl:3=bn:=hv1.len;have HP:=hdq (LRet.lpis (L:=1) (p:=⟨2,⟨oA,1,oc⟩,⟨rA,3,rc⟩,⟨bA,3,bc⟩⟩) ho1 hr1 hv1 (zDn (m:=[[3,5]]) (by decide)) (zDn (m:=[[1,0],[0,2],[3,2]]) (by decide)) (zCZ (by decide)));clear ho1 hr1 hv1;dsimp only [LPV.val,SV.val];go_wp2_with fail
 have P1:LBlk (w1.alloc (.cells #[.int .i64 2,.slice oA 1 oc,.slice rA 3 rc,.slice bA 3 bc] 28)) w1 2 ⟨oA,1,oc⟩ ⟨rA,3,rc⟩ ⟨bA,3,bc⟩:=zAd _ _ rfl;have h1:Below w1 w1 (w1.alloc (.cells #[.int .i64 2,.slice oA 1 oc,.slice rA 3 rc,.slice bA 3 bc] 28)):=bal;replace hB:=hB.trans (h1.mono hB.size);replace HP:=hdq (HP.out.below h1);clear h1;generalize w1.alloc (.cells #[.int .i64 2,.slice oA 1 oc,.slice rA 3 rc,.slice bA 3 bc] 28)=W1 at *;generalize w1.heap.size=b1 at *;refine (zDb (V:=2) (p:=⟨2,⟨oA,1,oc⟩,⟨rA,3,rc⟩,⟨bA,3,bc⟩⟩) HP.out rfl (by decide) (by show 1<=1; decide) (by show 1<=4; decide) (by show 3<=128; decide) rfl (by decide) (by decide) (by decide)).mono ?_;rintro e w2 ⟨hpr,hb⟩;obtain ⟨⟨yA,yn,yc⟩,rfl,hy⟩:=zHH hpr;have HY:=hdq hy;replace HP:=hdq (HP.out.below hb);replace P1:=heapK P1 hb;replace hB:=hB.trans (hb.mono hB.size);obtain ⟨c0,c1,c2,c3,-⟩:=zB7 (O:=⟨oA,1,oc⟩) (R:=⟨rA,3,rc⟩) (B:=⟨bA,3,bc⟩) P1;clear hpr hy hb;dsimp only at c0 c1 c2 c3;dsimp only [SV.val];go_wp2_with fail
 refine (zBd (V:=2) (p:=⟨2,⟨oA,1,oc⟩,⟨rA,3,rc⟩,⟨bA,3,bc⟩⟩) HP.out rfl (by decide) (by show 1<=1; decide) (by show 1<=4; decide) (by show 3<=128; decide) rfl (by decide) (by decide) (by decide)).mono ?_;rintro e w3 ⟨hpr,hb⟩;obtain ⟨v,rfl,hv⟩:=zJ2 hpr;have HV:=hdq hv;replace HP:=hdq (HP.out.below hb);replace HY:=hdq (HY.out.belowC hb);replace P1:=heapK P1 hb;replace hB:=hB.trans (hb.mono hB.size);clear hpr hv hb c0 c1 c2 c3;go_wp2_with fail
 have al:Below w3 w3 (w3.alloc (.cells #[.bool v.num.ng,.slice v.num.A v.num.n v.num.c,.bool v.den.ng,.slice v.den.A v.den.n v.den.c] 37)):=bal;have P2:QBlk (w3.alloc (.cells #[.bool v.num.ng,.slice v.num.A v.num.n v.num.c,.bool v.den.ng,.slice v.den.A v.den.n v.den.c] 37)) w3 v:=zAd _ _ rfl;have hsz:(w3.alloc (.cells #[.bool v.num.ng,.slice v.num.A v.num.n v.num.c,.bool v.den.ng,.slice v.den.A v.den.n v.den.c] 37)).heap.size=w3.heap.size+1:=by simp
 replace HV:=hdq (HV.out.below al);have hb:=al;replace HP:=hdq (HP.out.below hb);replace HY:=hdq (HY.out.belowC hb);replace P1:=heapK P1 hb;replace hB:=hB.trans (hb.mono hB.size);rw [<-hsz];clear hsz al hb;generalize w3.alloc (.cells #[.bool v.num.ng,.slice v.num.A v.num.n v.num.c,.bool v.den.ng,.slice v.den.A v.den.n v.den.c] 37)=W3 at *;generalize w3.heap.size=b2 at *;refine (zDv (w:=W3) (l:=[1]) (by decide) (by decide)).mono ?_;rintro e w4 ⟨⟨⟨mA,mn,mc⟩,rfl,hm⟩,hb⟩;obtain rfl:1=mn:=hm.len;have HM:=hdq (hm.low (B':=w) hB.size);replace HV:=hdq (HV.out.below hb);replace P2:=heapK P2 hb;replace HP:=hdq (HP.out.below hb);replace HY:=hdq (HY.out.belowC hb);replace P1:=heapK P1 hb;replace hB:=hB.trans (hb.mono hB.size);clear hm hb;dsimp only [SV.val];go_wp2_with fail
 refine (zHB (w:=w4) (l:=[1]) (m:=[1]) (by decide) (by decide) (by decide) (by decide)).mono ?_;rintro e w5 ⟨⟨⟨nA,nn,nc⟩,rfl,hm⟩,hb⟩;obtain rfl:2=nn:=hm.len;have HN:=hdq (hm.low (B':=w) hB.size);replace HV:=hdq (HV.out.below hb);replace P2:=heapK P2 hb;replace HM:=hdq (HM.out.belowC hb);replace HP:=hdq (HP.out.below hb);replace HY:=hdq (HY.out.belowC hb);replace P1:=heapK P1 hb;replace hB:=hB.trans (hb.mono hB.size);clear hm hb;dsimp only [SV.val];go_wp2_with fail
 refine (zCE (w:=w5) (l:=[2,2]) (by decide) (by decide)).mono ?_;rintro e w6 ⟨⟨⟨uA,un,uc⟩,rfl,hm⟩,hb⟩;obtain rfl:2=un:=hm.len;have HU:=hdq (hm.low (B':=w) hB.size);replace HV:=hdq (HV.out.below hb);replace P2:=heapK P2 hb;replace HM:=hdq (HM.out.belowC hb);replace HN:=hdq (HN.out.belowC hb);replace HP:=hdq (HP.out.below hb);replace HY:=hdq (HY.out.belowC hb);replace P1:=heapK P1 hb;replace hB:=hB.trans (hb.mono hB.size);have HQ:=hdq (LRet.lpis (L:=1) (p:=⟨1,⟨mA,1,mc⟩,⟨nA,2,nc⟩,⟨uA,2,uc⟩⟩) HM.out HN.out HU.out (zDn (m:=[[1]]) (by decide)) (zDn (m:=[[1],[1]]) (by decide)) (zCZ (by decide)));clear hm hb HM HN HU;dsimp only [SV.val];go_wp2_with fail
 have P3:LBlk (w6.alloc (.cells #[.int .i64 1,.slice mA 1 mc,.slice nA 2 nc,.slice uA 2 uc] 28)) w6 1 ⟨mA,1,mc⟩ ⟨nA,2,nc⟩ ⟨uA,2,uc⟩:=zAd _ _ rfl;have hb:Below w6 w6 (w6.alloc (.cells #[.int .i64 1,.slice mA 1 mc,.slice nA 2 nc,.slice uA 2 uc] 28)):=bal;replace HQ:=hdq (HQ.out.below hb);replace HV:=hdq (HV.out.below hb);replace P2:=heapK P2 hb;replace HP:=hdq (HP.out.below hb);replace HY:=hdq (HY.out.belowC hb);replace P1:=heapK P1 hb;replace hB:=hB.trans (hb.mono hB.size);clear hb;generalize w6.alloc (.cells #[.int .i64 1,.slice mA 1 mc,.slice nA 2 nc,.slice uA 2 uc] 28)=W6 at *;generalize w6.heap.size=b3 at *;refine (zDb (V:=1) (p:=⟨1,⟨mA,1,mc⟩,⟨nA,2,nc⟩,⟨uA,2,uc⟩⟩) HQ.out rfl (by decide) (by show 1<=1; decide) (by show 1<=4; decide) (by show 2<=128; decide) rfl (by decide) (by decide) (by decide)).mono ?_;rintro e w7 ⟨hpr,hb⟩;obtain ⟨⟨zA,zn,zc⟩,rfl,hy⟩:=zHG hpr;have HZ:=hdq hy;replace HQ:=hdq (HQ.out.below hb);replace P3:=heapK P3 hb;replace HV:=hdq (HV.out.below hb);replace P2:=heapK P2 hb;replace HP:=hdq (HP.out.below hb);replace HY:=hdq (HY.out.belowC hb);replace P1:=heapK P1 hb;replace hB:=hB.trans (hb.mono hB.size);obtain ⟨c0,c1,c2,c3,-⟩:=zB7 (O:=⟨mA,1,mc⟩) (R:=⟨nA,2,nc⟩) (B:=⟨uA,2,uc⟩) P3;clear hpr hy hb;dsimp only at c0 c1 c2 c3;dsimp only [SV.val];go_wp2_with fail
 refine (zBm (V:=1) (row:=0) (up:=true) (p:=⟨1,⟨mA,1,mc⟩,⟨nA,2,nc⟩,⟨uA,2,uc⟩⟩) HQ.out rfl (by decide) (by show 1<=1; decide) (by show 1<=4; decide) (by show 2<=128; decide) rfl (by decide) (by decide) (by decide) (by show 0<2; decide)).mono ?_;rintro e w8 ⟨hpr,hb⟩;obtain ⟨a,rfl,ha⟩:=zHc hpr;have HA:Hid (QCan w8 (New w7) a 0):=ha;replace HZ:=hdq (HZ.out.belowC hb);replace HQ:=hdq (HQ.out.below hb);replace P3:=heapK P3 hb;replace HV:=hdq (HV.out.below hb);replace P2:=heapK P2 hb;replace HP:=hdq (HP.out.below hb);replace HY:=hdq (HY.out.belowC hb);replace P1:=heapK P1 hb;replace hB:=hB.trans (hb.mono hB.size);clear hpr ha hb c0 c1 c2 c3;obtain ⟨c0,c1,c2,c3,-⟩:=zB7 (O:=⟨mA,1,mc⟩) (R:=⟨nA,2,nc⟩) (B:=⟨uA,2,uc⟩) P3;dsimp only at c0 c1 c2 c3;have t3:=zAa P3;go_wp2_with fail
 have al:Below w8 w8 (w8.alloc (.cells #[.bool a.num.ng,.slice a.num.A a.num.n a.num.c,.bool a.den.ng,.slice a.den.A a.den.n a.den.c] 37)):=bal;have P4:QBlk (w8.alloc (.cells #[.bool a.num.ng,.slice a.num.A a.num.n a.num.c,.bool a.den.ng,.slice a.den.A a.den.n a.den.c] 37)) w8 a:=zAd _ _ rfl;replace HA:=hdq (HA.out.below al);replace HZ:=hdq (HZ.out.belowC al);have hb:=al;replace HQ:=hdq (HQ.out.below hb);replace P3:=heapK P3 hb;replace HV:=hdq (HV.out.below hb);replace P2:=heapK P2 hb;replace HP:=hdq (HP.out.below hb);replace HY:=hdq (HY.out.belowC hb);replace P1:=heapK P1 hb;replace hB:=hB.trans (hb.mono hB.size);clear al hb c0 c1 c2 c3 t3;generalize w8.alloc (.cells #[.bool a.num.ng,.slice a.num.A a.num.n a.num.c,.bool a.den.ng,.slice a.den.A a.den.n a.den.c] 37)=W8 at *;generalize w8.heap.size=b4 at *;refine (zBm (V:=1) (row:=0) (up:=false) (p:=⟨1,⟨mA,1,mc⟩,⟨nA,2,nc⟩,⟨uA,2,uc⟩⟩) HQ.out rfl (by decide) (by show 1<=1; decide) (by show 1<=4; decide) (by show 2<=128; decide) rfl (by decide) (by decide) (by decide) (by show 0<2; decide)).mono ?_;rintro e w9 ⟨hpr,hb⟩;obtain ⟨b,rfl,ha⟩:=zHc hpr;have HBq:Hid (QCan w9 (New W8) b 1):=ha;replace HZ:=hdq (HZ.out.belowC hb);replace HA:=hdq (HA.out.below hb);replace P4:=heapK P4 hb;replace HQ:=hdq (HQ.out.below hb);replace P3:=heapK P3 hb;replace HV:=hdq (HV.out.below hb);replace P2:=heapK P2 hb;replace HP:=hdq (HP.out.below hb);replace HY:=hdq (HY.out.belowC hb);replace P1:=heapK P1 hb;replace hB:=hB.trans (hb.mono hB.size);clear hpr ha hb HQ P3;go_wp2_with fail
 have al:Below w9 w9 (w9.alloc (.cells #[.bool b.num.ng,.slice b.num.A b.num.n b.num.c,.bool b.den.ng,.slice b.den.A b.den.n b.den.c] 37)):=bal;have P5:QBlk (w9.alloc (.cells #[.bool b.num.ng,.slice b.num.A b.num.n b.num.c,.bool b.den.ng,.slice b.den.A b.den.n b.den.c] 37)) w9 b:=zAd _ _ rfl;have hsz:(w9.alloc (.cells #[.bool b.num.ng,.slice b.num.A b.num.n b.num.c,.bool b.den.ng,.slice b.den.A b.den.n b.den.c] 37)).heap.size=w9.heap.size+1:=by simp
 replace HA:=hdq (HA.out.below al);replace HBq:=hdq (HBq.out.below al);replace HZ:=hdq (HZ.out.belowC al);replace P4:=heapK P4 al;have hb:=al;replace HV:=hdq (HV.out.below hb);replace P2:=heapK P2 hb;replace HP:=hdq (HP.out.below hb);replace HY:=hdq (HY.out.belowC hb);replace P1:=heapK P1 hb;replace hB:=hB.trans (hb.mono hB.size);rw [<-hsz];clear hsz al hb;generalize w9.alloc (.cells #[.bool b.num.ng,.slice b.num.A b.num.n b.num.c,.bool b.den.ng,.slice b.den.A b.den.n b.den.c] 37)=W9 at *;generalize w9.heap.size=b5 at *;refine (zDv (w:=W9) (l:=[0]) (by decide) (by decide)).mono ?_;rintro e wa ⟨⟨⟨mA,mn,mc⟩,rfl,hm⟩,hb⟩;obtain rfl:1=mn:=hm.len;have HM:=hdq (hm.low (B':=w) hB.size);replace HA:=hdq (HA.out.below hb);replace HBq:=hdq (HBq.out.below hb);replace HZ:=hdq (HZ.out.belowC hb);replace P4:=heapK P4 hb;replace P5:=heapK P5 hb;replace HV:=hdq (HV.out.below hb);replace P2:=heapK P2 hb;replace HP:=hdq (HP.out.below hb);replace HY:=hdq (HY.out.belowC hb);replace P1:=heapK P1 hb;replace hB:=hB.trans (hb.mono hB.size);clear hm hb;dsimp only [SV.val];go_wp2_with fail
 refine (zDv (w:=wa) (l:=[1]) (by decide) (by decide)).mono ?_;rintro e wb ⟨⟨⟨nA,nn,nc⟩,rfl,hm⟩,hb⟩;obtain rfl:1=nn:=hm.len;have HN:=hdq (hm.low (B':=w) hB.size);replace HM:=hdq (HM.out.belowC hb);replace HA:=hdq (HA.out.below hb);replace HBq:=hdq (HBq.out.below hb);replace HZ:=hdq (HZ.out.belowC hb);replace P4:=heapK P4 hb;replace P5:=heapK P5 hb;replace HV:=hdq (HV.out.below hb);replace P2:=heapK P2 hb;replace HP:=hdq (HP.out.below hb);replace HY:=hdq (HY.out.belowC hb);replace P1:=heapK P1 hb;replace hB:=hB.trans (hb.mono hB.size);clear hm hb;dsimp only [SV.val];go_wp2_with fail
 refine (zCE (w:=wb) (l:=[0]) (by decide) (by decide)).mono ?_;rintro e wc ⟨⟨⟨uA,un,uc⟩,rfl,hm⟩,hb⟩;obtain rfl:1=un:=hm.len;have HU:=hdq (hm.low (B':=w) hB.size);replace HM:=hdq (HM.out.belowC hb);replace HN:=hdq (HN.out.belowC hb);replace HA:=hdq (HA.out.below hb);replace HBq:=hdq (HBq.out.below hb);replace HZ:=hdq (HZ.out.belowC hb);replace P4:=heapK P4 hb;replace P5:=heapK P5 hb;replace HV:=hdq (HV.out.below hb);replace P2:=heapK P2 hb;replace HP:=hdq (HP.out.below hb);replace HY:=hdq (HY.out.belowC hb);replace P1:=heapK P1 hb;replace hB:=hB.trans (hb.mono hB.size);have HQ:=hdq (LRet.lpis (L:=1) (p:=⟨1,⟨mA,1,mc⟩,⟨nA,1,nc⟩,⟨uA,1,uc⟩⟩) HM.out HN.out HU.out (zDn (m:=[[0]]) (by decide)) (zDn (m:=[[1]]) (by decide)) (zCZ (by decide)));clear hm hb HM HN HU;dsimp only [SV.val];go_wp2_with fail
 refine (zBm (V:=1) (row:=0) (up:=false) (p:=⟨1,⟨mA,1,mc⟩,⟨nA,1,nc⟩,⟨uA,1,uc⟩⟩) HQ.out rfl (by decide) (by show 1<=1; decide) (by show 1<=4; decide) (by show 1<=128; decide) rfl (by decide) (by decide) (by decide) (by show 0<1; decide)).mono ?_;rintro e wd ⟨hpr,hb⟩;obtain rfl:=zJn hpr;replace HA:=hdq (HA.out.below hb);replace HBq:=hdq (HBq.out.below hb);replace HZ:=hdq (HZ.out.belowC hb);replace P4:=heapK P4 hb;replace P5:=heapK P5 hb;replace HV:=hdq (HV.out.below hb);replace P2:=heapK P2 hb;replace HP:=hdq (HP.out.below hb);replace HY:=hdq (HY.out.belowC hb);replace P1:=heapK P1 hb;replace hB:=hB.trans (hb.mono hB.size);clear hpr hb HQ;go_upto_region 11 with fail
 have hb:Below wd wd (wd.alloc (.cells #[.bool false,.slice none 0 0,.bool false,.slice none 0 0] 37)):=bal;replace HA:=hdq (HA.out.below hb);replace HBq:=hdq (HBq.out.below hb);replace HZ:=hdq (HZ.out.belowC hb);replace P4:=heapK P4 hb;replace P5:=heapK P5 hb;replace HV:=hdq (HV.out.below hb);replace P2:=heapK P2 hb;replace HP:=hdq (HP.out.below hb);replace HY:=hdq (HY.out.belowC hb);replace P1:=heapK P1 hb;replace hB:=hB.trans (hb.mono hB.size);clear hb;generalize wd.alloc (.cells #[.bool false,.slice none 0 0,.bool false,.slice none 0 0] 37)=W at *;have HYl:=hdq (HY.out.loose (L:=1) (fun k=>fit3 k));have HPv:=hdq (show PValid (prob1 2 [rats [3,5]] [rats [1,0],rats [0,2],rats [3,2]] (rats [4,12,18])) fun i=>([0,3/2,1]:List Rat).getD i 0 from zFV);obtain ⟨l0,l1,l2,l3,-⟩:=zB7 (O:=⟨oA,1,oc⟩) (R:=⟨rA,3,rc⟩) (B:=⟨bA,3,bc⟩) P1;obtain ⟨v0,v1,v2,v3,-⟩:=zAA P2;obtain ⟨a0,a1,a2,a3,-⟩:=zAA P4;obtain ⟨e0,e1,e2,e3,-⟩:=zAA P5;have t1:=zAa P1;have t2:=zAa P2;have t4:=zAa P4;have t5:=zAa P5;dsimp only at l0 l1 l2 l3;have bW:=hB.size;clear P1 P2 P4 P5;refine zAp 1000 (fun _ w'=>Sees w [] W w') (by kernel_rfl) ?_;have hS0:Sees w [] W W.drew:=Sees.st (by simp) bW;refine tx1 0 hS0 ?_;refine tx1 1 hS0 ?_;refine tk1 2 ?_;intro K hK;go_simp;refine (zIR 3 2 (3/2) (by decide) (by decide) (by decide) (by decide) (by decide) (by grind)).mono ?_;rintro e wa ⟨⟨z1,rfl,hz1⟩,hb⟩;have hS1:=Kept.call2 hb hS0;refine hK.out _ _ hS1 ?_;clear hK K hb hS0;refine tk1 3 ?_;intro K hK;go_simp;refine (zDy 1 (by decide) (by decide) (by decide)).mono ?_;rintro e wb ⟨⟨z2,rfl,hz2⟩,hb⟩;have hS2:=Kept.call2 hb hS1;refine hK.out _ _ hS2 ?_;replace hz1:=hz1.below hb;clear hK K hb hS1;refine tk1 4 ?_;intro K hK;go_simp;have HN3:=hdq (zJA (w:=wb) (X:=fun _=>True) (T:=37) (qs:=[QV.zero,z1,z2]) (l:=[0,3/2,1]) rfl (by decide) (all3 (zFX _ _) (hz1.imp fun _ _ _=>trivial) (hz2.imp fun _ _ _=>trivial)));have hS3:=Sees.al (o:=.cells ([QV.zero,z1,z2].flatMap cells4q).toArray 37) hS2;refine hK.out _ _ hS3 ?_;clear hK K hS2 hz1 hz2;refine tk1 5 ?_;intro K hK;go_simp;refine (zE5 (a:=⟨yA,yn,yc⟩) (b:=⟨some ⟨wb,0,none⟩,3,3⟩) (HY.out.belowC hS3.kept.whole) HN3.out).mono ?_;rintro e wc ⟨rfl,hb⟩;have hS4:=Kept.call2 hb hS3;refine hK.out _ _ hS4 ?_;clear hK K hS3 hb HN3;refine tx1 6 hS4 ?_;refine tx1 7 hS4 ?_;refine tk1 8 ?_;intro K hK;go_simp;refine (zDy 36 (by decide) (by decide) (by decide)).mono ?_;rintro e wd ⟨⟨z3,rfl,hz3⟩,hb⟩;have hS5:=Kept.call2 hb hS4;refine hK.out _ _ hS5 ?_;clear hK K hb hS4;refine tk1 9 ?_;intro K hK;go_simp;refine (zEz (a:=v) (b:=z3) (HV.out.below hS5.kept.whole) hz3).mono ?_;rintro e we ⟨rfl,hb⟩;have hS6:=Kept.call2 hb hS5;refine hK.out _ _ hS6 ?_;clear hK K hS5 hb hz3;refine tx1 10 hS6 ?_;refine tx1 11 hS6 ?_;refine tx1 12 hS6 ?_;refine tk1 13 ?_;intro K hK;go_simp;have hS7:=Sees.al (o:=.cells #[.int .i64 0,.int .i64 1] 2) hS6;refine hK.out _ _ hS7 ?_;clear hK K;refine tk1 14 ?_;intro K hK;go_simp;refine (zCE (w:=we) (l:=[0,1]) (by decide) (by decide)).mono ?_;rintro e wf ⟨⟨⟨gA,gn,gc⟩,rfl,hg⟩,hb⟩;have hS8:=Kept.call2 hb hS6;refine hK.out _ _ hS8 ?_;clear hK K hS6 hS7 hb;dsimp only [SV.val];refine tk1 15 ?_;intro K hK;go_simp;refine (zE5 (a:=⟨zA,zn,zc⟩) (b:=⟨gA,gn,gc⟩) (HZ.out.belowC hS8.kept.whole) hg).mono ?_;rintro e wg ⟨rfl,hb⟩;have hS9:=Kept.call2 hb hS8;refine hK.out _ _ hS9 ?_;clear hK K hS8 hb hg;refine tx1 16 hS9 ?_;refine tx1 17 hS9 ?_;refine tx1 18 hS9 ?_;refine tk1 19 ?_;intro K hK;go_simp;refine (zAn ((HA.out.below hS9.kept.whole).qis (L:=1) (QFit.zero _))).mono ?_;rintro e wh ⟨rfl,hb⟩;have hS10:=Kept.call2 hb hS9;refine hK.out _ _ hS10 ?_;clear hK K hS9 hb;rw [show qsign 0=0 from rfl];refine tx4 20 21 22 23 hS10 ?_;refine tk1 24 ?_;intro K hK;go_simp;refine (zDy 1 (by decide) (by decide) (by decide)).mono ?_;rintro e wi ⟨⟨z4,rfl,hz4⟩,hb⟩;have hS11:=Kept.call2 hb hS10;refine hK.out _ _ hS11 ?_;clear hK K hb hS10;refine tk1 25 ?_;intro K hK;go_simp;refine (zEz (a:=b) (b:=z4) (HBq.out.below hS11.kept.whole) hz4).mono ?_;rintro e wj ⟨rfl,hb⟩;have hS12:=Kept.call2 hb hS11;refine hK.out _ _ hS12 ?_;clear hK K hS11 hb hz4;refine tx4 26 27 28 29 hS12 ?_;refine tk1 30 ?_;intro K hK;go_simp;refine (zFz true (V:=2) (p:=⟨2,⟨oA,1,oc⟩,⟨rA,3,rc⟩,⟨bA,3,bc⟩⟩) (s:=⟨yA,yn,yc⟩) (HP.out.below hS12.kept.whole) rfl (by decide) (by show 1<=1; decide) (by show 1<=4; decide) (by show 3<=128; decide) rfl (by decide) (by decide) (by decide) (HYl.out.below hS12.kept.whole) (by decide) ⟨fun _=>rfl,fun _=>⟨rfl,HPv.out⟩⟩).mono ?_;rintro e wk ⟨rfl,hb⟩;have hS13:=Kept.call2 hb hS12;refine hK.out _ _ hS13 ?_;clear hK K hS12 hb;refine tx4 31 32 33 36 hS13 ?_;refine tk1 34 ?_;intro K hK;go_simp;have hS14:=Sees.al (o:=.cells #[.int .i64 2,.int .i64 6] 2) hS13;refine hK.out _ _ hS14 ?_;clear hK K;refine tk1 35 ?_;intro K hK;go_simp;refine (zCE (w:=wk) (l:=[2,6]) (by decide) (by decide)).mono ?_;rintro e wl ⟨⟨⟨gA,gn,gc⟩,rfl,hg⟩,hb⟩;have hS15:=Kept.call2 hb hS13;refine hK.out _ _ hS15 ?_;clear hK K hS13 hS14 hb;dsimp only [SV.val];refine tk1 37 ?_;intro K hK;go_simp;refine (zIK (p:=⟨2,⟨oA,1,oc⟩,⟨rA,3,rc⟩,⟨bA,3,bc⟩⟩) (sx:=⟨gA,gn,gc⟩) (sy:=⟨yA,yn,yc⟩) (HP.out.below hS15.kept.whole) rfl (hg.loose (L:=1) (zCZ (by decide))) (HYl.out.below hS15.kept.whole)).mono ?_;rintro e wm ⟨rfl,hb⟩;have hS16:=Kept.call2 hb hS15;refine hK.out _ _ hS16 ?_;clear hK K hS15 hb;refine tx1 38 hS16 ?_;refine tx1 39 hS16 ?_;refine zAf (by kernel_rfl) ?_ _;have hbf:=hB.trans (hS16.kept.whole.mono bW);go_wp2;go_ret;exact ⟨rfl,hbf⟩
structure Cx (w:World) (z:Int) (O R B:SV) (m:QV) (W:World):Prop where
 bel:Below w w W
 lt:w+1<(W:Nat)
 bP:Box4 W w (.int .i64 z) O.val R.val B.val
 bM:Box4 W (w+1) (.bool m.num.ng) (.slice m.num.A m.num.n m.num.c) (.bool m.den.ng) (.slice m.den.A m.den.n m.den.c)
theorem Cx.next {O R B:SV} {m:QV} (h:Cx w z O R B m W) (hb:Below W W W'):Cx w z O R B m W':=
 ⟨h.bel.trans (hb.mono h.bel.size),ltl h.lt hb.size,h.bP.below hb (by have:=h.lt; omega),h.bM.below hb h.lt⟩
theorem Cx.cells {OA RA BA:Option Addr} {On Oc Rn Rc Bn Bc:Nat} {m:QV} (h:Cx w z ⟨OA,On,Oc⟩ ⟨RA,Rn,Rc⟩ ⟨BA,Bn,Bc⟩ m W) :
  (W.cell? w=some (.int .i64 z)/\W.cell? ⟨w,1,none⟩=some (.slice OA On Oc)/\W.cell? ⟨w,2,none⟩=some (.slice RA Rn Rc)/\W.cell? ⟨w,3,none⟩=some (.slice BA Bn Bc))/\
  W.cell? ⟨w+1,0,none⟩=some (.bool m.num.ng)/\W.cell? ⟨w+1,1,none⟩=some (.slice m.num.A m.num.n m.num.c)/\W.cell? ⟨w+1,2,none⟩=some (.bool m.den.ng)/\W.cell? ⟨w+1,3,none⟩=some (.slice m.den.A m.den.n m.den.c):=by
 obtain ⟨p0,p1,p2,p3,-⟩:=h.bP;obtain ⟨m0,m1,m2,m3,-⟩:=h.bM;exact ⟨⟨p0,p1,p2,p3⟩,m0,m1,m2,m3⟩
theorem zQI :LPRaw w AllB (QAny w AllB) ⟨0,⟨none,0,0⟩,⟨none,0,0⟩,⟨none,0,0⟩⟩ [] [] []:=
 ⟨⟨rfl,nlr _,nzl _,fun k hk=>absurd hk (Nat.not_lt_zero k)⟩,⟨rfl,nlr _,nzl _,fun k hk=>absurd hk (Nat.not_lt_zero k)⟩,⟨rfl,nlr _,nzl _,fun k hk=>absurd hk (Nat.not_lt_zero k)⟩⟩
theorem zQL {p:Rat} (h:p<q):qcmp p q=-1:=by unfold qcmp; grind
theorem zQA (ha:VecIs w X Y L sa la) (hb:VecIs w X' Y' M sb lb) (hL:L<=LM) (hM:M<=LM) (hna:sa.n<=1000000) (hnb:sb.n<=1000000) (h:∀ i,la.getD i 0=lb.getD i 0) :
  Calls Tryz.prog 17 #[sa.val,sb.val] w fun e w'=>e = .returned (.bool true)/\Below w w w':=by
 refine (zNQ ha hb hL hM hna hnb).mono ?_;rintro e w' ⟨rfl,hb⟩;rw [zKA.2 (fun i _=>h i)];exact ⟨rfl,hb⟩
theorem zQx (h:LPIs w X Y L p os rs bs) (hV:V<=4) (hI:PInv (prob1 V os rs bs) none D)
  (hv:VecCan w' (New w) (New w) s ((List.range rs.length).map (D.dual (prob1 V os rs bs)))) (hM:625*(32*(L+1))<32*M):VecIs w' AllB AllB M s ((List.range rs.length).map (D.dual (prob1 V os rs bs))):=by
 have hf:=(zEc h hV (E:=V) (by simp [Lin.given]) (nlr _) (fun c hc=>by cases hc) hI).1;refine (hv.loose fun j=>?_).allB;by_cases hj:j<rs.length
 ·rw [zA6 _ _ _ _ hj]; exact zBn (hf j) hM
 ·rw [zAw _ _ _ (by simp; omega)];exact zBn (k:=0) (Lin.Fits.zero _) (by omega)
theorem zQv {r:SV} {row:List Rat} {mv:QV} {most:Rat} (h:LPRaw w AllB (QAny w AllB) p os rs bs) (hr:VecAt w AllB (QAny w AllB) r row) (hm:QAny w AllB mv most) :
  Calls Tryz.prog 11 #[p.val,r.val,mv.val] w fun e w'=>e = .returned (.bool true)/\Below w w w':=by
 obtain ⟨z,⟨oA,on,oc⟩,⟨rA,rn,rc⟩,⟨bA,bn,bc⟩⟩:=p;obtain ⟨qA,qn,qc⟩:=r;replace h:=hdq h;replace hr:=hdq hr;replace hm:=hdq hm;dsimp only [LPV.val,SV.val] at *;have hrc:rn<=9223372036854775807:=nlt h.out.rows.le h.out.rows.cap;go_enter Tryz.func11,Tryz.ntmps11
 go_upto_region 1 with fail
 refine zAo (fun W=>Below w w W/\Box4 W w (.int .i64 z) (.slice oA on oc) (.slice rA rn rc) (.slice bA bn bc)/\Box4 W (w+1) (.bool mv.num.ng) (.slice mv.num.A mv.num.n mv.num.c) (.bool mv.den.ng) (.slice mv.den.A mv.den.n mv.den.c)/\w<(W:Nat)/\w+1<(W:Nat)) ⟨(az (az (brf _ _))),bx4,bx4,by simp <;> omega,by simp <;> omega⟩ ?_;rintro W ⟨hbW,bP,bM,s0,s1⟩;have hBW:=hbW.size;have hC:Cx w z ⟨oA,on,oc⟩ ⟨rA,rn,rc⟩ ⟨bA,bn,bc⟩ mv _:=⟨hbW,s1,bP,bM⟩;have hc:=hC.cells;clear hBW bP bM s0 s1;go_wp2_with fail
 refine (zFQ (p:=⟨z,⟨oA,on,oc⟩,⟨rA,rn,rc⟩,⟨bA,bn,bc⟩⟩) (h.out.below hbW)).mono ?_;rintro e w1 ⟨⟨b,rfl,hbb⟩,hb1⟩
 cases b with
 | true=>
  clear hbb;replace hC:=hC.next hb1;replace hbW:=hC.bel;replace hc:=hC.cells;go_wp2_with fail
  refine zAG.mono ?_;rintro e wl ⟨rfl,hbl⟩;have hbf:=hbW.trans (hbl.mono hbW.size);go_wp2;go_ret
  exact ⟨rfl,hbf⟩
 | false=>
  have HS:=hdq (And.intro (Short6.back h.out hbW (hbb rfl).1) (hbb rfl).2);clear hbb;replace hC:=hC.next hb1;replace hbW:=hC.bel;replace hc:=hC.cells;go_wp2_with fail
  have al3:(w1.alloc (.cells #[.slice qA qn qc] 24)).heap[w1.heap.size]?=some (.cells #[.slice qA qn qc] 24 (0,0)):=zAd _ _ rfl;have hb3:Below w1 w1 (w1.alloc (.cells #[.slice qA qn qc] 24)):=bal;replace hC:=hC.next hb3;replace hbW:=hC.bel;replace hc:=hC.cells;refine (zCl (zKo (s:=⟨qA,qn,qc⟩) al3 (zKB hr.out hbW))).mono ?_;rintro e w4 ⟨⟨b,rfl,hbb⟩,hb4⟩
  cases b with
  | true=>
   clear hbb;replace hC:=hC.next hb4;replace hbW:=hC.bel;replace hc:=hC.cells;(go_wp2_with fail);refine zAG.mono ?_;rintro e wl ⟨rfl,hbl⟩;have hbf:=hbW.trans (hbl.mono hbW.size);go_wp2;go_ret
   exact ⟨rfl,hbf⟩
  | false=>
   have HRow:=hdq (zKm (s:=⟨qA,qn,qc⟩) hr.out hbW al3 (hbb rfl).1);clear hbb al3;replace hC:=hC.next hb4;replace hbW:=hC.bel;replace hc:=hC.cells;(go_wp2_with fail);have al5:(w4.alloc (.cells #[.bool mv.num.ng,.slice mv.num.A mv.num.n mv.num.c,.bool mv.den.ng,.slice mv.den.A mv.den.n mv.den.c] 37)).heap[w4.heap.size]?=some (.cells #[.bool mv.num.ng,.slice mv.num.A mv.num.n mv.num.c,.bool mv.den.ng,.slice mv.den.A mv.den.n mv.den.c] 37 (0,0)):=zAd _ _ rfl;have hb5:Below w4 w4 (w4.alloc (.cells #[.bool mv.num.ng,.slice mv.num.A mv.num.n mv.num.c,.bool mv.den.ng,.slice mv.den.A mv.den.n mv.den.c] 37)):=bal;replace hC:=hC.next hb5;replace hbW:=hC.bel;replace hc:=hC.cells;refine (zDG (zJ6 al5 (hm.out.below hbW))).mono ?_;rintro e w6 ⟨⟨b,rfl,hbb⟩,hb6⟩
   cases b with
   | true=>
    clear hbb;replace hC:=hC.next hb6;replace hbW:=hC.bel;replace hc:=hC.cells;(go_wp2_with fail);refine zAG.mono ?_;rintro e wl ⟨rfl,hbl⟩;have hbf:=hbW.trans (hbl.mono hbW.size);go_wp2;go_ret
    exact ⟨rfl,hbf⟩
   | false=>
    have HMost:=hdq (zJ3 hm.out al5 (hbb rfl));clear hbb al5;replace hC:=hC.next hb6;replace hbW:=hC.bel;replace hc:=hC.cells;clear hb1 hb3 hb4 hb5 hb6;by_cases h3:3<rn
    ·have h3':(3:Int)<(rn:Int):=(by omega);(go_wp2_with fail);refine zAG.mono ?_;rintro e wl ⟨rfl,hbl⟩;have hbf:=hbW.trans (hbl.mono hbW.size);go_wp2;go_ret;exact ⟨rfl,hbf⟩
    ·have h3':¬ (3:Int)<(rn:Int):=(by omega);obtain ⟨m,hmm⟩:∃ m,mayB ⟨z,⟨oA,on,oc⟩,⟨rA,rn,rc⟩,⟨bA,bn,bc⟩⟩ os rs=m:=⟨_,rfl⟩;go_wp2_with fail
     cases m with
     | false=>
      refine (zQu (p:=⟨z,⟨oA,on,oc⟩,⟨rA,rn,rc⟩,⟨bA,bn,bc⟩⟩) (h.out.below hbW) hmm).mono ?_;rintro e w7 ⟨rfl,hb7⟩;replace hC:=hC.next hb7;replace hbW:=hC.bel;replace hc:=hC.cells;(go_wp2_with fail);have al8:Below w7 w7 (w7.alloc (.cells #[.int .i64 0,.slice none 0 0,.slice none 0 0,.slice none 0 0] 28)):=bal;replace hC:=hC.next al8;replace hbW:=hC.bel;replace hc:=hC.cells;refine (zQz (p:=⟨0,⟨none,0,0⟩,⟨none,0,0⟩,⟨none,0,0⟩⟩) zQI rfl).mono ?_;rintro e w8 ⟨rfl,hb8⟩;replace hC:=hC.next hb8;replace hbW:=hC.bel;replace hc:=hC.cells;(go_wp2_with fail);refine (zQs (s:=⟨qA,qn,qc⟩) (HRow.out.below hbW) z _ rfl (by rw [zAZ]; omega)).mono ?_;rintro e W ⟨ho,hb9⟩
      obtain ⟨s2,rfl⟩:∃ s2:SV,e = .returned s2.val:=by
       rcases ho with ⟨_,rfl⟩ | ⟨b,rfl,_⟩
       ·exact ⟨⟨none,0,0⟩,rfl⟩
       ·exact ⟨⟨_,_,_⟩,rfl⟩
      clear ho;obtain ⟨yA,yn,yc⟩:=s2;replace hC:=hC.next hb9;replace hbW:=hC.bel;replace hc:=hC.cells;(go_upto_region 6 with fail);obtain ⟨-,m0,m1,m2,m3⟩:=id hc;have s1:=hC.lt;refine zAp 1000 (fun _ w'=>Sees w [] W w') (by kernel_rfl) ?_;have hS0:Sees w [] W W.drew:=Sees.st (by simp) hbW.size;refine tx1 0 hS0 ?_;refine tx1 1 hS0 ?_;refine tx1 2 hS0 ?_;refine tn1 3 hS0 ?_;refine tn1 4 hS0 ?_;refine tx1 5 hS0 ?_;refine tx1 6 hS0 ?_;refine tn4 7 8 9 10 hS0 ?_;refine tn1 11 hS0 ?_;refine tn1 12 hS0 ?_;refine tx1 13 hS0 ?_;refine zAf (by kernel_rfl) ?_ _;have hbS:=hS0.kept.whole;replace hC:=hC.next hbS;replace hbW:=hC.bel;replace hc:=hC.cells;(go_wp2_with fail);refine zAG.mono ?_;rintro e wl ⟨rfl,hbl⟩;have hbf:=hbW.trans (hbl.mono hbW.size);go_wp2;go_ret
      exact ⟨rfl,hbf⟩
     | true=>
      have HF:=hdq (zHY HS.out.1 HS.out.2 hmm);obtain ⟨V,rfl⟩:∃ V:Nat,z=V:=⟨z.toNat,by have:=HF.out.1; show z=(z.toNat:Int); simp only at this; omega⟩;have hon:on<=4:=HF.out.2.2.2.1;obtain rfl:rn=bn:=HF.out.2.2.2.2.2.1.symm;have ho1:1<=on:=HF.out.2.2.1;have HC1:Hid (colsOf os<=V):=by have:=HF.out.2.2.2.2.2.2.1; dsimp only at this; show colsOf os<=V; omega
      have HC2:Hid (colsOf rs<=V):=by have:=HF.out.2.2.2.2.2.2.2.1; dsimp only at this; show colsOf rs<=V; omega
      have hV4:V<=4:=by have:=HF.out.2.1; dsimp only at this; omega
      have HP:=hdq (HF.out.2.2.2.2.2.2.2.2);have HRl:Hid (rs.length=rn):=HP.out.rows.len;have HBl:Hid (bs.length=rn):=HP.out.bounds.len;clear HS hmm HF h hr hm;refine (zQB (p:=⟨V,⟨oA,on,oc⟩,⟨rA,rn,rc⟩,⟨bA,rn,bc⟩⟩) (V:=V) (HP.out.below hbW) rfl (by omega) ho1 hon (by show rn<=128; omega) rfl HC1.out HC2.out (by rw [zAZ]; omega)).mono ?_;rintro e w7 ⟨⟨⟨z,⟨xA,xn,xc⟩,⟨gA,gn,gc⟩,⟨uA,un,uc⟩⟩,rfl,hz,hq⟩,hb7⟩;dsimp only at hz;subst hz;obtain rfl:1=xn:=hq.obj.len;obtain rfl:rn=gn:=HRl.out.symm.trans hq.rows.len;obtain rfl:rn=un:=HBl.out.symm.trans hq.bounds.len;replace hC:=hC.next hb7;replace hbW:=hC.bel;replace hc:=hC.cells;(go_wp2_with fail);have al8:Below w7 w7 (w7.alloc (.cells #[.int .i64 V,.slice xA 1 xc,.slice gA rn gc,.slice uA rn uc] 28)):=bal;replace hC:=hC.next al8;replace hbW:=hC.bel;replace hc:=hC.cells;have hco:colsOf [os.getD 0 []]<=V:=zAU.2 fun a ha=>by rw [List.mem_singleton.1 ha]; exact zBT HC1.out 0
      refine (zQE (p:=⟨V,⟨xA,1,xc⟩,⟨gA,rn,gc⟩,⟨uA,rn,uc⟩⟩) (V:=V) (hq.below al8) rfl hV4 (nlr _) (by show 1<=4; omega) (by show rn<=128; omega) rfl hco HC2.out (by omega)).mono ?_;rintro e x1 ⟨ho,hx1⟩;clear hq hco hb7 al8;(rcases ho with ⟨l,⟨eA,en,ec⟩,sv,rfl,hll,hlo,hlf,hlv,-⟩ | ⟨k,hk,rfl⟩);rotate_left
      focus
       have hk8:k=8\/k=9:=hk.imp And.left And.left;clear hk;replace hC:=hC.next hx1;replace hbW:=hC.bel;replace hc:=hC.cells;(go_wp2_with fail);refine (zF0 (s:=⟨qA,qn,qc⟩) (HRow.out.below hbW) V (by omega) (by rw [zAZ]; omega)).mono ?_;rintro e W ⟨⟨⟨yA,yn,yc⟩,rfl,hz⟩,hb⟩;replace hC:=hC.next hb;replace hbW:=hC.bel;replace hc:=hC.cells;clear hz hb hx1;rcases hk8 with rfl | rfl
       all_goals
        (go_upto_region 6 with fail);obtain ⟨-,m0,m1,m2,m3⟩:=id hc;have s1:=hC.lt;refine zAp 1000 (fun _ w'=>Sees w [] W w') (by kernel_rfl) ?_;have hS0:Sees w [] W W.drew:=Sees.st (by simp) hbW.size;refine tx4 0 1 2 3 hS0 ?_;refine tx1 4 hS0 ?_;refine tx1 5 hS0 ?_;refine tx1 6 hS0 ?_;refine tn4 7 8 9 10 hS0 ?_;refine tn1 11 hS0 ?_;refine tn1 12 hS0 ?_;refine tx1 13 hS0 ?_;refine zAf (by kernel_rfl) ?_ _;have hbS:=hS0.kept.whole;replace hC:=hC.next hbS;replace hbW:=hC.bel;replace hc:=hC.cells;(go_wp2_with fail);refine zAG.mono ?_;rintro e wl ⟨rfl,hbl⟩;have hbf:=hbW.trans (hbl.mono hbW.size);go_wp2;go_ret;exact ⟨rfl,hbf⟩
      have HLl:Hid (l.length=V):=hll;have HLo:=hdq (zQJ hlo);have HLf:=hdq hlf;have HLv:=hdq hlv;clear hll hlo hlf hlv;replace hC:=hC.next hx1;replace hbW:=hC.bel;replace hc:=hC.cells;(go_wp2_with fail);refine (zF0 (s:=⟨qA,qn,qc⟩) (HRow.out.below hbW) V (by omega) (by rw [zAZ]; omega)).mono ?_;rintro e W ⟨⟨⟨yA,yn,yc⟩,rfl,hz⟩,hb⟩;replace hC:=hC.next hb;replace hbW:=hC.bel;replace hc:=hC.cells;replace HLv:=hdq (HLv.out.below hb);have HR2:Hid (VecIs W AllB AllB 7 ⟨yA,yn,yc⟩ (resize row V)):=(hz.loose (zNC HRow.out.fit V)).allB;have hyn:yn=V:=by rw [<-zNr row V]; exact hz.len.symm
      have Hyn:=hdq hyn;clear hz hyn hb hx1;obtain ⟨o,hov⟩:∃ o,qcmp (Lin.sum V fun k=>(resize row V).getD k 0*l.getD k 0) most=o:=⟨_,rfl⟩;have HOv:=hdq hov;(go_upto_region 6 with fail);obtain ⟨-,m0,m1,m2,m3⟩:=id hc;have s1:=hC.lt;refine zAp 1000 (fun _ w'=>Sees w [] W w') (by kernel_rfl) ?_;have hS0:Sees w [] W W.drew:=Sees.st (by simp) hbW.size;refine tx4 0 1 2 3 hS0 ?_;refine tx4 4 5 6 7 hS0 ?_;refine tx1 8 hS0 ?_;refine tx1 10 hS0 ?_;refine tk1 9 ?_;intro K hK;go_simp;(with_reducible refine (zNo (kb:=200000) (V:=V) (sa:=⟨yA,yn,yc⟩) (sb:=⟨eA,en,ec⟩) (HR2.out.below hS0.kept.whole) (HLv.out.below hS0.kept.whole) (by rw [zAZ]; omega) (by rw [zAZ]; omega) (zNr _ _) HLl.out (by omega) (by rw [zAZ]; omega) (fun i=>((zAR (HR2.out.fit i)).mul (HLf.out i)).mono (by omega))).mono ?_);rintro e y1 ⟨⟨u,rfl,hu⟩,hc1⟩;have hS1:=Kept.call2 hc1 hS0;refine hK.out _ _ hS1 ?_;clear hK K;refine tk1 11 ?_;intro K hK;go_simp;(with_reducible refine (zNn o hu (HMost.out.below (hbW.trans (hS1.kept.whole.mono hbW.size))) (nlr _) (by rw [zAZ]; omega) HOv.out).mono ?_);rintro e y2 ⟨rfl,hc2⟩;have hS2:=Kept.call2 hc2 hS1;refine hK.out _ _ hS2 ?_;clear hK K hS0 hS1 hu hc1 hc2;refine tx1 12 hS2 ?_;refine tx1 13 hS2 ?_;refine zAf (by kernel_rfl) ?_ _;have hbS:=hS2.kept.whole;replace hC:=hC.next hbS;replace hbW:=hC.bel;replace hc:=hC.cells;replace HLv:=hdq (HLv.out.below hbS);replace HR2:=hdq (HR2.out.below hbS);clear hbS hS2;by_cases hlt:(Lin.sum V fun k=>(resize row V).getD k 0*l.getD k 0)<most
      ·obtain rfl:o=-1:=by rw [<-hov]; exact zQL hlt
       have HLt:=hdq hlt;clear hov HOv hlt;(go_wp2_with fail);refine (zNp (L:=7) (V:=V) (p:=⟨V,⟨oA,on,oc⟩,⟨rA,rn,rc⟩,⟨bA,rn,bc⟩⟩) (r:=⟨yA,yn,yc⟩) (mv:=mv) ((HP.out.more (by omega)).below hbW) rfl (by omega) ho1 hon (by show rn<=127; omega) rfl HC1.out HC2.out (by rw [zAZ]; omega) HR2.out ((HMost.out.mono (by omega)).below hbW) (by show yn<=V; rw [Hyn.out]; omega)).mono ?_;rintro e w8 ⟨⟨⟨z,⟨jA,jn,jc⟩,⟨kA,kn,kc⟩,⟨iA,n,ic⟩⟩,rfl,hz,hq⟩,hb8⟩;dsimp only at hz;subst hz;obtain rfl:on=jn:=HP.out.obj.len.symm.trans hq.obj.len
       obtain rfl:rn+1=kn:=by
        have h1:(rs++[resize row V]).length=kn:=hq.rows.len;rw [List.length_append,HRl.out] at h1; exact h1
       obtain rfl:rn+1=n:=by
        have h1:(bs++[most]).length=n:=hq.bounds.len;rw [List.length_append,HBl.out] at h1; exact h1
       have HQ:=hdq hq;clear hq;replace hC:=hC.next hb8;replace hbW:=hC.bel;replace hc:=hC.cells;clear hb8;(go_upto_region 9 with fail);have al9:Below w8 w8 (w8.alloc (.cells #[.int .i64 V,.slice jA on jc,.slice kA (rn+1:Nat) kc,.slice iA (rn+1:Nat) ic] 28)):=bal;have bQ:LBlk (w8.alloc (.cells #[.int .i64 V,.slice jA on jc,.slice kA (rn+1:Nat) kc,.slice iA (rn+1:Nat) ic] 28)) w8 V ⟨jA,on,jc⟩ ⟨kA,rn+1,kc⟩ ⟨iA,rn+1,ic⟩:=zAd _ _ rfl;replace hC:=hC.next al9;replace hbW:=hC.bel;replace hc:=hC.cells;replace HQ:=hdq (HQ.out.below al9);clear al9;generalize w8.alloc (.cells #[.int .i64 V,.slice jA on jc,.slice kA (rn+1:Nat) kc,.slice iA (rn+1:Nat) ic] 28)=w9 at *;generalize w8.heap.size=bq at *;(go_wp2_with fail);refine (zDb (p:=⟨V,⟨oA,on,oc⟩,⟨rA,rn,rc⟩,⟨bA,rn,bc⟩⟩) (V:=V) (HP.out.below hbW) rfl (by omega) ho1 hon (by show rn<=128; omega) rfl HC1.out HC2.out (by omega)).mono ?_;rintro e y1 ⟨ho,hb⟩;have hfe:(prob1 V os rs bs).Feasible fun k=>l.getD k 0:=HLo.out.1
       have hmx:=HLo.out.2
       obtain ⟨D,⟨tA,tn,tc⟩,hI,hE,rfl,hv⟩:∃ (D:Lin.Dict) (y:SV),PInv (prob1 V os rs bs) none D/\Ends (prob1 V os rs bs) none D 1/\e = .returned (.tuple #[y.val,.int .i64 0])/\VecCan y1 (New w9) (New w9) y ((List.range (prob1 V os rs bs).m).map (D.dual (prob1 V os rs bs))):=by
        rcases ho with h | ⟨D,hI,hE,_⟩ | ⟨D,hI,hE,_⟩
        ·exact h
        ·have:=zQC rfl hI hE hfe hmx; omega
        ·have:=zQC rfl hI hE hfe hmx; omega
       clear ho;have HI:=hdq (And.intro hI hE);have HY:=hdq (zQx (M:=4400) (HP.out.below hbW) hV4 hI hv (by omega));obtain rfl:rn=tn:=by rw [<-HRl.out]; have:=hv.len; rw [List.length_map,List.length_range] at this; exact this
       clear hI hE hv;replace hC:=hC.next hb;replace hbW:=hC.bel;replace hc:=hC.cells;have bQ2:LBlk y1 bq V ⟨jA,on,jc⟩ ⟨kA,rn+1,kc⟩ ⟨iA,rn+1,ic⟩:=heapK bQ hb;replace HQ:=hdq (HQ.out.below hb);clear hb bQ;obtain ⟨q0,q1,q2,q3,-⟩:=zB7 bQ2;dsimp only at q0 q1 q2 q3;have sq:=zAa bQ2;(go_wp2_with fail);refine (zDb (p:=⟨V,⟨jA,on,jc⟩,⟨kA,rn+1,kc⟩,⟨iA,rn+1,ic⟩⟩) (V:=V) HQ.out rfl (by omega) ho1 hon (by show rn+1<=128; omega) rfl HC1.out (zNI HC2.out (by rw [zNr]; exact nlr _)) (by omega)).mono ?_;rintro e y2 ⟨ho,hb⟩;have hrr:(Lin.sum V fun k=>(resize row V).getD k 0*l.getD k 0)<most:=HLt.out
       obtain ⟨D2,⟨vA,vn,vc⟩,hI,hE,rfl,hv⟩:∃ (D2:Lin.Dict) (y:SV),PInv (prob1 V os (rs++[resize row V]) (bs++[most])) none D2/\Ends (prob1 V os (rs++[resize row V]) (bs++[most])) none D2 1/\e = .returned (.tuple #[y.val,.int .i64 0])/\VecCan y2 (New y1) (New y1) y ((List.range (prob1 V os (rs++[resize row V]) (bs++[most])).m).map (D2.dual (prob1 V os (rs++[resize row V]) (bs++[most])))):=by
        rcases ho with h | ⟨D2,hI,hE,_⟩ | ⟨D2,hI,hE,_⟩
        ·exact h
        ·have:=(inactive (HBl.out.trans HRl.out.symm) hfe hmx hrr HI.out.1 HI.out.2 hI hE).1; omega
        ·have:=(inactive (HBl.out.trans HRl.out.symm) hfe hmx hrr HI.out.1 HI.out.2 hI hE).1; omega
       clear ho;have HE:=hdq (inactive (HBl.out.trans HRl.out.symm) hfe hmx hrr HI.out.1 HI.out.2 hI hE).2;have HZ:=hdq (zQx (M:=5700) HQ.out hV4 hI hv (by omega));have hvn:(rs++[resize row V]).length=vn:=by have:=hv.len; rw [List.length_map,List.length_range] at this; exact this
       have Hvn:Hid (vn=rn+1):=by show vn=rn+1; rw [<-hvn,List.length_append,HRl.out]; rfl
       clear hI hE hv hfe hmx hrr hvn;replace hC:=hC.next hb;replace hbW:=hC.bel;replace hc:=hC.cells;replace HY:=hdq (HY.out.below hb);clear hb q0 q1 q2 q3 sq bQ2;have hwr:IntKind.i64.wrap ((rn:Int)+1)=(rn:Int)+1:=IntWalk.i64_in _ (by omega);have hzn:(vn:Int)=(rn:Int)+1:=by have:=Hvn.out; omega
       dsimp only [SV.val];go_wp2_with fail
       refine (zQA (sa:=⟨vA,vn,vc⟩) (sb:=⟨tA,rn,tc⟩) HZ.out HY.out (by rw [zAZ]; omega) (by rw [zAZ]; omega) (by have:=Hvn.out; show vn<=_; omega) (by show rn<=_; omega) (fun i=>by
        by_cases hi:i<rs.length
        ·rw [zA6 _ _ _ _ (by rw [List.length_append]; omega),zA6 _ _ _ _ hi]; exact HE.out.1 i hi
        ·rw [zAw (List.map (D.dual _) _) _ _ (by simp; omega)];by_cases hi2:i=rs.length
         ·subst hi2;rw [zA6 _ _ _ _ (by rw [List.length_append]; simp)]; exact HE.out.2
         ·rw [zAw _ _ _ (by simp; omega)])).mono ?_
       rintro e y3 ⟨rfl,hb⟩;replace hC:=hC.next hb;replace hbW:=hC.bel;replace hc:=hC.cells;replace HZ:=hdq (HZ.out.below hb);clear hb;obtain ⟨ad,zk,eA2,-,hzc,hzk⟩:=HZ.out.elem rn (by have:=Hvn.out; show rn<vn; omega);dsimp only at eA2;subst eA2;rw [zA6 _ _ _ _ (by rw [List.length_append,HRl.out]; simp)] at hzk;have e9:D2.dual (prob1 V os (rs++[resize row V]) (bs++[most])) rn=0:=by have:=HE.out.2; rw [HRl.out] at this; exact this
       rw [e9] at hzk;have tzk:=zAb hzc.1;obtain ⟨c0,c1,c2,c3⟩:=hzc;have hzle:vn<=vc:=HZ.out.le;have hzcap:vc<=9223372036854775807:=HZ.out.cap;have HZk:=hdq hzk;clear hzk e9;have hk0:(0:Int)<=(rn:Int):=(by omega);have hk1:(rn:Int)<(vn:Int):=(by omega);have hk2:rn<vn:=(by omega);(go_wp2_with fail);refine (zAn HZk.out).mono ?_;rintro e y4 ⟨rfl,hb⟩;replace hC:=hC.next hb;replace hbW:=hC.bel;replace hc:=hC.cells;rw [show qsign 0=0 from rfl];(go_wp2_with fail);refine zAG.mono ?_;rintro e wl ⟨rfl,hbl⟩;have hbf:=hbW.trans (hbl.mono hbW.size);go_wp2;go_ret;exact ⟨rfl,hbf⟩
      ·have hge:(0:Int)<=o:=by
        rw [<-hov];rcases qcmp3 (Lin.sum V fun k=>(resize row V).getD k 0*l.getD k 0) most with ⟨h1,_⟩ | ⟨_,h2⟩ | ⟨_,h2⟩
        ·exact absurd h1 hlt
        ·omega
        ·omega
       clear hov HOv hlt;(go_wp2_with fail);refine zAG.mono ?_;rintro e wl ⟨rfl,hbl⟩;have hbf:=hbW.trans (hbl.mono hbW.size);go_wp2;go_ret;exact ⟨rfl,hbf⟩
end Go.Proofs.YtpjaodcimomaiaaGreat
