/- Texts Whole14 Whole15 Whole16 Frac1 Frac2 Frac4 of this claim. -/
import Derived.Test.YtjancagcmghfjaaGreatX05
import Derived.Laws.BitsAllLaws
set_option maxHeartbeats 4000000
set_option maxRecDepth 20000
namespace Go.Proofs.YtjancagcmghfjaaGreat
open Go.RowKit
variable {b n c m d f B k o K L g:Nat} {na nb ng:Bool} {a l gs:List Nat} {A:Option Addr} {X Y:Nat->Prop} {w w' W w2:World} {x y z:Int} {v v' v0 v1 v2:Value} {q:Rat}
theorem zFF (na:Bool) (a b:Nat):zval na (a+b)=zval na a+zval na b:=by cases na <;> simp [zval] <;> omega
theorem zGS {a:Nat} (h:na ≠ nb) (hl:a<=b):zval nb (b-a)=zval na a+zval nb b:=by cases na <;> cases nb <;> simp [zval] at*<;> omega
theorem zGR {a:Nat} (h:na ≠ nb) (hl:b<=a):zval na (a-b)=zval na a+zval nb b:=by cases na <;> cases nb <;> simp [zval] at*<;> omega
theorem zBe {b:List Nat} (oa:Num.Ok a) (cb:Num.Can b) (h:Num.nat b<=Num.nat a):b.length<=a.length:=by
 rcases Nat.lt_or_ge a.length b.length with h1 | h1
 ·have:=zDW oa cb h1; omega
 ·exact h1
theorem zAV {B:Option Addr} {b:List Nat} (na nb:Bool) (ha:WordsAt w X A n c a) (hb:WordsAt w Y B m d b) (ca:Num.Can a) (cb:Num.Can b) (hn:n<35184372088000) (hm:m<35184372088000) :
  Calls Tryz.prog 227 #[.bool na,.slice A n c,.bool nb,.slice B m d] w fun e w'=>(∃ ng' A' n' c',e = .returned (.agg #[.bool ng',.slice A' n' c'])/\ZAt w' (New w) ng' A' n' c' (zval na (Num.nat a)+zval nb (Num.nat b)))/\Below w w w':=by
 have Hn:=hdq hn;have Hm:=hdq hm;clear hn hm;have hb0:Below w w (w.alloc (.cells #[.bool false,.slice none 0 0] 78)):=bal;by_cases hs:na=nb
 focus
  subst hs;have hbb:(na == na)=true:=by simp
  go_enter Tryz.func227,Tryz.ntmps227
  go_wp2_with fail
  refine (zCI (ha.below hb0) (hb.below hb0) Hn.out Hm.out).mono ?_; rintro e w1 ⟨⟨A',c',r,rfl,hw1,hv⟩,hb1⟩
  have HV:=hdq hv;clear hv;obtain ⟨hc1,hf1⟩:=bcell hb1;go_wp2_with fail
  have HE:Hid (zval na (Num.nat r)=zval na (Num.nat a)+zval na (Num.nat b)):=hdq (by rw [HV.out,zFF]);refine (build_calls na hw1).mono ?_
 rotate_left
 focus
  have hbb:(na == nb)=false:=by simpa using hs
  have HS:=hdq hs;clear hs;by_cases hlt:Num.nat a<Num.nat b
  focus
   have hcmp:Hid (cmpN (Num.nat a) (Num.nat b)=-1):=by show _=_; rw [cmpN,if_pos hlt]
   have Hlt:=hdq hlt;clear hlt;have Hle:=hdq (zBe hb.ok ca (Nat.le_of_lt Hlt.out));rw [ha.len,hb.len] at Hle;(go_enter Tryz.func227,Tryz.ntmps227);(go_wp2_with fail);refine (zAu (ha.below hb0) (hb.below hb0) ca cb).mono ?_; rintro e w0 ⟨rfl,hbc⟩
   rw [hcmp.out];obtain ⟨hc0,hf0⟩:=bcell hbc;(go_wp2_with fail);refine (zBQ ((hb.below hb0).below hbc) ((ha.below hb0).below hbc) Hm.out Hle.out (Nat.le_of_lt Hlt.out)).mono ?_; rintro e w1 ⟨⟨A',c',r,rfl,hw1,hv⟩,hb1'⟩
   have HV:=hdq hv;clear hv;have hb1:Below _ _ w1:=hbc.trans (hb1'.mono hbc.size);clear hc0 hf0;obtain ⟨hc1,hf1⟩:=bcell hb1;(go_wp2_with fail);have HE:Hid (zval nb (Num.nat r)=zval na (Num.nat a)+zval nb (Num.nat b)):=hdq (by rw [HV.out,zGS HS.out (Nat.le_of_lt Hlt.out)]);refine (build_calls nb (hw1.imp (Y:=New (w+1)) (fun x _ hx=>by have:=hbc.size; simp at this; simp only [New] at hx ⊢; omega))).mono ?_
  rotate_left
  focus
   have hcmp:¬ (cmpN (Num.nat a) (Num.nat b)<0):=by
    rw [cmpN,if_neg hlt]; split <;> omega
   have Hlt:=hdq (Nat.le_of_not_lt hlt);clear hlt;have Hle:=hdq (zBe ha.ok cb Hlt.out);rw [ha.len,hb.len] at Hle;(go_enter Tryz.func227,Tryz.ntmps227);(go_wp2_with fail);refine (zAu (ha.below hb0) (hb.below hb0) ca cb).mono ?_; rintro e w0 ⟨rfl,hbc⟩
   obtain ⟨hc0,hf0⟩:=bcell hbc;(go_wp2_with fail);refine (zBQ ((ha.below hb0).below hbc) ((hb.below hb0).below hbc) Hn.out Hle.out Hlt.out).mono ?_; rintro e w1 ⟨⟨A',c',r,rfl,hw1,hv⟩,hb1'⟩
   have HV:=hdq hv;clear hv;have hb1:Below _ _ w1:=hbc.trans (hb1'.mono hbc.size);clear hc0 hf0;obtain ⟨hc1,hf1⟩:=bcell hb1;(go_wp2_with fail);have HE:Hid (zval na (Num.nat r)=zval na (Num.nat a)+zval nb (Num.nat b)):=hdq (by rw [HV.out,zGR HS.out Hlt.out]);refine (build_calls na (hw1.imp (Y:=New (w+1)) (fun x _ hx=>by have:=hbc.size; simp at this; simp only [New] at hx ⊢; omega))).mono ?_
 all_goals
  rintro e w2 ⟨⟨ng',A'',n'',c'',rfl,hz⟩,hb2⟩;have hb12:Below _ _ w2:=hb1.trans (hb2.mono hb1.size);obtain ⟨hc2,hf2⟩:=bcell hb12;clear hc1 hf1;go_wp2;refine bodyPost_ret (v:=.agg #[.bool ng',.slice A'' n'' c'']) (by simp [results,Tryz.results227,go_sem,hc2]) rfl ⟨⟨_,_,_,_,rfl,?_⟩,((hb0.trans (hb12.mono (by simp))).setCell (by simp) _).setCell (by simp) _⟩;have hz':=((hz.set (p:=w) (by simp) (.bool ng')).set (p:=⟨w.heap.size,1,none⟩) (by simp) (.slice A'' n'' c'')).lower (B':=w) (by simp);rw [HE.out] at hz';exact hz'
abbrev Gen (Φ:World->Prop) (w:World):Prop:=Φ w
theorem zDr {P:Program} {c:Code} {Q:Exit->Act->World->Prop} {a:Act} {Φ:World->Prop} (h0:Gen Φ w) (h:∀ W,Φ W->c.wp P Q a W):c.wp P Q a w:=h w h0
theorem zAg {P:Program} {args:Array Value} {Q:Ending->World->Prop} (Φ:World->Prop) (h0:Φ w) (h:∀ W,Φ W->Calls P f args W Q):Calls P f args w Q:=h w h0
theorem zDp {P:Program} {args:Array Value} {Q:Ending->World->Prop} {Φ:World->Prop} (h0:Gen Φ w) (h:∀ W,Φ W->Calls P f args W Q):Calls P f args w Q:=h w h0
theorem zGZ {K:Act->World->Prop} {Q:Exit->Act->World->Prop} {ex:Exit} {a:Act} (Φ:World->Prop) (h0:Φ w) (h:∀ W,Φ W->Exit.then K Q ex a W):Exit.then K Q ex a w:=h w h0
theorem zDq {K:Act->World->Prop} {Q:Exit->Act->World->Prop} {ex:Exit} {a:Act} {Φ:World->Prop} (h0:Gen Φ w) (h:∀ W,Φ W->Exit.then K Q ex a W):Exit.then K Q ex a w:=h w h0
theorem zFa (r:BitVec 64):IntKind.i64.wrap (r.toNat:Int)=r.toInt:=by
 have:=r.isLt;simp [IntKind.wrap,IntKind.bits,IntKind.signed,BitVec.toInt_eq_toNat_cond];omega
theorem ofInt_toInt (r:BitVec 64):BitVec.ofInt 64 r.toInt=r:=BitVec.ofInt_toInt
theorem zDV (x s:Int):bits .xor .i64 x s=(BitVec.ofInt 64 x ^^^ BitVec.ofInt 64 s).toInt:=zFa _
theorem zGT (x s:Int):bits .and .i64 x s=(BitVec.ofInt 64 x &&& BitVec.ofInt 64 s).toInt:=zFa _
theorem zEM (h1:-9223372036854775808<=x) (h2:x<=9223372036854775807):(BitVec.ofInt 64 x).toInt=x:=by
 rw [BitVec.toInt_ofInt]; exact Int.bmod_eq_of_le (by omega) (by omega)
theorem zBU (h1:-9223372036854775808<=x) (h2:x<=9223372036854775807):(BitVec.ofInt 64 x).msb=decide (x<0):=by
 rw [BitVec.msb_eq_toInt,zEM h1 h2]
theorem zGC {s:Int} (hx:-9223372036854775808<=x/\x<=9223372036854775807) (hy:-9223372036854775808<=y/\y<=9223372036854775807) (hs:-9223372036854775808<=s/\s<=9223372036854775807)
  (h:0<=bits .and .i64 (bits .xor .i64 x s) (bits .xor .i64 y s)):¬ ((x<0) ≠ (s<0)/\(y<0) ≠ (s<0)):=by
 rw [zGT,zDV,zDV,ofInt_toInt,ofInt_toInt] at h
 have h1:((BitVec.ofInt 64 x ^^^ BitVec.ofInt 64 s) &&& (BitVec.ofInt 64 y ^^^ BitVec.ofInt 64 s)).msb=false:=by
  rw [BitVec.msb_eq_toInt]; simpa using h
 rw [BitVec.msb_and,BitVec.msb_xor,BitVec.msb_xor,zBU hx.1 hx.2,zBU hy.1 hy.2,zBU hs.1 hs.2] at h1;rintro ⟨a,b⟩;by_cases c1:x<0 <;> by_cases c2:y<0 <;> by_cases c3:s<0 <;> simp_all
theorem zEn (hx:-9223372036854775808<=x/\x<=9223372036854775807) (hy:-9223372036854775808<=y/\y<=9223372036854775807)
  (h:0<=bits .and .i64 (bits .xor .i64 x (wrap64 (x+y))) (bits .xor .i64 y (wrap64 (x+y)))):wrap64 (x+y)=x+y:=by
 have hs:-9223372036854775808<=wrap64 (x+y)/\wrap64 (x+y)<=9223372036854775807:=by unfold wrap64; omega
 have h1:=zGC hx hy hs h;by_cases c1:x<0 <;> by_cases c2:y<0 <;> by_cases c3:wrap64 (x+y)<0 <;> simp [c1,c2,c3] at h1 <;> unfold wrap64 at*<;> omega
theorem zEo (hx:-9223372036854775808<=x/\x<=9223372036854775807) (hy:-9223372036854775808<=y/\y<=9223372036854775807)
  (h:0<=bits .and .i64 (bits .xor .i64 x y) (bits .xor .i64 x (wrap64 (x-y)))):wrap64 (x-y)=x-y:=by
 have hs:-9223372036854775808<=wrap64 (x-y)/\wrap64 (x-y)<=9223372036854775807:=by unfold wrap64; omega
 rw [zGT,zDV,zDV,ofInt_toInt,ofInt_toInt] at h
 have h1:((BitVec.ofInt 64 x ^^^ BitVec.ofInt 64 y) &&& (BitVec.ofInt 64 x ^^^ BitVec.ofInt 64 (wrap64 (x-y)))).msb=false:=by
  rw [BitVec.msb_eq_toInt]; simpa using h
 rw [BitVec.msb_and,BitVec.msb_xor,BitVec.msb_xor,zBU hx.1 hx.2,zBU hy.1 hy.2,zBU hs.1 hs.2] at h1;by_cases c1:x<0 <;> by_cases c2:y<0 <;> by_cases c3:wrap64 (x-y)<0 <;> simp [c1,c2,c3] at h1 <;> unfold wrap64 at*<;> omega
theorem zDX (h:fits z=true):-9223372036854775808<=z/\z<=9223372036854775807:=by simpa [fits] using h
theorem zAQ (h:fits z=true):fitted z=z:=by simp [fitted,h]
theorem Box2.below (h:Box2 w b v v') (hb:Below B w w') (hlt:b<B):Box2 w' b v v':=
 ⟨by rw [hb.cell hlt]; exact h.1,by rw [hb.cell hlt]; exact h.2.1,fun o=>by rw [hb.frozen hlt]; exact h.2.2 o⟩
theorem Box2.stored (h:Box2 w b v v') (x y:Value):((w.setCell b x).setCell ⟨b,1,none⟩ y).cell? b=some x/\((w.setCell b x).setCell ⟨b,1,none⟩ y).cell? ⟨b,1,none⟩=some y:=by
 constructor
 ·rw [World.cell?_setCell_other _ _ _ _ (by simp)];exact World.cell?_setCell_same' _ _ _ (by rw [h.1]; rfl)
 ·refine World.cell?_setCell_same' _ _ _ ?_;rw [World.cell?_setCell_other _ _ _ _ (by simp),h.2.1]; rfl
theorem zQp {B:Option Addr} {b:List Nat} {t:Int} (na nb:Bool) (hk:(k=196/\z=zval na (Num.nat a)+zval nb (Num.nat b)/\t=bits .and .i64 (bits .xor .i64 (zval na (Num.nat a)) (wrap64 (zval na (Num.nat a)+zval nb (Num.nat b)))) (bits .xor .i64 (zval nb (Num.nat b)) (wrap64 (zval na (Num.nat a)+zval nb (Num.nat b)))))\/
   k=198/\z=zval na (Num.nat a)-zval nb (Num.nat b)/\t=bits .and .i64 (bits .xor .i64 (zval na (Num.nat a)) (zval nb (Num.nat b))) (bits .xor .i64 (zval na (Num.nat a)) (wrap64 (zval na (Num.nat a)-zval nb (Num.nat b)))))
  (ha:WordsAt w X A n c a) (hb:WordsAt w Y B m d b) (hn:n<35184372088000) (hm:m<35184372088000) :
  Calls Tryz.prog k #[.agg #[.bool na,.slice A n c],.agg #[.bool nb,.slice B m d]] w fun e w'=>(∃ ng' A' n' c',e = .returned (.agg #[.bool ng',.slice A' n' c'])/\ZAt w' (New w) ng' A' n' c' z)/\Below w w w':=by
 have Hn:=hdq (Nat.lt_of_le_of_lt (Num.trim_length_le a) (by rw [ha.len]; exact hn));have Hm:=hdq (Nat.lt_of_le_of_lt (Num.trim_length_le b) (by rw [hb.len]; exact hm))
 have Hf:fits (zval na (Num.nat a))=false\/(fits (zval na (Num.nat a))=true/\fits (zval nb (Num.nat b))=false)\/(fits (zval na (Num.nat a))=true/\fits (zval nb (Num.nat b))=true/\(¬ 0<=t\/0<=t/\Hid (wrap64 z=z))):=by
  cases hfa:fits (zval na (Num.nat a))
  ·exact .inl rfl
  ·cases hfb:fits (zval nb (Num.nat b))
   ·exact .inr (.inl ⟨rfl,rfl⟩)
   ·refine .inr (.inr ⟨rfl,rfl,?_⟩);by_cases ht:0<=t
    ·refine .inr ⟨ht,?_⟩;show _=_;rcases hk with ⟨-,rfl,rfl⟩ | ⟨-,rfl,rfl⟩
     ·exact zEn (zDX hfa) (zDX hfb) ht
     ·exact zEo (zDX hfa) (zDX hfb) ht
    ·exact .inl ht
 clear hn hm;rcases hk with ⟨rfl,rfl,rfl⟩ | ⟨rfl,rfl,rfl⟩
 all_goals
  first | go_enter Tryz.func196,Tryz.ntmps196 | go_enter Tryz.func198,Tryz.ntmps198
  go_wp2_with fail
  refine zAg (fun W=>Below w w W/\Box2 W w (.bool na) (.slice A n c)/\Box2 W (w+1) (.bool nb) (.slice B m d)/\Box2 W (w+1+1) (.bool false) (.slice none 0 0)/\w.heap.size<W.heap.size/\w.heap.size+1<W.heap.size/\w.heap.size+1+1<W.heap.size) ⟨(az (az (az (brf _ _)))),bx2,bx2,bx2,by simp <;> omega,by simp <;> omega,by simp <;> omega⟩ ?_;rintro W ⟨hbW,bA,bB,bR,s0,s1,s2⟩;have hBW:=hbW.size;have ne02:¬ (w.heap.size=w.heap.size+1+1):=by omega
  have ha':=ha.old.below hbW;have hb':=hb.old.below hbW;refine (zAs na ha').mono ?_; rintro e w1 ⟨rfl,hb1⟩
  obtain ⟨hc1,hf1⟩:=bcell hb1;go_wp2_with fail
  refine (zAs nb (hb'.below hb1)).mono ?_; rintro e w2 ⟨rfl,hb2⟩
  have hb12:=hb1.trans (hb2.mono hb1.size);clear hc1 hf1 hb1 hb2;obtain ⟨hc2,hf2⟩:=bcell hb12;rcases Hf with h | ⟨h,h'⟩ | ⟨h,h',ht | ⟨ht,HS⟩⟩
  rotate_right
  ·rw [h,h',zAQ h,zAQ h'];clear h h';(go_wp2_with fail);rw [HS.out];refine (zAI _ (by rw [<-HS.out]; unfold wrap64; omega) (by rw [<-HS.out]; unfold wrap64; omega) _).mono ?_; rintro e w3 ⟨⟨ng',A',n',c',rfl,hz⟩,hb3⟩
   clear hc2 hf2;have hb13:=hb12.trans (hb3.mono hb12.size);obtain ⟨hc3,hf3⟩:=bcell hb13;go_wp2;obtain ⟨v0,v1⟩:=(bR.below hb13 s2).stored (.bool ng') (.slice A' n' c');refine bodyPost_ret (v:=.agg #[.bool ng',.slice A' n' c']) (by first | simp [results,Tryz.results196,go_sem,v0,v1] | simp [results,Tryz.results198,go_sem,v0,v1]) rfl ⟨⟨_,_,_,_,rfl,?_⟩,((hbW.trans (hb13.mono hBW)).setCell (by simp; omega) _).setCell (by simp; omega) _⟩;exact ((hz.set (p:=⟨w+1+1,0,none⟩) (by have:=hb12.size; simp; omega) (.bool ng')).set (p:=⟨w.heap.size+1+1,1,none⟩) (by have:=hb12.size; simp; omega) (.slice A' n' c')).lower (B':=w) (by have:=hb12.size; omega)
  all_goals
   first
   | (rw [h,h',zAQ h,zAQ h']; clear h h')
   | (rw [h,h']; clear h h')
   | (rw [h]; clear h)
   go_wp2;clear hc2 hf2 ha' hb';have F:Gen (fun W=>Below w w W/\Box2 W w (.bool na) (.slice A n c)/\Box2 W (w+1) (.bool nb) (.slice B m d)/\Box2 W (w+1+1) (.bool false) (.slice none 0 0)/\w.heap.size<W.heap.size/\w.heap.size+1<W.heap.size/\w.heap.size+1+1<W.heap.size) _:=⟨hbW.trans (hb12.mono hBW),bA.below hb12 s0,bB.below hb12 s1,bR.below hb12 s2,ltl s0 hb12.size,ltl s1 hb12.size,ltl s2 hb12.size⟩;(with_reducible first | refine zDq F ?_ | refine zDr F ?_ | refine zDp F ?_);clear F hbW hBW bA bB bR s0 s1 s2 hb12;rintro W ⟨hbW,bA,bB,bR,s0,s1,s2⟩;have hBW:=hbW.size;have ha':=ha.old.below hbW;have hb':=hb.old.below hbW
   go_region_held3 (Sees w [w.heap.size+1+1] W) (exact kp)
    (first
     | (go_at_call 155; ((with_reducible refine (zAk (ha'.keptOld (Sees.kept (by assumption)))).mono ?_); rintro e w1 ⟨rfl,rfl⟩))
     | (go_at_call 155; ((with_reducible refine (zAk (hb'.keptOld (Sees.kept (by assumption)))).mono ?_); rintro e w1 ⟨rfl,rfl⟩))
     | (go_at_call 227; ((with_reducible refine (zAV na _ (ha'.keptOld (Sees.kept (by assumption))).trim (hb'.keptOld (Sees.kept (by assumption))).trim (Num.Can.trim _) (Num.Can.trim _) Hn.out Hm.out).mono ?_); rintro e w3 ⟨⟨ng',A',n',c',rfl,hz⟩,hb3⟩; replace hz:=hz.lower (Sees.kept (by assumption):Kept w _ W _).size)))
   rename_i hS;obtain ⟨v0,v1⟩:=hS.kept.val2 (by simp) (by simp [bR.1]) (by simp [bR.2.1]);have hzf:=((hz.set (p:=⟨w+1+1,0,none⟩) s2 (.bool ng')).set (p:=⟨w.heap.size+1+1,1,none⟩) s2 (.slice A' n' c')).lower hBW;have hbf:=hbW.trans hS.kept.below;clear hS hz;generalize (w3.setCell ⟨w+1+1,0,none⟩ (.bool ng')).setCell ⟨w.heap.size+1+1,1,none⟩ (.slice A' n' c')=Wf at *;(first | rw [Num.nat_trim,Num.nat_trim,zDk,<-Int.sub_eq_add_neg] at hzf | rw [Num.nat_trim,Num.nat_trim] at hzf);go_wp2;exact bodyPost_ret (v:=.agg #[.bool ng',.slice A' n' c']) (by first | simp [results,Tryz.results196,go_sem,v0,v1] | simp [results,Tryz.results198,go_sem,v0,v1]) rfl ⟨⟨_,_,_,_,rfl,hzf⟩,hbf⟩
theorem zH2 {B:Option Addr} {b:List Nat} (na nb:Bool) (ha:WordsAt w X A n c a) (hb:WordsAt w Y B m d b) (hn:n<35184372088000) (hm:m<35184372088000) :
  Calls Tryz.prog 196 #[.agg #[.bool na,.slice A n c],.agg #[.bool nb,.slice B m d]] w fun e w'=>(∃ ng' A' n' c',e = .returned (.agg #[.bool ng',.slice A' n' c'])/\ZAt w' (New w) ng' A' n' c' (zval na (Num.nat a)+zval nb (Num.nat b)))/\Below w w w':=
 zQp na nb (.inl ⟨rfl,rfl,rfl⟩) ha hb hn hm
theorem zH8 {B:Option Addr} {b:List Nat} (na nb:Bool) (ha:WordsAt w X A n c a) (hb:WordsAt w Y B m d b) (hn:n<35184372088000) (hm:m<35184372088000) :
  Calls Tryz.prog 198 #[.agg #[.bool na,.slice A n c],.agg #[.bool nb,.slice B m d]] w fun e w'=>(∃ ng' A' n' c',e = .returned (.agg #[.bool ng',.slice A' n' c'])/\ZAt w' (New w) ng' A' n' c' (zval na (Num.nat a)-zval nb (Num.nat b)))/\Below w w w':=
 zQp na nb (.inr ⟨rfl,rfl,rfl⟩) ha hb hn hm
theorem Kept.whole (h:Kept B [] W w'):Below W W w':=
 ⟨h.os,h.tape,h.output,h.size,fun k hk=>h.block k hk (by simp)⟩
theorem zJQ (nb:Bool) (a b:Nat):zval (false != nb) (a / b)=zval false a / zval nb b/\((a % b:Nat):Int)=zval false a % zval nb b:=by
 cases nb <;> simp [zval]
theorem zI9 (nb:Bool) (a b:Nat) (h:a % b=0):zval (true != nb) (a / b)=zval true a / zval nb b/\((a % b:Nat):Int)=zval true a % zval nb b:=by
 obtain ⟨k,hk⟩:=Nat.dvd_of_mod_eq_zero h;rcases Nat.eq_zero_or_pos b with h0 | h0
 ·subst h0; simp at hk; subst hk; cases nb <;> simp [zval]
 ·subst hk;have e1:b*k / b=k:=Nat.mul_div_cancel_left _ h0;have e2:(((b*k:Nat):Int)) / (b:Int)=k:=by rw [<-Int.natCast_ediv,e1]
  have hb0:(b:Int) ≠ 0:=by omega
  have e3:-(((b*k:Nat):Int)) / (b:Int)=- (k:Int):=by
   rw [Int.neg_ediv_of_dvd ⟨k,by simp⟩,e2]
  have e4:-(((b*k:Nat):Int)) % (b:Int)=0:=Int.emod_eq_zero_of_dvd (Int.dvd_neg.2 ⟨k,by simp⟩);rw [h,e1];cases nb
  ·refine ⟨?_,?_⟩
   ·show -(k:Int)=- ((b*k:Nat):Int) / (b:Int); rw [e3]
   ·show (0:Int)=- ((b*k:Nat):Int) % (b:Int); rw [e4]
  ·refine ⟨?_,?_⟩
   ·show (k:Int)=- ((b*k:Nat):Int) / (- (b:Int)); rw [Int.ediv_neg,e3]; omega
   ·show (0:Int)=- ((b*k:Nat):Int) % (- (b:Int)); rw [Int.emod_neg,e4]
theorem zJa (nb:Bool) (a b:Nat) (h0:0<b) (h:0<a % b):zval (true != nb) (a / b+1)=zval true a / zval nb b/\((b-a % b:Nat):Int)=zval true a % zval nb b:=by
 have h1:=Nat.div_add_mod a b;have h2:=Nat.mod_lt a h0;have hb0:(0:Int)<b:=by omega
 have key:- (a:Int)=(b:Int)*(- ((a / b:Nat):Int)-1)+((b-a % b:Nat):Int):=by
  have:(a:Int)=(b:Int)*((a / b:Nat):Int)+((a % b:Nat):Int):=by exact_mod_cast h1.symm
  rw [this,Int.mul_sub,Int.mul_neg,Int.natCast_sub (by omega)]; omega
 have hr:(0:Int)<=((b-a % b:Nat):Int):=by omega
 have hr2:((b-a % b:Nat):Int)<b:=by omega
 have e3:- (a:Int) / (b:Int)=- ((a / b:Nat):Int)-1:=by
  rw [key,Int.add_comm,Int.add_mul_ediv_left _ _ (by omega),Int.ediv_eq_zero_of_lt hr hr2]; omega
 have e4:- (a:Int) % (b:Int)=((b-a % b:Nat):Int):=by
  rw [key,Int.add_comm,Int.add_mul_emod_self_left,Int.emod_eq_of_lt hr hr2]
 cases nb
 ·refine ⟨?_,?_⟩
  ·show -(((a / b+1:Nat)):Int)=- (a:Int) / (b:Int); rw [e3]; omega
  ·show _=- (a:Int) % (b:Int); rw [e4]
 ·refine ⟨?_,?_⟩
  ·show (((a / b+1:Nat)):Int)=- (a:Int) / (- (b:Int)); rw [Int.ediv_neg,e3]; omega
  ·show _=- (a:Int) % (- (b:Int)); rw [Int.emod_neg,e4]
def DivModPost (w:World) (x y:Int) (e:Ending) (w':World):Prop:=
 ∃ n1 A1 k1 c1 n2 A2 k2 c2,e = .returned (.tuple #[.agg #[.bool n1,.slice A1 k1 c1],.agg #[.bool n2,.slice A2 k2 c2],.int .i64 0])/\
  ZAt w' (New w) n1 A1 k1 c1 (x / y)/\ZAt w' (New w) n2 A2 k2 c2 (x % y)
theorem zB3 (n:Nat):zval false n=(n:Int):=rfl
theorem Box2.far2 (h:Box2 w b v v') {b':Nat} (hb:b' ≠ b) (x:Value):Box2 (w.setCell ⟨b',o,none⟩ x) b v v':=
 ⟨by rw [World.cell?_setCell_far _ _ _ _ (by simpa using hb)]; exact h.1,by rw [World.cell?_setCell_far _ _ _ _ (by simpa using hb)]; exact h.2.1,fun o=>by rw [World.frozen?_setCell]; exact h.2.2 o⟩
theorem zBN {B:Option Addr} {b:List Nat} (na nb:Bool) (ha:WordsAt w X A n c a) (hb:WordsAt w Y B m d b) (hn:n<35184372080000) (hb0:Num.nat b ≠ 0) (hm:m<35184372080000) :
  Calls Tryz.prog 154 #[.agg #[.bool na,.slice A n c],.agg #[.bool nb,.slice B m d]] w fun e w'=>DivModPost w (zval na (Num.nat a)) (zval nb (Num.nat b)) e w'/\Below w w w':=by
 have Hn:=hdq (Nat.lt_of_le_of_lt (Num.trim_length_le a) (by rw [ha.len]; exact hn));have Hm:=hdq (Nat.lt_of_le_of_lt (Num.trim_length_le b) (by rw [hb.len]; exact hm));have hbt:Num.trim b ≠ []:=fun e=>hb0 ((Num.trim_eq_nil b).1 e)
 have hbl:((Num.trim b).length == 0)=false:=by simpa using hbt
 have Hbp:Hid (0<(Num.trim b).length):=List.length_pos_iff.2 hbt;have HB0:=hdq (Nat.pos_of_ne_zero hb0);clear hn hm hbt hb0;go_enter Tryz.func154,Tryz.ntmps154
 go_wp2;refine zAo (fun W=>Below w w W/\Box2 W w (.bool na) (.slice A n c)/\Box2 W (w+1) (.bool nb) (.slice B m d)/\Box2 W (w+1+1) (.bool false) (.slice none 0 0)/\Box2 W (w+1+1+1) (.bool false) (.slice none 0 0)/\w.heap.size<W.heap.size/\w.heap.size+1<W.heap.size/\w.heap.size+1+1<W.heap.size/\w.heap.size+1+1+1<W.heap.size) ⟨(az (az (az (az (brf _ _))))),bx2,bx2,bx2,bx2,by simp <;> omega,by simp <;> omega,by simp <;> omega,by simp <;> omega⟩ ?_;rintro W ⟨hbW,bA,bB,bQ,bR,s0,s1,s2,s3⟩;have hBW:=hbW.size;have ne02:¬ (w.heap.size=w.heap.size+1+1):=by omega
 have ne03:¬ (w.heap.size=w.heap.size+1+1+1):=by omega
 have ne13:¬ (w.heap.size+1=w.heap.size+1+1+1):=by omega
 have ha':=ha.old.below hbW;have hb':=hb.old.below hbW
 go_region_held3 (Sees w [] W) (exact kp)
  (first
   | (go_at_call 155; ((with_reducible refine (zAk (ha'.keptOld (Sees.kept (by assumption)))).mono ?_); rintro e w1 ⟨rfl,rfl⟩))
   | (go_at_call 155; ((with_reducible refine (zAk (hb'.keptOld (Sees.kept (by assumption)))).mono ?_); rintro e w1 ⟨rfl,rfl⟩)))
 rename_i hS;have hb1:=hS.kept.whole;clear hS ha' hb';have F:Gen (fun W=>Below w w W/\Box2 W w (.bool na) (.slice A n c)/\Box2 W (w+1) (.bool nb) (.slice B m d)/\Box2 W (w+1+1) (.bool false) (.slice none 0 0)/\Box2 W (w+1+1+1) (.bool false) (.slice none 0 0)/\w.heap.size<W.heap.size/\w.heap.size+1<W.heap.size/\w.heap.size+1+1<W.heap.size/\w.heap.size+1+1+1<W.heap.size) _:=⟨hbW.trans (hb1.mono hBW),bA.below hb1 s0,bB.below hb1 s1,bQ.below hb1 s2,bR.below hb1 s3,ltl s0 hb1.size,ltl s1 hb1.size,ltl s2 hb1.size,ltl s3 hb1.size⟩;with_reducible first | refine zDq F ?_ | refine zDr F ?_ | refine zDp F ?_
 clear F hbW hBW bA bB bQ bR s0 s1 s2 s3 hb1;rintro W ⟨hbW,bA,bB,bQ,bR,s0,s1,s2,s3⟩;have hBW:=hbW.size;have hat:=(ha.below hbW).trim;have hbt:=(hb.below hbW).trim;go_wp2_with fail
 refine (zCJ hat hbt (Num.Can.trim _) (Num.Can.trim _) Hbp.out (by have:=Hn.out; omega)).mono ?_;rintro e w2 ⟨⟨A1,n1,c1,A2,n2,c2,lq,lr,rfl,k1,k2,l1,l2,hvq,hvr⟩,hb2⟩;rw [Num.nat_trim,Num.nat_trim] at hvq hvr;have L1:=hdq l1;have L2:=hdq l2;have HVQ:=hdq hvq;have HVR:=hdq hvr;clear l1 l2 hvq hvr;obtain ⟨hc,hf⟩:=bcell hb2;go_wp2_with fail
 refine (zAk k2).mono ?_; rintro e w3 ⟨rfl,rfl⟩
 replace k2:=k2.trim;have hbk:=hb2;have HT:Hid (Num.nat (Num.trim lr)=Num.nat a % Num.nat b):=by show _=_; rw [Num.nat_trim]; exact HVR.out
 cases na
 focus
  have HV:Hid (zval (false != nb) (Num.nat lq)=zval false (Num.nat a) / zval nb (Num.nat b)/\((Num.nat (Num.trim lr):Nat):Int)=zval false (Num.nat a) % zval nb (Num.nat b)):=by
   show _/\_; rw [HVQ.out,HT.out]; exact zJQ nb _ _
  go_wp2_with fail
 rotate_left
 focus
  by_cases h0:Num.nat a % Num.nat b=0
  focus
   have HV:Hid (zval (true != nb) (Num.nat lq)=zval true (Num.nat a) / zval nb (Num.nat b)/\((Num.nat (Num.trim lr):Nat):Int)=zval true (Num.nat a) % zval nb (Num.nat b)):=by
    show _/\_; rw [HVQ.out,HT.out]; exact zI9 nb _ _ h0
   have hl0:¬ (0<(Num.trim lr).length):=by
    have:=(Num.trim_eq_nil lr).2 (by rw [HVR.out]; exact h0);rw [this]; simp
   clear h0;go_wp2_with fail
  rotate_left
  focus
   have HV:Hid (zval (true != nb) (Num.nat lq+1)=zval true (Num.nat a) / zval nb (Num.nat b)/\((Num.nat b-Num.nat (Num.trim lr):Nat):Int)=zval true (Num.nat a) % zval nb (Num.nat b)):=by
    show _/\_; rw [HVQ.out,HT.out]; exact zJa nb _ _ HB0.out (by omega)
   have hl0:0<(Num.trim lr).length:=by
    have:Num.trim lr ≠ []:=(fun e=>h0 (by rw [<-HVR.out]; exact (Num.trim_eq_nil lr).1 e));exact List.length_pos_iff.2 this
   have Hlt:Hid (Num.nat (Num.trim lr)<=Num.nat (Num.trim b)):=by
    show _<=_;rw [HT.out,Num.nat_trim]; exact Nat.le_of_lt (Nat.mod_lt _ HB0.out)
   clear h0;(go_wp2_with fail);have hbl1:Below w2 w2 (w2.alloc (.cells #[.int .u32 1] 105)):=bal
   have hone:WordsAt (w2.alloc (.cells #[.int .u32 1] 105)) (New w2) (some ⟨w2,0,none⟩) 1 1 [1]:=
    WordsAt.block (l:=[1]) (nlr _) (Num.Ok.cons (by decide) Num.Ok.nil) (by simp) (zAd _ _ rfl)
   refine (zCI (k1.below hbl1) hone (by have:=L1.out; have:=Hn.out; omega) (by omega)).mono ?_; rintro e w4 ⟨⟨A5,c5,r5,rfl,k5,hv5⟩,hb5⟩
   have HV5:=hdq hv5;clear hv5;have hba:Below w2 w2 w4:=hbl1.trans (hb5.mono hbl1.size);clear hc hf;have hbk:Below W W w4:=hb2.trans (hba.mono hb2.size);obtain ⟨hc,hf⟩:=bcell hbk;(go_wp2_with fail);have Hlen:Hid ((Num.trim lr).length<=(Num.trim b).length):=zBe hbt.ok (Num.Can.trim _) Hlt.out;refine (zBQ (hbt.below hbk) (k2.below hba) (by have:=Hm.out; omega) Hlen.out Hlt.out).mono ?_; rintro e w6 ⟨⟨A6,c6,r6,rfl,k6,hv6⟩,hb6⟩
   rw [Num.nat_trim b] at hv6;have HV6:=hdq hv6;clear hv6 k1 k2;have k1:=(k5.below hb6).imp (Y:=New W) (fun x _ hx=>by have:=hb2.size; have:=hbl1.size; simp only [New] at hx ⊢; omega);have k2:=k6.imp (Y:=New W) (fun x _ hx=>by have:=hbk.size; simp only [New] at hx ⊢; omega);replace hbk:=hbk.trans (hb6.mono hbk.size);clear hc hf;obtain ⟨hc,hf⟩:=bcell hbk
   have HV:Hid (zval (true != nb) (Num.nat r5)=zval true (Num.nat a) / zval nb (Num.nat b)/\((Num.nat r6:Nat):Int)=zval true (Num.nat a) % zval nb (Num.nat b)):=by
    show _/\_; rw [HV5.out,HV6.out]; exact HV.out
   go_wp2_with fail
 all_goals
  refine (build_calls _ k1).mono ?_; rintro e w4 ⟨⟨ng1,A3,n3,c3,rfl,hz1⟩,hb4⟩
  have hbq:Below W W w4:=hbk.trans (hb4.mono hbk.size);clear hc hf;obtain ⟨hc,hf⟩:=bcell hbq;go_wp2_with fail
  refine (build_calls false (k2.below hb4)).mono ?_; rintro e w5 ⟨⟨ng2,A4,n4,c4,rfl,hz2⟩,hb5⟩
  have hbr:Below W W w5:=hbq.trans (hb5.mono hbq.size);clear hc hf;obtain ⟨hc,hf⟩:=bcell hbr;have bQ5:=bQ.below hbr s2;have bR5:=bR.below hbr s3;go_wp2;obtain ⟨v0,v1⟩:=bQ5.stored (.bool ng1) (.slice A3 n3 c3);obtain ⟨v2,v3⟩:=((bR5.far2 (b':=w+1+1) (o:=0) (by omega) (.bool ng1)).far2 (b':=w+1+1) (o:=1) (by omega) (.slice A3 n3 c3)).stored (.bool ng2) (.slice A4 n4 c4);have v0':=(World.cell?_setCell_far ((((w5.setCell ⟨w+1+1,0,none⟩ (.bool ng1)).setCell ⟨w.heap.size+1+1,1,none⟩ (.slice A3 n3 c3)).setCell ⟨w+1+1+1,0,none⟩ (.bool ng2))) ⟨w.heap.size+1+1+1,1,none⟩ ⟨w+1+1,0,none⟩ (.slice A4 n4 c4) (by simp)).trans ((World.cell?_setCell_far _ _ _ _ (by simp)).trans v0);have v1':=(World.cell?_setCell_far ((((w5.setCell ⟨w+1+1,0,none⟩ (.bool ng1)).setCell ⟨w.heap.size+1+1,1,none⟩ (.slice A3 n3 c3)).setCell ⟨w+1+1+1,0,none⟩ (.bool ng2))) ⟨w.heap.size+1+1+1,1,none⟩ ⟨w.heap.size+1+1,1,none⟩ (.slice A4 n4 c4) (by simp)).trans ((World.cell?_setCell_far _ _ _ _ (by simp)).trans v1);have hsz:=hbq.size;refine bodyPost_ret (v:=.tuple #[.agg #[.bool ng1,.slice A3 n3 c3],.agg #[.bool ng2,.slice A4 n4 c4],.int .i64 0]) (by simp [results,Tryz.results154,go_sem,v0',v1',v2,v3]) rfl ⟨⟨ng1,A3,n3,c3,ng2,A4,n4,c4,rfl,?_,?_⟩,(((((hbW.trans (hbr.mono hBW)).setCell (by simp; omega) _).setCell (by simp; omega) _).setCell (by simp; omega) _).setCell (by simp; omega) _)⟩
  ·rw [<-HV.out.1];simpa using (((((hz1.below hb5).set (by simp; omega) _).set (by simp; omega) _).set (by simp; omega) _).set (by simp; omega) _).lower (B':=w) (by omega)
  ·rw [<-HV.out.2,<-zB3];exact ((((hz2.set (by simp; omega) _).set (by simp; omega) _).set (by simp; omega) _).set (by simp; omega) _).lower (B':=w) (by omega)
def GcdLoop (W:World) (G L:Nat) (k:Nat) (x y:Value) (wr:World):Prop:=
 ∃ Ax nx cx Ay ny cy lx ly,x = .slice Ax nx cx/\y = .slice Ay ny cy/\WordsAt wr (fun _=>True) Ax nx cx lx/\WordsAt wr (fun _=>True) Ay ny cy ly/\Num.Can lx/\Num.Can ly/\
  Nat.gcd (Num.nat lx) (Num.nat ly)=G/\nx<=L/\ny<=L/\k=Num.nat ly/\Below W W wr
def GcdLoop2 (W:World) (G:Nat) (k:Nat) (x y:Value) (wr:World):Prop:=
 ∃ m n:Nat,x = .int .u64 m/\y = .int .u64 n/\m<18446744073709551616/\n<18446744073709551616/\Nat.gcd m n=G/\k=n/\Below W W wr
theorem WordsAt.any (h:WordsAt w X A n c l):WordsAt w (fun _=>True) A n c l:=h.imp fun _ _ _=>trivial
theorem zFI {B:Option Addr} {b:List Nat} (na nb:Bool) (ha:WordsAt w X A n c a) (hb:WordsAt w Y B m d b) (hn:n<35184372080000) (hm:m<35184372080000) :
  Calls Tryz.prog 153 #[.agg #[.bool na,.slice A n c],.agg #[.bool nb,.slice B m d]] w fun e w'=>(∃ ng' A' n' c',e = .returned (.agg #[.bool ng',.slice A' n' c'])/\ZAt w' (New w) ng' A' n' c' (Nat.gcd (Num.nat a) (Num.nat b):Nat))/\Below w w w':=by
 obtain ⟨L,hL1,hL2,hL3⟩:∃ L,n<=L/\m<=L/\L<35184372080000:=⟨max n m,by omega,by omega,by omega⟩;have Hn:=hdq (nlt (nlt (Num.trim_length_le a) (by rw [ha.len]; exact nlr _)) hL1);have Hm:=hdq (nlt (nlt (Num.trim_length_le b) (by rw [hb.len]; exact nlr _)) hL2);have HL:=hdq hL3;clear hn hm hL1 hL2 hL3;go_enter Tryz.func153,Tryz.ntmps153
 go_wp2;refine zAo (fun W=>Below w w W/\Box2 W w (.bool na) (.slice A n c)/\Box2 W (w+1) (.bool nb) (.slice B m d)/\Box2 W (w+1+1) (.bool false) (.slice none 0 0)/\w.heap.size<W.heap.size/\w.heap.size+1<W.heap.size/\w.heap.size+1+1<W.heap.size) ⟨(az (az (az (brf _ _)))),bx2,bx2,bx2,by simp <;> omega,by simp <;> omega,by simp <;> omega⟩ ?_;rintro W ⟨hbW,bA,bB,bR,s0,s1,s2⟩;have hBW:=hbW.size;have ne02:¬ (w.heap.size=w.heap.size+1+1):=by omega
 have ha':=ha.old.below hbW;have hb':=hb.old.below hbW
 go_region_held3 (Sees w [] W) (exact kp)
  (first
   | (go_at_call 155; ((with_reducible refine (zAk (ha'.keptOld (Sees.kept (by assumption)))).mono ?_); rintro e w1 ⟨rfl,rfl⟩))
   | (go_at_call 155; ((with_reducible refine (zAk (hb'.keptOld (Sees.kept (by assumption)))).mono ?_); rintro e w1 ⟨rfl,rfl⟩)))
 rename_i hS;have hb1:=hS.kept.whole;clear hS ha' hb' ne02;have F:Gen (fun W=>Below w w W/\Box2 W w (.bool na) (.slice A n c)/\Box2 W (w+1) (.bool nb) (.slice B m d)/\Box2 W (w+1+1) (.bool false) (.slice none 0 0)/\w.heap.size<W.heap.size/\w.heap.size+1<W.heap.size/\w.heap.size+1+1<W.heap.size) _:=⟨hbW.trans (hb1.mono hBW),bA.below hb1 s0,bB.below hb1 s1,bR.below hb1 s2,ltl s0 hb1.size,ltl s1 hb1.size,ltl s2 hb1.size⟩;with_reducible first | refine zDq F ?_ | refine zDr F ?_ | refine zDp F ?_
 clear F hbW hBW bA bB bR s0 s1 s2 hb1;rintro W ⟨hbW,bA,bB,bR,s0,s1,s2⟩;have hBW:=hbW.size;have hat:=(ha.below hbW).trim;have hbt:=(hb.below hbW).trim
 have H0:GcdLoop W (Nat.gcd (Num.nat a) (Num.nat b)) L (Num.nat b) (.slice A (Num.trim a).length c) (.slice B (Num.trim b).length d) W:=
  ⟨_,_,_,_,_,_,_,_,rfl,rfl,hat.any,hbt.any,Num.Can.trim _,Num.Can.trim _,by rw [Num.nat_trim,Num.nat_trim],Hn.out,Hm.out,(Num.nat_trim _).symm,brf _ _⟩
 clear hat hbt ha hb Hn Hm;obtain ⟨G,HG0⟩:∃ G,Hid (G=Nat.gcd (Num.nat a) (Num.nat b)):=⟨_,rfl⟩;rw [<-HG0.out] at H0;go_wp2;go_loopg [5,6] (Num.nat b) (fun k x y wr=>GcdLoop W G L k x y wr)
 case atStart=>exact H0
 case round=>
  clear H0;obtain ⟨Ax,nx,cx,Ay,ny,cy,lx,ly,rfl,rfl,hx,hy,ux,uy,hG,l1,l2,hk,hbr⟩:=hrel;have hcx:=hx.cap;have hcy:=hy.cap;have hlx:=hx.le;have hly:=hy.le;have HG:=hdq hG;have HK:=hdq hk;clear hG hk;have L1:=hdq l1;have L2:=hdq l2;clear l1 l2;have nx63:nx<=9223372036854775807:=by omega
  have ny63:ny<=9223372036854775807:=by omega
  clear hcx hcy hlx hly;by_cases h0:0<ny
  ·by_cases h2:2<nx\/(¬ 2<nx/\2<ny)
   ·rcases h2 with h2 | ⟨h2,h3⟩
    all_goals
     (go_wp2_with fail);refine (zCJ hx hy ux uy h0 (by have:=L1.out; have:=HL.out; omega)).mono ?_;rintro e w2 ⟨⟨A1,n1,c1,A2,n2,c2,lq,lr,rfl,k1,k2,m1,m2,hvq,hvr⟩,hb2⟩;have HVR:=hdq hvr;clear hvq hvr m1 m2 k1;(go_wp2_with fail);refine (zAk k2).mono ?_; rintro e w3 ⟨rfl,rfl⟩
     go_wp2;go_roundg (Num.nat lr)
     case measure=>
      rw [HVR.out,HK.out];refine Nat.mod_lt _ ?_;rcases Nat.eq_zero_or_pos (Num.nat ly) with h | h
      ·have:=(Num.nat_eq_zero_of_can uy).1 h;have:=hy.len; simp_all
      ·exact h
     case rel=>
      have hy':=hy.below hb2
      have hlen:(Num.trim lr).length<=ny:=by
       rw [<-hy.len];refine zBe hy.ok (Num.Can.trim _) ?_;rw [Num.nat_trim,HVR.out];refine Nat.le_of_lt (Nat.mod_lt _ ?_);rcases Nat.eq_zero_or_pos (Num.nat ly) with h | h
       ·have:=(Num.nat_eq_zero_of_can uy).1 h;have:=hy.len; simp_all
       ·exact h
      refine ⟨_,_,_,_,_,_,_,_,rfl,rfl,hy',k2.trim.any,uy,Num.Can.trim _,?_,L2.out,by have:=L2.out; omega,(Num.nat_trim _).symm,hbr.trans (hb2.mono hbr.size)⟩;rw [Num.nat_trim,HVR.out,<-HG.out,Nat.gcd_comm (Num.nat lx),Nat.gcd_rec (Num.nat ly) (Num.nat lx),Nat.gcd_comm]
   ·have h3:¬ 2<nx:=(by omega);have h4:¬ 2<ny:=(by omega);have h5:(ny == 0)=false:=by simp; omega
    clear h2;obtain ⟨hc,hf⟩:=bcell hbr;(go_wp2_with fail);refine (zBl hx (by omega)).mono ?_; rintro e w2 ⟨rfl,hb2⟩
    (go_wp2_with fail);refine (zBl (hy.below hb2) (by omega)).mono ?_; rintro e w3 ⟨rfl,hb3⟩
    have vx:=zBx hx.ok (by rw [hx.len]; omega);have vy:=zBx hy.ok (by rw [hy.len]; omega);have hb23:=hb2.trans (hb3.mono hb2.size);have hbw:=hbr.trans (hb23.mono hbr.size);have H1:GcdLoop2 W G (Num.nat ly) (.int .u64 (Num.nat lx)) (.int .u64 (Num.nat ly)) w3:=⟨_,_,rfl,rfl,vx,vy,HG.out,rfl,hbw⟩;clear hx hy ux uy hbr hc hf hb2 hb3 hb23 hbw vx vy HG HK L1 L2;generalize Num.nat lx=vx at *;generalize Num.nat ly=vy at *;go_wp2;(go_loopg [9,10] vy (fun k x y wr=>GcdLoop2 W G k x y wr));case atStart=>exact H1
    case round=>
     clear H1;obtain ⟨x,y,rfl,rfl,hx,hy,hG,hk,hbr⟩:=hrel;have HG:=hdq hG;have HK:=hdq hk;clear hG hk;by_cases hy0:0<y
     ·have y1:((y:Int) == 0)=false:=by simp; omega
      have y2:¬ (y=0):=(by omega);have y3:(y == 0)=false:=by simp; omega
      obtain ⟨r,hr⟩:∃ r,r=x % y:=⟨_,rfl⟩;have hr1:r<y:=by rw [hr]; exact Nat.mod_lt _ hy0
      have hrem:(x:Int).tmod (y:Int)=(r:Int):=(by rw [zDj,hr]);have hrem':(x:Int) % (y:Int)=(r:Int):=by rw [hr]; rfl
      have HR:=hdq hr;clear hr;go_wp2;(go_quiet (fail));go_wp2;(go_roundg r);case measure=>rw [HK.out]; exact hr1
      case rel=>exact ⟨y,r,rfl,rfl,hy,by omega,by rw [HR.out,<-HG.out,Nat.gcd_comm x,Nat.gcd_rec y x,Nat.gcd_comm],rfl,zAB hbr _⟩
     ·(obtain rfl:y=0:=by omega);obtain ⟨hc,hf⟩:=bcell hbr;(go_wp2_with fail);refine (small_calls' false _ x rfl hx _).mono ?_; rintro e w5 ⟨⟨ng',A',n',c',rfl,hz⟩,hb5'⟩
      have hb5:=hbr.trans (hb5'.mono hbr.size);have hsz:=hbr.size;clear hc hf;obtain ⟨hc,hf⟩:=bcell hb5;obtain ⟨v0,v1⟩:=(bR.below hb5 s2).stored (.bool ng') (.slice A' n' c');go_wp2;refine bodyPost_ret (v:=.agg #[.bool ng',.slice A' n' c']) (by simp [results,Tryz.results153,go_sem,v0,v1]) rfl ⟨⟨_,_,_,_,rfl,?_⟩,((hbW.trans (hb5.mono hBW)).setCell (by simp; omega) _).setCell (by simp; omega) _⟩;have hz':=((hz.set (p:=⟨w+1+1,0,none⟩) (by simp; omega) (.bool ng')).set (p:=⟨w.heap.size+1+1,1,none⟩) (by simp; omega) (.slice A' n' c')).lower (B':=w) (by omega);have hg:=HG.out;rw [Nat.gcd_zero_right] at hg;rw [hg,HG0.out,zB3] at hz';exact hz'
  ·(obtain rfl:ny=0:=by omega);obtain ⟨hc,hf⟩:=bcell hbr;(go_wp2_with fail);refine (zCN hx (by have:=L1.out; have:=HL.out; omega)).mono ?_; rintro e w2 ⟨⟨A1,c1,rfl,hw2⟩,hb2⟩
   have hb12:=hbr.trans (hb2.mono hbr.size);clear hc hf;obtain ⟨hc,hf⟩:=bcell hb12;(go_wp2_with fail);refine (build_calls false hw2).mono ?_; rintro e w3 ⟨⟨ng',A',n',c',rfl,hz⟩,hb3⟩
   have hb5:=hb12.trans (hb3.mono hb12.size);have hsz:=hbr.size;clear hc hf;obtain ⟨hc,hf⟩:=bcell hb5;obtain ⟨v0,v1⟩:=(bR.below hb5 s2).stored (.bool ng') (.slice A' n' c');go_wp2;refine bodyPost_ret (v:=.agg #[.bool ng',.slice A' n' c']) (by simp [results,Tryz.results153,go_sem,v0,v1]) rfl ⟨⟨_,_,_,_,rfl,?_⟩,((hbW.trans (hb5.mono hBW)).setCell (by simp; omega) _).setCell (by simp; omega) _⟩;have hz':=((hz.set (p:=⟨w+1+1,0,none⟩) (by simp; omega) (.bool ng')).set (p:=⟨w.heap.size+1+1,1,none⟩) (by simp; omega) (.slice A' n' c')).lower (B':=w) (by omega);have hg:=HG.out;have hl0:ly=[]:=List.eq_nil_of_length_eq_zero hy.len;rw [hl0,show Num.nat []=0 from rfl,Nat.gcd_zero_right] at hg;rw [hg,HG0.out,zB3] at hz';exact hz'
structure ZV where
 ng:Bool
 A:Option Addr
 n:Nat
 c:Nat
structure QV where
 num:ZV
 den:ZV
abbrev ZV.val (z:ZV):Value:=.agg #[.bool z.ng,.slice z.A z.n z.c]
abbrev QV.val (q:QV):Value:=.agg #[.bool q.num.ng,.slice q.num.A q.num.n q.num.c,.bool q.den.ng,.slice q.den.A q.den.n q.den.c]
def LM:Nat:=8000000000000
theorem zAZ:LM=8000000000000:=rfl
def ZIs (w:World) (X:Nat->Prop) (L:Nat) (z:ZV) (x:Int):Prop:=∃ l,WordsAt w X z.A z.n z.c l/\z.n<=L/\x=zval z.ng (Num.nat l)
def qv (x y:Int):Rat:=if y=0 then (x:Rat) else (x:Rat) / (y:Rat)
def QIs (w:World) (X:Nat->Prop) (L:Nat) (v:QV) (q:Rat):Prop:=∃ x y,ZIs w X L v.num x/\ZIs w X L v.den y/\q=qv x y
def cden (q:Rat):Int:=if q.den=1 then 0 else q.den
def QCan (w:World) (X:Nat->Prop) (v:QV) (q:Rat):Prop:=ZAt w X v.num.ng v.num.A v.num.n v.num.c q.num/\ZAt w X v.den.ng v.den.A v.den.n v.den.c (cden q)
section
variable {w w':World} {X Y:Nat->Prop} {L:Nat} {z:ZV} {x:Int} {v:QV} {q:Rat}
theorem ZIs.below (h:ZIs w X L z x) (hb:Below w w w'):ZIs w' X L z x:=by
 obtain ⟨l,h1,h2,h3⟩:=h; exact ⟨l,h1.below hb,h2,h3⟩
theorem ZIs.imp (h:ZIs w X L z x) (hx:∀ b,b<w.heap.size->X b->Y b):ZIs w Y L z x:=by
 obtain ⟨l,h1,h2,h3⟩:=h; exact ⟨l,h1.imp hx,h2,h3⟩
theorem ZIs.old (h:ZIs w X L z x):ZIs w (Old w) L z x:=h.imp fun _ hb _=>hb
theorem ZIs.any (h:ZIs w X L z x):ZIs w (fun _=>True) L z x:=h.imp fun _ _ _=>trivial
theorem ZIs.mono (h:ZIs w X L z x) (hL:L<=K):ZIs w X K z x:=by
 obtain ⟨l,h1,h2,h3⟩:=h; exact ⟨l,h1,nlt h2 hL,h3⟩
theorem ZIs.keptOld (h:ZIs w (Old B) L z x) (k:Kept B gs w w'):ZIs w' (Old B) L z x:=by
 obtain ⟨l,h1,h2,h3⟩:=h; exact ⟨l,h1.keptOld k,h2,h3⟩
theorem QIs.below (h:QIs w X L v q) (hb:Below w w w'):QIs w' X L v q:=by
 obtain ⟨x,y,h1,h2,h3⟩:=h; exact ⟨x,y,h1.below hb,h2.below hb,h3⟩
theorem QIs.imp (h:QIs w X L v q) (hx:∀ b,b<w.heap.size->X b->Y b):QIs w Y L v q:=by
 obtain ⟨x,y,h1,h2,h3⟩:=h; exact ⟨x,y,h1.imp hx,h2.imp hx,h3⟩
theorem QIs.old (h:QIs w X L v q):QIs w (Old w) L v q:=h.imp fun _ hb _=>hb
theorem QIs.any (h:QIs w X L v q):QIs w (fun _=>True) L v q:=h.imp fun _ _ _=>trivial
theorem QIs.mono (h:QIs w X L v q) (hL:L<=K):QIs w X K v q:=by
 obtain ⟨x,y,h1,h2,h3⟩:=h; exact ⟨x,y,h1.mono hL,h2.mono hL,h3⟩
theorem QIs.keptOld (h:QIs w (Old B) L v q) (k:Kept B gs w w'):QIs w' (Old B) L v q:=by
 obtain ⟨x,y,h1,h2,h3⟩:=h; exact ⟨x,y,h1.keptOld k,h2.keptOld k,h3⟩
theorem QCan.keep (h:QCan w X v q) (hk:∀ p:Addr,X p.block->p.block<w->w'.cell? p=w.cell? p):QCan w' X v q:=⟨h.1.keep hk,h.2.keep hk⟩
theorem QCan.below (h:QCan w X v q) (hb:Below w w w'):QCan w' X v q:=⟨h.1.below hb,h.2.below hb⟩
theorem QCan.imp (h:QCan w X v q) (hx:∀ b,b<w.heap.size->X b->Y b):QCan w Y v q:=⟨h.1.imp hx,h.2.imp hx⟩
theorem QCan.set (h:QCan w (New B) v q) {p:Addr} (hp:p.block<B) (u:Value):QCan (w.setCell p u) (New B) v q:=⟨h.1.set hp u,h.2.set hp u⟩
theorem QCan.lower {B':Nat} (h:QCan w (New B) v q) (hB:B'<=B):QCan w (New B') v q:=⟨h.1.lower hB,h.2.lower hB⟩
theorem ZAt.zis {x:Int} (h:ZAt w X ng A n c x) (hL:x.natAbs<Num.base ^ L):ZIs w X L ⟨ng,A,n,c⟩ x:=
 ⟨_,h.words,by show n<=L; rw [<-h.words.len]; exact Num.words_length_le hL,h.val.symm⟩
theorem ZIs.lt (h:ZIs w X L z x):x.natAbs<Num.base ^ L:=by
 obtain ⟨l,h1,h2,h3⟩:=h;have h4:=Num.nat_lt h1.ok;have h5:Num.base ^ l.length<=Num.base ^ L:=Nat.pow_le_pow_right Num.base_pos (by rw [h1.len]; exact h2);have:x.natAbs=Num.nat l:=by rw [h3]; unfold zval; split <;> omega
 omega
end
theorem zDI (q:Rat):(q.num:Rat) / ((q.den:Nat):Rat)=q:=by
 have:=Rat.mkRat_eq_div q.num q.den;rw [Rat.mkRat_self] at this; exact this.symm
theorem zKl (q:Rat):qv q.num (cden q)=q:=by
 unfold qv cden;by_cases h:q.den=1
 ·rw [if_pos h,if_pos rfl];have:=zDI q;rw [h] at this
  have e:(q.num:Rat) / ((1:Nat):Rat)=(q.num:Rat):=by
   show (q.num:Rat) / (1:Rat)=_; grind
  rw [e] at this; exact this
 ·rw [if_neg h,if_neg (by have:=q.den_nz; omega)];have:=zDI q;exact_mod_cast this
def QFit (L:Nat) (q:Rat):Prop:=q.num.natAbs<Num.base ^ L/\q.den<Num.base ^ L
theorem zJP (q:Rat):(cden q).natAbs<=q.den:=by unfold cden; split <;> simp <;> omega
theorem QCan.qis {v:QV} (h:QCan w X v q) (hL:QFit L q):QIs w X L v q:=
 ⟨q.num,cden q,h.1.zis hL.1,h.2.zis (Nat.lt_of_le_of_lt (zJP q) hL.2),(zKl q).symm⟩
def qsign (q:Rat):Int:=if q<0 then -1 else if q=0 then 0 else 1
theorem zGp (hy:0<y):((x:Rat) / (y:Rat)<0 ↔ x<0)/\((x:Rat) / (y:Rat)=0 ↔ x=0):=by
 have hy':(0:Rat)<(y:Rat):=by exact_mod_cast hy
 have hi:=Rat.inv_pos.2 hy';rw [Rat.div_def];have e:(x:Rat)=(x:Rat)*(y:Rat)⁻¹*(y:Rat):=by grind
 constructor
 ·constructor
  ·intro h;rcases Int.lt_or_le x 0 with h1 | h1
   ·exact h1
   ·have:(0:Rat)<=(x:Rat):=(by exact_mod_cast h1);have:=Rat.mul_nonneg this (Rat.le_of_lt hi); grind
  ·intro h
   have:(0:Rat) < -(x:Rat):=by
    have:(x:Rat)<0:=(by exact_mod_cast h);grind
   have:=Rat.mul_pos this hi; grind
 ·constructor
  ·intro h; rw [h] at e
   have:(x:Rat)=0:=(by grind);exact_mod_cast this
  ·intro h; rw [h]; grind
theorem zEw (hy:0<y):qsign ((x:Rat) / (y:Rat))=if x<0 then -1 else if x=0 then 0 else 1:=by
 obtain ⟨h1,h2⟩:=zGp (x:=x) hy;unfold qsign;simp only [h1,h2]
theorem zCx (ng:Bool) (m:Nat):zsign ng m=if zval ng m<0 then -1 else if zval ng m=0 then 0 else 1:=by
 unfold zsign zval;cases ng <;> simp <;> (try split) <;> (try omega) <;> (try split) <;> omega
theorem zJt (x y:Int):qsign (qv x y)=if y<0 then-(if x<0 then -1 else if x=0 then 0 else 1) else if x<0 then -1 else if x=0 then 0 else 1:=by
 unfold qv;by_cases h0:y=0
 ·rw [if_pos h0,if_neg (by omega)];have:=zEw (x:=x) (y:=1) (by omega);rw [<-this]; congr 1; simp [Rat.div_def]; grind
 ·rw [if_neg h0];by_cases h1:y<0
  ·rw [if_pos h1];have e:(x:Rat) / (y:Rat)=((-x:Int):Rat) / ((-y:Int):Rat):=by push_cast; grind
   rw [e,zEw (by omega)]
   split <;> split <;> (try split) <;> omega
  ·rw [if_neg h1,zEw (by omega)]
theorem zAn {v:QV} (h:QIs w X L v q) :
  Calls Tryz.prog 61 #[v.val] w fun e w'=>e = .returned (.int .i64 (qsign q))/\Below w w w':=by
 obtain ⟨x,y,⟨lx,hx,-,ex⟩,⟨ly,hy,-,ey⟩,rfl⟩:=h;have hb0:∀ o,Below w w (w.alloc o):=fun o=>bal
 have hq:=zJt x y;rw [ex,ey,<-zCx] at hq;have hd:=zCx v.den.ng (Num.nat ly);have HX:=hdq ex;have HY:=hdq ey;clear ex ey;by_cases hneg:zval v.den.ng (Num.nat ly)<0
 ·rw [if_pos hneg] at hq hd;have Hd:=hdq hd;have Hq:=hdq hq;have hs1:-1<=zsign v.num.ng (Num.nat lx)/\zsign v.num.ng (Num.nat lx)<=1:=by unfold zsign; split <;> (try split) <;> omega
  obtain ⟨hs1,hs2⟩:=hs1;clear hd hq hneg;go_enter Tryz.func61,Tryz.ntmps61
  go_wp2_with fail
  refine (zAF v.den.ng (hy.below (hb0 _))).mono ?_; rintro e w1 ⟨rfl,hb1⟩
  rw [Hd.out];obtain ⟨hc1,hf1⟩:=bcell hb1;go_wp2_with fail
  refine (zAF v.num.ng ((hx.below (hb0 _)).below hb1)).mono ?_; rintro e w2 ⟨rfl,hb2⟩
  go_wp2;go_ret;exact ⟨zAz (by rw [HX.out,HY.out,Hq.out]),(hb0 _).trans ((hb1.trans (hb2.mono hb1.size)).mono (by simp))⟩
 ·have hn:¬ (zsign v.den.ng (Num.nat ly)<0):=by rw [hd,if_neg hneg]; split <;> omega
  rw [if_neg hneg] at hq;have Hq:=hdq hq;clear hd hq hneg;go_enter Tryz.func61,Tryz.ntmps61
  go_wp2_with fail
  refine (zAF v.den.ng (hy.below (hb0 _))).mono ?_; rintro e w1 ⟨rfl,hb1⟩
  obtain ⟨hc1,hf1⟩:=bcell hb1;go_wp2_with fail
  refine (zAF v.num.ng ((hx.below (hb0 _)).below hb1)).mono ?_; rintro e w2 ⟨rfl,hb2⟩
  go_wp2;go_ret;exact ⟨zAz (by rw [HX.out,HY.out,Hq.out]),(hb0 _).trans ((hb1.trans (hb2.mono hb1.size)).mono (by simp))⟩
def isign (n:Int):Int:=if n<0 then -1 else if 0<n then 1 else 0
theorem zE7 (n:Int) (w:World):Calls Tryz.prog 109 #[.int .i64 n] w fun e w'=>e = .returned (.int .i64 (isign n))/\w=w':=by
 rcases Int.lt_trichotomy n 0 with h | h | h
 ·have Hs:Hid (isign n=-1):=by show _=_; simp [isign,h]
  go_enter Tryz.func109,Tryz.ntmps109
  go_wp2;go_ret;exact ⟨zAz Hs.out.symm,rfl⟩
 ·subst h;go_enter Tryz.func109,Tryz.ntmps109
  go_wp2;go_ret;exact ⟨rfl,rfl⟩
 ·have Hs:Hid (isign n=1):=by show _=_; simp [isign,h]; omega
  have h1:¬ n<0:=by omega
  go_enter Tryz.func109,Tryz.ntmps109
  go_wp2;go_ret;exact ⟨zAz Hs.out.symm,rfl⟩
theorem Box4.below {v3:Value} (h:Box4 w b v0 v1 v2 v3) (hb:Below B w w') (hlt:b<B):Box4 w' b v0 v1 v2 v3:=
 ⟨by rw [hb.cell hlt]; exact h.1,by rw [hb.cell hlt]; exact h.2.1,by rw [hb.cell hlt]; exact h.2.2.1,by rw [hb.cell hlt]; exact h.2.2.2.1,fun o=>by rw [hb.frozen hlt]; exact h.2.2.2.2 o⟩
theorem Box4.stored {u0 u1 u2 u3:Value} (h:Box4 w b u0 u1 u2 u3) (x0 x1 x2 x3:Value) :
  Box4 ((((w.setCell b x0).setCell ⟨b,1,none⟩ x1).setCell ⟨b,2,none⟩ x2).setCell ⟨b,3,none⟩ x3) b x0 x1 x2 x3:=by
 have s:∀ (w:World) (o o':Nat) (x:Value),o ≠ o'->(w.setCell ⟨b,o,none⟩ x).cell? ⟨b,o',none⟩=w.cell? ⟨b,o',none⟩:=fun w o o' x h=>World.cell?_setCell_other _ _ _ _ (by simp)
 refine ⟨?_,?_,?_,?_,fun o=>by simp only [World.frozen?_setCell]; exact h.2.2.2.2 o⟩
 ·rw [s _ _ _ _ (by decide),s _ _ _ _ (by decide),s _ _ _ _ (by decide)];exact World.cell?_setCell_same' _ _ _ (by rw [h.1]; rfl)
 ·rw [s _ _ _ _ (by decide),s _ _ _ _ (by decide)];exact World.cell?_setCell_same' _ _ _ (by rw [s _ _ _ _ (by decide),h.2.1]; rfl)
 ·rw [s _ _ _ _ (by decide)];exact World.cell?_setCell_same' _ _ _ (by rw [s _ _ _ _ (by decide),s _ _ _ _ (by decide),h.2.2.1]; rfl)
 ·exact World.cell?_setCell_same' _ _ _ (by rw [s _ _ _ _ (by decide),s _ _ _ _ (by decide),s _ _ _ _ (by decide),h.2.2.2.1]; rfl)
theorem Box2.restored (h:Box2 w b v v') (x y:Value):Box2 ((w.setCell b x).setCell ⟨b,1,none⟩ y) b x y:=
 ⟨(h.stored x y).1,(h.stored x y).2,fun o=>by simp only [World.frozen?_setCell]; exact h.2.2 o⟩
theorem Kept.val22 {h:Nat} {a b c d:Value} (k:Kept B gs W ((((w2.setCell g a).setCell ⟨g,1,none⟩ b).setCell h c).setCell ⟨h,1,none⟩ d)) (hg:g ∈ gs) (hh:h ∈ gs) (hne:g ≠ h)
  (h0:(W.cell? g).isSome=true) (h1:(W.cell? ⟨g,1,none⟩).isSome=true) (h2:(W.cell? h).isSome=true) (h3:(W.cell? ⟨h,1,none⟩).isSome=true) :
  ((((w2.setCell g a).setCell ⟨g,1,none⟩ b).setCell h c).setCell ⟨h,1,none⟩ d).cell? g=some a/\
  ((((w2.setCell g a).setCell ⟨g,1,none⟩ b).setCell h c).setCell ⟨h,1,none⟩ d).cell? ⟨g,1,none⟩=some b/\
  ((((w2.setCell g a).setCell ⟨g,1,none⟩ b).setCell h c).setCell ⟨h,1,none⟩ d).cell? h=some c/\
  ((((w2.setCell g a).setCell ⟨g,1,none⟩ b).setCell h c).setCell ⟨h,1,none⟩ d).cell? ⟨h,1,none⟩=some d:=by
 have far:∀ (w:World) (o o':Nat) (x:Value),(w.setCell ⟨h,o,none⟩ x).cell? ⟨g,o',none⟩=w.cell? ⟨g,o',none⟩:=fun w o o' x=>World.cell?_setCell_far _ _ _ _ (by simpa using Ne.symm hne)
 obtain ⟨e2,e3⟩:=k.val2 hh h2 h3;refine ⟨?_,?_,e2,e3⟩
 ·have e:=(k.two hg h0).1;rw [far,far,World.cell?_setCell_other _ _ _ _ (by simp)] at e ⊢;rw [e,zAW e]
 ·have e:=(k.two hg h1).1;rw [far,far] at e ⊢;rw [e,zAW e]
theorem zIO (h:0<y):qv x y=(x:Rat) / (y:Rat):=by unfold qv; rw [if_neg (by omega)]
theorem zGE (x:Int):qv x 0=(x:Rat) / ((1:Int):Rat):=by
 unfold qv; rw [if_pos rfl]; show _=(x:Rat) / (1:Rat); grind
theorem zIN (h:y<0):qv x y=((-x:Int):Rat) / ((-y:Int):Rat):=by
 unfold qv; rw [if_neg (by omega)]; push_cast; grind
theorem ZIs.of (h:WordsAt w X A n c l) (hn:n<=L):ZIs w X L ⟨ng,A,n,c⟩ (zval ng (Num.nat l)):=⟨l,h,hn,rfl⟩
def Mix (X:Nat->Prop) (B:Nat):Nat->Prop:=fun b=>(X b/\b<B)\/B<=b
def Was (X:Nat->Prop) (B:Nat):Nat->Prop:=fun b=>X b/\b<B
section
variable {w w':World} {X:Nat->Prop} {L B:Nat} {z:ZV} {x:Int} {gs:List Nat} {A:Option Addr} {n c:Nat} {l:List Nat}
theorem WordsAt.was (h:WordsAt w X A n c l):WordsAt w (Was X w) A n c l:=h.imp fun _ hb hx=>⟨hx,hb⟩
theorem ZIs.was (h:ZIs w X L z x):ZIs w (Was X w) L z x:=h.imp fun _ hb hx=>⟨hx,hb⟩
theorem WordsAt.keptWas (h:WordsAt w (Was X B) A n c l) (k:Kept B gs w w'):WordsAt w' (Was X B) A n c l:=
 h.kept k fun g hg hx=>by have:=k.base g hg; have:=hx.2; omega
theorem ZIs.keptWas (h:ZIs w (Was X B) L z x) (k:Kept B gs w w'):ZIs w' (Was X B) L z x:=by
 obtain ⟨l,h1,h2,h3⟩:=h; exact ⟨l,h1.keptWas k,h2,h3⟩
theorem ZIs.mixWas (h:ZIs w (Was X B) L z x):ZIs w (Mix X B) L z x:=h.imp fun _ _ hx=>.inl hx
theorem ZIs.mixNew' {B':Nat} (h:ZIs w (New B') L z x) (hB:B<=B'):ZIs w (Mix X B) L z x:=h.imp fun _ _ hx=>.inr (nlt hB hx)
end
def PartsPost (X:Nat->Prop) (w:World) (q:Rat) (L:Nat) (e:Ending) (w':World):Prop:=
 ∃ (zn zd:ZV) (x y:Int),e = .returned (.tuple #[zn.val,zd.val])/\ZIs w' (Mix X w) (L+1) zn x/\ZIs w' (Mix X w) (L+1) zd y/\0<y/\q=(x:Rat) / (y:Rat)
theorem zAJ {v:QV} (h:QIs w X L v q) (hL:L<=LM) :
  Calls Tryz.prog 105 #[v.val] w fun e w'=>PartsPost X w q L e w'/\Below w w w':=by
 obtain ⟨x,y,hx,hy,hq⟩:=h;obtain ⟨ly,hly,hln,ey⟩:=hy;have Hq:=hdq hq;clear hq;have HL:=hdq hL;clear hL;have hd:=zCx v.den.ng (Num.nat ly);go_enter Tryz.func105,Tryz.ntmps105
 go_wp2_with fail
 refine zAg (fun W=>Below w w W/\Box4 W w (.bool v.num.ng) (.slice v.num.A v.num.n v.num.c) (.bool v.den.ng) (.slice v.den.A v.den.n v.den.c)/\Box2 W (w+1) (.bool false) (.slice none 0 0)/\Box2 W (w+1+1) (.bool false) (.slice none 0 0)/\w.heap.size<W.heap.size/\w.heap.size+1<W.heap.size/\w.heap.size+1+1<W.heap.size) ⟨(az (az (az (brf _ _)))),bx4,bx2,bx2,by simp <;> omega,by simp <;> omega,by simp <;> omega⟩ ?_;rintro W ⟨hbW,bV,bN,bD,s0,s1,s2⟩;have hBW:=hbW.size;have ne02:¬ (w.heap.size=w.heap.size+1+1):=by omega
 refine (zAF v.den.ng (hly.below hbW)).mono ?_; rintro e w1 ⟨rfl,hb1⟩
 rcases Int.lt_trichotomy (zval v.den.ng (Num.nat ly)) 0 with hc | hc | hc
 focus
  rw [if_pos hc] at hd;have Hd:=hdq hd;clear hd;have Hc:=hdq hc;have Hy:=hdq ey;clear hc ey;obtain ⟨lx,hlx,hlm,ex⟩:=hx;have Hx:=hdq ex;clear ex;have N1:=hdq (show v.num.n<=35184372088832 from by have:=HL.out; rw [zAZ] at this; omega);have N2:=hdq (show v.den.n<=35184372088832 from by have:=HL.out; rw [zAZ] at this; omega);have B1:=hdq (ZIs.of (ng:=v.num.ng) hlx hlm).lt;have B2:=hdq (ZIs.of (ng:=v.den.ng) hly hln).lt
 rotate_left
 focus
  rw [if_neg (by omega),if_pos hc] at hd;have Hd:=hdq hd;clear hd;have Hc:=hdq hc;have Hy:=hdq ey;clear hc ey
 rotate_left
 focus
  rw [if_neg (by omega),if_neg (by omega)] at hd;have Hd:=hdq hd;clear hd;have Hc:=hdq hc;have Hy:=hdq ey;clear hc ey
 rotate_left
 all_goals
  rw [Hd.out];obtain ⟨hc1,hf1⟩:=bcell hb1;go_wp2;clear hc1 hf1;have F:Gen (fun W=>Below w w W/\Box4 W w (.bool v.num.ng) (.slice v.num.A v.num.n v.num.c) (.bool v.den.ng) (.slice v.den.A v.den.n v.den.c)/\Box2 W (w+1) (.bool false) (.slice none 0 0)/\Box2 W (w+1+1) (.bool false) (.slice none 0 0)/\w.heap.size<W.heap.size/\w.heap.size+1<W.heap.size/\w.heap.size+1+1<W.heap.size) _:=⟨hbW.trans (hb1.mono hBW),bV.below hb1 s0,bN.below hb1 s1,bD.below hb1 s2,ltl s0 hb1.size,ltl s1 hb1.size,ltl s2 hb1.size⟩;with_reducible first | refine zDq F ?_ | refine zDr F ?_ | refine zDp F ?_
  clear F hbW hBW bV bN bD s0 s1 s2 hb1;rintro W ⟨hbW,bV,bN,bD,s0,s1,s2⟩;have hBW:=hbW.size
 ·have hx':=hlx.was.below hbW;have hy':=hly.was.below hbW
  go_region_held3 (Sees w [w.heap.size+1,w.heap.size+1+1] W) (exact kp)
   (first
    | (go_at_call 149; ((with_reducible refine (zB1 v.num.ng (hx'.keptWas (Sees.kept (by assumption))) N1.out).mono ?_); rintro e w3 ⟨⟨ng',A',n',c',rfl,hz⟩,hb3⟩; replace hz:=hz.lower (Sees.kept (by assumption):Kept w _ W _).size))
    | (go_at_call 149; ((with_reducible refine (zB1 v.den.ng (hy'.keptWas (Sees.kept (by assumption))) N2.out).mono ?_); rintro e w4 ⟨⟨ng2,A2,n2,c2,rfl,hz2⟩,hb4⟩; replace hz2:=hz2.lower (Sees.kept (by assumption):Kept w _ W _).size)))
  rename_i hS;obtain ⟨v0,v1,v2,v3⟩:=hS.kept.val22 (by simp) (by simp) (by omega) (by rw [bN.1]; rfl) (by rw [bN.2.1]; rfl) (by rw [bD.1]; rfl) (by rw [bD.2.1]; rfl);have hbf:=hbW.trans hS.kept.below;have hz':=hz.below hb4;have hzf:=((((hz'.set (p:=⟨w+1,0,none⟩) s1 (.bool ng')).set (p:=⟨w.heap.size+1,1,none⟩) s1 (.slice A' n' c')).set (p:=⟨w+1+1,0,none⟩) s2 (.bool ng2)).set (p:=⟨w.heap.size+1+1,1,none⟩) s2 (.slice A2 n2 c2)).zis (L:=L) (by rw [Int.natAbs_neg]; exact B1.out);have hzg:=((((hz2.set (p:=⟨w+1,0,none⟩) s1 (.bool ng')).set (p:=⟨w.heap.size+1,1,none⟩) s1 (.slice A' n' c')).set (p:=⟨w+1+1,0,none⟩) s2 (.bool ng2)).set (p:=⟨w.heap.size+1+1,1,none⟩) s2 (.slice A2 n2 c2)).zis (L:=L) (by rw [Int.natAbs_neg]; exact B2.out);clear hS hz hz2 hz';generalize (((w4.setCell ⟨w+1,0,none⟩ (.bool ng')).setCell ⟨w.heap.size+1,1,none⟩ (.slice A' n' c')).setCell ⟨w+1+1,0,none⟩ (.bool ng2)).setCell ⟨w.heap.size+1+1,1,none⟩ (.slice A2 n2 c2)=Wf at *;go_wp2;exact bodyPost_ret (v:=.tuple #[.agg #[.bool ng',.slice A' n' c'],.agg #[.bool ng2,.slice A2 n2 c2]]) (by simp [results,Tryz.results105,go_sem,v0,v1,v2,v3]) rfl ⟨⟨⟨ng',A',n',c'⟩,⟨ng2,A2,n2,c2⟩,_,_,rfl,(hzf.mixNew' hBW).mono (by omega),(hzg.mixNew' hBW).mono (by omega),by have:=Hc.out; omega,by rw [Hq.out,Hy.out,Hx.out,zIN Hc.out]⟩,hbf⟩
 ·have hx':=hx.was.below hbW
  go_region_held3 (Sees w [w.heap.size+1,w.heap.size+1+1] W) (exact kp)
   (first
    | (go_at_call 95; ((with_reducible refine (zAI 1 (by omega) (by omega) _).mono ?_); rintro e w3 ⟨⟨ng',A',n',c',rfl,hz⟩,hb3⟩; replace hz:=hz.lower (Sees.kept (by assumption):Kept w _ W _).size)))
  rename_i hS;obtain ⟨v0,v1,v2,v3⟩:=hS.kept.val22 (by simp) (by simp) (by omega) (by rw [bN.1]; rfl) (by rw [bN.2.1]; rfl) (by rw [bD.1]; rfl) (by rw [bD.2.1]; rfl);have hbf:=hbW.trans hS.kept.below;have hxf:=hx'.keptWas hS.kept
  have hzf:=((((hz.set (p:=⟨w+1,0,none⟩) s1 (.bool v.num.ng)).set (p:=⟨w.heap.size+1,1,none⟩) s1 (.slice v.num.A v.num.n v.num.c)).set (p:=⟨w+1+1,0,none⟩) s2 (.bool ng')).set (p:=⟨w.heap.size+1+1,1,none⟩) s2 (.slice A' n' c')).zis (L:=L+1) (by
   show 1<Num.base ^ (L+1); exact Nat.one_lt_pow (by omega) (by decide))
  clear hS hz;generalize (((w3.setCell ⟨w+1,0,none⟩ (.bool v.num.ng)).setCell ⟨w.heap.size+1,1,none⟩ (.slice v.num.A v.num.n v.num.c)).setCell ⟨w+1+1,0,none⟩ (.bool ng')).setCell ⟨w.heap.size+1+1,1,none⟩ (.slice A' n' c')=Wf at *;go_wp2;exact bodyPost_ret (v:=.tuple #[v.num.val,.agg #[.bool ng',.slice A' n' c']]) (by simp [results,Tryz.results105,go_sem,v0,v1,v2,v3]) rfl ⟨⟨v.num,⟨ng',A',n',c'⟩,x,1,rfl,hxf.mixWas.mono (by omega),hzf.mixNew' hBW,by omega,by rw [Hq.out,Hy.out,Hc.out,zGE]⟩,hbf⟩
 ·have hx':=hx.was.below hbW;have hy':=(ZIs.of (L:=L) (ng:=v.den.ng) hly hln).was.below hbW
  go_region_held3 (Sees w [w.heap.size+1,w.heap.size+1+1] W) (exact kp)
   (fail)
  rename_i hS;obtain ⟨v0,v1,v2,v3⟩:=hS.kept.undrew.val22 (by simp) (by simp) (by omega) (by rw [bN.1]; rfl) (by rw [bN.2.1]; rfl) (by rw [bD.1]; rfl) (by rw [bD.2.1]; rfl);have hbf:=(hbW.trans hS.kept.undrew.below).drew;have hxf:=(hx'.keptWas hS.kept.undrew).below (brf _ _).drew;have hyf:=(hy'.keptWas hS.kept.undrew).below (brf _ _).drew;clear hS;generalize (((W.setCell ⟨w+1,0,none⟩ (.bool v.num.ng)).setCell ⟨w.heap.size+1,1,none⟩ (.slice v.num.A v.num.n v.num.c)).setCell ⟨w+1+1,0,none⟩ (.bool v.den.ng)).setCell ⟨w.heap.size+1+1,1,none⟩ (.slice v.den.A v.den.n v.den.c)=Wf at *;go_wp2;exact bodyPost_ret (v:=.tuple #[v.num.val,v.den.val]) (by simp [results,Tryz.results105,go_sem,v0,v1,v2,v3]) rfl ⟨⟨v.num,v.den,x,_,rfl,hxf.mixWas.mono (by omega),hyf.mixWas.mono (by omega),Hc.out,by rw [Hq.out,Hy.out,zIO Hc.out]⟩,hbf⟩
def ShortPost (q:Rat) (e:Ending):Prop:=
 ∃ (a b:Int) (is:Bool),e = .returned (.tuple #[.int .i64 a,.int .i64 b,.bool is])/\(is=true->0<b/\b<2147483648/\-2147483648<a/\a<2147483648/\q=(a:Rat) / (b:Rat))
theorem zAX {v:QV} (h:QIs w X L v q) :
  Calls Tryz.prog 98 #[v.val] w fun e w'=>ShortPost q e/\Below w w w':=by
 obtain ⟨x,y,⟨lx,hlx,-,ex⟩,⟨ly,hly,-,ey⟩,hq⟩:=h;have Hq:=hdq hq;clear hq;have hb0:∀ o,Below w w (w.alloc o):=fun o=>bal
 have Ex:=hdq ex;have Ey:=hdq ey;clear ex ey;by_cases hs:(fits x=true/\fits y=true/\-2147483648<x/\x<2147483648/\-2147483648<y/\y<2147483648)
 ·obtain ⟨fx,fy,a1,a2,a3,a4⟩:=hs;have Fx:=hdq fx;have Fy:=hdq fy;clear fx fy;have b1:¬ (x<=-2147483648):=by omega
  have b2:¬ (2147483648<=x):=by omega
  have b3:¬ (y<=-2147483648):=by omega
  have b4:¬ (2147483648<=y):=by omega
  rcases Int.lt_trichotomy y 0 with h0 | h0 | h0
  focus
   have c1:(y == 0)=false:=by simp; omega
  rotate_left
  focus
   subst h0
  rotate_left
  focus
   have c1:(y == 0)=false:=by simp; omega
   have c2:¬ y<0:=by omega
  all_goals
   (go_enter Tryz.func98,Tryz.ntmps98);(go_wp2_with fail);refine (zAs v.num.ng (hlx.below (hb0 _))).mono ?_; rintro e w1 ⟨rfl,hb1⟩
   rw [<-Ex.out,Fx.out,zAQ Fx.out];obtain ⟨hc1,hf1⟩:=bcell hb1;(go_wp2_with fail);refine (zAs v.den.ng ((hly.below (hb0 _)).below hb1)).mono ?_; rintro e w2 ⟨rfl,hb2⟩
   rw [<-Ey.out,Fy.out,zAQ Fy.out];go_wp2;go_ret3;exact ⟨⟨_,_,_,rfl,fun _=>⟨by omega,by omega,by omega,by omega,by first | rw [Hq.out,zIN h0] | rw [Hq.out,zGE] | rw [Hq.out,zIO h0]⟩⟩,(hb0 _).trans ((hb1.trans (hb2.mono hb1.size)).mono (by simp))⟩
 ·have hs':fits x=false\/(fits x=true/\fits y=false)\/(fits x=true/\fits y=true/\(x<=-2147483648\/(¬ x<=-2147483648/\2147483648<=x)\/(¬ x<=-2147483648/\¬ 2147483648<=x/\y<=-2147483648)\/(¬ x<=-2147483648/\¬ 2147483648<=x/\¬ y<=-2147483648/\2147483648<=y))):=by
   cases hfx:fits x <;> cases hfy:fits y <;> simp [hfx,hfy] at hs ⊢
   omega
  clear hs;rcases hs' with fx | ⟨fx,fy⟩ | ⟨fx,fy,h1 | ⟨h1,h2⟩ | ⟨h1,h2,h3⟩ | ⟨h1,h2,h3,h4⟩⟩
  ·have Fx:=hdq fx;clear fx;(go_enter Tryz.func98,Tryz.ntmps98);(go_wp2_with fail);refine (zAs v.num.ng (hlx.below (hb0 _))).mono ?_; rintro e w1 ⟨rfl,hb1⟩
   rw [<-Ex.out,Fx.out];obtain ⟨hc1,hf1⟩:=bcell hb1;(go_wp2_with fail);refine (zAs v.den.ng ((hly.below (hb0 _)).below hb1)).mono ?_; rintro e w2 ⟨rfl,hb2⟩
   go_wp2;go_ret3;exact ⟨⟨_,_,_,rfl,fun h=>by cases h⟩,(hb0 _).trans ((hb1.trans (hb2.mono hb1.size)).mono (by simp))⟩
  ·have Fx:=hdq fx;have Fy:=hdq fy;clear fx fy;(go_enter Tryz.func98,Tryz.ntmps98);(go_wp2_with fail);refine (zAs v.num.ng (hlx.below (hb0 _))).mono ?_; rintro e w1 ⟨rfl,hb1⟩
   rw [<-Ex.out,Fx.out];obtain ⟨hc1,hf1⟩:=bcell hb1;(go_wp2_with fail);refine (zAs v.den.ng ((hly.below (hb0 _)).below hb1)).mono ?_; rintro e w2 ⟨rfl,hb2⟩
   rw [<-Ey.out,Fy.out];go_wp2;go_ret3;exact ⟨⟨_,_,_,rfl,fun h=>by cases h⟩,(hb0 _).trans ((hb1.trans (hb2.mono hb1.size)).mono (by simp))⟩
  all_goals
   have Fx:=hdq fx;have Fy:=hdq fy;clear fx fy;(go_enter Tryz.func98,Tryz.ntmps98);(go_wp2_with fail);refine (zAs v.num.ng (hlx.below (hb0 _))).mono ?_; rintro e w1 ⟨rfl,hb1⟩
   rw [<-Ex.out,Fx.out,zAQ Fx.out];obtain ⟨hc1,hf1⟩:=bcell hb1;(go_wp2_with fail);refine (zAs v.den.ng ((hly.below (hb0 _)).below hb1)).mono ?_; rintro e w2 ⟨rfl,hb2⟩
   rw [<-Ey.out,Fy.out,zAQ Fy.out];go_wp2;go_ret3;exact ⟨⟨_,_,_,rfl,fun h=>by cases h⟩,(hb0 _).trans ((hb1.trans (hb2.mono hb1.size)).mono (by simp))⟩
end Go.Proofs.YtjancagcmghfjaaGreat
