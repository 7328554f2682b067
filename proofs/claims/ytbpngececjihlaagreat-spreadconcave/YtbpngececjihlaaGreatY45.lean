/- Texts SpK of this claim. -/
import Derived.Test.YtbpngececjihlaaGreatY35
set_option maxHeartbeats 4000000
set_option maxRecDepth 40000
namespace Go.Proofs.YtbpngececjihlaaGreat
open Go.RowKit Go.Shelf
variable {L M N:Nat} {X Y Z:Nat->Prop} {w w':World} {z:QV}
def lowB (o:Option Rat) (t:Rat):Bool:=match o with | none=>true | some l=>decide (l<=t)
def upB (o:Option Rat) (t:Rat):Bool:=match o with | none=>true | some u=>decide (t<=u)
def LimL (w:World) (X:Nat->Prop) (L:Nat) (b:Bool) (v:QV) (o:Option Rat):Prop:=
 (o=none/\b=true/\v=q0V)\/∃ q,o=some q/\b=false/\QIs w X L v q
theorem LimIs.loose {b:Bool} {v:QV} {o:Option Rat} (h:LimIs w X b v o) (hf:∀ q,o=some q->QFit L q):LimL w X L b v o:=
 h.imp id fun ⟨q,h1,h2,h3⟩=>⟨q,h1,h2,h3.qis (hf q h1)⟩
theorem LimL.below {b:Bool} {v:QV} {o:Option Rat} (h:LimL w X L b v o) (hb:Below w w w'):LimL w' X L b v o:=
 h.imp id fun ⟨q,h1,h2,h3⟩=>⟨q,h1,h2,h3.below hb⟩
theorem zRn {b1 b2:Bool} {v1 v2:QV} {lo hi:Option Rat} {t:Rat} (h1:LimL w X L b1 v1 lo) (h2:LimL w Y M b2 v2 hi) (hz:QIs w Z N z t) (hL:L<=LM) (hM:M<=LM) (hN:N<=LM) :
  Calls Tryz.prog 18 #[limV b1 v1,limV b2 v2,z.val] w fun e w'=>e = .returned (.bool (lowB lo t && upB hi t))/\Below w w w':=by
 have H1:=hdq h1;have H2:=hdq h2;have HZ:=hdq hz;have HL:=hdq hL;have HM:=hdq hM;have HN:=hdq hN;clear h1 h2 hz hL hM hN;dsimp only [limV];go_enter Tryz.func18,Tryz.ntmps18
 go_upto_region 1 with fail
 refine zAo (fun W=>Below w w W/\Box5 W w (.bool b1) (.bool v1.num.ng) (.slice v1.num.A v1.num.n v1.num.c) (.bool v1.den.ng) (.slice v1.den.A v1.den.n v1.den.c)/\Box5 W (w+1) (.bool b2) (.bool v2.num.ng) (.slice v2.num.A v2.num.n v2.num.c) (.bool v2.den.ng) (.slice v2.den.A v2.den.n v2.den.c)/\Box4 W (w+1+1) (.bool z.num.ng) (.slice z.num.A z.num.n z.num.c) (.bool z.den.ng) (.slice z.den.A z.den.n z.den.c)/\w.heap.size<W.heap.size/\w.heap.size+1<W.heap.size/\w.heap.size+1+1<W.heap.size) ⟨(az (az (az (brf _ _)))),⟨by go_simp,by go_simp,by go_simp,by go_simp,by go_simp,by intro o; go_simp⟩,⟨by go_simp,by go_simp,by go_simp,by go_simp,by go_simp,by intro o; go_simp⟩,bx4,by simp <;> omega,by simp <;> omega,by simp <;> omega⟩ ?_;rintro W ⟨hbW,b5,b6,bZ,s0,s1,s2⟩;have hBW:=hbW.size;have ne02:¬ (w.heap.size=w.heap.size+1+1):=by omega
 obtain ⟨p0,p1,p2,p3,p4,-⟩:=id b5;obtain ⟨z0,z1,z2,z3,-⟩:=id bZ;obtain ⟨u0,u1,u2,u3,u4,-⟩:=id b6;have HB:=hdq hbW;clear hbW;rcases H1.out with ⟨rfl,rfl,rfl⟩ | ⟨l,rfl,rfl,hl⟩
 focus
  clear b5 b6 bZ;rcases H2.out with ⟨rfl,rfl,rfl⟩ | ⟨u,rfl,rfl,hu⟩
  focus
   dsimp only [q0V] at *;go_wp2;go_ret;exact ⟨rfl,HB.out⟩
  focus
   have HU:=hdq hu;clear hu;(go_wp2_with fail);refine (zBg (a:=z) (b:=v2) (HZ.out.below HB.out) (HU.out.below HB.out) HN.out HM.out).mono ?_;rintro e w2 ⟨rfl,hb2⟩;replace HB:=hdq (HB.out.trans (hb2.mono HB.out.size));clear hb2;rcases qcmp3 t u with ⟨hlt,e⟩ | ⟨hlt,e⟩ | ⟨hlt,e⟩
   all_goals
    rw [e];clear e;have HLT:=hdq hlt;clear hlt;go_wp2;go_ret;refine ⟨?_,HB.out⟩;have hlt:=HLT.out;simp only [lowB,upB];(try rw [decide_eq_true (show t<=t from HLL.out)]);first | rw [decide_eq_true (show t<=u by grind)]; rfl | rw [decide_eq_false (show ¬ t<=u by grind)]; rfl
 focus
  have HQ1:=hdq hl;clear hl;go_wp2_with fail
  refine (zBg (a:=z) (b:=v1) (HZ.out.below HB.out) (HQ1.out.below HB.out) HN.out HL.out).mono ?_;rintro e w2 ⟨rfl,hb2⟩;replace b6:=b6.below hb2 s1;replace bZ:=bZ.below hb2 s2;have hs2:=hb2.size;replace HB:=hdq (HB.out.trans (hb2.mono HB.out.size));clear hb2 p0 p1 p2 p3 p4 z0 z1 z2 z3 u0 u1 u2 u3 u4 b5;obtain ⟨z0,z1,z2,z3,-⟩:=id bZ;obtain ⟨u0,u1,u2,u3,u4,-⟩:=id b6;rcases qcmp3 t l with ⟨hlt,e⟩ | ⟨hlt,e⟩ | ⟨hlt,e⟩
  focus
   rw [e];have HLT:=hdq hlt;clear e hlt;go_wp2;go_ret;exact ⟨by rw [show lowB (some l) t=false from decide_eq_false (by have h:=HLT.out; grind)]; rfl,HB.out⟩
  all_goals
   rw [e];have HLL:Hid (l<=t):=hdq (by grind);clear e hlt;rcases H2.out with ⟨rfl,rfl,rfl⟩ | ⟨u,rfl,rfl,hu⟩
   focus
    dsimp only [q0V] at *;go_wp2;go_ret;exact ⟨(by rw [show lowB (some l) t=true from decide_eq_true HLL.out]; rfl),HB.out⟩
   focus
    have HU:=hdq hu;clear hu;(go_wp2_with fail);refine (zBg (a:=z) (b:=v2) (HZ.out.below HB.out) (HU.out.below HB.out) HN.out HM.out).mono ?_;rintro e w2 ⟨rfl,hb2⟩;replace HB:=hdq (HB.out.trans (hb2.mono HB.out.size));clear hb2;rcases qcmp3 t u with ⟨hlt,e⟩ | ⟨hlt,e⟩ | ⟨hlt,e⟩
    all_goals
     rw [e];clear e;have HLT:=hdq hlt;clear hlt;go_wp2;go_ret;refine ⟨?_,HB.out⟩;have hlt:=HLT.out;simp only [lowB,upB];(try rw [decide_eq_true (show l<=t from HLL.out)]);first | rw [decide_eq_true (show t<=u by grind)]; rfl | rw [decide_eq_false (show ¬ t<=u by grind)]; rfl
end Go.Proofs.YtbpngececjihlaaGreat
