/- Texts MpC of this claim. -/
import Derived.Test.YtjancagcmghfjaaGreatX13
import Derived.Test.YtjancagcmghfjaaGreatX14
import Derived.Deep.DeepCutAuto
set_option maxHeartbeats 4000000
set_option maxRecDepth 40000
namespace Go.Proofs.YtjancagcmghfjaaGreat
open Go.RowKit Go.Shelf
namespace Mo
theorem zVm {w:World} {n b:Int} {s:SV}:Calls Tryz.prog 219 #[.agg #[.int .i64 n,.slice s.A s.n s.c],.int .i64 b] w fun e w'=>e = .returned (.bool (decide (0<=b/\b<n)))/\Below w w w':=by
 by_cases h0:0<=b
 ·by_cases h1:b<n
  ·skip
   (go_enter Tryz.func219,Tryz.ntmps219);go_wp2;go_ret;exact ⟨by simp [h0,h1] <;> (intros; omega),bal⟩
  ·skip
   (go_enter Tryz.func219,Tryz.ntmps219);go_wp2;go_ret;exact ⟨by simp [h1] <;> (intros; omega),bal⟩
 ·have h1:=h0;go_enter Tryz.func219,Tryz.ntmps219
  go_wp2;go_ret;exact ⟨by simp <;> (intros; omega),bal⟩
def ckB (n:Int) (l:Ln):Nat->Bool
 | 0=>decide (0<=l.f/\l.f<n)
 | 1=>decide (0<=l.t/\l.t<n)
 | 2=>decide (l.f ≠ l.t)
 | 3=>decide (1<=l.x/\l.x<=1000)
 | _=>decide (0<=l.c/\l.c<=1000000)
theorem zXB {n:Int} {l:Ln}:LnOk n l ↔ ∀ j,j<5->ckB n l j=true:=by
 constructor
 ·rintro ⟨h1,h2,h3,h4,h5,h6,h7,h8,h9⟩ j hj;rcases (show j=0\/j=1\/j=2\/j=3\/j=4 by omega) with rfl | rfl | rfl | rfl | rfl
  ·exact decide_eq_true ⟨h1,h2⟩
  ·exact decide_eq_true ⟨h3,h4⟩
  ·exact decide_eq_true h5
  ·exact decide_eq_true ⟨h6,h7⟩
  ·exact decide_eq_true ⟨h8,h9⟩
 ·intro h;have h0:=of_decide_eq_true (h 0 (by omega));have h1:=of_decide_eq_true (h 1 (by omega));have h2:=of_decide_eq_true (h 2 (by omega));have h3:=of_decide_eq_true (h 3 (by omega));have h4:=of_decide_eq_true (h 4 (by omega));exact ⟨h0.1,h0.2,h1.1,h1.2,h2,h3.1,h3.2,h4.1,h4.2⟩
def ckF:Nat->Nat
 | 0=>218
 | 1=>220
 | 2=>221
 | 3=>222
 | _=>223
theorem zX9 {w:World} {n:Int} {s:SV} {l:Ln} {j:Nat} (hj:j<5):Calls Tryz.prog (ckF j) #[.agg #[.int .i64 n,.slice s.A s.n s.c],.agg #[.int .i64 l.f,.int .i64 l.t,.int .i64 l.x,.int .i64 l.c]] w fun e w'=>e = .returned (.bool (ckB n l j))/\Below w w w':=by
 rcases (show j=0\/j=1\/j=2\/j=3\/j=4 by omega) with rfl | rfl | rfl | rfl | rfl
 ·show Calls Tryz.prog 218 _ _ _;go_enter Tryz.func218,Tryz.ntmps218
  go_wp2_with fail
  have al:Below w w ((w.alloc (.cells #[.int .i64 n,.slice s.A s.n s.c] 24)).alloc (.cells #[.int .i64 l.f,.int .i64 l.t,.int .i64 l.x,.int .i64 l.c] 47)):=(bal).alloc (by simp) _;refine zVm.mono ?_; rintro e w1 ⟨rfl,hb1⟩
  have HB:=hdq (al.trans (hb1.mono al.size));clear al hb1;go_wp2;go_ret;exact ⟨by simp [ckB],HB.out⟩
 ·show Calls Tryz.prog 220 _ _ _;go_enter Tryz.func220,Tryz.ntmps220
  go_wp2_with fail
  have al:Below w w ((w.alloc (.cells #[.int .i64 n,.slice s.A s.n s.c] 24)).alloc (.cells #[.int .i64 l.f,.int .i64 l.t,.int .i64 l.x,.int .i64 l.c] 47)):=(bal).alloc (by simp) _;refine zVm.mono ?_; rintro e w1 ⟨rfl,hb1⟩
  have HB:=hdq (al.trans (hb1.mono al.size));clear al hb1;go_wp2;go_ret;exact ⟨by simp [ckB],HB.out⟩
 ·show Calls Tryz.prog 221 _ _ _;obtain ⟨f,t,x,c⟩:=l;dsimp only;have h1:True:=trivial;by_cases h0:f=t
  ·subst h0;have h0:True:=trivial;(go_enter Tryz.func221,Tryz.ntmps221);go_wp2;go_ret;exact ⟨by simp [ckB] <;> (intros; omega),(bal).alloc (by simp) _⟩
  ·skip
   (go_enter Tryz.func221,Tryz.ntmps221);go_wp2;go_ret;exact ⟨by simp [ckB,h0] <;> (intros; omega),(bal).alloc (by simp) _⟩
 ·show Calls Tryz.prog 222 _ _ _;obtain ⟨f,t,x,c⟩:=l;dsimp only;by_cases h0:1<=x
  ·by_cases h1:x<=1000
   ·skip
    (go_enter Tryz.func222,Tryz.ntmps222);go_wp2;go_ret;exact ⟨by simp [ckB,h0,h1] <;> (intros; omega),(bal).alloc (by simp) _⟩
   ·skip
    (go_enter Tryz.func222,Tryz.ntmps222);go_wp2;go_ret;exact ⟨by simp [ckB,h0,h1] <;> (intros; omega),(bal).alloc (by simp) _⟩
  ·have h1:=h0;(go_enter Tryz.func222,Tryz.ntmps222);go_wp2;go_ret;exact ⟨by simp [ckB] <;> (intros; omega),(bal).alloc (by simp) _⟩
 ·show Calls Tryz.prog 223 _ _ _;obtain ⟨f,t,x,c⟩:=l;dsimp only;by_cases h0:0<=c
  ·by_cases h1:c<=1000000
   ·skip
    (go_enter Tryz.func223,Tryz.ntmps223);go_wp2;go_ret;exact ⟨by simp [ckB,h0,h1] <;> (intros; omega),(bal).alloc (by simp) _⟩
   ·skip
    (go_enter Tryz.func223,Tryz.ntmps223);go_wp2;go_ret;exact ⟨by simp [ckB,h0,h1] <;> (intros; omega),(bal).alloc (by simp) _⟩
  ·have h1:=h0;(go_enter Tryz.func223,Tryz.ntmps223);go_wp2;go_ret;exact ⟨by simp [ckB] <;> (intros; omega),(bal).alloc (by simp) _⟩
def ckV (j:Nat):Value:=.func (.func (ckF j)) #[] #[]
theorem zWf {w:World}:Calls Tryz.prog 181 #[] w fun e w'=>(∃ b,e = .returned (.slice (some ⟨b,0,none⟩) 5 5)/\w.heap.size<=b/\∀ j,j<5->w'.cell? ⟨b,j,none⟩=some (ckV j))/\Below w w w':=by
 go_enter Tryz.func181,Tryz.ntmps181
 go_wp2;go_ret;refine ⟨⟨_,rfl,nlr _,fun j hj=>?_⟩,bal⟩;rcases (show j=0\/j=1\/j=2\/j=3\/j=4 by omega) with rfl | rfl | rfl | rfl | rfl
 all_goals go_simp
 all_goals rfl
def NcO (w:World) (n:Int) (s:SV) (ls:List Ln) (cb:Nat) (v t:Value) (W:World):Prop:=
 ∃ k:Nat,k<=s.n/\t = .int .i64 (k:Int)/\v = .int .i64 0/\Below w w W/\W.cell? w=some (.int .i64 n)/\W.cell? ⟨w.heap.size,1,none⟩=some (.slice s.A s.n s.c)/\(∀ j,j<5->W.cell? ⟨cb,j,none⟩=some (ckV j))/\∀ i,i<k->LnOk n (ls.getD i ⟨0,0,0,0⟩)
def NcI (w W0:World) (n:Int) (s:SV) (l:Ln) (cb lb:Nat) (v t:Value) (W:World):Prop:=
 Below W0 W0 W/\∃ j:Nat,j<=5/\t = .int .i64 (j:Int)/\v = .int .i64 0/\Below w w W/\W.cell? w=some (.int .i64 n)/\W.cell? ⟨w.heap.size,1,none⟩=some (.slice s.A s.n s.c)/\(∀ j,j<5->W.cell? ⟨cb,j,none⟩=some (ckV j))/\
  W.cell? lb=some (.int .i64 l.f)/\W.cell? ⟨lb,1,none⟩=some (.int .i64 l.t)/\W.cell? ⟨lb,2,none⟩=some (.int .i64 l.x)/\W.cell? ⟨lb,3,none⟩=some (.int .i64 l.c)/\∀ i,i<j->ckB n l i=true
theorem zXm {n:Int} {ls:List Ln} (h1:¬ n<1) (h2:¬ 6<n) (h3:¬ 10<ls.length):netErr n ls=if ∀ i,i<ls.length->LnOk n (ls.getD i ⟨0,0,0,0⟩) then 0 else 1:=by
 unfold netErr;rw [if_neg (by omega),if_neg h3];by_cases h:∀ l ∈ ls,LnOk n l
 ·rw [if_pos h]; exact (if_pos (zVT.1 h)).symm
 ·rw [if_neg h]; exact (if_neg fun e=>h (zVT.2 e)).symm
theorem zWq {w:World} {n:Int} {s:SV} {ls:List Ln} (h:LinesAt w s ls) :
  Calls Tryz.prog 135 #[.agg #[.int .i64 n,.slice s.A s.n s.c]] w fun e w'=>e = .returned (.int .i64 (netErr n ls))/\Below w w w':=by
 have HS:=hdq h;have HL:Hid (ls.length=s.n):=h.len;have hle:s.n<=s.c:=h.le;have hcap:s.c<=9223372036854775807:=h.cap;clear h;obtain ⟨A,m,c⟩:=s;dsimp only at hle hcap HL ⊢;by_cases h1:n<1
 ·have HE:Hid (netErr n ls=1):=hdq (if_pos (.inl h1));go_enter Tryz.func135,Tryz.ntmps135
  go_wp2;go_step3;go_wp2;try rw [Exit.noGoto_ret]
  go_ret;exact ⟨by rw [HE.out]; first | done | rfl,bal⟩
 by_cases h2:6<n
 ·have HE:Hid (netErr n ls=1):=hdq (if_pos (.inr h2));go_enter Tryz.func135,Tryz.ntmps135
  go_wp2;go_step3;go_wp2;try rw [Exit.noGoto_ret]
  go_ret;exact ⟨by rw [HE.out]; first | done | rfl,bal⟩
 by_cases h3:10<m
 ·have HE:Hid (netErr n ls=5):=by show _=_; unfold netErr; rw [if_neg (by omega),if_pos (by rw [HL.out]; exact h3)]
  have h3i:(10:Int)<(m:Int):=by omega
  go_enter Tryz.func135,Tryz.ntmps135
  go_wp2;go_step3;go_wp2;try rw [Exit.noGoto_ret]
  go_ret;exact ⟨by rw [HE.out]; first | done | rfl,bal⟩
 have HE:=hdq (zXm h1 h2 (by rw [HL.out]; exact h3));have h3i:¬ (10:Int)<(m:Int):=by omega
 generalize netErr n ls=er at *;go_enter Tryz.func135,Tryz.ntmps135
 go_upto_region 1 with fail
 refine zAo (fun W=>Below w w W/\Box2 W w (.int .i64 n) (.slice A m c)/\w.heap.size<W.heap.size) ⟨(az (brf _ _)),bx2,by simp <;> omega⟩ ?_;rintro W ⟨hbW,bN,s0⟩;have hBW:=hbW.size;obtain ⟨c0,c1,-⟩:=id bN;go_step3;go_wp2_with fail
 refine zWf.mono ?_; rintro e w1 ⟨⟨cb,rfl,hcb,hck⟩,hb1⟩
 have bN1:=bN.below hb1 s0;have H0:NcO w n ⟨A,m,c⟩ ls cb (.int .i64 0) (.int .i64 0) w1:=⟨0,nzl _,rfl,rfl,hbW.trans (hb1.mono hBW),bN1.1,bN1.2.1,hck,fun i hi=>absurd hi (Nat.not_lt_zero _)⟩;obtain ⟨c0,c1,-⟩:=id bN1;have hcbl:=zAb (hck 0 (by omega));dsimp only at hcbl;clear hck hbW hBW hb1 bN;go_wp2;go_step3;go_wp2;clear c0 c1 bN1;go_loopw [3,25] (fun v t W=>NcO w n ⟨A,m,c⟩ ls cb v t W) (fun _ t _=>m-(intOf t).toNat)
 case atStart=>exact H0
 case round=>
  clear H0;obtain ⟨k,hk,rfl,rfl,hB,d0,d1,hck,hok⟩:=hrel;have HB:=hdq hB;dsimp only at hk;have HOk:=hdq hok;have hsz:w.heap.size<wr.heap.size:=zAb d0;clear hok;by_cases hlt:k<m
  ·obtain ⟨ad,e,q0,q1,q2,q3⟩:=(LinesAt.below hB HS.out).cell k hlt;dsimp only at e;subst e;have tq:(ad.add (k*4)).block<wr:=zAb q0;have hki:(k:Int)<(m:Int):=(by omega);obtain ⟨l,hl⟩:∃ l,l=ls.getD k ⟨0,0,0,0⟩:=⟨_,rfl⟩;rw [<-hl] at q0 q1 q2 q3;have Hl:=hdq hl;clear hB hl;(go_upto_region 11 with fail);have al:Below wr wr (wr.alloc (.cells #[.int .i64 l.f,.int .i64 l.t,.int .i64 l.x,.int .i64 l.c] 47)):=bal;refine zAo (fun W'=>Below wr wr W'/\W'.cell? wr=some (.int .i64 l.f)/\W'.cell? ⟨wr.heap.size,1,none⟩=some (.int .i64 l.t)/\W'.cell? ⟨wr.heap.size,2,none⟩=some (.int .i64 l.x)/\W'.cell? ⟨wr.heap.size,3,none⟩=some (.int .i64 l.c)) ⟨al,by go_simp,by go_simp,by go_simp,by go_simp⟩ ?_;clear al;rintro W2 ⟨hb2,x0,x1,x2,x3⟩;have H2:NcI w wr n ⟨some ad,m,c⟩ l cb wr (.int .i64 0) (.int .i64 0) W2:=⟨hb2,0,nzl _,rfl,rfl,HB.out.trans (hb2.mono HB.out.size),(hb2.cell (p:=w) hsz).trans d0,(hb2.cell (p:=⟨w.heap.size,1,none⟩) hsz).trans d1,fun j hj=>(hb2.cell (p:=⟨cb,j,none⟩) (zAb (hck j hj))).trans (hck j hj),x0,x1,x2,x3,fun i hi=>absurd hi (Nat.not_lt_zero _)⟩;clear x0 x1 x2 x3 hb2 hck q0 q1 q2 q3 tq d0 d1;generalize wr=w0 at *;(go_loopw [3,31] (fun v t W=>NcI w w0 n ⟨some ad,m,c⟩ l cb w0 v t W) (fun _ t _=>5-(intOf t).toNat));case atStart=>exact H2
   case round=>
    clear H2;obtain ⟨hbr,j,hj,rfl,rfl,hB,d0,d1,hck,x0,x1,x2,x3,hok⟩:=hrel;dsimp only at d1;have HR:=hdq hbr;have HB:=hdq hB;have HCk:=hdq hck;have HI:=hdq hok;clear hok hB hbr;by_cases hlj:j<5
    ·have cj:=hck j hlj;have hji:(j:Int)<5:=(by omega);have t1:=zAb cj;have t2:=zAb x0;have t3:=zAb d0;dsimp only at t1 t2 t3
     have hcall:∀ (args:Array Value) (w:World),Sem.run Tryz.prog (callFunc (ckF j) args) w = .ok (.enter (ckF j) args) w:=fun args w=>by
      rcases (show j=0\/j=1\/j=2\/j=3\/j=4 by omega) with rfl | rfl | rfl | rfl | rfl <;> rfl
     unfold ckV at cj;clear hck;(go_wp2_with fail);refine (zX9 (s:=⟨some ad,m,c⟩) (l:=l) hlj).mono ?_;rintro e w3 ⟨rfl,hb3⟩;have al:Below wr wr w3:=(bal).trans (hb3.mono (by simp));clear hb3 hcall;have HB3:=hdq (HB.out.trans (al.mono HB.out.size))
     cases hb:ckB n l j with
     | true=>
      have HN:Hid (NcI w w0 n ⟨some ad,m,c⟩ l cb w0 (.int .i64 0) (.int .i64 ((j:Int)+1)) w3):=⟨HR.out.trans (al.mono HR.out.size),j+1,by omega,by simp,rfl,HB3.out,(al.cell (p:=w) t3).trans d0,(al.cell (p:=⟨w.heap.size,1,none⟩) t3).trans d1,fun i hi=>(al.cell (p:=⟨cb,i,none⟩) t1).trans (HCk.out i hi),(al.cell (p:=w0) t2).trans x0,(al.cell (p:=⟨w0.heap.size,1,none⟩) t2).trans x1,(al.cell (p:=⟨w0.heap.size,2,none⟩) t2).trans x2,(al.cell (p:=⟨w0.heap.size,3,none⟩) t2).trans x3,fun i hi=>by
       by_cases e:i=j
       ·rw [e]; exact hb
       ·exact HI.out i (by omega)⟩
      clear al hb x0 x1 x2 x3 d0 d1 cj;go_wp2;go_roundw;case rel=>exact HN.out
      case measure=>simp [intOf]; omega
     | false=>
      have HE1:Hid (er=1):=hdq (HE.out.trans (if_neg fun h=>by
       have:=zXB.1 (h k (by rw [HL.out]; exact hlt)) j hlj;rw [<-Hl.out,hb] at this; cases this))
      clear al hb x0 x1 x2 x3 d0 d1 cj;go_wp2;(try rw [Exit.noGoto_ret]);go_ret;exact ⟨by rw [HE1.out]; first | done | rfl,HB3.out⟩
    ·obtain rfl:j=5:=by omega
     have HN:Hid (NcO w n ⟨some ad,m,c⟩ ls cb (.int .i64 0) (.int .i64 ((k:Int)+1)) wr):=⟨k+1,by show k+1<=m; omega,by simp,rfl,HB.out,d0,d1,hck,fun i hi=>by
      by_cases e:i=k
      ·rw [e,<-Hl.out]; exact zXB.2 HI.out
      ·exact HOk.out i (by omega)⟩
     clear x0 x1 x2 x3 d0 d1 hck;go_wp2;go_roundw;case rel=>exact HN.out
     case measure=>simp [intOf]; omega
  ·(obtain rfl:k=m:=by omega);have HE1:Hid (er=0):=hdq (HE.out.trans (if_pos (by rw [HL.out]; exact HOk.out)));clear hB hck d0 d1;go_wp2;(try rw [Exit.noGoto_ret]);go_ret;exact ⟨by rw [HE1.out]; first | done | rfl,HB.out⟩
def OuL (w:World) (_:Int) (s:SV) (N:Nat) (out:List Int) (m:Nat) (t:Value) (W:World):Prop:=
 ∃ k:Nat,k<=m/\t = .int .i64 (k:Int)/\Below w w W/\W.cell? ⟨w.heap.size,1,none⟩=some (.slice s.A s.n s.c)/\outOk N none out=outOk N (prevO out k) (out.drop k)
theorem zVP {w:World} {n:Int} {s so:SV} {ls:List Ln} {out:List Int} (h:LinesAt w s ls) (ho:IntsAt w so out) :
  Calls Tryz.prog 83 #[.agg #[.int .i64 n,.slice s.A s.n s.c],.slice so.A so.n so.c] w fun e w'=>e = .returned (.int .i64 (outErr n ls out))/\Below w w w':=by
 have HS:=hdq h;have HO:=hdq ho;have HL:Hid (ls.length=s.n):=h.len;have HLo:Hid (out.length=so.n):=ho.len;have hle:so.n<=so.c:=ho.le;have hcap:so.c<=9223372036854775807:=ho.cap;have hle2:s.n<=s.c:=h.le;have hcap2:s.c<=9223372036854775807:=h.cap;clear h ho;obtain ⟨A,m,c⟩:=so;dsimp only at hle hcap HLo ⊢;obtain ⟨er,her⟩:∃ er,er=outErr n ls out:=⟨_,rfl⟩;rw [<-her];have HER:=hdq her;clear her;go_enter Tryz.func83,Tryz.ntmps83
 go_upto_region 1 with fail
 refine zAo (fun W=>Below w w W/\Box2 W w (.int .i64 n) (.slice s.A s.n s.c)/\w.heap.size<W.heap.size) ⟨(az (brf _ _)),bx2,by simp <;> omega⟩ ?_;rintro W ⟨hbW,bN,s0⟩;have hBW:=hbW.size;obtain ⟨c0,c1,-⟩:=id bN;go_wp2_with fail
 refine (zWq (s:=s) (LinesAt.below hbW HS.out)).mono ?_; rintro e w1 ⟨rfl,hb1⟩
 have HB1:=hdq (hbW.trans (hb1.mono hBW));have bN1:=bN.below hb1 s0;clear hb1 hbW hBW bN c0 c1;by_cases hE:netErr n ls=0
 ·have HE:Hid (er=if outOk s.n none out=true then 0 else 1):=by
   show _=_;rw [HER.out];unfold outErr;rw [if_neg (fun e=>e hE),HL.out]
  rw [hE];have H0:OuL w n s s.n out m (.int .i64 0) w1:=⟨0,nzl _,rfl,HB1.out,bN1.2.1,rfl⟩;clear hE bN1;go_wp2;go_loopw [15] (fun t W=>OuL w n s s.n out m t W) (fun t _=>m-(intOf t).toNat)
  case atStart=>exact H0
  case round=>
   clear H0;obtain ⟨k,hk,rfl,hB,d1,hok⟩:=hrel;have HB:=hdq hB;have hsz:=zAb d1;dsimp only at hsz;by_cases hlt:k<m
   ·obtain ⟨ad,e,q0⟩:=(HO.out.below hB).cell k hlt;dsimp only at e;subst e;have hlt':k<out.length:=by rw [HLo.out]; exact hlt
    have tq:=zAb q0;have hki:(k:Int)<(m:Int):=(by omega);obtain ⟨y,hy⟩:∃ y,y=out.getD k 0:=⟨_,rfl⟩;rw [<-hy] at q0;have Hy:=hdq hy;clear hy;by_cases a1:y<0
    ·skip
     have HE1:Hid (er=1):=hdq (HE.out.trans (if_neg (by rw [hok,zWO hlt' (.inl (by rw [<-Hy.out]; exact a1))]; decide)));clear hok hB;go_wp2;go_ret;exact ⟨by rw [HE1.out]; first | done | rfl,HB.out⟩
    by_cases a2:(s.n:Int)<=y
    ·skip
     have HE1:Hid (er=1):=hdq (HE.out.trans (if_neg (by rw [hok,zWO hlt' (.inr (.inl (by rw [<-Hy.out]; exact a2)))]; decide)));clear hok hB;go_wp2;go_ret;exact ⟨by rw [HE1.out]; first | done | rfl,HB.out⟩
    (go_upto_region 7 with fail);by_cases hk0:k=0
    ·subst hk0;have HN:=hdq (hok.trans (zWY hlt' (by rw [<-Hy.out]; omega) (by rw [<-Hy.out]; omega) fun e=>absurd e (by omega)));clear hok hB;go_wp2;go_roundw;case rel=>exact ⟨1,by omega,rfl,HB.out,d1,HN.out⟩
     case measure=>simp [intOf]; omega
    ·obtain ⟨j,rfl⟩:∃ j,k=j+1:=⟨k-1,by omega⟩;obtain ⟨ad',e,q1⟩:=(HO.out.below hB).cell j (show j<m by omega);dsimp only at e;cases e;obtain ⟨z,hz⟩:∃ z,z=out.getD j 0:=⟨_,rfl⟩;rw [<-hz] at q1;have Hz:=hdq hz;clear hz;have tz:=zAb q1;have hj0:(0:Int)<((j+1:Nat):Int):=(by omega);have hjj:((j+1:Nat):Int)-1=(j:Int):=(by omega);have hji:(j:Int)<(m:Int):=(by omega);have hwj:IntKind.i64.wrap (j:Int)=(j:Int):=IntWalk.i64_in _ (by omega);by_cases a3:y<=z
     ·skip
      have HE1:Hid (er=1):=hdq (HE.out.trans (if_neg (by rw [hok,zWO hlt' (.inr (.inr ⟨by omega,by rw [<-Hy.out,Nat.add_sub_cancel,<-Hz.out]; exact a3⟩))]; decide)));clear hok hB;go_wp2;go_ret;exact ⟨by rw [HE1.out]; first | done | rfl,HB.out⟩
     ·have HN:=hdq (hok.trans (zWY hlt' (by rw [<-Hy.out]; omega) (by rw [<-Hy.out]; omega) fun _=>by rw [<-Hy.out,Nat.add_sub_cancel,<-Hz.out]; omega));clear hok hB;go_wp2;go_roundw;case rel=>exact ⟨j+1+1,by omega,by simp,HB.out,d1,HN.out⟩
      case measure=>simp [intOf]; omega
   ·(obtain rfl:k=m:=by omega);have HE1:Hid (er=0):=hdq (HE.out.trans (if_pos (by rw [hok,<-HLo.out]; exact zYJ)));clear hB hok;go_wp2;go_ret;exact ⟨by rw [HE1.out]; first | done | rfl,HB.out⟩
 ·have HE:Hid (er=netErr n ls):=hdq (HER.out.trans (if_pos hE));generalize netErr n ls=z at *;go_wp2;go_ret;exact ⟨by rw [HE.out]; first | done | rfl,HB1.out⟩
end Mo
end Go.Proofs.YtjancagcmghfjaaGreat
