/- Texts Feas PrK PrL PrT SpA SpB of this claim. -/
import Derived.Test.YtbpngececjihlaaGreatX28
set_option maxHeartbeats 4000000
set_option maxRecDepth 40000
namespace Go.Proofs.YtbpngececjihlaaGreat
open Go.RowKit Go.Shelf
attribute [local go_sem] Oper.semAt_some
end Go.Proofs.YtbpngececjihlaaGreat
namespace Go.Proofs.YtbpngececjihlaaGreat
open Go.RowKit Go.Shelf
attribute [local go_sem] Oper.semAt_some
end Go.Proofs.YtbpngececjihlaaGreat
namespace Go.Proofs.YtbpngececjihlaaGreat
open Go.RowKit Go.Shelf
variable {V N L E B b kb:Nat} {ch:Option (Nat->Rat)} {bs:List Rat} {os rs:List (List Rat)} {p:LPV} {X Y:Nat->Prop} {w w':World} {D:Lin.Dict} {P:Lin.Prob} {v0 v1 v2 v3 u0 u1 u2 u3 x0 x1 x2 x3 x4:Value} {q:Rat}
def PValid (P:Lin.Prob) (y:Nat->Rat):Prop:=P.Dual y/\∃ x,P.Feasible x/\(Lin.sum P.n fun k=>P.O 0 k*x k)=Lin.sum P.m fun i=>y i*P.b i
theorem zD4 (m i:Nat) (z:Nat->Rat) (hi:i<m):(Lin.sum m fun j=>z j*Lin.unit i j)=z i:=by
 induction m with
 | zero=>omega
 | succ m ih=>
  show (Lin.sum m fun j=>z j*Lin.unit i j)+z m*Lin.unit i m=z i;by_cases h:i=m
  ·subst h;rw [Lin.zAC (fun j hj=>by unfold Lin.unit; rw [if_neg (by omega)]; grind)];unfold Lin.unit;rw [if_pos rfl]; grind
  ·rw [ih (by omega)];unfold Lin.unit;rw [if_neg (by omega)]; grind
section
variable {P:Lin.Prob} {ch:Option (Nat->Rat)} {D:Lin.Dict}
theorem ends1 (hI:PInv P ch D) (hE:Ends P ch D 1) (hK:0<P.K) :
  P.Dual (D.dual P)/\(∃ x,P.Feasible x/\(Lin.sum P.n fun k=>P.O 0 k*x k)=D.c 0 P.n)/\D.c 0 P.n=(Lin.sum P.m fun i=>D.dual P i*P.b i)/\
  ∀ z,P.Dual z->Lin.LexNN (Lin.given ch+P.m) fun k=>(Lin.sum P.m fun i=>z i*Lin.levels P ch k i)-Lin.sum P.m fun i=>D.dual P i*Lin.levels P ch k i:=by
 have G:=hI.1;rcases hE with ⟨h,_⟩ | ⟨_,hF,hc⟩ | ⟨h,_⟩
 ·omega
 ·obtain ⟨hfe,hobj⟩:=G.attained hK (hF.feas G);exact ⟨G.dual_ok hK hc,⟨_,hfe,hobj⟩,G.value_dual hK,fun z hz=>G.dual_least hK (fun i hi=>.inr (hF i hi)) hz⟩
 ·omega
theorem ends2 (hI:PInv P none D) (hE:Ends P none D 2) (x:Nat->Rat):¬ P.Feasible x:=by
 rcases hE with ⟨_,h⟩ | ⟨h,_⟩ | ⟨h,_⟩
 ·exact Lin.zJI hI.1 h x
 ·omega
 ·omega
theorem ends3 (hI:PInv P ch D) (hE:Ends P ch D 3) (hK:0<P.K) (y:Nat->Rat):¬ P.Dual y:=by
 rcases hE with ⟨h,_⟩ | ⟨h,_⟩ | ⟨_,_,s,hs,hc,h⟩
 ·omega
 ·omega
 ·exact hI.1.no_dual hK hs hc h y
theorem zA5 (hI:PInv P ch D) (hE:Ends P ch D 1) (hK:0<P.K):PValid P (D.dual P):=by
 obtain ⟨h1,⟨x,hx,e⟩,h3,_⟩:=ends1 hI hE hK;exact ⟨h1,x,hx,e.trans h3⟩
theorem zBW {y z:Nat->Rat} (h:PValid P y) (k:PValid P z):(Lin.sum P.m fun i=>y i*P.b i)=Lin.sum P.m fun i=>z i*P.b i:=by
 obtain ⟨hy,x,hx,e⟩:=h;obtain ⟨hz,x',hx',e'⟩:=k;have h1:=Lin.weak hx hz;have h2:=Lin.weak hx' hy;grind
theorem zII (hI:PInv P none D) (hE:Ends P none D 1) (hK:0<P.K) {z:Nat->Rat} (hz:PValid P z):(∀ i,i<P.m->D.dual P i=z i)\/∃ i,i<P.m/\D.dual P i<z i/\∀ j,j<i->D.dual P j=z j:=by
 have h:=(ends1 hI hE hK).2.2.2 z hz.1;have h0:=zBW hz (zA5 hI hE hK)
 have hu:∀ (i:Nat) (y:Nat->Rat),i<P.m->(Lin.sum P.m fun j=>y j*Lin.levels P none (i+1) j)=y i:=fun i y hi=>by
  rw [<-zD4 P.m i y hi];exact Lin.zAh fun j _=>by simp only [Lin.levels,Nat.add_sub_cancel,if_neg (Nat.succ_ne_zero i)]
 rcases h with h | ⟨k,hk,hp,hzr⟩
 ·refine .inl fun i hi=>?_
  have:=h (i+1) (by simp [Lin.given]; omega);simp only [hu i _ hi] at this;grind
 ·cases k with
  | zero=>simp only [Lin.zBp] at hp; exfalso; grind
  | succ k=>
   have hk':k<P.m:=by simp [Lin.given] at hk; omega
   refine .inr ⟨k,hk',?_,fun j hj=>?_⟩
   ·simp only [hu k _ hk'] at hp; grind
   ·have:=hzr (j+1) (by omega);simp only [hu j _ (by omega)] at this;grind
end
theorem zJZ (h:V<=4):5 ^ V*N<=625*N:=Nat.mul_le_mul_right _ (Nat.pow_le_pow_right (by decide) h)
theorem zEc (h:LPIs w X Y L p os rs bs) (hV:V<=4) (hE:E+1-V=Lin.given ch) (hVE:V<=E) (hc:∀ c,ch=some c->∀ i,Lin.Fits (32*(L+1)) (c i)) {D:Lin.Dict} (hD:PInv (prob1 V os rs bs) ch D) :
  (∀ i,Lin.Fits (625*(32*(L+1))) (D.dual (prob1 V os rs bs) i))/\Lin.Fits (625*(32*(L+1))) (D.c 0 V):=by
 have hf:=zBE h hE hc D hD;have hm:∀ j,j<=E->Lin.Fits (625*(32*(L+1))) (D.c 0 j):=fun j hj=>(hf.c j hj).mono (zJZ hV)
 refine ⟨fun i=>?_,hm V hVE⟩;by_cases he:∃ j,j<V/\D.free j=V+i
 ·obtain ⟨j,hj,e⟩:=he;rw [hD.1.dual_free (P:=prob1 V os rs bs) hj e];exact hm j (by omega)
 ·rw [Lin.zER (P:=prob1 V os rs bs) fun j hj e=>he ⟨j,hj,e⟩];exact Lin.Fits.zero _
open Lin
def PMax (P:Prob) (v:Rat):Prop:=(∃ x,P.Feasible x/\(sum P.n fun k=>P.O 0 k*x k)=v)/\∃ y,P.Dual y/\(sum P.m fun i=>y i*P.b i)=v
theorem zQK (hI:PInv P ch D) (hE:Ends P ch D 1) (hK:0<P.K):PMax P (D.c 0 P.n):=by
 obtain ⟨h1,h2,h3,_⟩:=ends1 hI hE hK;exact ⟨h2,_,h1,h3.symm⟩
def Lim (Q:Prob) (f:Rat->Rat) (o:Option Rat):Prop:=
 (∃ D,PInv Q none D/\Ends Q none D 1/\o=some (f (D.c 0 Q.n)))\/(o=none/\∃ D k,k ≠ 1/\PInv Q none D/\Ends Q none D k)
section
variable {P Q:Prob} {i:Nat} {a o:Nat->Rat} {b:Rat}
end
abbrev Box5 (W:World) (b:Nat) (v0 v1 v2 v3 v4:Value):Prop:=
 W.cell? b=some v0/\W.cell? ⟨b,1,none⟩=some v1/\W.cell? ⟨b,2,none⟩=some v2/\W.cell? ⟨b,3,none⟩=some v3/\W.cell? ⟨b,4,none⟩=some v4/\(∀ o,W.frozen? ⟨b,o,none⟩=false)
theorem Box5.below {v4:Value} (h:Box5 w b v0 v1 v2 v3 v4) (hb:Below B w w') (hlt:b<B):Box5 w' b v0 v1 v2 v3 v4:=
 ⟨by rw [hb.cell hlt]; exact h.1,by rw [hb.cell hlt]; exact h.2.1,by rw [hb.cell hlt]; exact h.2.2.1,by rw [hb.cell hlt]; exact h.2.2.2.1,by rw [hb.cell hlt]; exact h.2.2.2.2.1,fun o=>by rw [hb.frozen hlt]; exact h.2.2.2.2.2 o⟩
abbrev set5 (w:World) (b:Nat) (x0 x1 x2 x3 x4:Value):World:=((((w.setCell b x0).setCell ⟨b,1,none⟩ x1).setCell ⟨b,2,none⟩ x2).setCell ⟨b,3,none⟩ x3).setCell ⟨b,4,none⟩ x4
theorem Box5.stored {u4:Value} (h:Box5 w b u0 u1 u2 u3 u4) (x0 x1 x2 x3 x4:Value):Box5 (set5 w b x0 x1 x2 x3 x4) b x0 x1 x2 x3 x4:=by
 have s:∀ (w:World) (o o':Nat) (x:Value),o ≠ o'->(w.setCell ⟨b,o,none⟩ x).cell? ⟨b,o',none⟩=w.cell? ⟨b,o',none⟩:=fun w o o' x h=>World.cell?_setCell_other _ _ _ _ (by simp)
 obtain ⟨a0,a1,a2,a3,-⟩:=Box4.stored (w:=w) ⟨h.1,h.2.1,h.2.2.1,h.2.2.2.1,h.2.2.2.2.2⟩ x0 x1 x2 x3;refine ⟨by rw [s _ _ _ _ (by decide)]; exact a0,by rw [s _ _ _ _ (by decide)]; exact a1,by rw [s _ _ _ _ (by decide)]; exact a2,by rw [s _ _ _ _ (by decide)]; exact a3,?_,fun o=>by simp only [World.frozen?_setCell]; exact h.2.2.2.2.2 o⟩;exact World.cell?_setCell_same' _ _ _ (by rw [s _ _ _ _ (by decide),s _ _ _ _ (by decide),s _ _ _ _ (by decide),s _ _ _ _ (by decide),h.2.2.2.2.1]; rfl)
theorem QCan.set5 {v:QV} (h:QCan w (New B) v q) (hb:b<B):QCan (set5 w b x0 x1 x2 x3 x4) (New B) v q:=
 (h.set4 hb).set (p:=⟨b,4,none⟩) hb _
theorem zQ7 {a:World} (h:Below B a w) (hb:B<=b):Below B a (set5 w b x0 x1 x2 x3 x4):=
 (zAl h hb).setCell (p:=⟨b,4,none⟩) hb _
def limV (b:Bool) (v:QV):Value:=.agg #[.bool b,.bool v.num.ng,.slice v.num.A v.num.n v.num.c,.bool v.den.ng,.slice v.den.A v.den.n v.den.c]
def q0V:QV:=⟨⟨false,none,0,0⟩,⟨false,none,0,0⟩⟩
def LimIs (w:World) (X:Nat->Prop) (b:Bool) (v:QV) (o:Option Rat):Prop:=
 (o=none/\b=true/\v=q0V)\/∃ q,o=some q/\b=false/\QCan w X v q
def LimRet (B:Nat) (Q:Lin.Prob) (f:Rat->Rat) (e:Ending) (w':World):Prop:=
 ∃ b v o,e = .returned (limV b v)/\LimIs w' (New B) b v o/\Lim Q f o
theorem zRv {f:Rat->Rat} {fn:Nat} {caps:Array Value} (h:LPIs w X Y L p os rs bs) (hV:p.n=V) (hV2:V<=64) (ho1:1<=p.O.n) (ho2:p.O.n<=4) (hr:p.R.n<=128) (hb:p.B.n=p.R.n) (hco:colsOf os<=V) (hcr:colsOf rs<=V) (hL:L+1<=LM)
  (hfit:∀ D,PInv (prob1 V os rs bs) none D->PFits V rs.length V kb D) (hk:2*kb+1<=LM) (hcall:∀ (args:Array Value) (w:World),Sem.run Tryz.prog (callFunc fn args) w = .ok (.enter fn args) w)
  (ht:∀ W z q,Below w w W->QCan W (New w) z q->Lin.Fits kb q->Calls Tryz.prog fn (#[z.val]++caps) W fun e W'=>QRet W (f q) e W'/\Below W W W') :
  Calls Tryz.prog 111 #[p.val,.func (.func fn) #[] caps] w fun e w'=>LimRet w (prob1 V os rs bs) f e w'/\Below w w w':=by
 have HO:=hdq (fun W (hb':Below w w W)=>zEH (h.below hb') hV hV2 ho1 ho2 hr hb hco hcr hL hfit hk);have HT:=hdq ht;have HC:=hdq hcall;have HFit:=hdq hfit;clear h ht hcall hfit hL hk hco hcr ho1 ho2 hr;obtain ⟨n,O,R,⟨BA,Bn,Bc⟩⟩:=p;dsimp only at hV hb;subst hV hb;go_enter Tryz.func111,Tryz.ntmps111
 go_wp2_with fail
 refine zAg (fun W=>Below w w W/\Box4 W w (.int .i64 V) (.slice O.A O.n O.c) (.slice R.A R.n R.c) (.slice BA R.n Bc)/\Box5 W (w+1) (.bool false) (.bool false) (.slice none 0 0) (.bool false) (.slice none 0 0)/\w.heap.size<W.heap.size/\w.heap.size+1<W.heap.size) ⟨(az (az (brf _ _))),bx4,⟨by go_simp,by go_simp,by go_simp,by go_simp,by go_simp,by intro o; go_simp⟩,by simp <;> omega,by simp <;> omega⟩ ?_;rintro W ⟨hbW,bP,bR,s0,s1⟩;have hBW:=hbW.size;refine (HO.out W hbW).mono ?_;rintro e w1 ⟨hO,hb1⟩;have hb01:=hbW.trans (hb1.mono hBW);have bR1:=bR.below hb1 s1;have s11:w.heap.size+1<w1.heap.size:=ltl s1 hb1.size;have none_end:∀ {e:Nat} (D:Lin.Dict),PInv (prob1 V os rs bs) none D->Ends (prob1 V os rs bs) none D e->e ≠ 1->∀ W':World,LimRet w (prob1 V os rs bs) f (.returned (limV true q0V)) W':=fun D h1 h2 h3 W'=>⟨true,q0V,none,rfl,.inl ⟨rfl,rfl,rfl⟩,.inr ⟨rfl,D,_,h3,h1,h2⟩⟩
 rcases hO with ⟨D,z,hI,hE,rfl,hz⟩ | ⟨D,hI,hE,rfl⟩ | ⟨D,hI,hE,rfl⟩
 ·have hf:=(HFit.out D hI).c V (nlr _);have hcall:=HC.out;have HF:=hdq hf;have HI:=hdq hI;have HE:=hdq hE;clear hf hI hE bP bR hb1 none_end;go_wp2_with fail
  refine (HT.out _ z _ (hb01.alloc (by omega) _) ((hz.below (bal)).lower hBW) HF.out).mono ?_;rintro e w2 ⟨⟨z2,rfl,hz2⟩,hb2⟩;have bR2:=bR1.below ((bal).trans (hb2.mono (by simp))) s11;have hb02:=(hb01.alloc (Nat.le_of_lt (Nat.lt_of_succ_lt s11)) _).trans (hb2.mono (by simp; omega));have HZ:Hid (QCan w2 (New (w+1+1)) z2 (f (D.c 0 V))):=hdq (hz2.lower (by simp; omega));clear hb2 hz2 hz hb01 bR1 hcall;obtain ⟨v0,v1,v2,v3,v4,-⟩:=bR2.stored (.bool false) (.bool z2.num.ng) (.slice z2.num.A z2.num.n z2.num.c) (.bool z2.den.ng) (.slice z2.den.A z2.den.n z2.den.c);have HB:=hdq (zQ7 (x0:=.bool false) (x1:=.bool z2.num.ng) (x2:=.slice z2.num.A z2.num.n z2.num.c) (x3:=.bool z2.den.ng) (x4:=.slice z2.den.A z2.den.n z2.den.c) (b:=w+1) hb02 (by omega));have hq5:=HZ.out.set5 (b:=w+1) (x0:=.bool false) (x1:=.bool z2.num.ng) (x2:=.slice z2.num.A z2.num.n z2.num.c) (x3:=.bool z2.den.ng) (x4:=.slice z2.den.A z2.den.n z2.den.c) (by omega);have HQ:=hdq (hq5.lower (show w.heap.size<=_ by omega));clear hq5;clear hb02;go_wp2;exact bodyPost_ret (v:=limV false z2) (by simp [results,Tryz.results111,go_sem,v0,v1,v2,v3,v4,limV]) rfl ⟨⟨false,z2,_,rfl,.inr ⟨_,rfl,rfl,HQ.out⟩,.inl ⟨D,HI.out,HE.out,rfl⟩⟩,HB.out⟩
 ·have HN:=hdq (none_end D hI hE (by decide));clear none_end hI hE hb1 bP bR;obtain ⟨v0,v1,v2,v3,v4,-⟩:=(bR1.stored (.bool true) (.bool false) (.slice none 0 0) (.bool false) (.slice none 0 0)).below ((brf _ _).alloc (nlr _) (.cells #[.bool false,.slice none 0 0,.bool false,.slice none 0 0] 30)) (by simp; omega);have HB:=hdq ((zQ7 (x0:=.bool true) (x1:=.bool false) (x2:=.slice none 0 0) (x3:=.bool false) (x4:=.slice none 0 0) (b:=w+1) hb01 (by omega)).alloc (by simp; omega) (.cells #[.bool false,.slice none 0 0,.bool false,.slice none 0 0] 30));clear hb01;go_wp2;try rw [Exit.noGoto_ret]
  exact bodyPost_ret (v:=limV true q0V) (by simp [results,Tryz.results111,go_sem,v0,v1,v2,v3,v4,limV,q0V]) rfl ⟨HN.out _,HB.out⟩
 ·have HN:=hdq (none_end D hI hE (by decide));clear none_end hI hE hb1 bP bR;obtain ⟨v0,v1,v2,v3,v4,-⟩:=(bR1.stored (.bool true) (.bool false) (.slice none 0 0) (.bool false) (.slice none 0 0)).below ((brf _ _).alloc (nlr _) (.cells #[.bool false,.slice none 0 0,.bool false,.slice none 0 0] 30)) (by simp; omega);have HB:=hdq ((zQ7 (x0:=.bool true) (x1:=.bool false) (x2:=.slice none 0 0) (x3:=.bool false) (x4:=.slice none 0 0) (b:=w+1) hb01 (by omega)).alloc (by simp; omega) (.cells #[.bool false,.slice none 0 0,.bool false,.slice none 0 0] 30));clear hb01;go_wp2;try rw [Exit.noGoto_ret]
  exact bodyPost_ret (v:=limV true q0V) (by simp [results,Tryz.results111,go_sem,v0,v1,v2,v3,v4,limV,q0V]) rfl ⟨HN.out _,HB.out⟩
end Go.Proofs.YtbpngececjihlaaGreat
