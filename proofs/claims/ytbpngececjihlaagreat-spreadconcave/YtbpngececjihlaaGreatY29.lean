/- Texts Feas PrK PrL PrT SpA SpB of this claim. -/
import Derived.Test.YtbpngececjihlaaGreatY28
set_option maxHeartbeats 4000000
set_option maxRecDepth 40000
namespace Go.Proofs.YtbpngececjihlaaGreat
open Go.RowKit Go.Shelf
attribute [local go_sem] Oper.semAt_some
end Go.Proofs.YtbpngececjihlaaGreat
namespace Go.Proofs.YtbpngececjihlaaGreat
open Go.RowKit Go.Shelf
attribute [local go_sem] Oper.semAt_some
end Go.Proofs.YtbpngececjihlaaGreat
namespace Go.Proofs.YtbpngececjihlaaGreat
open Go.RowKit Go.Shelf
variable {q:Rat} {L M V N E i B b kb:Nat} {X Y:Nat->Prop} {w w':World} {ch:Option (Nat->Rat)} {bs:List Rat} {os rs:List (List Rat)} {p:LPV} {D:Lin.Dict} {P Q:Lin.Prob} {v0 v1 v2 v3 u0 u1 u2 u3 x0 x1 x2 x3 x4:Value}
theorem zFY {a b:QV} {p:Rat} (ha:QIs w X L a p) (hb:QIs w Y M b q) (hL:L<=LM) (hM:M<=LM) :
  Calls Tryz.prog 17 #[a.val,b.val] w fun e w'=>e = .returned (.bool (decide (p=q)))/\Below w w w':=by
 have HL:=hdq hL;have HM:=hdq hM;clear hL hM;go_enter Tryz.func17,Tryz.ntmps17
 go_wp2_with fail
 refine zAg (fun W=>Below w w W/\Box4 W w (.bool a.num.ng) (.slice a.num.A a.num.n a.num.c) (.bool a.den.ng) (.slice a.den.A a.den.n a.den.c)/\Box4 W (w+1) (.bool b.num.ng) (.slice b.num.A b.num.n b.num.c) (.bool b.den.ng) (.slice b.den.A b.den.n b.den.c)/\w.heap.size<W.heap.size/\w.heap.size+1<W.heap.size) ⟨(az (az (brf _ _))),bx4,bx4,by simp <;> omega,by simp <;> omega⟩ ?_;rintro W ⟨hbW,bA,bB,s0,s1⟩;have hBW:=hbW.size;refine (zBg (ha.below hbW) (hb.below hbW) HL.out HM.out).mono ?_; rintro e w1 ⟨rfl,hb1⟩
 have HB:=hdq (hbW.trans (hb1.mono hBW))
 have HE:Hid ((qcmp p q == 0)=decide (p=q)):=by
  show _=_;rw [Bool.eq_iff_iff,beq_iff_eq,decide_eq_true_iff];unfold qcmp
  split
  ·rename_i h; exact ⟨fun h=>by omega,fun e=>by subst e; exact absurd h (Rat.lt_irrefl)⟩
  ·split
   ·rename_i h; exact ⟨fun _=>h,fun _=>rfl⟩
   ·rename_i h; exact ⟨fun h=>by omega,fun e=>absurd e h⟩
 clear hb1 hbW hBW bA bB s0 s1 ha hb;go_wp2;go_ret;exact ⟨by rw [<-HE.out]; rfl,HB.out⟩
def PValid (P:Lin.Prob) (y:Nat->Rat):Prop:=P.Dual y/\∃ x,P.Feasible x/\(Lin.sum P.n fun k=>P.O 0 k*x k)=Lin.sum P.m fun i=>y i*P.b i
theorem zD4 (m i:Nat) (z:Nat->Rat) (hi:i<m):(Lin.sum m fun j=>z j*Lin.unit i j)=z i:=by
 induction m with
 | zero=>omega
 | succ m ih=>
  show (Lin.sum m fun j=>z j*Lin.unit i j)+z m*Lin.unit i m=z i;by_cases h:i=m
  ·subst h;rw [Lin.zAC (fun j hj=>by unfold Lin.unit; rw [if_neg (by omega)]; grind)];unfold Lin.unit;rw [if_pos rfl]; grind
  ·rw [ih (by omega)];unfold Lin.unit;rw [if_neg (by omega)]; grind
section
variable {P:Lin.Prob} {ch:Option (Nat->Rat)} {D:Lin.Dict}
theorem ends1 (hI:PInv P ch D) (hE:Ends P ch D 1) (hK:0<P.K) :
  P.Dual (D.dual P)/\(∃ x,P.Feasible x/\(Lin.sum P.n fun k=>P.O 0 k*x k)=D.c 0 P.n)/\D.c 0 P.n=(Lin.sum P.m fun i=>D.dual P i*P.b i)/\
  ∀ z,P.Dual z->Lin.LexNN (Lin.given ch+P.m) fun k=>(Lin.sum P.m fun i=>z i*Lin.levels P ch k i)-Lin.sum P.m fun i=>D.dual P i*Lin.levels P ch k i:=by
 have G:=hI.1;rcases hE with ⟨h,_⟩ | ⟨_,hF,hc⟩ | ⟨h,_⟩
 ·omega
 ·obtain ⟨hfe,hobj⟩:=G.attained hK (hF.feas G);exact ⟨G.dual_ok hK hc,⟨_,hfe,hobj⟩,G.value_dual hK,fun z hz=>G.dual_least hK (fun i hi=>.inr (hF i hi)) hz⟩
 ·omega
theorem ends2 (hI:PInv P none D) (hE:Ends P none D 2) (x:Nat->Rat):¬ P.Feasible x:=by
 rcases hE with ⟨_,h⟩ | ⟨h,_⟩ | ⟨h,_⟩
 ·exact Lin.zJI hI.1 h x
 ·omega
 ·omega
theorem ends3 (hI:PInv P ch D) (hE:Ends P ch D 3) (hK:0<P.K) (y:Nat->Rat):¬ P.Dual y:=by
 rcases hE with ⟨h,_⟩ | ⟨h,_⟩ | ⟨_,_,s,hs,hc,h⟩
 ·omega
 ·omega
 ·exact hI.1.no_dual hK hs hc h y
theorem zA5 (hI:PInv P ch D) (hE:Ends P ch D 1) (hK:0<P.K):PValid P (D.dual P):=by
 obtain ⟨h1,⟨x,hx,e⟩,h3,_⟩:=ends1 hI hE hK;exact ⟨h1,x,hx,e.trans h3⟩
theorem zBW {y z:Nat->Rat} (h:PValid P y) (k:PValid P z):(Lin.sum P.m fun i=>y i*P.b i)=Lin.sum P.m fun i=>z i*P.b i:=by
 obtain ⟨hy,x,hx,e⟩:=h;obtain ⟨hz,x',hx',e'⟩:=k;have h1:=Lin.weak hx hz;have h2:=Lin.weak hx' hy;grind
theorem zII (hI:PInv P none D) (hE:Ends P none D 1) (hK:0<P.K) {z:Nat->Rat} (hz:PValid P z):(∀ i,i<P.m->D.dual P i=z i)\/∃ i,i<P.m/\D.dual P i<z i/\∀ j,j<i->D.dual P j=z j:=by
 have h:=(ends1 hI hE hK).2.2.2 z hz.1;have h0:=zBW hz (zA5 hI hE hK)
 have hu:∀ (i:Nat) (y:Nat->Rat),i<P.m->(Lin.sum P.m fun j=>y j*Lin.levels P none (i+1) j)=y i:=fun i y hi=>by
  rw [<-zD4 P.m i y hi];exact Lin.zAh fun j _=>by simp only [Lin.levels,Nat.add_sub_cancel,if_neg (Nat.succ_ne_zero i)]
 rcases h with h | ⟨k,hk,hp,hzr⟩
 ·refine .inl fun i hi=>?_
  have:=h (i+1) (by simp [Lin.given]; omega);simp only [hu i _ hi] at this;grind
 ·cases k with
  | zero=>simp only [Lin.zBp] at hp; exfalso; grind
  | succ k=>
   have hk':k<P.m:=by simp [Lin.given] at hk; omega
   refine .inr ⟨k,hk',?_,fun j hj=>?_⟩
   ·simp only [hu k _ hk'] at hp; grind
   ·have:=hzr (j+1) (by omega);simp only [hu j _ (by omega)] at this;grind
end
theorem zJZ (h:V<=4):5 ^ V*N<=625*N:=Nat.mul_le_mul_right _ (Nat.pow_le_pow_right (by decide) h)
theorem zEc (h:LPIs w X Y L p os rs bs) (hV:V<=4) (hE:E+1-V=Lin.given ch) (hVE:V<=E) (hc:∀ c,ch=some c->∀ i,Lin.Fits (32*(L+1)) (c i)) {D:Lin.Dict} (hD:PInv (prob1 V os rs bs) ch D) :
  (∀ i,Lin.Fits (625*(32*(L+1))) (D.dual (prob1 V os rs bs) i))/\Lin.Fits (625*(32*(L+1))) (D.c 0 V):=by
 have hf:=zBE h hE hc D hD;have hm:∀ j,j<=E->Lin.Fits (625*(32*(L+1))) (D.c 0 j):=fun j hj=>(hf.c j hj).mono (zJZ hV)
 refine ⟨fun i=>?_,hm V hVE⟩;by_cases he:∃ j,j<V/\D.free j=V+i
 ·obtain ⟨j,hj,e⟩:=he;rw [hD.1.dual_free (P:=prob1 V os rs bs) hj e];exact hm j (by omega)
 ·rw [Lin.zER (P:=prob1 V os rs bs) fun j hj e=>he ⟨j,hj,e⟩];exact Lin.Fits.zero _
open Lin
def PMax (P:Prob) (v:Rat):Prop:=(∃ x,P.Feasible x/\(sum P.n fun k=>P.O 0 k*x k)=v)/\∃ y,P.Dual y/\(sum P.m fun i=>y i*P.b i)=v
theorem zQK (hI:PInv P ch D) (hE:Ends P ch D 1) (hK:0<P.K):PMax P (D.c 0 P.n):=by
 obtain ⟨h1,h2,h3,_⟩:=ends1 hI hE hK;exact ⟨h2,_,h1,h3.symm⟩
theorem PMax.le {v:Rat} (h:PMax P v) {x:Nat->Rat} (hx:P.Feasible x):(sum P.n fun k=>P.O 0 k*x k)<=v:=by
 obtain ⟨_,y,hy,e⟩:=h;rw [<-e]; exact weak hx hy
def bump (P:Prob) (i:Nat) (s:Rat) (j:Nat):Rat:=P.b j+if j=i then s else 0
theorem zS0 {b1 b2 b3:Nat->Rat} {v1 v2 v3:Rat} (h1:PMax (P.re b1) v1) (h2:PMax (P.re b2) v2) (h3:PMax (P.re b3) v3) (hb:∀ j,j<P.m->b1 j+b2 j<=b3 j+b3 j):v1+v2<=v3+v3:=by
 obtain ⟨⟨x1,f1,e1⟩,_⟩:=h1;obtain ⟨⟨x2,f2,e2⟩,_⟩:=h2
 have hx:(P.re b3).Feasible fun k=>(x1 k+x2 k) / 2:=by
  refine ⟨fun k hk=>?_,fun j hj=>?_⟩
  ·have:=f1.1 k hk; have:=f2.1 k hk; grind
  ·have g1:(sum P.n fun k=>P.A j k*x1 k)<=b1 j:=f1.2 j hj;have g2:(sum P.n fun k=>P.A j k*x2 k)<=b2 j:=f2.2 j hj;show (sum P.n fun k=>P.A j k*((x1 k+x2 k) / 2))<=b3 j;rw [zAh (g:=fun k=>1 / 2*(P.A j k*x1 k)+1 / 2*(P.A j k*x2 k)) (fun k _=>by grind),zCb,zBK,zBK];have:=hb j hj;grind
 have:=h3.le hx
 have e:(sum P.n fun k=>P.O 0 k*((x1 k+x2 k) / 2))=1 / 2*v1+1 / 2*v2:=by
  rw [zAh (g:=fun k=>1 / 2*(P.O 0 k*x1 k)+1 / 2*(P.O 0 k*x2 k)) (fun k _=>by grind),zCb,zBK,zBK];rw [<-e1,<-e2]; rfl
 have h:(sum P.n fun k=>P.O 0 k*((x1 k+x2 k) / 2))<=v3:=this;grind
theorem zTb {b1 b2:Nat->Rat} {v1 v2:Rat} (h1:PMax (P.re b1) v1) (h2:PMax (P.re b2) v2) (hb:∀ j,j<P.m->b1 j<=b2 j):v1<=v2:=by
 obtain ⟨⟨x1,f1,e1⟩,_⟩:=h1;rw [<-e1];exact h2.le (x:=x1) ⟨f1.1,fun j hj=>Rat.le_trans (f1.2 j hj) (hb j hj)⟩
theorem zTa {s v1:Rat} {y:Nat->Rat} (hi:i<P.m) (hy:P.Dual y) (h1:PMax (P.re (bump P i s)) v1):v1<=(sum P.m fun j=>y j*P.b j)+s*y i:=by
 obtain ⟨⟨x,f,e⟩,_⟩:=h1;have h:(sum P.n fun k=>P.O 0 k*x k)<=sum P.m fun j=>y j*bump P i s j:=weak (P:=P.re (bump P i s)) f hy
 have e2:(sum P.m fun j=>y j*bump P i s j)=(sum P.m fun j=>y j*P.b j)+s*y i:=by
  rw [zAh (g:=fun j=>y j*P.b j+s*(y j*unit i j)) (fun j _=>by unfold bump unit; split <;> grind),zCb,zBK,zD4 _ _ _ hi]
 rw [<-e,<-e2]; exact h
theorem grows (hI:PInv P none D) (hE:Ends P none D 3) (hK:P.K=1) (r:Rat):∃ z,P.Feasible z/\r<=sum P.n fun k=>P.O 0 k*z k:=by
 have G:=hI.1;rcases hE with ⟨h,_⟩ | ⟨h,_⟩ | ⟨_,hF,s,hs,hc,hn⟩
 ·omega
 ·omega
 ·have hU:=zLG G (hF.feas G) hs ⟨0,by omega,by show D.cost P 0 s<0; unfold Dict.cost; rw [if_pos (by omega)]; exact hc,fun j hj=>absurd hj (Nat.not_lt_zero j)⟩ hn;obtain ⟨hx,hd,-,j,hj,hp,-⟩:=id hU;obtain rfl:j=0:=by omega
  simp only at hp;generalize hc0:(sum P.n fun k=>P.O 0 k*D.dir P s k)=c at *;by_cases h:r<=sum P.n fun k=>P.O 0 k*D.point P k
  ·exact ⟨_,hx,h⟩
  ·have ht:0<=(r-sum P.n fun k=>P.O 0 k*D.point P k)*c⁻¹:=mul_nonneg (by grind) (Rat.le_of_lt (inv_pos hp));refine ⟨_,hU.move hx ht,?_⟩;rw [zLo,hc0]
   have:(r-sum P.n fun k=>P.O 0 k*D.point P k)*c⁻¹*c=r-sum P.n fun k=>P.O 0 k*D.point P k:=by
    rw [Rat.mul_assoc,Rat.inv_mul_cancel _ (by grind)]; grind
   grind
def Lim (Q:Prob) (f:Rat->Rat) (o:Option Rat):Prop:=
 (∃ D,PInv Q none D/\Ends Q none D 1/\o=some (f (D.c 0 Q.n)))\/(o=none/\∃ D k,k ≠ 1/\PInv Q none D/\Ends Q none D k)
theorem Lim.reach {f:Rat->Rat} {o:Option Rat} (h:Lim Q f o) (hK:Q.K=1) {x:Nat->Rat} (hx:Q.Feasible x) :
  (∃ z,Q.Feasible z/\o=some (f (sum Q.n fun k=>Q.O 0 k*z k)))\/(o=none/\∀ r,∃ z,Q.Feasible z/\r<=sum Q.n fun k=>Q.O 0 k*z k):=by
 rcases h with ⟨D,hI,hE,e⟩ | ⟨e,D,k,hk,hI,hE⟩
 ·obtain ⟨⟨z,hz,ez⟩,_⟩:=zQK hI hE (by omega);exact .inl ⟨z,hz,by rw [ez]; exact e⟩
 ·refine .inr ⟨e,fun r=>?_⟩;rcases hE.cases with rfl | rfl | rfl
  ·exact absurd rfl hk
  ·exact absurd hx (ends2 hI hE x)
  ·exact grows hI hE hK r
structure Repl (P Q:Prob) (i:Nat) (a:Nat->Rat) (b:Rat) (o:Nat->Rat):Prop where
 n:Q.n=P.n
 m:Q.m=P.m
 K:Q.K=1
 A:∀ j,j<P.m->j ≠ i->∀ k,k<P.n->Q.A j k=P.A j k
 bs:∀ j,j<P.m->j ≠ i->Q.b j=P.b j
 Ai:∀ k,k<P.n->Q.A i k=a k
 bi:Q.b i=b
 O:∀ k,k<P.n->Q.O 0 k=o k
section
variable {P Q:Prob} {i:Nat} {a o:Nat->Rat} {b:Rat}
theorem Repl.feas (h:Repl P Q i a b o) (hi:i<P.m) {x:Nat->Rat}:Q.Feasible x ↔ (∀ k,k<P.n->0<=x k)/\(∀ j,j<P.m->j ≠ i->(sum P.n fun k=>P.A j k*x k)<=P.b j)/\(sum P.n fun k=>a k*x k)<=b:=by
 unfold Prob.Feasible;rw [h.n,h.m];have e1:∀ j,j<P.m->j ≠ i->(sum P.n fun k=>Q.A j k*x k)=sum P.n fun k=>P.A j k*x k:=fun j hj hne=>zAh fun k hk=>by rw [h.A j hj hne k hk]
 have e2:(sum P.n fun k=>Q.A i k*x k)=sum P.n fun k=>a k*x k:=zAh fun k hk=>by rw [h.Ai k hk]
 constructor
 ·rintro ⟨h1,h2⟩;refine ⟨h1,fun j hj hne=>?_,?_⟩
  ·rw [<-e1 j hj hne,<-h.bs j hj hne]; exact h2 j hj
  ·rw [<-e2,<-h.bi]; exact h2 i hi
 ·rintro ⟨h1,h2,h3⟩;refine ⟨h1,fun j hj=>?_⟩;by_cases e:j=i
  ·subst e; rw [e2,h.bi]; exact h3
  ·rw [e1 j hj e,h.bs j hj e]; exact h2 j hj e
theorem Repl.obj (h:Repl P Q i a b o) (x:Nat->Rat):(sum Q.n fun k=>Q.O 0 k*x k)=sum P.n fun k=>o k*x k:=by
 rw [h.n]; exact zAh fun k hk=>by rw [h.O k hk]
end
theorem zST (n:Nat) (f x:Nat->Rat):(sum n fun k=>- f k*x k)=- sum n fun k=>f k*x k:=by
 rw [<-zFC]; exact zAh fun k _=>by grind
theorem zSU (n:Nat) (t:Rat) (f x:Nat->Rat):(sum n fun k=>t*f k*x k)=t*sum n fun k=>f k*x k:=by
 rw [<-zBK]; exact zAh fun k _=>by grind
theorem zSZ {s:Rat} (hi:i<P.m) {x:Nat->Rat} (h0:∀ k,k<P.n->0<=x k) (h1:∀ j,j<P.m->j ≠ i->(sum P.n fun k=>P.A j k*x k)<=P.b j) (h2:(sum P.n fun k=>P.A i k*x k)<=P.b i+s):(P.re (bump P i s)).Feasible x:=by
 refine ⟨h0,fun j hj=>?_⟩;show (sum P.n fun k=>P.A j k*x k)<=bump P i s j;unfold bump;by_cases e:j=i
 ·subst e; rw [if_pos rfl]; exact h2
 ·rw [if_neg e]; have:=h1 j hj e; grind
theorem zS9 {v s:Rat} {lo:Option Rat} (hi:i<P.m) (hQ:Repl P Q i (fun k=>- P.O 0 k) (-v) fun k=>- P.A i k) (hv:PMax P v) (hl:Lim Q (fun t=>-(t+P.b i)) lo) (hs:∀ l,lo=some l->l<=s) :
  ∃ x,(P.re (bump P i s)).Feasible x/\v<=sum P.n fun k=>P.O 0 k*x k:=by
 obtain ⟨⟨x0,f0,e0⟩,_⟩:=hv;have hx0:Q.Feasible x0:=(hQ.feas hi).2 ⟨f0.1,fun j hj _=>f0.2 j hj,by rw [zST,e0]; exact Rat.le_refl⟩
 have key:∀ z,Q.Feasible z->(sum P.n fun k=>P.A i k*z k)<=P.b i+s->∃ x,(P.re (bump P i s)).Feasible x/\v<=sum P.n fun k=>P.O 0 k*x k:=fun z hz hle=>by
  obtain ⟨g1,g2,g3⟩:=(hQ.feas hi).1 hz;rw [zST] at g3;exact ⟨z,zSZ hi g1 g2 hle,by grind⟩
 rcases hl.reach hQ.K hx0 with ⟨z,hz,e⟩ | ⟨_,h⟩
 ·have:=hs _ e;rw [hQ.obj,zST] at this;exact key z hz (by grind)
 ·obtain ⟨z,hz,hr⟩:=h (-(P.b i+s));rw [hQ.obj,zST] at hr;exact key z hz (by grind)
theorem zS7 {R:Prob} {v s d:Rat} {lo up:Option Rat} (hi:i<P.m) (hd:0<d) (hQ:Repl P Q i (fun k=>P.A i k-d⁻¹*P.O 0 k) (P.b i-d⁻¹*v) fun k=>- (d⁻¹*P.O 0 k)) (hR:Repl P R i (fun k=>P.A i k-d⁻¹*P.O 0 k) (P.b i-d⁻¹*v) fun k=>d⁻¹*P.O 0 k) (hv:PMax P v)
  (hact:∀ x,P.Feasible x->(sum P.n fun k=>P.O 0 k*x k)=v->(sum P.n fun k=>P.A i k*x k)=P.b i)
  (hl:Lim Q (fun t=>-(t+d⁻¹*v)) lo) (hu:Lim R (fun t=>t-d⁻¹*v) up) (hs1:∀ l,lo=some l->l<=s) (hs2:∀ u,up=some u->s<=u) :
  ∃ x,(P.re (bump P i s)).Feasible x/\v+s*d<=sum P.n fun k=>P.O 0 k*x k:=by
 obtain ⟨⟨x0,f0,e0⟩,_⟩:=hv
 have ea:∀ x:Nat->Rat,(sum P.n fun k=>(P.A i k-d⁻¹*P.O 0 k)*x k)=(sum P.n fun k=>P.A i k*x k)-d⁻¹*sum P.n fun k=>P.O 0 k*x k:=fun x=>by
  rw [zAh (g:=fun k=>P.A i k*x k-d⁻¹*P.O 0 k*x k) (fun k _=>by grind),zFD,zSU]
 have hx0:Q.Feasible x0:=(hQ.feas hi).2 ⟨f0.1,fun j hj _=>f0.2 j hj,by rw [ea,e0,hact x0 f0 e0]; exact Rat.le_refl⟩;have hx0':R.Feasible x0:=(hR.feas hi).2 ((hQ.feas hi).1 hx0)
 have h1:∃ z,Q.Feasible z/\d⁻¹*(sum P.n fun k=>P.O 0 k*z k)<=d⁻¹*v+s:=by
  rcases hl.reach hQ.K hx0 with ⟨z,hz,e⟩ | ⟨_,h⟩
  ·have:=hs1 _ e;rw [hQ.obj,zST,zSU] at this;exact ⟨z,hz,by grind⟩
  ·obtain ⟨z,hz,hr⟩:=h (-(d⁻¹*v+s));rw [hQ.obj,zST,zSU] at hr;exact ⟨z,hz,by grind⟩
 have h2:∃ z,Q.Feasible z/\d⁻¹*v+s<=d⁻¹*(sum P.n fun k=>P.O 0 k*z k):=by
  rcases hu.reach hR.K hx0' with ⟨z,hz,e⟩ | ⟨_,h⟩
  ·have:=hs2 _ e;rw [hR.obj,zSU] at this;exact ⟨z,(hQ.feas hi).2 ((hR.feas hi).1 hz),by grind⟩
  ·obtain ⟨z,hz,hr⟩:=h (d⁻¹*v+s);rw [hR.obj,zSU] at hr;exact ⟨z,(hQ.feas hi).2 ((hR.feas hi).1 hz),hr⟩
 obtain ⟨z1,q1,l1⟩:=h1;obtain ⟨z2,q2,l2⟩:=h2;obtain ⟨a1,a2,a3⟩:=(hQ.feas hi).1 q1;obtain ⟨c1,c2,c3⟩:=(hQ.feas hi).1 q2;rw [ea] at a3 c3
 obtain ⟨t,t0,t1,ht⟩:∃ t:Rat,0<=t/\t<=1/\(1-t)*(d⁻¹*sum P.n fun k=>P.O 0 k*z1 k)+t*(d⁻¹*sum P.n fun k=>P.O 0 k*z2 k)=d⁻¹*v+s:=by
  generalize (d⁻¹*sum P.n fun k=>P.O 0 k*z1 k)=p at *;generalize (d⁻¹*sum P.n fun k=>P.O 0 k*z2 k)=q at *;generalize d⁻¹*v+s=r at *;by_cases h:p=q
  ·exact ⟨0,by grind,by grind,by grind⟩
  ·have hp:0<q-p:=(by grind);have hi:=inv_pos hp;refine ⟨(r-p)*(q-p)⁻¹,mul_nonneg (by grind) (Rat.le_of_lt hi),?_,?_⟩
   ·have h1:=mul_nonneg (show 0<=q-r by grind) (Rat.le_of_lt hi);have h2:(q-p)*(q-p)⁻¹=1:=Rat.mul_inv_cancel _ (by grind);grind
   ·have h2:(q-p)*(q-p)⁻¹=1:=Rat.mul_inv_cancel _ (by grind);grind
 have es:∀ f:Nat->Rat,(sum P.n fun k=>f k*((1-t)*z1 k+t*z2 k))=(1-t)*(sum P.n fun k=>f k*z1 k)+t*sum P.n fun k=>f k*z2 k:=fun f=>by
  rw [zAh (g:=fun k=>(1-t)*(f k*z1 k)+t*(f k*z2 k)) (fun k _=>by grind),zCb,zBK,zBK]
 have s0:0<=1-t:=by grind
 have conv:∀ p q r:Rat,p<=r->q<=r->(1-t)*p+t*q<=r:=fun p q r h1 h2=>by
  have g1:=mul_nonneg s0 (show 0<=r-p by grind);have g2:=mul_nonneg t0 (show 0<=r-q by grind);grind
 have hob:(sum P.n fun k=>P.O 0 k*((1-t)*z1 k+t*z2 k))=v+s*d:=by
  rw [es];have hdd:d*d⁻¹=1:=Rat.mul_inv_cancel _ (by grind);grind
 refine ⟨fun k=>(1-t)*z1 k+t*z2 k,zSZ hi (fun k hk=>?_) (fun j hj hne=>?_) ?_,by rw [hob]; exact Rat.le_refl⟩
 ·have g1:=mul_nonneg s0 (a1 k hk);have g2:=mul_nonneg t0 (c1 k hk);grind
 ·rw [es]; exact conv _ _ _ (a2 j hj hne) (c2 j hj hne)
 ·rw [es];have g:=conv _ _ _ a3 c3
  grind
abbrev Box5 (W:World) (b:Nat) (v0 v1 v2 v3 v4:Value):Prop:=
 W.cell? b=some v0/\W.cell? ⟨b,1,none⟩=some v1/\W.cell? ⟨b,2,none⟩=some v2/\W.cell? ⟨b,3,none⟩=some v3/\W.cell? ⟨b,4,none⟩=some v4/\(∀ o,W.frozen? ⟨b,o,none⟩=false)
theorem Box5.below {v4:Value} (h:Box5 w b v0 v1 v2 v3 v4) (hb:Below B w w') (hlt:b<B):Box5 w' b v0 v1 v2 v3 v4:=
 ⟨by rw [hb.cell hlt]; exact h.1,by rw [hb.cell hlt]; exact h.2.1,by rw [hb.cell hlt]; exact h.2.2.1,by rw [hb.cell hlt]; exact h.2.2.2.1,by rw [hb.cell hlt]; exact h.2.2.2.2.1,fun o=>by rw [hb.frozen hlt]; exact h.2.2.2.2.2 o⟩
abbrev set5 (w:World) (b:Nat) (x0 x1 x2 x3 x4:Value):World:=((((w.setCell b x0).setCell ⟨b,1,none⟩ x1).setCell ⟨b,2,none⟩ x2).setCell ⟨b,3,none⟩ x3).setCell ⟨b,4,none⟩ x4
theorem Box5.stored {u4:Value} (h:Box5 w b u0 u1 u2 u3 u4) (x0 x1 x2 x3 x4:Value):Box5 (set5 w b x0 x1 x2 x3 x4) b x0 x1 x2 x3 x4:=by
 have s:∀ (w:World) (o o':Nat) (x:Value),o ≠ o'->(w.setCell ⟨b,o,none⟩ x).cell? ⟨b,o',none⟩=w.cell? ⟨b,o',none⟩:=fun w o o' x h=>World.cell?_setCell_other _ _ _ _ (by simp)
 obtain ⟨a0,a1,a2,a3,-⟩:=Box4.stored (w:=w) ⟨h.1,h.2.1,h.2.2.1,h.2.2.2.1,h.2.2.2.2.2⟩ x0 x1 x2 x3;refine ⟨by rw [s _ _ _ _ (by decide)]; exact a0,by rw [s _ _ _ _ (by decide)]; exact a1,by rw [s _ _ _ _ (by decide)]; exact a2,by rw [s _ _ _ _ (by decide)]; exact a3,?_,fun o=>by simp only [World.frozen?_setCell]; exact h.2.2.2.2.2 o⟩;exact World.cell?_setCell_same' _ _ _ (by rw [s _ _ _ _ (by decide),s _ _ _ _ (by decide),s _ _ _ _ (by decide),s _ _ _ _ (by decide),h.2.2.2.2.1]; rfl)
theorem QCan.set5 {v:QV} (h:QCan w (New B) v q) (hb:b<B):QCan (set5 w b x0 x1 x2 x3 x4) (New B) v q:=
 (h.set4 hb).set (p:=⟨b,4,none⟩) hb _
theorem zQ7 {a:World} (h:Below B a w) (hb:B<=b):Below B a (set5 w b x0 x1 x2 x3 x4):=
 (zAl h hb).setCell (p:=⟨b,4,none⟩) hb _
def limV (b:Bool) (v:QV):Value:=.agg #[.bool b,.bool v.num.ng,.slice v.num.A v.num.n v.num.c,.bool v.den.ng,.slice v.den.A v.den.n v.den.c]
def q0V:QV:=⟨⟨false,none,0,0⟩,⟨false,none,0,0⟩⟩
def LimIs (w:World) (X:Nat->Prop) (b:Bool) (v:QV) (o:Option Rat):Prop:=
 (o=none/\b=true/\v=q0V)\/∃ q,o=some q/\b=false/\QCan w X v q
def LimRet (B:Nat) (Q:Lin.Prob) (f:Rat->Rat) (e:Ending) (w':World):Prop:=
 ∃ b v o,e = .returned (limV b v)/\LimIs w' (New B) b v o/\Lim Q f o
theorem zRv {f:Rat->Rat} {fn:Nat} {caps:Array Value} (h:LPIs w X Y L p os rs bs) (hV:p.n=V) (hV2:V<=64) (ho1:1<=p.O.n) (ho2:p.O.n<=4) (hr:p.R.n<=128) (hb:p.B.n=p.R.n) (hco:colsOf os<=V) (hcr:colsOf rs<=V) (hL:L+1<=LM)
  (hfit:∀ D,PInv (prob1 V os rs bs) none D->PFits V rs.length V kb D) (hk:2*kb+1<=LM) (hcall:∀ (args:Array Value) (w:World),Sem.run Tryz.prog (callFunc fn args) w = .ok (.enter fn args) w)
  (ht:∀ W z q,Below w w W->QCan W (New w) z q->Lin.Fits kb q->Calls Tryz.prog fn (#[z.val]++caps) W fun e W'=>QRet W (f q) e W'/\Below W W W') :
  Calls Tryz.prog 111 #[p.val,.func (.func fn) #[] caps] w fun e w'=>LimRet w (prob1 V os rs bs) f e w'/\Below w w w':=by
 have HO:=hdq (fun W (hb':Below w w W)=>zEH (h.below hb') hV hV2 ho1 ho2 hr hb hco hcr hL hfit hk);have HT:=hdq ht;have HC:=hdq hcall;have HFit:=hdq hfit;clear h ht hcall hfit hL hk hco hcr ho1 ho2 hr;obtain ⟨n,O,R,⟨BA,Bn,Bc⟩⟩:=p;dsimp only at hV hb;subst hV hb;go_enter Tryz.func111,Tryz.ntmps111
 go_wp2_with fail
 refine zAg (fun W=>Below w w W/\Box4 W w (.int .i64 V) (.slice O.A O.n O.c) (.slice R.A R.n R.c) (.slice BA R.n Bc)/\Box5 W (w+1) (.bool false) (.bool false) (.slice none 0 0) (.bool false) (.slice none 0 0)/\w.heap.size<W.heap.size/\w.heap.size+1<W.heap.size) ⟨(az (az (brf _ _))),bx4,⟨by go_simp,by go_simp,by go_simp,by go_simp,by go_simp,by intro o; go_simp⟩,by simp <;> omega,by simp <;> omega⟩ ?_;rintro W ⟨hbW,bP,bR,s0,s1⟩;have hBW:=hbW.size;refine (HO.out W hbW).mono ?_;rintro e w1 ⟨hO,hb1⟩;have hb01:=hbW.trans (hb1.mono hBW);have bR1:=bR.below hb1 s1;have s11:w.heap.size+1<w1.heap.size:=ltl s1 hb1.size;have none_end:∀ {e:Nat} (D:Lin.Dict),PInv (prob1 V os rs bs) none D->Ends (prob1 V os rs bs) none D e->e ≠ 1->∀ W':World,LimRet w (prob1 V os rs bs) f (.returned (limV true q0V)) W':=fun D h1 h2 h3 W'=>⟨true,q0V,none,rfl,.inl ⟨rfl,rfl,rfl⟩,.inr ⟨rfl,D,_,h3,h1,h2⟩⟩
 rcases hO with ⟨D,z,hI,hE,rfl,hz⟩ | ⟨D,hI,hE,rfl⟩ | ⟨D,hI,hE,rfl⟩
 ·have hf:=(HFit.out D hI).c V (nlr _);have hcall:=HC.out;have HF:=hdq hf;have HI:=hdq hI;have HE:=hdq hE;clear hf hI hE bP bR hb1 none_end;go_wp2_with fail
  refine (HT.out _ z _ (hb01.alloc (by omega) _) ((hz.below (bal)).lower hBW) HF.out).mono ?_;rintro e w2 ⟨⟨z2,rfl,hz2⟩,hb2⟩;have bR2:=bR1.below ((bal).trans (hb2.mono (by simp))) s11;have hb02:=(hb01.alloc (Nat.le_of_lt (Nat.lt_of_succ_lt s11)) _).trans (hb2.mono (by simp; omega));have HZ:Hid (QCan w2 (New (w+1+1)) z2 (f (D.c 0 V))):=hdq (hz2.lower (by simp; omega));clear hb2 hz2 hz hb01 bR1 hcall;obtain ⟨v0,v1,v2,v3,v4,-⟩:=bR2.stored (.bool false) (.bool z2.num.ng) (.slice z2.num.A z2.num.n z2.num.c) (.bool z2.den.ng) (.slice z2.den.A z2.den.n z2.den.c);have HB:=hdq (zQ7 (x0:=.bool false) (x1:=.bool z2.num.ng) (x2:=.slice z2.num.A z2.num.n z2.num.c) (x3:=.bool z2.den.ng) (x4:=.slice z2.den.A z2.den.n z2.den.c) (b:=w+1) hb02 (by omega));have hq5:=HZ.out.set5 (b:=w+1) (x0:=.bool false) (x1:=.bool z2.num.ng) (x2:=.slice z2.num.A z2.num.n z2.num.c) (x3:=.bool z2.den.ng) (x4:=.slice z2.den.A z2.den.n z2.den.c) (by omega);have HQ:=hdq (hq5.lower (show w.heap.size<=_ by omega));clear hq5;clear hb02;go_wp2;exact bodyPost_ret (v:=limV false z2) (by simp [results,Tryz.results111,go_sem,v0,v1,v2,v3,v4,limV]) rfl ⟨⟨false,z2,_,rfl,.inr ⟨_,rfl,rfl,HQ.out⟩,.inl ⟨D,HI.out,HE.out,rfl⟩⟩,HB.out⟩
 ·have HN:=hdq (none_end D hI hE (by decide));clear none_end hI hE hb1 bP bR;obtain ⟨v0,v1,v2,v3,v4,-⟩:=(bR1.stored (.bool true) (.bool false) (.slice none 0 0) (.bool false) (.slice none 0 0)).below ((brf _ _).alloc (nlr _) (.cells #[.bool false,.slice none 0 0,.bool false,.slice none 0 0] 30)) (by simp; omega);have HB:=hdq ((zQ7 (x0:=.bool true) (x1:=.bool false) (x2:=.slice none 0 0) (x3:=.bool false) (x4:=.slice none 0 0) (b:=w+1) hb01 (by omega)).alloc (by simp; omega) (.cells #[.bool false,.slice none 0 0,.bool false,.slice none 0 0] 30));clear hb01;go_wp2;try rw [Exit.noGoto_ret]
  exact bodyPost_ret (v:=limV true q0V) (by simp [results,Tryz.results111,go_sem,v0,v1,v2,v3,v4,limV,q0V]) rfl ⟨HN.out _,HB.out⟩
 ·have HN:=hdq (none_end D hI hE (by decide));clear none_end hI hE hb1 bP bR;obtain ⟨v0,v1,v2,v3,v4,-⟩:=(bR1.stored (.bool true) (.bool false) (.slice none 0 0) (.bool false) (.slice none 0 0)).below ((brf _ _).alloc (nlr _) (.cells #[.bool false,.slice none 0 0,.bool false,.slice none 0 0] 30)) (by simp; omega);have HB:=hdq ((zQ7 (x0:=.bool true) (x1:=.bool false) (x2:=.slice none 0 0) (x3:=.bool false) (x4:=.slice none 0 0) (b:=w+1) hb01 (by omega)).alloc (by simp; omega) (.cells #[.bool false,.slice none 0 0,.bool false,.slice none 0 0] 30));clear hb01;go_wp2;try rw [Exit.noGoto_ret]
  exact bodyPost_ret (v:=limV true q0V) (by simp [results,Tryz.results111,go_sem,v0,v1,v2,v3,v4,limV,q0V]) rfl ⟨HN.out _,HB.out⟩
end Go.Proofs.YtbpngececjihlaaGreat
