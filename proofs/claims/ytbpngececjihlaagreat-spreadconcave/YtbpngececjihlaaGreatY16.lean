/- Texts PrM PrN PrO Pr1 Pr2 Pr5 of this claim. -/
import Derived.Test.YtbpngececjihlaaGreatY15
set_option maxHeartbeats 4000000
set_option maxRecDepth 40000
namespace Go.Proofs.YtbpngececjihlaaGreat.Lin
variable {i j r n:Nat} {D:Dict} {P:Prob}
def Prob.re (P:Prob) (b:Nat->Rat):Prob:={P with b:=b}
def bb (n:Nat) (b:Nat->Rat) (v:Nat):Rat:=if v<n then 0 else b (v-n)
def Dict.R (n:Nat) (D:Dict) (i:Nat) (b:Nat->Rat):Rat:=bb n b (D.basic i)+sum n fun j=>D.a i j*bb n b (D.free j)
def Dict.Rc (n:Nat) (D:Dict) (l:Nat) (b:Nat->Rat):Rat:=sum n fun j=>D.c l j*bb n b (D.free j)
def Dict.re (n:Nat) (D:Dict) (b:Nat->Rat):Dict where
 basic:=D.basic
 free:=D.free
 a:=fun i j=>if j=n then D.R n i b else D.a i j
 c:=fun l j=>if j=n then D.Rc n l b else D.c l j
theorem zJG (P:Prob):P.Sys (bb P.n P.b):=by
 intro i hi;rw [zAC fun k hk=>by rw [bb,if_pos hk]; grind];rw [bb,if_neg (by omega),show P.n+i-P.n=i by omega]; grind
theorem Good.R (G:Good P D) (hi:i<P.m):D.a i P.n=D.R P.n i P.b:=by
 have h:=(G.rows _).1 (zJG P) i hi;rw [val] at h;rw [Dict.R,h]; grind
theorem Good.Rc (G:Good P D) {l:Nat} (hl:l<P.K):D.c l P.n=D.Rc P.n l P.b:=by
 have h:=G.costs _ (zJG P) l hl;rw [val,zAC fun k hk=>by rw [bb,if_pos hk]; grind] at h;rw [Dict.Rc]; grind
theorem zJF (n:Nat) (b c:Nat->Rat) (k:Rat) (v:Nat):bb n (fun i=>b i+k*c i) v=bb n b v+k*bb n c v:=by
 unfold bb; split <;> grind
theorem zJ7 (n:Nat) (D:Dict) (i:Nat) (b c:Nat->Rat) (k:Rat):D.R n i (fun i=>b i+k*c i)=D.R n i b+k*D.R n i c:=by
 unfold Dict.R;rw [zJF,zAh (g:=fun j=>D.a i j*bb n b (D.free j)+k*(D.a i j*bb n c (D.free j))) (fun j _=>by rw [zJF]; grind),zCb,zBK];grind
theorem zIe (n v:Nat):bb n (fun _=>0) v=0:=by unfold bb; split <;> rfl
theorem zKa (n:Nat) (D:Dict) (i:Nat):D.R n i (fun _=>0)=0:=by
 unfold Dict.R; rw [zIe,zAC fun j _=>by rw [zIe]; grind]; grind
theorem zKn (n:Nat) (D:Dict) (i:Nat) (N:Nat) (e:Nat->Rat) (lev:Nat->Nat->Rat):D.R n i (fun x=>sum N fun k=>e k*lev k x)=sum N fun k=>e k*D.R n i (lev k):=by
 induction N with
 | zero=>exact zKa n D i
 | succ N ih=>simp only [sum]; rw [zJ7 n D i (fun x=>sum N fun k=>e k*lev k x) (lev N),ih]
theorem Good.re (G:Good P D) (b:Nat->Rat):Good (P.re b) (D.re P.n b):=by
 have sh:∀ x,(P.re b).Sys x ↔ P.Sys fun v=>x v+(bb P.n P.b v-bb P.n b v):=by
  intro x;refine forall_congr' fun i=>forall_congr' fun hi=>?_
  have h1:bb P.n P.b (P.n+i)=P.b i:=by rw [bb,if_neg (by omega),show P.n+i-P.n=i by omega]
  have h2:bb P.n b (P.n+i)=b i:=by rw [bb,if_neg (by omega),show P.n+i-P.n=i by omega]
  show x (P.n+i)=b i-sum P.n (fun k=>P.A i k*x k) ↔ x (P.n+i)+(bb P.n P.b (P.n+i)-bb P.n b (P.n+i))=P.b i-sum P.n fun k=>P.A i k*(x k+(bb P.n P.b k-bb P.n b k))
  rw [h1,h2,zAh (f:=fun k=>P.A i k*(x k+(bb P.n P.b k-bb P.n b k))) (g:=fun k=>P.A i k*x k) (fun k hk=>by rw [bb,bb,if_pos hk,if_pos hk]; grind)];constructor <;> intro h <;> grind
 have vl:∀ (r:Nat->Rat) (q:Rat) (x:Nat->Rat),val P.n D.free (fun j=>if j=P.n then q else r j) x=q-sum P.n fun j=>r j*x (D.free j):=by
  intro r q x;rw [val,if_pos rfl,zAh fun j hj=>by rw [if_neg (by omega)]]
 have spl:∀ (r:Nat->Rat) (x:Nat->Rat),sum P.n (fun j=>r j*(x (D.free j)+(bb P.n P.b (D.free j)-bb P.n b (D.free j))))=sum P.n (fun j=>r j*x (D.free j))+sum P.n (fun j=>r j*bb P.n P.b (D.free j))-sum P.n fun j=>r j*bb P.n b (D.free j):=by
  intro r x;rw [zAh (g:=fun j=>(r j*x (D.free j)+r j*bb P.n P.b (D.free j))-r j*bb P.n b (D.free j)) (fun j _=>by grind),zFD,zCb]
 refine ⟨G.bLt,G.fLt,G.bInj,G.fInj,G.apart,G.all,fun x=>?_,fun x hx l hl=>?_⟩
 ·rw [sh,G.rows];refine forall_congr' fun i=>forall_congr' fun hi=>?_
  show _ ↔ x (D.basic i)=val P.n D.free (fun j=>if j=P.n then D.R P.n i b else D.a i j) x;rw [vl,val,spl,G.R hi,Dict.R,Dict.R];constructor <;> intro h <;> grind
 ·have h:=G.costs _ ((sh x).1 hx) l hl;show sum P.n (fun k=>P.O l k*x k)=val P.n D.free (fun j=>if j=P.n then D.Rc P.n l b else D.c l j) x;rw [vl];rw [val,spl,G.Rc hl,zAh (g:=fun k=>P.O l k*x k) (fun k hk=>by rw [bb,bb,if_pos hk,if_pos hk]; grind),Dict.Rc] at h;rw [h,Dict.Rc]; grind
theorem zBA {s:Nat} (r:Nat->Rat) (h:j ≠ s):scaled s r j=(r s)⁻¹*r j:=by rw [scaled,if_neg h]
theorem zBD {s:Nat} (y r:Nat->Rat) (h:j ≠ s):elim s y r j=r j-r s*y j:=by rw [elim,if_neg h]
theorem zEs {s:Nat} (hs:s<n) (h0:D.a r s ≠ 0) (i:Nat) (b:Nat->Rat) :
  (D.pivot r s).R n i b=if i=r then (D.a r s)⁻¹*D.R n r b else D.R n i b-D.a i s*((D.a r s)⁻¹*D.R n r b):=by
 let ro:Nat->Nat->Rat:=fun i j=>if j=n then D.R n i b else D.a i j
 have e1:∀ i,bb n b (D.basic i)=val n D.free (ro i) (bb n b):=by
  intro i;show _=ro i n-sum n fun j=>ro i j*bb n b (D.free j)
  have:sum n (fun j=>ro i j*bb n b (D.free j))=sum n fun j=>D.a i j*bb n b (D.free j):=zAh fun j hj=>by show (if j=n then _ else _)*_=_; rw [if_neg (by omega)]
  rw [this]; show _=(if n=n then D.R n i b else _)-_
  rw [if_pos rfl,Dict.R]; grind
 have es:∀ i,ro i s=D.a i s:=fun i=>if_neg (by omega)
 have h0':ro r s ≠ 0:=by rw [es]; exact h0
 have k0:=(zDA hs (F:=D.free) (r:=ro r) (x:=bb n b) (D.basic r) h0').1 (e1 r)
 have fin:∀ (rw' rw2:Nat->Rat) (v:Rat),(∀ j,j<n->rw' j=rw2 j)->v=val n (turn D.free s (D.basic r)) rw' (bb n b)->v+sum n (fun j=>rw2 j*bb n b (turn D.free s (D.basic r) j))=rw' n:=by
  intro rw' rw2 v e h;rw [val,zAh (fun j hj=>by rw [e j hj])] at h;rw [h]; grind
 unfold Dict.R;by_cases e:i=r
 ·subst e;rw [if_pos rfl]
  have:=fin (scaled s (ro i)) ((D.pivot i s).a i) _ (fun j hj=>by
   show _=(if i=i then scaled s (D.a i) else _) j;rw [if_pos rfl]; unfold scaled; rw [es]; by_cases h:j=s
   ·rw [if_pos h,if_pos h]
   ·rw [if_neg h,if_neg h,show ro i j=D.a i j from if_neg (by omega)]) k0
  have e2:(D.pivot i s).basic i=D.free s:=zBL _ _ _;rw [e2];show _+sum n (fun j=>(D.pivot i s).a i j*bb n b (turn D.free s (D.basic i) j))=_;rw [this,zBA _ (by omega),es,show ro i n=D.R n i b from if_pos rfl,Dict.R]
 ·rw [if_neg e];have k1:=(e1 i).trans (zCY hs (D.basic r) (r:=ro i) k0)
  have:=fin (elim s (scaled s (ro r)) (ro i)) ((D.pivot r s).a i) _ (fun j hj=>by
   show _=(if i=r then _ else elim s (scaled s (D.a r)) (D.a i)) j;rw [if_neg e]; unfold elim scaled; rw [es,es]; by_cases h:j=s
   ·simp only [if_pos h]
   ·simp only [if_neg h]; rw [show ro i j=D.a i j from if_neg (by omega),show ro r j=D.a r j from if_neg (by omega)]) k1
  have e2:(D.pivot r s).basic i=D.basic i:=zBh _ e _;rw [e2];show _+sum n (fun j=>(D.pivot r s).a i j*bb n b (turn D.free s (D.basic r) j))=_;rw [this,zBD _ _ (by omega),zBA _ (by omega),es,es,show ro i n=D.R n i b from if_pos rfl,show ro r n=D.R n r b from if_pos rfl,Dict.R,Dict.R]
theorem zFs {s:Nat} (hs:s<n) (h0:D.a r s ≠ 0) (l:Nat) (b:Nat->Rat) :
  (D.pivot r s).Rc n l b=D.Rc n l b-D.c l s*((D.a r s)⁻¹*D.R n r b):=by
 let ro:Nat->Rat:=fun j=>if j=n then D.R n r b else D.a r j
 let co:Nat->Rat:=fun j=>if j=n then D.Rc n l b else D.c l j
 have er:bb n b (D.basic r)=val n D.free ro (bb n b):=by
  have:sum n (fun j=>ro j*bb n b (D.free j))=sum n fun j=>D.a r j*bb n b (D.free j):=zAh fun j hj=>by show (if j=n then _ else _)*_=_; rw [if_neg (by omega)]
  rw [val,this]; show _=(if n=n then D.R n r b else _)-_
  rw [if_pos rfl,Dict.R]; grind
 have ec:(0:Rat)=val n D.free co (bb n b):=by
  have:sum n (fun j=>co j*bb n b (D.free j))=sum n fun j=>D.c l j*bb n b (D.free j):=zAh fun j hj=>by show (if j=n then _ else _)*_=_; rw [if_neg (by omega)]
  rw [val,this]; show _=(if n=n then D.Rc n l b else _)-_
  rw [if_pos rfl,Dict.Rc]; grind
 have es:ro s=D.a r s:=if_neg (by omega);have es':co s=D.c l s:=if_neg (by omega);have k0:=(zDA hs (F:=D.free) (r:=ro) (x:=bb n b) (D.basic r) (by rw [es]; exact h0)).1 er;have k1:=ec.trans (zCY hs (D.basic r) (r:=co) k0)
 rw [val,zAh (g:=fun j=>(D.pivot r s).c l j*bb n b ((D.pivot r s).free j)) (fun j hj=>by
  show elim s (scaled s ro) co j*_=elim s (scaled s (D.a r)) (D.c l) j*bb n b (turn D.free s (D.basic r) j);unfold elim scaled; rw [es,es']; by_cases h:j=s
  ·simp only [if_pos h]
  ·simp only [if_neg h]; rw [show ro j=D.a r j from if_neg (by omega),show co j=D.c l j from if_neg (by omega)]),zBD _ _ (by omega),zBA _ (by omega),es,es',show ro n=D.R n r b from if_pos rfl,show co n=D.Rc n l b from if_pos rfl] at k1
 rw [Dict.Rc]; grind
theorem zJv {s:Nat} (hs:s<n) (h0:D.a r s ≠ 0) (b:Nat->Rat):(D.pivot r s).re n b=(D.re n b).pivot r s:=by
 have es:∀ i,(D.re n b).a i s=D.a i s:=fun i=>if_neg (by omega)
 have ec:∀ i,(D.re n b).c i s=D.c i s:=fun i=>if_neg (by omega)
 have on:∀ i,(D.re n b).a i n=D.R n i b:=fun i=>if_pos rfl
 have oc:∀ i,(D.re n b).c i n=D.Rc n i b:=fun i=>if_pos rfl
 have ot:∀ i j,j ≠ n->(D.re n b).a i j=D.a i j:=fun i j h=>if_neg h
 have oo:∀ i j,j ≠ n->(D.re n b).c i j=D.c i j:=fun i j h=>if_neg h
 have sc:∀ i j,j ≠ n->scaled s ((D.re n b).a i) j=scaled s (D.a i) j:=by
  intro i j h; unfold scaled; rw [es,ot i j h]
 have scn:∀ i,scaled s ((D.re n b).a i) n=(D.a i s)⁻¹*D.R n i b:=fun i=>by rw [zBA _ (by omega),es,on]
 have ha:((D.pivot r s).re n b).a=((D.re n b).pivot r s).a:=by
  funext i j;show (if j=n then (D.pivot r s).R n i b else (D.pivot r s).a i j)=(if i=r then scaled s ((D.re n b).a r) else elim s (scaled s ((D.re n b).a r)) ((D.re n b).a i)) j;by_cases hj:j=n
  ·subst hj;rw [if_pos rfl,zEs hs h0];by_cases hi:i=r
   ·rw [if_pos hi,if_pos hi,scn]
   ·rw [if_neg hi,if_neg hi,zBD _ _ (by omega),es,on,scn]
  ·rw [if_neg hj];show (if i=r then scaled s (D.a r) else elim s (scaled s (D.a r)) (D.a i)) j=_;by_cases hi:i=r
   ·rw [if_pos hi,if_pos hi,sc _ _ hj]
   ·rw [if_neg hi,if_neg hi]; unfold elim; rw [es,ot _ _ hj,sc _ _ hj]
 have hc:((D.pivot r s).re n b).c=((D.re n b).pivot r s).c:=by
  funext l j;show (if j=n then (D.pivot r s).Rc n l b else (D.pivot r s).c l j)=elim s (scaled s ((D.re n b).a r)) ((D.re n b).c l) j;by_cases hj:j=n
  ·subst hj;rw [if_pos rfl,zFs hs h0,zBD _ _ (by omega),ec,oc,scn]
  ·rw [if_neg hj];show elim s (scaled s (D.a r)) (D.c l) j=_;unfold elim; rw [ec,oo _ _ hj,sc _ _ hj]
 show Dict.mk _ _ _ _=Dict.mk _ _ _ _;have:=ha; have:=hc
 simp only [Dict.re,Dict.pivot,Dict.mk.injEq] at *;exact ⟨trivial,trivial,ha,hc⟩
end Go.Proofs.YtbpngececjihlaaGreat.Lin
namespace Go.Proofs.YtbpngececjihlaaGreat.Lin
variable {f:Nat->Rat} {N k r:Nat} {q:Rat} {D:Dict} {P:Prob}
def pw (e:Rat):Nat->Rat
 | 0=>1
 | k+1=>e*pw e k
theorem zHg {e:Rat} (h:0<e):∀ k,0<pw e k
 | 0=>by rw [pw]; grind
 | k+1=>mul_pos h (zHg h k)
theorem zKk {e:Rat} (h:0<e) (h1:e<=1):∀ i d,pw e (i+d)<=pw e i
 | i,0=>Rat.le_refl
 | i,d+1=>by
  have h2:=zKk h h1 i d;have h3:=mul_nonneg (Rat.le_of_lt (zHg h (i+d))) (show 0<=1-e by grind);show e*pw e (i+d)<=_;grind
theorem zHa {e M:Rat} (he:0<e) (he1:e<=1) (hM:1<=M) (hs:(N:Rat)*(M*(M*e))<1) (hb:∀ k,k<N->- M<=f k) (hp:∀ k,k<N->0<f k->1<=M*f k)
  (hl:LexPos N f):0<sum N fun k=>pw e k*f k:=by
 obtain ⟨i,hi,h1,h2⟩:=hl
 have key:∀ d,i+1+d<=N->pw e i*f i-(d:Rat)*(M*(e*pw e i))<=sum (i+1+d) fun k=>pw e k*f k:=by
  intro d
  induction d with
  | zero=>
   intro _;have h0:sum i (fun k=>pw e k*f k)=0:=zAC fun k hk=>by rw [h2 k hk]; grind
   show _<=sum i (fun k=>pw e k*f k)+pw e i*f i
   rw [h0,show ((0:Nat):Rat)=0 from rfl]; grind
  | succ d ih=>
   intro hd;have h3:=ih (by omega)
   have h4:- (M*(e*pw e i))<=pw e (i+1+d)*f (i+1+d):=by
    have h5:=mul_nonneg (Rat.le_of_lt (zHg he (i+1+d))) (show 0<=f (i+1+d)+M by have:=hb (i+1+d) (by omega); grind);have h6:=mul_nonneg (show 0<=M by grind) (show 0<=pw e (i+1)-pw e (i+1+d) by have:=zKk he he1 (i+1) d; grind);rw [pw] at h6;grind
   rw [show i+1+(d+1)=(i+1+d)+1 by omega,sum];rw [show ((d+1:Nat):Rat)=(d:Rat)+1 by push_cast; rfl];grind
 have h3:=key (N-(i+1)) (by omega);rw [show i+1+(N-(i+1))=N by omega] at h3;have h4:((N-(i+1):Nat):Rat)<=(N:Rat):=by exact_mod_cast (show N-(i+1)<=N by omega)
 have hw:=zHg he i;have h5:=hp i hi h1;have h6:=mul_nonneg (show 0<=(N:Rat)-((N-(i+1):Nat):Rat) by grind) (mul_nonneg (show 0<=M by grind) (Rat.le_of_lt (mul_pos he hw)));have h7:=mul_nonneg (Rat.le_of_lt hw) (show 0<=M*f i-1 by grind);have h8:=mul_pos hw (show 0<1-(N:Rat)*(M*(M*e)) by grind);have h9:=mul_nonneg (show 0<=M by grind) (show 0<=(sum N fun k=>pw e k*f k)-(pw e i*f i-((N-(i+1):Nat):Rat)*(M*(e*pw e i))) by grind);have h10:=mul_nonneg (show 0<=M by grind) h6
 have:0<M*sum N fun k=>pw e k*f k:=by
  generalize (sum N fun k=>pw e k*f k)=S at *;generalize ((N-(i+1):Nat):Rat)=T at *;generalize (N:Rat)=U at *;generalize pw e i=w at *;generalize f i=g at *;clear h3 h4 h6 key hs;grind
 rcases (by grind:sum N (fun k=>pw e k*f k)<=0\/0<sum N fun k=>pw e k*f k) with h | h
 ·have:=zHC (show 0<=M by grind) h; grind
 ·exact h
theorem zGY (h:Fits k q):- ((2 ^ k:Nat):Rat)<=q/\(0<q->1<=((2 ^ k:Nat):Rat)*q):=by
 have e:q*(q.den:Rat)=(q.num:Rat):=by
  have h:=Rat.mkRat_self q;rw [Rat.mkRat_eq_div] at h;have h0:(q.den:Rat) ≠ 0:=by exact_mod_cast q.den_nz
  have h2:(q.num:Rat) / (q.den:Rat)*(q.den:Rat)=(q.num:Rat):=by grind
  rw [h] at h2; exact h2
 have h1:(1:Rat)<=(q.den:Rat):=by exact_mod_cast q.den_pos
 have h2:(q.den:Rat)<=((2 ^ k:Nat):Rat):=by exact_mod_cast h.2
 have h3:- ((2 ^ k:Nat):Rat)<=(q.num:Rat):=by
  have:- ((2 ^ k:Nat):Int)<=q.num:=by have:=h.1; omega
  have h4:((- ((2 ^ k:Nat):Int):Int):Rat)<=(q.num:Rat):=by exact_mod_cast this
  rw [Rat.intCast_neg,Rat.intCast_natCast] at h4;exact h4
 generalize ((2 ^ k:Nat):Rat)=M at *;generalize hd:(q.den:Rat)=d at *;constructor
 ·rcases (by grind:0<=q\/q<0) with h4 | h4
  ·grind
  ·have:=mul_nonneg (show 0<=- q by grind) (show 0<=d-1 by grind); grind
 ·intro h4;have h5:0<(q.num:Rat):=by rw [<-e]; exact mul_pos h4 (by grind)
  have h6:(1:Rat)<=(q.num:Rat):=by
   have:(0:Int)<q.num:=(by exact_mod_cast h5);exact_mod_cast (show (1:Int)<=q.num by omega)
  have:=mul_nonneg (Rat.le_of_lt h4) (show 0<=M-d by grind);grind
theorem zN1 (q:Rat):∃ k,Fits k q:=
 ⟨q.num.natAbs+q.den,nlt (Nat.le_of_lt Nat.lt_two_pow_self) (Nat.pow_le_pow_right (by omega) (by omega)),nlt (Nat.le_of_lt Nat.lt_two_pow_self) (Nat.pow_le_pow_right (by omega) (by omega))⟩
theorem zIm (n:Nat) (f:Nat->Rat):∃ k,∀ i,i<n->Fits k (f i):=by
 induction n with
 | zero=>exact ⟨0,fun i hi=>by omega⟩
 | succ n ih=>
  obtain ⟨k,h⟩:=ih;obtain ⟨l,h'⟩:=zN1 (f n);refine ⟨k+l,fun i hi=>?_⟩;by_cases e:i=n
  ·rw [e]; exact h'.mono (by omega)
  ·exact (h i (by omega)).mono (by omega)
theorem zGX (m n:Nat) (f:Nat->Nat->Rat):∃ k,∀ i j,i<m->j<n->Fits k (f i j):=by
 induction m with
 | zero=>exact ⟨0,fun i j hi=>by omega⟩
 | succ m ih=>
  obtain ⟨k,h⟩:=ih;obtain ⟨l,h'⟩:=zIm n (f m);refine ⟨k+l,fun i j hi hj=>?_⟩;by_cases e:i=m
  ·rw [e]; exact (h' j hj).mono (by omega)
  ·exact (h i j (by omega) hj).mono (by omega)
theorem zHZ (P:Prob):∃ k,1<=k/\P.start.Fits P k:=by
 obtain ⟨k,h⟩:=zGX P.m (P.n+1) P.start.a;obtain ⟨l,h'⟩:=zGX P.K (P.n+1) P.start.c;exact ⟨k+l+1,by omega,fun i j hi hj=>(h i j hi (by omega)).mono (by omega),fun i j hi hj=>(h' i j hi (by omega)).mono (by omega)⟩
theorem zJ8 (P:Prob) (N:Nat) (lev:Nat->Nat->Rat):∃ B,∀ D,Good P D->∀ i k,i<P.m->k<N->Fits B (D.R P.n i (lev k)):=by
 induction N with
 | zero=>exact ⟨0,fun D _ i k _ hk=>by omega⟩
 | succ N ih=>
  obtain ⟨B,h⟩:=ih;obtain ⟨k,h1,h2⟩:=zHZ (P.re (lev N));refine ⟨B+5 ^ P.n*k,fun D G i j hi hj=>?_⟩;by_cases e:j=N
  ·rw [e];have:=((G.re (lev N)).fits h1 h2).1 i P.n hi (nlr _);rw [show (D.re P.n (lev N)).a i P.n=D.R P.n i (lev N) from if_pos rfl] at this;exact this.mono (by show 5 ^ P.n*k<=_; omega)
  ·exact (h D G i j hi (by omega)).mono (by omega)
theorem pert (P:Prob) (N:Nat) (lev:Nat->Nat->Rat):∃ b':Nat->Rat,∀ D,Good P D->∀ i,i<P.m->
  (LexNeg N (fun k=>D.R P.n i (lev k))->D.R P.n i b'<0)/\(LexZero N (fun k=>D.R P.n i (lev k))->D.R P.n i b'=0)/\(LexPos N (fun k=>D.R P.n i (lev k))->0<D.R P.n i b'):=by
 obtain ⟨B,hB⟩:=zJ8 P N lev;have hM:(1:Rat)<=((2 ^ B:Nat):Rat):=by exact_mod_cast (Nat.one_le_two_pow:1<=2 ^ B)
 generalize hm:((2 ^ B:Nat):Rat)=M at hM;have hN:(0:Rat)<=(N:Rat):=by exact_mod_cast nzl N
 have hMM:1<=M*M:=by have:=mul_nonneg (show 0<=M-1 by grind) (show 0<=M-1 by grind); grind
 have hu:1<=(M*M)*((N:Rat)+1):=by have:=mul_nonneg (show 0<=M*M-1 by grind) (show 0<=(N:Rat) by grind); grind
 have he:0<((M*M)*((N:Rat)+1))⁻¹:=inv_pos (by grind);generalize hee:((M*M)*((N:Rat)+1))⁻¹=e at he;have h1:((M*M)*((N:Rat)+1))*e=1:=by rw [<-hee]; grind
 have he1:e<=1:=by have:=mul_nonneg (Rat.le_of_lt he) (show 0<=(M*M)*((N:Rat)+1)-1 by grind); grind
 have hs:(N:Rat)*(M*(M*e))<1:=by have:=mul_pos (show 0<M*M by grind) he; grind
 refine ⟨fun x=>sum N fun k=>pw e k*lev k x,fun D G i hi=>?_⟩;rw [zKn];have low:∀ k,k<N->- M<=D.R P.n i (lev k)/\(0<D.R P.n i (lev k)->1<=M*D.R P.n i (lev k)):=fun k hk=>by rw [<-hm]; exact zGY (hB D G i k hi hk)
 have low':∀ k,k<N->- M<=- D.R P.n i (lev k)/\(0 < - D.R P.n i (lev k)->1<=M *-D.R P.n i (lev k)):=fun k hk=>by rw [<-hm]; exact zGY (hB D G i k hi hk).neg
 refine ⟨fun h=>?_,fun h=>zAC fun k hk=>by have:=h k hk; dsimp only at this; rw [this]; grind,fun h=>zHa he he1 hM hs (fun k hk=>(low k hk).1) (fun k hk=>(low k hk).2) h⟩;have:=zHa he he1 hM hs (fun k hk=>(low' k hk).1) (fun k hk=>(low' k hk).2) h.neg;rw [zAh (g:=fun k=>- (pw e k*D.R P.n i (lev k))) (fun k _=>by grind),zFC] at this;grind
structure LSel (P:Prob) (N:Nat) (lev:Nat->Nat->Rat) (D:Dict) (r s:Nat):Prop where
 hr:r<P.m
 neg:LexNeg N fun k=>D.R P.n r (lev k)
 least:∀ i,i<P.m->LexNeg N (fun k=>D.R P.n i (lev k))->D.basic r<=D.basic i
 hs:s<P.n
 elt:D.a r s<0
 first:∀ j,j<P.n->D.a r j<0->D.free s<=D.free j
theorem LSel.ne {lev:Nat->Nat->Rat} {s:Nat} (h:LSel P N lev D r s):D.a r s ≠ 0:=by have:=h.elt; grind
theorem zFn (P:Prob) (N:Nat) (lev:Nat->Nat->Rat):∃ rank:Dict->Nat,∀ D r s,Good P D->LSel P N lev D r s->rank (D.pivot r s)<rank D:=by
 obtain ⟨b',hb⟩:=pert P N lev;obtain ⟨rank,hr⟩:=zF2 (P.re b');refine ⟨fun D=>rank (D.re P.n b'),fun D r s G h=>?_⟩;dsimp only;rw [zJv h.hs h.ne];refine hr _ r s (G.re b') ⟨h.hr,?_,fun i hi hn=>?_,h.hs,?_,fun j hj hn=>?_⟩
 ·show (if P.n=P.n then _ else _)<(0:Rat);rw [if_pos rfl]; exact (hb D G r h.hr).1 h.neg
 ·refine h.least i hi ?_
  have hn:D.R P.n i b'<0:=by
   have:(if P.n=P.n then D.R P.n i b' else D.a i P.n)<(0:Rat):=hn
   rwa [if_pos rfl] at this
  rcases zFM N (fun k=>D.R P.n i (lev k)) with h1 | h1 | h1
  ·exact h1
  ·have:=(hb D G i hi).2.1 h1; grind
  ·have:=(hb D G i hi).2.2 h1; grind
 ·have:=h.hs;show (if s=P.n then _ else _)<(0:Rat);rw [if_neg (by omega)]; exact h.elt
 ·have hj':j<P.n:=hj;refine h.first j hj' ?_;have:(if j=P.n then D.R P.n r b' else D.a r j)<(0:Rat):=hn
  rwa [if_neg (by omega)] at this
def LFeas (P:Prob) (N:Nat) (lev:Nat->Nat->Rat) (D:Dict):Prop:=∀ i,i<P.m->LexPos N fun k=>D.R P.n i (lev k)
def LStep (P:Prob) (N:Nat) (lev:Nat->Nat->Rat) (D D':Dict):Prop:=∃ r s,r<P.m/\s<P.n/\0<D.a r s/\D.c 0 s<0/\LFeas P N lev D'/\D'=D.pivot r s
theorem zHW {C:Dict} (GC:Good P C) (GD:Good P D) (h:∀ v,v<P.n+P.m->C.bas P v=D.bas P v) {l:Nat} (hl:l<P.K):C.c l P.n=D.c l P.n:=by
 have hu:∀ v,v<P.n+P.m->C.point P v=D.point P v:=fun v hv=>GC.unique GC.point_sys GD.point_sys (fun j hj=>by
  rw [GC.point_free hj,zB8];rw [<-h _ (GC.fLt j hj)]; exact zBw GC hj) hv
 have h1:=GC.costs _ GC.point_sys l hl;have h2:=GD.costs _ GD.point_sys l hl;rw [val,zAC (f:=fun j=>C.c l j*C.point P (C.free j)) fun j hj=>by rw [GC.point_free hj]; grind] at h1;rw [val,zAC (f:=fun j=>D.c l j*D.point P (D.free j)) fun j hj=>by rw [GD.point_free hj]; grind] at h2;rw [zAh (f:=fun k=>P.O l k*C.point P k) (g:=fun k=>P.O l k*D.point P k) (fun k hk=>by rw [hu k (by omega)])] at h1;grind
theorem zFl (P:Prob) (hK:0<P.K) (N:Nat) (lev:Nat->Nat->Rat):∃ rank:Dict->Nat,∀ D r s,Good P D->LFeas P N lev D->r<P.m->s<P.n->0<D.a r s->D.c 0 s<0->LFeas P N lev (D.pivot r s)->rank (D.pivot r s)<rank D:=by
 obtain ⟨b',hb⟩:=pert P N lev
 obtain ⟨rank,h⟩:=zIQ (fun D=>Good P D/\LFeas P N lev D) (LStep P N lev) (2 ^ (P.n+P.m)) (fun f L h0 st=>by
  have G:∀ k,k<=L->Good P (f k)/\LFeas P N lev (f k):=by
   intro k
   induction k with
   | zero=>intro _; exact h0
   | succ k ih=>
    intro hk;obtain ⟨r,s,hr,hs,ha,_,hF,e⟩:=st k (by omega);exact ⟨by rw [e]; exact (ih (by omega)).1.pivot hr hs (by grind),hF⟩
  have up:∀ k,k<L->(f k).Rc P.n 0 b'<(f (k+1)).Rc P.n 0 b':=by
   intro k hk;obtain ⟨r,s,hr,hs,ha,hc,_,e⟩:=st k hk;rw [e,zFs hs (by grind)];have h1:=(hb _ (G k (by omega)).1 r hr).2.2 ((G k (by omega)).2 r hr);have h2:=mul_pos (show 0 < - (f k).c 0 s by grind) (mul_pos (inv_pos ha) h1);grind
  have mono:∀ i d,i+(d+1)<=L->(f i).Rc P.n 0 b'<(f (i+(d+1))).Rc P.n 0 b':=by
   intro i d
   induction d with
   | zero=>intro hd; exact up i (by omega)
   | succ d ih=>intro hd; have h3:=ih (by omega); have h4:=up (i+(d+1)) (by omega); show _<(f (i+(d+1)+1)).Rc P.n 0 b'; grind
  have:=pigeon (2 ^ (P.n+P.m)) (L+1) (fun k=>code ((f k).bas P) (P.n+P.m)) (fun _ _=>zFg _ _) (fun i j hij hj e=>by
   have e1:=zHW ((G i (by omega)).1.re b') ((G j (by omega)).1.re b') (zGV e) hK
   have e2:(f i).Rc P.n 0 b'=(f j).Rc P.n 0 b':=by
    have:(if P.n=P.n then (f i).Rc P.n 0 b' else _)=(if P.n=P.n then (f j).Rc P.n 0 b' else _):=e1
    rwa [if_pos rfl,if_pos rfl] at this
   have h1:=mono i (j-i-1) (by omega);rw [show i+(j-i-1+1)=j by omega] at h1;rw [e2] at h1; exact absurd h1 (by grind))
  omega)
 exact ⟨rank,fun D r s G F hr hs ha hc hF=>h D _ ⟨G,F⟩ ⟨r,s,hr,hs,ha,hc,hF,rfl⟩⟩
end Go.Proofs.YtbpngececjihlaaGreat.Lin
namespace Go.Proofs.YtbpngececjihlaaGreat.Lin
variable {f:Nat->Rat} {n i j m N r:Nat} {P:Prob} {ch:Option (Nat->Rat)} {D:Dict}
def unit (i:Nat):Nat->Rat:=fun x=>if x=i then 1 else 0
def Prob.Dual (P:Prob) (y:Nat->Rat):Prop:=(∀ i,i<P.m->0<=y i)/\∀ k,k<P.n->P.O 0 k<=sum P.m fun i=>y i*P.A i k
theorem zD2 (m n:Nat) (f:Nat->Nat->Rat):(sum m fun i=>sum n (f i))=sum n fun j=>sum m fun i=>f i j:=by
 induction m with
 | zero=>simp only [sum]; rw [zAC fun _ _=>rfl]
 | succ m ih=>simp only [sum]; rw [ih,<-zCb]
theorem zJN {g:Nat->Rat} (h:∀ i,i<n->f i<=g i):sum n f<=sum n g:=by
 have:=zBt (n:=n) (f:=fun i=>g i-f i) fun i hi=>by have:=h i hi; grind
 rw [zFD] at this; grind
theorem zCc (n:Nat) (f:Nat->Rat) (k:Rat):(sum n fun i=>f i*k)=sum n f*k:=by
 rw [zAh (g:=fun i=>k*f i) (fun i _=>by grind),zBK]; grind
theorem zHn {x y:Nat->Rat} (hx:∀ k,k<P.n->0<=x k) (hy:P.Dual y):(sum P.n fun k=>P.O 0 k*x k)<=sum P.m fun i=>y i*sum P.n fun k=>P.A i k*x k:=by
 have e:(sum P.m fun i=>y i*sum P.n fun k=>P.A i k*x k)=sum P.n fun k=>(sum P.m fun i=>y i*P.A i k)*x k:=by
  rw [zAh (g:=fun i=>sum P.n fun k=>y i*P.A i k*x k) (fun i _=>by rw [<-zBK]; exact zAh fun k _=>by grind),zD2];exact zAh fun k _=>zCc _ _ _
 rw [e];refine zJN fun k hk=>?_
 have:=mul_nonneg (hx k hk) (show 0<=(sum P.m fun i=>y i*P.A i k)-P.O 0 k by have:=hy.2 k hk; grind);grind
theorem weak {x y:Nat->Rat} (hx:P.Feasible x) (hy:P.Dual y):(sum P.n fun k=>P.O 0 k*x k)<=sum P.m fun i=>y i*P.b i:=
 Rat.le_trans (zHn hx.1 hy) (zJN fun i hi=>by
  have:=mul_nonneg (hy.1 i hi) (show 0<=P.b i-sum P.n fun k=>P.A i k*x k by have:=hx.2 i hi; grind);grind)
def Dict.dual (P:Prob) (D:Dict) (i:Nat):Rat:=D.Rc P.n 0 (unit i)
theorem zBB (n i v:Nat):bb n (unit i) v=if v=n+i then 1 else 0:=by
 unfold bb unit;by_cases h:v<n
 ·rw [if_pos h,if_neg (by omega)]
 ·rw [if_neg h];by_cases e:v=n+i
  ·rw [if_pos (by omega),if_pos e]
  ·rw [if_neg (by omega),if_neg e]
section
variable {P:Prob} {D:Dict}
theorem Good.dual_free (G:Good P D) (hj:j<P.n) (e:D.free j=P.n+i):D.dual P i=D.c 0 j:=by
 rw [Dict.dual,Dict.Rc,zBu (s:=j) hj (fun x hx hne=>by
  rw [zBB,if_neg (fun h=>hne (G.fInj x j hx hj (h.trans e.symm)))]; grind),zBB,if_pos e]; grind
theorem zER (h:∀ j,j<P.n->D.free j ≠ P.n+i):D.dual P i=0:=by
 rw [Dict.dual,Dict.Rc,zAC fun j hj=>by rw [zBB,if_neg (h j hj)]; grind]
theorem zFf {v:Nat} (hv:v<n+m) (b:Nat->Rat):bb n b v=sum m fun i=>b i*bb n (unit i) v:=by
 by_cases h:v<n
 ·rw [bb,if_pos h,zAC fun i _=>by rw [bb,if_pos h]; grind]
 ·rw [bb,if_neg h,zBu (s:=v-n) (by omega) (fun i _ hne=>by rw [zBB,if_neg (by omega)]; grind),zBB,if_pos (by omega)]; grind
theorem Good.Rc_dual (G:Good P D) (b:Nat->Rat):D.Rc P.n 0 b=sum P.m fun i=>D.dual P i*b i:=by
 have e:∀ i,D.dual P i*b i=sum P.n fun j=>D.c 0 j*bb P.n (unit i) (D.free j)*b i:=fun i=>by rw [Dict.dual,Dict.Rc,zCc]
 rw [zAh fun i _=>e i,zD2,Dict.Rc];refine zAh fun j hj=>?_
 rw [zFf (G.fLt j hj) b,<-zBK];exact zAh fun i _=>by grind
theorem Good.value_dual (G:Good P D) (hK:0<P.K):D.c 0 P.n=sum P.m fun i=>D.dual P i*P.b i:=by rw [G.Rc hK,G.Rc_dual]
theorem Good.dual_ok (G:Good P D) (hK:0<P.K) (hc:∀ j,j<P.n->0<=D.c 0 j):P.Dual (D.dual P):=by
 refine ⟨fun i _=>zBt fun j hj=>mul_nonneg (hc j hj) (by rw [zBB]; split <;> grind),fun k hk=>?_⟩;rw [<-G.Rc_dual (fun i=>P.A i k)]
 have hx:(P.re fun i=>P.A i k).Sys fun v=>if v=k then 1 else 0:=by
  intro i hi;show (if P.n+i=k then (1:Rat) else 0)=P.A i k-sum P.n fun l=>P.A i l*if l=k then 1 else 0
  rw [if_neg (by omega),zBu (s:=k) hk (fun l _ hne=>by rw [if_neg hne]; grind),if_pos rfl]; grind
 have h:=(G.re fun i=>P.A i k).costs _ hx 0 hK
 have h1:(sum P.n fun l=>P.O 0 l*if l=k then (1:Rat) else 0)=P.O 0 k:=by
  rw [zBu (s:=k) hk (fun l _ hne=>by rw [if_neg hne]; grind),if_pos rfl]; grind
 have h2:(sum P.n fun j=>(if j=P.n then D.Rc P.n 0 (fun i=>P.A i k) else D.c 0 j)*if D.free j=k then (1:Rat) else 0)=sum P.n fun j=>D.c 0 j*if D.free j=k then (1:Rat) else 0:=
  zAh fun j hj=>by rw [if_neg (by omega)]
 have h3:P.O 0 k=(if P.n=P.n then D.Rc P.n 0 (fun i=>P.A i k) else D.c 0 P.n)-sum P.n fun j=>(if j=P.n then D.Rc P.n 0 (fun i=>P.A i k) else D.c 0 j)*if D.free j=k then (1:Rat) else 0:=by
  rw [<-h1]; exact h
 rw [if_pos rfl,h2] at h3;have h4:0<=sum P.n fun j=>D.c 0 j*if D.free j=k then (1:Rat) else 0:=zBt fun j hj=>mul_nonneg (hc j hj) (by split <;> grind)
 grind
theorem Good.dual_least (G:Good P D) (hK:0<P.K) {lev:Nat->Nat->Rat} (F:∀ i,i<P.m->LexNN N fun k=>D.R P.n i (lev k)) {z:Nat->Rat} (hz:P.Dual z) :
  LexNN N fun k=>(sum P.m fun i=>z i*lev k i)-sum P.m fun i=>D.dual P i*lev k i:=by
 let X:Nat->Nat->Rat:=fun k v=>(D.re P.n (lev k)).point (P.re (lev k)) v
 have hX:∀ v,LexNN N fun k=>X k v:=by
  intro v;by_cases h:find D.basic v P.m<P.m
  ·(refine (F _ h).congr fun k _=>?_);(show _=if find D.basic v P.m<P.m then (if P.n=P.n then D.R P.n (find D.basic v P.m) (lev k) else _) else _);rw [if_pos h,if_pos rfl]
  ·(refine .inl fun k _=>?_);show (if find D.basic v P.m<P.m then _ else _)=(0:Rat);rw [if_neg h]
 have sys:∀ k i,i<P.m->lev k i=X k (P.n+i)+sum P.n fun l=>P.A i l*X k l:=by
  intro k i hi;have:=(G.re (lev k)).point_sys i hi;have h2:X k (P.n+i)=lev k i-sum P.n fun l=>P.A i l*X k l:=this
  grind
 have obj:∀ k,(sum P.m fun i=>D.dual P i*lev k i)=sum P.n fun l=>P.O 0 l*X k l:=by
  intro k;have h:=(G.re (lev k)).costs _ (G.re (lev k)).point_sys 0 hK;have h2:(sum P.n fun l=>P.O 0 l*X k l)=(if P.n=P.n then D.Rc P.n 0 (lev k) else _)-sum P.n fun j=>(D.re P.n (lev k)).c 0 j*X k (D.free j):=h
  have hz:∀ j,j<P.n->X k (D.free j)=0:=fun j hj=>(G.re (lev k)).point_free hj
  rw [if_pos rfl,zAC (f:=fun j=>(D.re P.n (lev k)).c 0 j*X k (D.free j)) (fun j hj=>by rw [hz j hj]; grind),G.Rc_dual] at h2;grind
 have all:LexNN N fun k=>(sum P.m fun i=>z i*X k (P.n+i))+sum P.n fun l=>((sum P.m fun i=>z i*P.A i l)-P.O 0 l)*X k l:=
  (LexNN.sum fun i hi=>(hX (P.n+i)).smul (hz.1 i hi)).add (LexNN.sum fun l hl=>(hX l).smul (by have:=hz.2 l hl; grind))
 refine all.congr fun k _=>?_
 rw [obj k,zAh (f:=fun i=>z i*lev k i) (g:=fun i=>z i*X k (P.n+i)+z i*sum P.n fun l=>P.A i l*X k l) (fun i hi=>by rw [sys k i hi]; grind),zCb,
  zAh (f:=fun l=>((sum P.m fun i=>z i*P.A i l)-P.O 0 l)*X k l) (g:=fun l=>(sum P.m fun i=>z i*P.A i l)*X k l-P.O 0 l*X k l) (fun l _=>by grind),zFD]
 have:(sum P.m fun i=>z i*sum P.n fun l=>P.A i l*X k l)=sum P.n fun l=>(sum P.m fun i=>z i*P.A i l)*X k l:=by
  rw [zAh (g:=fun i=>sum P.n fun l=>z i*P.A i l*X k l) (fun i _=>by rw [<-zBK]; exact zAh fun l _=>by grind),zD2];exact zAh fun l _=>zCc _ _ _
 rw [this]; grind
theorem Good.attained (G:Good P D) (hK:0<P.K) (F:Feas P D):P.Feasible (D.point P)/\(sum P.n fun k=>P.O 0 k*D.point P k)=D.c 0 P.n:=by
 refine ⟨zGu G.point_sys fun v hv=>G.point_nonneg F hv,?_⟩;rw [G.costs _ G.point_sys 0 hK,val,zAC fun j hj=>by rw [G.point_free hj]; grind]; grind
theorem Good.no_dual (G:Good P D) (hK:0<P.K) {s:Nat} (hs:s<P.n) (hc:D.c 0 s<0) (h:∀ i,i<P.m->D.a i s<=0) (y:Nat->Rat):¬ P.Dual y:=by
 intro hy;have s0:=G.point_sys;have s1:=G.dir_sys hs s0 1
 let d:Nat->Rat:=fun v=>D.dir P s v
 have hd:∀ v,v<P.n+P.m->0<=d v:=by
  intro v hv;rcases G.all v hv with ⟨i,hi,e⟩ | ⟨j,hj,e⟩
  ·show 0<=D.dir P s v;rw [<-e,G.dir_basic hi]; have:=h i hi; grind
  ·show 0<=D.dir P s v;rw [<-e,G.dir_free hs hj]; split <;> grind
 have hA:∀ i,i<P.m->(sum P.n fun k=>P.A i k*d k)=- d (P.n+i):=by
  intro i hi;have h1:=s0 i hi;have h2:=s1 i hi;dsimp only at h2;rw [zAh (g:=fun k=>P.A i k*D.point P k+P.A i k*D.dir P s k) (fun k _=>by grind),zCb] at h2;show (sum P.n fun k=>P.A i k*D.dir P s k)=- D.dir P s (P.n+i);grind
 have hO:(sum P.n fun k=>P.O 0 k*d k)=- D.c 0 s:=by
  have h1:=G.costs _ s0 0 hK;have h2:=G.costs _ s1 0 hK;rw [zGM G hs,<-h1,zAh (g:=fun k=>P.O 0 k*D.point P k+P.O 0 k*D.dir P s k) (fun k _=>by grind),zCb] at h2;show (sum P.n fun k=>P.O 0 k*D.dir P s k)=_;grind
 have h1:=zHn (x:=d) (fun k hk=>hd k (by omega)) hy
 have h2:(sum P.m fun i=>y i*sum P.n fun k=>P.A i k*d k)<=0:=zH0 fun i hi=>by
  rw [hA i hi];have:=mul_nonneg (hy.1 i hi) (hd (P.n+i) (by omega)); grind
 rw [hO] at h1;grind
theorem Good.units (G:Good P D) (hi:i<P.m):¬ ∀ i',i'<P.m->D.R P.n i (unit i')=0:=by
 intro h0
 let x:Nat->Rat:=fun v=>if v=D.basic i then 1 else 0
 let c:Nat->Rat:=fun i'=>x (P.n+i')+sum P.n fun k=>P.A i' k*x k
 have hx:(P.re c).Sys x:=by
  intro i' _;show x (P.n+i')=(x (P.n+i')+sum P.n fun k=>P.A i' k*x k)-sum P.n fun k=>P.A i' k*x k
  grind
 have h1:=((G.re c).rows x).1 hx i hi;have h2:x (D.basic i)=(if P.n=P.n then D.R P.n i c else _)-sum P.n fun j=>(D.re P.n c).a i j*x (D.free j):=h1
 have h3:∀ j,j<P.n->x (D.free j)=0:=fun j hj=>if_neg fun e=>G.apart i j hi hj e.symm
 have h4:x (D.basic i)=1:=if_pos rfl;rw [if_pos rfl,h4,zAC (f:=fun j=>(D.re P.n c).a i j*x (D.free j)) (fun j hj=>by rw [h3 j hj]; grind)] at h2
 have h5:D.R P.n i c=sum P.m fun i'=>c i'*D.R P.n i (unit i'):=by
  rw [Dict.R,zFf (G.bLt i hi) c,zAh (f:=fun j=>D.a i j*bb P.n c (D.free j)) (g:=fun j=>sum P.m fun i'=>c i'*(D.a i j*bb P.n (unit i') (D.free j))) (fun j hj=>by
   rw [zFf (G.fLt j hj) c,<-zBK]; exact zAh fun i' _=>by grind),zD2,<-zCb]
  exact zAh fun i' _=>by rw [Dict.R,zBK]; grind
 rw [h5,zAC fun i' h=>by rw [h0 i' h]; grind] at h2;grind
end
def levels (P:Prob) (ch:Option (Nat->Rat)) (k:Nat):Nat->Rat:=
 match ch with
 | none=>if k=0 then P.b else unit (k-1)
 | some c=>if k=0 then P.b else if k=1 then c else unit (k-2)
def given:Option (Nat->Rat)->Nat
 | none=>1
 | some _=>2
theorem zEj (P:Prob) (ch:Option (Nat->Rat)) (i:Nat):levels P ch (given ch+i)=unit i:=by
 cases ch with
 | none=>show (if 1+i=0 then _ else unit (1+i-1))=_; rw [if_neg (by omega),show 1+i-1=i by omega]
 | some c=>show (if 2+i=0 then _ else if 2+i=1 then _ else unit (2+i-2))=_; rw [if_neg (by omega),if_neg (by omega),show 2+i-2=i by omega]
theorem zBp (P:Prob) (ch:Option (Nat->Rat)):levels P ch 0=P.b:=by cases ch <;> rfl
theorem Good.pos (G:Good P D) (hi:i<P.m) (h:¬ LexNeg (given ch+P.m) fun k=>D.R P.n i (levels P ch k)):LexPos (given ch+P.m) fun k=>D.R P.n i (levels P ch k):=by
 rcases LexNN.of_not h with h | h
 ·exact absurd (fun i' hi'=>by have:=h (given ch+i') (by omega); dsimp only at this; rwa [zEj] at this) (G.units hi)
 ·exact h
theorem zIr (_hN:0<N) (h:LexPos N f):0<=f 0:=by
 obtain ⟨i,_,h1,h2⟩:=h;by_cases e:i=0
 ·rw [e] at h1; grind
 ·rw [h2 0 (by omega)]; grind
theorem zFJ (ch:Option (Nat->Rat)):0<given ch:=by cases ch <;> simp [given]
theorem LFeas.feas (G:Good P D) (F:LFeas P (given ch+P.m) (levels P ch) D):Feas P D:=by
 intro i hi;have:=zIr (by have:=zFJ ch; omega) (F i hi);rw [zBp,<-G.R hi] at this; exact this
theorem zGz (G:Good P D) (F:LFeas P (given ch+P.m) (levels P ch) D) {s:Nat} (hr:r<P.m) (hs:s<P.n) (ha:0<D.a r s)
  (h:∀ i,i<P.m->0<D.a i s->¬ LexNeg (given ch+P.m) fun k=>D.R P.n i (levels P ch k)*D.a r s-D.R P.n r (levels P ch k)*D.a i s) :
  LFeas P (given ch+P.m) (levels P ch) (D.pivot r s):=by
 have h0:D.a r s ≠ 0:=by grind
 have hv:=inv_pos ha;intro i hi;refine (G.pivot hr hs h0).pos hi ?_;refine LexNN.not ?_;by_cases e:i=r
 ·refine (LexNN.smul (.inr (F r hr)) (Rat.le_of_lt hv)).congr fun k _=>?_
  rw [zEs hs h0,if_pos e]
 ·by_cases hp:0<D.a i s
  ·(refine (LexNN.smul (LexNN.of_not (h i hi hp)) (Rat.le_of_lt hv)).congr fun k _=>?_);rw [zEs hs h0,if_neg e]; grind
  ·(refine (LexNN.add (.inr (F i hi)) (LexNN.smul (.inr (F r hr)) (k:=- D.a i s*(D.a r s)⁻¹) (by have:=mul_nonneg (show 0<=- D.a i s by grind) (Rat.le_of_lt hv); grind))).congr fun k _=>?_);rw [zEs hs h0,if_neg e]; grind
def LInf (P:Prob) (N:Nat) (lev:Nat->Nat->Rat) (D:Dict):Prop:=∃ r,r<P.m/\LexNeg N (fun k=>D.R P.n r (lev k))/\∀ j,j<P.n->0<=D.a r j
theorem zCX (h:∀ j,j<n->0<=D.a r j) (i:Nat):0<=D.R n r (unit i):=by
 have h1:0<=bb n (unit i) (D.basic r):=by rw [zBB]; split <;> grind
 have h2:0<=sum n fun j=>D.a r j*bb n (unit i) (D.free j):=zBt fun j hj=>mul_nonneg (h j hj) (by rw [zBB]; split <;> grind)
 rw [Dict.R]; grind
theorem zJI (G:Good P D) (h:LInf P (given none+P.m) (levels P none) D) (x:Nat->Rat):¬ P.Feasible x:=by
 obtain ⟨r,hr,⟨k,hk,h1,h2⟩,hj⟩:=h;dsimp only at h1;by_cases e:k=0
 ·rw [e,zBp,<-G.R hr] at h1;exact zB6 G hr h1 hj x
 ·have:=zCX hj (k-1);rw [show levels P none k=unit (k-1) from if_neg e] at h1;grind
end Go.Proofs.YtbpngececjihlaaGreat.Lin
namespace Go.Proofs.YtbpngececjihlaaGreat
open Go.RowKit Go.Shelf
variable {d b V M E k i n row r:Nat} {G:Nat->Prop} {w W W':World} {ch:Option (Nat->Rat)}
structure PV where
 d:Nat
 bas:SV
 fre:SV
 row:SV
 rb:Nat->Nat
 rc:Nat->Nat
 cb:Nat
 cc:Nat
structure PDA (W:World) (G:Nat->Prop) (x:PV) (V M E:Nat) (D:Lin.Dict):Prop where
 blk:W.heap[x.d]?=some (.cells #[.int .i64 V,x.bas.val,x.fre.val,x.row.val,.slice (some x.cb) (E+1) x.cc] 160 (0,0))
 bas:Arr W x.bas M 3 fun i=>.int .i64 (D.basic i)
 fre:Arr W x.fre V 3 fun j=>.int .i64 (D.free j)
 row:Arr W x.row M 23 fun i=>.slice (some ⟨x.rb i,0,none⟩) (E+1) (x.rc i)
 rows:∀ i,i<M->RowP W G (x.rb i) (rowL E (D.a i))
 caps:∀ i,i<M->E+1<=x.rc i/\x.rc i<=9223372036854775807
 cst:RowP W G x.cb (rowL E (D.c 0))
 ccap:E+1<=x.cc/\x.cc<=9223372036854775807
 rinj:∀ i j,i<M->j<M->x.rb i=x.rb j->i=j
 apart:∀ i,i<M->x.rb i ≠ x.cb
 bf:∀ g,x.bas.A=some ⟨g,0,none⟩->x.fre.A ≠ some ⟨g,0,none⟩
 gin:∀ b,G b->b<W.heap.size
 gd:G x.d
 gb:∀ g,x.bas.A=some ⟨g,0,none⟩->G g
 gf:∀ g,x.fre.A=some ⟨g,0,none⟩->G g
 gr:∀ g,x.row.A=some ⟨g,0,none⟩->G g
section
variable {W W':World} {G:Nat->Prop} {x:PV} {V M E:Nat} {D D':Lin.Dict}
theorem PDA.dlt (h:PDA W G x V M E D):x.d<W.heap.size:=zAa h.blk
theorem PDA.opn {bn bc fn fc rn rc cb cc:Nat} {bA fA rA:Option Addr} {rb rs:Nat->Nat} (h:PDA W G ⟨d,⟨bA,bn,bc⟩,⟨fA,fn,fc⟩,⟨rA,rn,rc⟩,rb,rs,cb,cc⟩ V M E D) :
  d<W.heap.size/\M=bn/\V=fn/\M=rn/\M<=bc/\bc<=9223372036854775807/\V<=fc/\fc<=9223372036854775807/\M<=rc/\rc<=9223372036854775807/\E+1<=cc/\cc<=9223372036854775807:=by
 obtain rfl:M=bn:=h.bas.len.symm;obtain rfl:V=fn:=h.fre.len.symm;obtain rfl:M=rn:=h.row.len.symm;exact ⟨h.dlt,rfl,rfl,rfl,h.bas.le,h.bas.cap,h.fre.le,h.fre.cap,h.row.le,h.row.cap,h.ccap.1,h.ccap.2⟩
theorem PDA.cells (h:PDA W G x V M E D) :
  W.cell? x.d=some (.int .i64 V)/\W.cell? ⟨x.d,1,none⟩=some x.bas.val/\W.cell? ⟨x.d,2,none⟩=some x.fre.val/\W.cell? ⟨x.d,3,none⟩=some x.row.val/\
  W.cell? ⟨x.d,4,none⟩=some (.slice (some x.cb) (E+1) x.cc)/\∀ o,W.frozen? ⟨x.d,o,none⟩=false:=by
 simp [World.cell?,World.frozen?,h.blk]
theorem PDA.call (h:PDA W G x V M E D) (hb:Below W W W'):PDA W' G x V M E D:=
 ⟨(hb.block _ h.dlt).trans h.blk,h.bas.below hb,h.fre.below hb,h.row.below hb,fun i hi=>(h.rows i hi).below hb,h.caps,h.cst.below hb,h.ccap,h.rinj,h.apart,h.bf,
  fun b hg=>ltl (h.gin b hg) hb.size,h.gd,h.gb,h.gf,h.gr⟩
theorem PDA.turnRow (h:PDA W G x V M E D) {l:List Rat} (hR:RowP W G b l) (hW:Fr (fun y=>y=b) W W') (ha:∀ i,i<M->x.rb i ≠ b->D'.a i=D.a i) (hc:x.cb ≠ b->D'.c 0=D.c 0)
  (hb:D'.basic=D.basic) (hf:D'.free=D.free) (hra:∀ i,i<M->x.rb i=b->RowP W' G b (rowL E (D'.a i))) (hca:x.cb=b->RowP W' G b (rowL E (D'.c 0))):PDA W' G x V M E D':=by
 obtain ⟨cs,eb,_⟩:=hR.blk;have hd:x.d ≠ b:=by rintro e; have:=h.blk; rw [e,eb] at this; cases this
 have keep:∀ g,g ≠ b->g<W.heap.size->W'.heap[g]?=W.heap[g]?:=fun g hg hl=>hW.block g hl hg
 refine ⟨(keep _ hd h.dlt).trans h.blk,?_,?_,h.row.keep fun g e hl=>keep g (zDD h.row eb (by decide) e) hl,fun i hi=>?_,h.caps,?_,h.ccap,h.rinj,h.apart,h.bf,
  fun y hy=>ltl (h.gin y hy) hW.size,h.gd,h.gb,h.gf,h.gr⟩
 ·rw [hb]; exact h.bas.keep fun g e hl=>keep g (zDD h.bas eb (by decide) e) hl
 ·rw [hf]; exact h.fre.keep fun g e hl=>keep g (zDD h.fre eb (by decide) e) hl
 ·by_cases e:x.rb i=b
  ·have:=hra i hi e; rw [e]; exact this
  ·rw [ha i hi e];exact (h.rows i hi).keep (keep _ e (h.rows i hi).lt) fun p hp hl=>cob (keep _ (fun e=>hp (by rw [e]; exact hR.mem)) hl)
 ·by_cases e:x.cb=b
  ·have:=hca e; rw [e]; exact this
  ·rw [hc e];exact h.cst.keep (keep _ e h.cst.lt) fun p hp hl=>cob (keep _ (fun e=>hp (by rw [e]; exact hR.mem)) hl)
end
theorem zEu {x:PV} {D:Lin.Dict} (h:PDA w G x V M E D) (hV:V<=E+1) (hE:E<=1001) (hM:M<=1000) :
  Calls Tryz.prog 214 #[.pointer (some x.d)] w fun e w'=>e = .returned (.int .i64 ((E+1-V+M:Nat):Int))/\Below w w w':=by
 obtain ⟨d,⟨bA,bn,bc⟩,⟨fA,fn,fc⟩,⟨rA,rn,rc⟩,rb,rs,cb,cc⟩:=x;obtain ⟨hdl,rfl,rfl,rfl,l1,l1',l2,l2',l3,l3',l4,l4'⟩:=h.opn;obtain ⟨c0,c1,c2,c3,c4,c8⟩:=h.cells;dsimp only [SV.val] at c0 c1 c2 c3 c4 c8;have e1:IntKind.i64.wrap ((E:Int)+1-(V:Int))=(E:Int)+1-(V:Int):=IntWalk.i64_in _ (by omega);have e2:IntKind.i64.wrap ((E:Int)+1-(V:Int)+(M:Int))=(E:Int)+1-(V:Int)+(M:Int):=IntWalk.i64_in _ (by omega);have e3:((E+1-V+M:Nat):Int)=(E:Int)+1-(V:Int)+(M:Int):=by omega
 rw [e3];go_enter Tryz.func214,Tryz.ntmps214
 go_wp2
 go_region_held3 (Sees w [] w) (exact kp)
  (fail)
 rename_i hS;have hbf:=hS.kept.whole;clear hS;go_wp2;go_ret;exact ⟨rfl,hbf⟩
def plc (D:Lin.Dict) (V k i:Nat):Int:=if Lin.find D.free (V+i) k<k then (Lin.find D.free (V+i) k:Int) else -1
theorem zJl (D:Lin.Dict) (V i:Nat):plc D V 0 i=-1:=by simp [plc]
theorem zJj {D:Lin.Dict} (h:D.free k<V):plc D V (k+1)=plc D V k:=by
 funext i;unfold plc;by_cases h1:Lin.find D.free (V+i) k<k
 ·have h2:Lin.find D.free (V+i) (k+1)=Lin.find D.free (V+i) k:=by simp [Lin.find,h1]
  rw [h2,if_pos (by omega),if_pos h1]
 ·have h2:Lin.find D.free (V+i) (k+1)=k+1:=by simp [Lin.find,h1]; omega
  rw [h2,if_neg (by omega),if_neg h1]
theorem zJk {D:Lin.Dict} (h:V<=D.free k) (inj:∀ j,j<k->D.free j ≠ D.free k) (i:Nat):plc D V (k+1) i=if i=D.free k-V then (k:Int) else plc D V k i:=by
 unfold plc;by_cases e:i=D.free k-V
 ·have e2:V+i=D.free k:=by omega
  have h1:¬ Lin.find D.free (D.free k) k<k:=Lin.zCQ inj;have h2:Lin.find D.free (V+i) (k+1)=k:=by rw [e2]; simp [Lin.find,h1]
  rw [h2,if_pos (by omega),if_pos e]
 ·rw [if_neg e];by_cases h1:Lin.find D.free (V+i) k<k
  ·have h2:Lin.find D.free (V+i) (k+1)=Lin.find D.free (V+i) k:=(by simp [Lin.find,h1]);rw [h2,if_pos (by omega),if_pos h1]
  ·have h2:Lin.find D.free (V+i) (k+1)=k+1:=by simp [Lin.find,h1]; omega
   rw [h2,if_neg (by omega),if_neg h1]
def IntsAt' (W:World) (b n:Nat) (f:Nat->Int):Prop:=∃ cs,W.heap[b]?=some (.cells cs 3 (0,0))/\∀ i,i<n->cs[i]?=some (.int .i64 (f i))
theorem IntsAt'.cell {f:Nat->Int} (h:IntsAt' W b n f) (hi:i<n):W.cell? ⟨b,i,none⟩=some (.int .i64 (f i))/\(∀ o,W.frozen? ⟨b,o,none⟩=false)/\b<W.heap.size:=by
 obtain ⟨cs,e,hc⟩:=h;exact ⟨by simp [World.cell?,e,hc i hi],fun o=>by simp [World.frozen?,e],zAa e⟩
theorem IntsAt'.keep {f:Nat->Int} (h:IntsAt' W b n f) (hb:Below W W W'):IntsAt' W' b n f:=by
 obtain ⟨cs,e,hc⟩:=h;exact ⟨cs,(hb.block b (zAa e)).trans e,hc⟩
theorem IntsAt'.set {f g:Nat->Int} (h:IntsAt' W b n f) (k:Nat) (v:Int) (_hk:k<n) (e:∀ i,i<n->g i=if i=k then v else f i):IntsAt' (W.setCell ⟨b,k,none⟩ (.int .i64 v)) b n g:=by
 obtain ⟨cs,eb,hc⟩:=h;refine ⟨_,zAe _ eb,fun i hi=>?_⟩;have hs:i<cs.size:=(Array.getElem?_eq_some_iff.1 (hc i hi)).1;rw [Array.getElem?_setIfInBounds,e i hi];by_cases h':k=i
 ·subst h'; rw [if_pos rfl,if_pos hs,if_pos rfl]
 ·rw [if_neg h',if_neg (Ne.symm h')]; exact hc i hi
def PlLoop0 (w:World) (M:Nat) (t:Value) (W:World):Prop:=
 ∃ i:Nat,i<=M/\t = .int .i64 i/\IntsAt' W w M (fun j=>if j<i then -1 else 0)/\Below w w W
def PlLoop1 (w:World) (V M:Nat) (D:Lin.Dict) (t:Value) (W:World):Prop:=
 ∃ k:Nat,k<=V/\t = .int .i64 k/\IntsAt' W w M (plc D V k)/\Below w w W
theorem zDJ {x:PV} {D:Lin.Dict} (h:PDA w G x V M E D) (inj:∀ i j,i<V->j<V->D.free i=D.free j->i=j) (hF:∀ j,j<V->D.free j<V+M) (hV:V<=1000) (hM:M<=1000) :
  Calls Tryz.prog 178 #[.pointer (some x.d)] w fun e w'=>(e = .returned (.slice (some w) M M)/\IntsAt' w' w M (plc D V V))/\Below w w w':=by
 have HI:=hdq inj;have HB:=hdq hF;clear inj hF;obtain ⟨d,⟨bA,bn,bc⟩,⟨fA,fn,fc⟩,⟨rA,rn,rc⟩,rb,rs,cb,cc⟩:=x;obtain ⟨hdl,rfl,rfl,rfl,l1,l1',l2,l2',l3,l3',l4,l4'⟩:=h.opn;obtain ⟨c0,c1,c2,c3,c4,c8⟩:=h.cells;dsimp only [SV.val] at c0 c1 c2 c3 c4 c8;have hmk:=zHU M (by omega);go_enter Tryz.func178,Tryz.ntmps178
 go_wp2
 have H1:PlLoop0 w M (.int .i64 0) (w.alloc (.cells (zeroI M) 3)):=
  ⟨0,nzl _,rfl,⟨_,zAd w (.cells (zeroI M) 3) rfl,fun i hi=>by rw [zGg _ _ hi]; simp⟩,bal⟩
 clear hmk c0 c1 c2 c3 c4 c8;generalize w.alloc (.cells (zeroI M) 3)=W0 at *;go_loopw [15] (fun t W=>PlLoop0 w M t W) (fun t _=>M-(intOf t).toNat)
 case atStart=>exact H1
 case round=>
  clear H1;obtain ⟨i,hi,rfl,hR,hBl⟩:=hrel;by_cases hlt:i<M
  ·obtain ⟨g0,g1,g2⟩:=hR.cell hlt;have hii:(i:Int)<(M:Int):=by omega
   have Hfin:Hid (PlLoop0 w M (.int .i64 ((i:Int)+1)) (wr.setCell ⟨w.heap.size,i,none⟩ (.int .i64 (-1)))):=
    ⟨i+1,by omega,by simp,hR.set i (-1) hlt (fun j hj=>by by_cases e:j=i <;> simp [e] <;> grind),hBl.setCell (p:=⟨w.heap.size,i,none⟩) (nlr _) _⟩
   clear hR hBl;go_wp2;go_roundw;case rel=>exact Hfin.out
   case measure=>simp [intOf]; omega
  ·have H2:PlLoop1 w V M D (.int .i64 0) wr:=by
    (obtain rfl:i=M:=by omega);obtain ⟨cs,e,hc⟩:=hR;exact ⟨0,nzl _,rfl,⟨cs,e,fun j hj=>by rw [hc j hj,zJl]; dsimp only; rw [if_pos hj]⟩,hBl⟩
   have hD:=h.call hBl;obtain ⟨c0,c1,c2,c3,c4,c8⟩:=hD.cells;dsimp only [SV.val] at c0 c1 c2 c3 c4 c8;clear hR hD;go_wp2;clear c0 c1 c2 c3 c4 c8 hBl hi hlt;(go_loopw [27] (fun t W=>PlLoop1 w V M D t W) (fun t _=>V-(intOf t).toNat));case atStart=>exact H2
   case round=>
    clear H2;obtain ⟨k,hk,rfl,hR,hBl⟩:=hrel;by_cases hlt:k<V
    ·have hD:=h.call hBl;obtain ⟨gf,e,f0,f1,f2⟩:=hD.fre.elem hlt;dsimp only at e f0;subst e;obtain ⟨c0,c1,c2,c3,c4,c8⟩:=hD.cells;dsimp only [SV.val] at c0 c1 c2 c3 c4 c8;have hfk:=HB.out k hlt;have hkk:(k:Int)<(V:Int):=(by omega);by_cases hs:V<=D.free k
     ·obtain ⟨g0,g1,g2⟩:=hR.cell (show D.free k-V<M by omega);have hge:(V:Int)<=(D.free k:Int):=(by omega);have e1:IntKind.i64.wrap ((D.free k:Int)-(V:Int))=((D.free k-V:Nat):Int):=by rw [IntWalk.i64_in _ (by omega)]; omega
      have hlm:((D.free k-V:Nat):Int)<(M:Int):=by omega
      have Hfin:Hid (PlLoop1 w V M D (.int .i64 ((k:Int)+1)) (wr.setCell ⟨w.heap.size,D.free k-V,none⟩ (.int .i64 k))):=
       ⟨k+1,by omega,by simp,hR.set _ _ (by omega) (fun j hj=>zJk hs (fun j hj e=>by have:=HI.out j k (by omega) hlt e; omega) j),hBl.setCell (p:=⟨w.heap.size,D.free k-V,none⟩) (nlr _) _⟩
      clear hR hBl hD;go_wp2;go_roundw;case rel=>exact Hfin.out
      case measure=>simp [intOf]; omega
     ·have hge:¬ (V:Int)<=(D.free k:Int):=(by omega);have Hfin:Hid (PlLoop1 w V M D (.int .i64 ((k:Int)+1)) wr):=⟨k+1,by omega,by simp,by rw [zJj (by omega)]; exact hR,hBl⟩;clear hR hBl hD;go_wp2;go_roundw;case rel=>exact Hfin.out
      case measure=>simp [intOf]; omega
    ·(obtain rfl:k=V:=by omega);go_wp2;go_ret;exact ⟨⟨rfl,hR⟩,hBl⟩
def rv (D:Lin.Dict) (V E row i:Nat):Rat:=
 if i<E+1-V then D.a row (V+i)
 else if 0<=plc D V V (i-(E+1-V)) then D.a row (plc D V V (i-(E+1-V))).toNat
 else if D.basic row=V+(i-(E+1-V)) then 1 else 0
def RgtRet (_w:World) (G:Nat->Prop) (q:Rat) (e:Ending) (w':World):Prop:=∃ v:QV,e = .returned v.val/\QCan w' (fun y=>¬ G y) v q
theorem zJL (D:Lin.Dict) (V k i:Nat) (h:0<=plc D V k i):(plc D V k i).toNat<k:=by
 unfold plc at *
 split at h
 ·rename_i h1; simp [h1]
 ·omega
theorem zCU {x:PV} {pb:Nat} {D:Lin.Dict} (h:PDA w G x V M E D) (hp:IntsAt' w pb M (plc D V V)) (hr:row<M) (hi:i<E+1-V+M) (hV:V<=E) (hE:E<=1001) (hM:M<=1000) (_hB:D.basic row<V+M) :
  Calls Tryz.prog 215 #[.pointer (some x.d),.int .i64 (row:Int),.int .i64 (i:Int),.slice (some pb) M M] w fun e w'=>RgtRet w G (rv D V E row i) e w'/\Below w w w':=by
 obtain ⟨d,⟨bA,bn,bc⟩,⟨fA,fn,fc⟩,⟨rA,rn,rc⟩,rb,rs,cb,cc⟩:=x;obtain ⟨hdl,rfl,rfl,rfl,l1,l1',l2,l2',l3,l3',l4,l4'⟩:=h.opn;obtain ⟨c0,c1,c2,c3,c4,c8⟩:=h.cells;dsimp only [SV.val] at c0 c1 c2 c3 c4 c8;obtain ⟨gr,e,r0,r1,r2⟩:=h.row.elem hr;dsimp only at e r0;subst e;have hrow:=h.rows row hr;have hcap:=h.caps row hr;dsimp only at hrow hcap;have hrl:=hrow.lt;have hn1:w.heap.size ≠ d:=by omega
 have e1:IntKind.i64.wrap ((E:Int)+1-(V:Int))=(E:Int)+1-(V:Int):=IntWalk.i64_in _ (by omega);have hri:(row:Int)<(M:Int):=by omega
 go_enter Tryz.func215,Tryz.ntmps215
 go_wp2;refine zAo (fun W=>Below w w W/\Box4 W w (.bool false) (.slice none 0 0) (.bool false) (.slice none 0 0)/\w.heap.size<W.heap.size) ⟨(az (brf _ _)),bx4,by simp <;> omega⟩ ?_;rintro W ⟨hbW,bR,s0⟩;have hBW:=hbW.size;have h':=h.call hbW;have hp':=hp.keep hbW;obtain ⟨hcc,-⟩:=bcell hbW;rw [<-hcc _ _ hdl] at c0 c1 c3 c4;have t1:d<W.heap.size:=by omega
 go_region_held3 (Sees w [] W) (exact kp)
  (fail)
 rename_i hS;have hbS:Below W W W.drew:=(brf _ _).drew;clear hS c0 c1 c2 c3 c4 c8 r0 hcc;have hD:=h'.call hbS;have hP:=hp'.keep hbS;have bR2:=bR.below hbS s0;have s02:w.heap.size<W.drew.heap.size:=ltl s0 hbS.size;have hb2:=hbW.trans (hbS.mono hBW);clear bR hbS hbW h' hp' s0 hBW t1 hrow hrl r1 r2;generalize W.drew=W2 at *;have hBW:=hb2.size;by_cases hg:i<E+1-V
 ·have hii:(i:Int)<(E:Int)+1-(V:Int):=by omega
  have hE:Hid (rv D V E row i=D.a row (V+i)):=by show _=_; unfold rv; rw [if_pos hg]
  have e2:IntKind.i64.wrap ((V:Int)+(i:Int))=(V:Int)+(i:Int):=IntWalk.i64_in _ (by omega);have hj0:(0:Int)<=(V:Int)+(i:Int):=by omega
  have hji:(V:Int)+(i:Int)<(E:Int)+1:=by omega
  obtain ⟨c0,c1,c2,c3,c4,c8⟩:=hD.cells;dsimp only [SV.val] at c0 c1 c2 c3 c4 c8;obtain ⟨gr',e',r0,r1,r2⟩:=hD.row.elem hr;dsimp only at e' r0;cases e';have hrow:=h.rows row hr;dsimp only at hrow;obtain ⟨u,⟨q0,q1,q2,q3⟩,hu⟩:=hrow.elem (V+i) (by rw [zAm]; omega);rw [zAL _ (by omega)] at hu;dsimp only at q1 q2 q3;obtain ⟨hc2,-⟩:=bcell hb2;rw [<-hc2 _ _ hrow.lt] at q0 q1 q2 q3;have hrl:=zAb q0;dsimp only at hrl;clear hc2 hrow;have htn:((V:Int)+(i:Int)).toNat=V+i:=by omega
  rw [<-htn] at q0 q1 q2 q3;clear htn;have hdl2:=hD.dlt;dsimp only at hdl2;have m1:¬ (d=w.heap.size):=by omega
  have m2:¬ (gr=w.heap.size):=by have:=r2; intro e; have:=h.gr gr rfl; have:=h.gin gr this; omega
  have m3:¬ (rb row=w.heap.size):=by intro e; have:=h.gin _ (h.rows row hr).mem; dsimp only at this; omega
  go_wp2
  go_region_held3 (Sees w [w.heap.size] W2) (exact kp)
   (fail)
  rename_i hS;have hbf:=hb2.trans hS.kept.below;obtain ⟨v0,v1,v2,v3,-⟩:=bR2.stored (.bool u.num.ng) (.slice u.num.A u.num.n u.num.c) (.bool u.den.ng) (.slice u.den.A u.den.n u.den.c);clear hS;go_wp2;exact bodyPost_ret (v:=u.val) (by simp [results,Tryz.results215,go_sem,v0,v1,v2,v3]) rfl ⟨⟨u,rfl,by rw [hE.out]; exact hu.below hbf⟩,hbf⟩
 ·obtain ⟨k,hk⟩:∃ k,k=i-(E+1-V):=⟨_,rfl⟩;have hii:¬ (i:Int)<(E:Int)+1-(V:Int):=by omega
  have e2:IntKind.i64.wrap ((i:Int)-((E:Int)+1-(V:Int)))=(k:Int):=by rw [IntWalk.i64_in _ (by omega)]; omega
  have hkM:k<M:=by omega
  have hki:(k:Int)<(M:Int):=by omega
  obtain ⟨p0,p1,p2⟩:=hP.cell hkM;by_cases hpl:0<=plc D V V k
  ·have hE:Hid (rv D V E row i=D.a row (plc D V V k).toNat):=by show _=_; unfold rv; rw [if_neg hg,<-hk,if_pos hpl]
   have hcV:=zJL _ _ _ _ hpl;obtain ⟨c,hc⟩:∃ c:Nat,plc D V V k=(c:Int):=⟨(plc D V V k).toNat,by omega⟩;rw [hc] at hE p0 hcV;rw [Int.toNat_natCast] at hcV hE;have hc0:(0:Int)<=(c:Int):=(by omega);have hcE:(c:Int)<(E:Int)+1:=(by omega);clear hpl hc hk;obtain ⟨c0,c1,c2,c3,c4,c8⟩:=hD.cells;dsimp only [SV.val] at c0 c1 c2 c3 c4 c8;obtain ⟨gr',e',r0,r1,r2⟩:=hD.row.elem hr;dsimp only at e' r0;cases e';have hrow:=h.rows row hr;dsimp only at hrow;obtain ⟨u,⟨q0,q1,q2,q3⟩,hu⟩:=hrow.elem c (by rw [zAm]; omega);rw [zAL _ (by omega)] at hu;dsimp only at q1 q2 q3;obtain ⟨hc2,-⟩:=bcell hb2;rw [<-hc2 _ _ hrow.lt] at q0 q1 q2 q3;have hrl:=zAb q0;dsimp only at hrl;clear hc2 hrow;have hdl2:=hD.dlt;dsimp only at hdl2;have m1:¬ (d=w.heap.size):=(by omega);have m2:¬ (gr=w.heap.size):=by intro e; have:=h.gr gr rfl; have:=h.gin gr this; omega
   have m3:¬ (rb row=w.heap.size):=by intro e; have:=h.gin _ (h.rows row hr).mem; dsimp only at this; omega
   have m4:¬ (pb=w.heap.size):=by intro e; have:=(hp.cell hkM).2.2; omega
   go_wp2
   go_region_held3 (Sees w [w.heap.size] W2) (exact kp)
    (fail)
   rename_i hS;have hbf:=hb2.trans hS.kept.below;obtain ⟨v0,v1,v2,v3,-⟩:=bR2.stored (.bool u.num.ng) (.slice u.num.A u.num.n u.num.c) (.bool u.den.ng) (.slice u.den.A u.den.n u.den.c);clear hS;go_wp2;exact bodyPost_ret (v:=u.val) (by simp [results,Tryz.results215,go_sem,v0,v1,v2,v3]) rfl ⟨⟨u,rfl,by rw [hE.out]; exact hu.below hbf⟩,hbf⟩
  ·obtain ⟨gb,e,b0,b1,b2⟩:=hD.bas.elem hr;dsimp only at e b0;subst e;obtain ⟨c0,c1,c2,c3,c4,c8⟩:=hD.cells;dsimp only [SV.val] at c0 c1 c2 c3 c4 c8;have hpl':¬ (0:Int)<=plc D V V k:=hpl;have e3:IntKind.i64.wrap ((V:Int)+(i:Int))=(V:Int)+(i:Int):=IntWalk.i64_in _ (by omega);have e4:IntKind.i64.wrap ((V:Int)+(i:Int)-((E:Int)+1-(V:Int)))=((V+k:Nat):Int):=by rw [IntWalk.i64_in _ (by omega)]; omega
   have hdl2:=hD.dlt;dsimp only at hdl2;have HKk:=hdq hk;clear hk;by_cases hbk:D.basic row=V+k
   ·have hE:Hid (rv D V E row i=1):=by show _=_; unfold rv; rw [if_neg hg,<-HKk.out,if_neg hpl,if_pos hbk]
    rw [hbk] at b0;go_wp2
    go_region_held3 (Sees w [] W2) (exact kp)
     (fail)
    rename_i hS;have hbS:Below W2 W2 W2.drew:=(brf _ _).drew;clear hS;(go_wp2_with fail);refine (zAN 1 (by decide) (by decide) _).mono ?_; rintro e w1 ⟨⟨y,rfl,hy⟩,hb1⟩
    have b1:=(bR2.below hbS s02).below hb1 s02;obtain ⟨v0,v1,v2,v3,-⟩:=b1.stored (.bool y.num.ng) (.slice y.num.A y.num.n y.num.c) (.bool y.den.ng) (.slice y.den.A y.den.n y.den.c);go_wp2;have hbf:=zAl (x0:=.bool y.num.ng) (x1:=.slice y.num.A y.num.n y.num.c) (x2:=.bool y.den.ng) (x3:=.slice y.den.A y.den.n y.den.c) (hb2.trans (hbS.trans hb1 |>.mono hBW)) (nlr w);have hsz:w.heap.size<=W2.drew.heap.size:=hBW;exact bodyPost_ret (v:=y.val) (by simp [results,Tryz.results215,go_sem,v0,v1,v2,v3]) rfl ⟨⟨y,rfl,by rw [hE.out]; exact (hy.set4 s02).imp fun b _ hb hG=>by have:=h.gin b hG; simp only [New] at hb; omega⟩,hbf⟩
   ·have hE:Hid (rv D V E row i=0):=by show _=_; unfold rv; rw [if_neg hg,<-HKk.out,if_neg hpl,if_neg hbk]
    have hbn:((D.basic row:Int) == ((V+k:Nat):Int))=false:=by simp; omega
    go_wp2
    go_region_held3 (Sees w [] W2) (exact kp)
     (fail)
    rename_i hS;have hbS:Below W2 W2 W2.drew:=(brf _ _).drew;clear hS;obtain ⟨v0,v1,v2,v3,-⟩:=bR2.stored (.bool false) (.slice none 0 0) (.bool false) (.slice none 0 0);go_wp2;have hbf:=zAl (x0:=.bool false) (x1:=.slice none 0 0) (x2:=.bool false) (x3:=.slice none 0 0) (hb2.trans (hbS.mono hBW)) (nlr w);exact bodyPost_ret (v:=QV.val ⟨⟨false,none,0,0⟩,⟨false,none,0,0⟩⟩) (by simp [results,Tryz.results215,go_sem,v0,v1,v2,v3]) rfl ⟨⟨_,rfl,by rw [hE.out]; exact QCan.zero _ _⟩,hbf⟩
def PInv (P:Lin.Prob) (ch:Option (Nat->Rat)) (D:Lin.Dict):Prop:=
 Lin.Good P D/\∀ c,ch=some c->(∀ i,i<P.m->D.a i (P.n+1)=D.R P.n i c)/\D.c 0 (P.n+1)=D.Rc P.n 0 c
theorem PInv.pivot {P:Lin.Prob} {D:Lin.Dict} (h:PInv P ch D) {s:Nat} (hr:r<P.m) (hs:s<P.n) (h0:D.a r s ≠ 0):PInv P ch (D.pivot r s):=by
 refine ⟨h.1.pivot hr hs h0,fun c hc=>?_⟩;obtain ⟨ha,hcc⟩:=h.2 c hc;have es:Lin.scaled s (D.a r) (P.n+1)=(D.a r s)⁻¹*D.R P.n r c:=by rw [Lin.zBA _ (by omega),ha r hr]
 refine ⟨fun i hi=>?_,?_⟩
 ·rw [Lin.zEs hs h0];show (if i=r then Lin.scaled s (D.a r) else Lin.elim s (Lin.scaled s (D.a r)) (D.a i)) (P.n+1)=_;by_cases e:i=r
  ·rw [if_pos e,if_pos e,es]
  ·rw [if_neg e,if_neg e,Lin.zBD _ _ (by omega),es,ha i hi]
 ·rw [Lin.zFs hs h0];show Lin.elim s (Lin.scaled s (D.a r)) (D.c 0) (P.n+1)=_;rw [Lin.zBD _ _ (by omega),es,hcc]
theorem zJ9 {P:Lin.Prob} {D:Lin.Dict} (G:Lin.Good P D) (hr:row<P.m) :
  D.R P.n row (Lin.unit i)=if 0<=plc D P.n P.n i then D.a row (plc D P.n P.n i).toNat else if D.basic row=P.n+i then 1 else 0:=by
 rw [Lin.Dict.R,Lin.zBB];by_cases h:Lin.find D.free (P.n+i) P.n<P.n
 ·have e:plc D P.n P.n i=(Lin.find D.free (P.n+i) P.n:Int):=by unfold plc; rw [if_pos h]
  have e2:D.free (Lin.find D.free (P.n+i) P.n)=P.n+i:=by
   rcases Lin.zCi D.free (P.n+i) P.n with h1 | h1
   ·exact h1.2
   ·omega
  have e5:(if 0<=plc D P.n P.n i then D.a row (plc D P.n P.n i).toNat else if D.basic row=P.n+i then (1:Rat) else 0)=D.a row (Lin.find D.free (P.n+i) P.n):=by
   rw [e,if_pos (by omega),Int.toNat_natCast]
  rw [e5,if_neg (fun e3=>G.apart row _ hr h (e3.trans e2.symm)),Lin.zBu (s:=Lin.find D.free (P.n+i) P.n) h (fun j hj hne=>by
   rw [Lin.zBB,if_neg (fun e3=>hne (G.fInj _ _ hj h (e3.trans e2.symm)))]; grind),Lin.zBB,if_pos e2]; grind
 ·have e:plc D P.n P.n i=-1:=by unfold plc; rw [if_neg h]
  have e5:(if 0<=plc D P.n P.n i then D.a row (plc D P.n P.n i).toNat else if D.basic row=P.n+i then (1:Rat) else 0)=if D.basic row=P.n+i then (1:Rat) else 0:=by
   rw [e,if_neg (by omega)]
  rw [e5,Lin.zAC fun j hj=>by
   rw [Lin.zBB,if_neg (fun e3=>h (Lin.zFk hj e3).1)]; grind]; grind
theorem PInv.rv {P:Lin.Prob} {D:Lin.Dict} (h:PInv P ch D) (hE:E+1-P.n=Lin.given ch) (hr:row<P.m) :
  rv D P.n E row k=D.R P.n row (Lin.levels P ch k):=by
 unfold Proofs.YtbpngececjihlaaGreat.rv;rw [hE];by_cases hk:k<Lin.given ch
 ·rw [if_pos hk]
  cases ch with
  | none=>
   obtain rfl:k=0:=by simp [Lin.given] at hk; omega
   exact h.1.R hr
  | some c=>
   have:k=0\/k=1:=by simp [Lin.given] at hk; omega
   rcases this with rfl | rfl
   ·exact h.1.R hr
   ·exact (h.2 c rfl).1 row hr
 ·obtain ⟨i,rfl⟩:∃ i,k=Lin.given ch+i:=⟨k-Lin.given ch,by omega⟩;rw [if_neg hk,Lin.zEj,show Lin.given ch+i-Lin.given ch=i by omega,zJ9 h.1 hr]
structure PFits (V M E kb:Nat) (D:Lin.Dict):Prop where
 a:∀ i j,i<M->j<=E->Lin.Fits kb (D.a i j)
 c:∀ j,j<=E->Lin.Fits kb (D.c 0 j)
 r:∀ i k,i<M->k<E+1-V+M->Lin.Fits kb (rv D V E i k)
theorem PInv.fits {P:Lin.Prob} {D:Lin.Dict} (h:PInv P ch D) (hE:E+1-P.n=Lin.given ch) (hK:0<P.K) (hk:1<=k) (h0:P.start.Fits P k) (h1:∀ c,ch=some c->(P.re c).start.Fits (P.re c) k):PFits P.n P.m E (5 ^ P.n*k) D:=by
 have f0:=h.1.fits hk h0;have hg:=Lin.zFJ ch
 have ha:∀ i j,i<P.m->j<=E->Lin.Fits (5 ^ P.n*k) (D.a i j):=by
  intro i j hi hj;by_cases hj2:j<=P.n
  ·exact f0.1 i j hi hj2
  ·cases ch with
   | none=>simp [Lin.given] at hE; omega
   | some c=>
    obtain rfl:j=P.n+1:=by simp [Lin.given] at hE; omega
    have:=((h.1.re c).fits hk (h1 c rfl)).1 i P.n hi (nlr _);rw [show (D.re P.n c).a i P.n=D.R P.n i c from if_pos rfl] at this;rw [(h.2 c rfl).1 i hi]; exact this
 have hc:∀ j,j<=E->Lin.Fits (5 ^ P.n*k) (D.c 0 j):=by
  intro j hj;by_cases hj2:j<=P.n
  ·exact f0.2 0 j hK hj2
  ·cases ch with
   | none=>simp [Lin.given] at hE; omega
   | some c=>
    obtain rfl:j=P.n+1:=by simp [Lin.given] at hE; omega
    have:=((h.1.re c).fits hk (h1 c rfl)).2 0 P.n hK (nlr _);rw [show (D.re P.n c).c 0 P.n=D.Rc P.n 0 c from if_pos rfl] at this;rw [(h.2 c rfl).2]; exact this
 refine ⟨ha,hc,fun i j hi hj=>?_⟩;unfold Proofs.YtbpngececjihlaaGreat.rv
 split
 ·exact ha i _ hi (by omega)
 ·split
  ·rename_i h2;have:=zJL _ _ _ _ h2;exact ha i _ hi (by omega)
  ·split
   ·exact Lin.Fits.one _
   ·exact Lin.Fits.zero _
end Go.Proofs.YtbpngececjihlaaGreat
