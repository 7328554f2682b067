/- Texts OptmM PsM of this claim. -/
import Derived.Test.YtpjaodcimomaiaaGreatS29
set_option maxHeartbeats 4000000
namespace Go.Proofs.YtpjaodcimomaiaaGreat
open Go.RowKit Go.Shelf Lin
variable {bs:List Rat} {os rs:List (List Rat)} {V k n:Nat} {f:Nat->Rat} {P:Lin.Prob}
theorem zJd {x:List Rat} (hc:colsOf rs<=V) (hx:x.length=V):((∀ k,k<x.length->0<=x.getD k 0)/\∀ i,i<rs.length->dotL (rs.getD i []) x<=bs.getD i 0) ↔ (probOf V os rs bs).Feasible fun k=>x.getD k 0:=by
 constructor
 ·rintro ⟨h1,h2⟩;refine ⟨fun k hk=>h1 k (by rw [hx]; exact hk),fun i hi=>?_⟩;have:=h2 i hi;rw [zGW (zBT hc i) hx] at this;exact this
 ·rintro ⟨h1,h2⟩;refine ⟨fun k hk=>h1 k (by rw [hx] at hk; exact hk),fun i hi=>?_⟩;rw [zGW (zBT hc i) hx];exact h2 i hi
open Lin
theorem zQJ {x:Nat->Rat} (h:(probOf V [os.getD 0 []] rs bs).Optimal x) :
  (prob1 V os rs bs).Feasible x/\∀ z,(prob1 V os rs bs).Feasible z->(sum V fun k=>(os.getD 0 []).getD k 0*z k)<=sum V fun k=>(os.getD 0 []).getD k 0*x k:=by
 refine ⟨h.1,fun z hz=>?_⟩;rcases h.2 z hz with ⟨l,hl,hp,h0⟩ | he
 ·have e:∀ u,(probOf V [os.getD 0 []] rs bs).obj 0 u=sum V fun k=>(os.getD 0 []).getD k 0*u k:=fun u=>rfl
  by_cases h1:l=0
  ·subst h1; simp only [e] at hp; grind
  ·have:=h0 0 (by omega); simp only [e] at this; grind
 ·rw [zAh (g:=fun k=>(os.getD 0 []).getD k 0*x k) fun k hk=>by rw [he k hk]];exact Rat.le_refl
section
variable {P:Prob} {D:Dict} {k:Nat} {x:Nat->Rat}
theorem zQC (hK:P.K=1) (hI:PInv P none D) (hE:Ends P none D k) (hx:P.Feasible x) (hm:∀ z,P.Feasible z->(sum P.n fun k=>P.O 0 k*z k)<=sum P.n fun k=>P.O 0 k*x k):k=1:=by
 rcases hE.cases with rfl | rfl | rfl
 ·rfl
 ·exact absurd hx (ends2 hI hE x)
 ·obtain ⟨z,hz,h⟩:=grows hI hE hK ((sum P.n fun k=>P.O 0 k*x k)+1);have:=hm z hz;grind
theorem zQG (hK:P.K=1) (hI:PInv P none D) (hE:Ends P none D 1) (hx:P.Feasible x) (hm:∀ z,P.Feasible z->(sum P.n fun k=>P.O 0 k*z k)<=sum P.n fun k=>P.O 0 k*x k):(sum P.n fun k=>P.O 0 k*x k)=D.c 0 P.n:=by
 have h:=zQK hI hE (by omega);obtain ⟨⟨y,hy,e⟩,_⟩:=id h;have h1:=h.le hx;have h2:=hm y hy;grind
theorem zQP (hK:P.K=1) (hI:PInv P none D) (hE:Ends P none D k) (hno:∀ x,¬ P.Feasible x):k=2:=by
 rcases hE.cases with rfl | rfl | rfl
 ·obtain ⟨⟨y,hy,_⟩,_⟩:=zQK hI hE (by omega);exact absurd hy (hno y)
 ·rfl
 ·obtain ⟨z,hz,_⟩:=grows hI hE hK 0;exact absurd hz (hno z)
end
theorem zQR {x d:Nat->Rat} {D:Dict} (hI:PInv (prob1 V os rs bs) none D) (hE:Ends (prob1 V os rs bs) none D k) (hu:(probOf V [os.getD 0 []] rs bs).Unbounded x d):k=3:=by
 have hx:(prob1 V os rs bs).Feasible x:=hu.1;rcases hE.cases with rfl | rfl | rfl
 ·have hM:=zQK hI hE Nat.one_pos;obtain ⟨-,-,-,j,hj,hp,-⟩:=id hu;obtain rfl:j=0:=by have:j<1:=hj; omega
  have hp':0<sum V fun k=>(os.getD 0 []).getD k 0*d k:=hp
  generalize hc:(sum V fun k=>(os.getD 0 []).getD k 0*d k)=c at *;obtain ⟨r,hr⟩:∃ r,(sum V fun k=>(os.getD 0 []).getD k 0*x k)=r:=⟨_,rfl⟩;obtain ⟨v,hv⟩:∃ v,D.c 0 (prob1 V os rs bs).n=v:=⟨_,rfl⟩;have hrv:r<=v:=by rw [<-hr,<-hv]; exact hM.le hx
  have ht:0<=(v+1-r)*c⁻¹:=mul_nonneg (by grind) (Rat.le_of_lt (inv_pos hp'));have h1:=hM.le (x:=fun k=>x k+(v+1-r)*c⁻¹*d k) (hu.move hu.1 ht)
  rw [show (sum (prob1 V os rs bs).n fun k=>(prob1 V os rs bs).O 0 k*(x k+(v+1-r)*c⁻¹*d k))=r+(v+1-r)*c⁻¹*c by rw [<-hr,<-hc]; exact zLo (P:=prob1 V os rs bs) _ _ _ _,hv,
   show (v+1-r)*c⁻¹*c=v+1-r by rw [Rat.mul_assoc,Rat.inv_mul_cancel _ (by grind)]; grind] at h1
  exfalso; grind
 ·exact absurd hx (ends2 hI hE x)
 ·rfl
theorem zQD {g:Nat->Rat} (h:∀ i,i<n->f i<=g i) (e:sum n f=sum n g):∀ i,i<n->f i=g i:=by
 induction n with
 | zero=>exact fun i hi=>absurd hi (Nat.not_lt_zero i)
 | succ n ih=>
  intro i hi;have h1:sum n f<=sum n g:=zJN fun j hj=>h j (by omega)
  have h2:=h n (by omega);have e':sum n f+f n=sum n g+g n:=e;by_cases hn:i=n
  ·subst hn; grind
  ·exact ih (fun j hj=>h j (by omega)) (by grind) i (by omega)
theorem slackness {x y:Nat->Rat} (hx:P.Feasible x) (hy:P.Dual y) (he:(sum P.n fun k=>P.O 0 k*x k)=sum P.m fun i=>y i*P.b i) :
  (∀ i,i<P.m->¬ (0<y i/\0<P.b i-sum P.n fun k=>P.A i k*x k))/\∀ k,k<P.n->¬ (0<x k/\0<(sum P.m fun i=>y i*P.A i k)-P.O 0 k):=by
 have e:(sum P.m fun i=>y i*sum P.n fun k=>P.A i k*x k)=sum P.n fun k=>(sum P.m fun i=>y i*P.A i k)*x k:=by
  rw [zAh (g:=fun i=>sum P.n fun k=>y i*P.A i k*x k) (fun i _=>by rw [<-zBK]; exact zAh fun k _=>by grind),zD2];exact zAh fun k _=>zCc _ _ _
 have t1:∀ i,i<P.m->(y i*sum P.n fun k=>P.A i k*x k)<=y i*P.b i:=fun i hi=>by
  have:=mul_nonneg (hy.1 i hi) (show 0<=P.b i-sum P.n fun k=>P.A i k*x k by have:=hx.2 i hi; grind);grind
 have t2:∀ k,k<P.n->P.O 0 k*x k<=(sum P.m fun i=>y i*P.A i k)*x k:=fun k hk=>by
  have:=mul_nonneg (hx.1 k hk) (show 0<=(sum P.m fun i=>y i*P.A i k)-P.O 0 k by have:=hy.2 k hk; grind);grind
 have s1:=zJN t1;have s2:=zJN t2;have u1:=zQD t1 (by grind);have u2:=zQD t2 (by grind);constructor
 ·rintro i hi ⟨h1,h2⟩;have:=u1 i hi;have:=mul_pos h1 h2;grind
 ·rintro k hk ⟨h1,h2⟩;have:=u2 k hk;have:=mul_pos h1 h2;grind
end Go.Proofs.YtpjaodcimomaiaaGreat
