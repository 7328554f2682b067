/- Texts OptmM PsM of this claim. -/
import Derived.Test.YtpjaodcimomaiaaGreatI29
set_option maxHeartbeats 4000000
namespace Go.Proofs.YtpjaodcimomaiaaGreat
open Go.RowKit Go.Shelf Lin
variable {bs:List Rat} {os rs:List (List Rat)} {V n k:Nat} {f:Nat->Rat} {P:Lin.Prob}
theorem zJd {x:List Rat} (hc:colsOf rs<=V) (hx:x.length=V):((∀ k,k<x.length->0<=x.getD k 0)/\∀ i,i<rs.length->dotL (rs.getD i []) x<=bs.getD i 0) ↔ (probOf V os rs bs).Feasible fun k=>x.getD k 0:=by
 constructor
 ·rintro ⟨h1,h2⟩;refine ⟨fun k hk=>h1 k (by rw [hx]; exact hk),fun i hi=>?_⟩;have:=h2 i hi;rw [zGW (zBT hc i) hx] at this;exact this
 ·rintro ⟨h1,h2⟩;refine ⟨fun k hk=>h1 k (by rw [hx] at hk; exact hk),fun i hi=>?_⟩;rw [zGW (zBT hc i) hx];exact h2 i hi
open Lin
theorem zQJ {x:Nat->Rat} (h:(probOf V [os.getD 0 []] rs bs).Optimal x) :
  (prob1 V os rs bs).Feasible x/\∀ z,(prob1 V os rs bs).Feasible z->(sum V fun k=>(os.getD 0 []).getD k 0*z k)<=sum V fun k=>(os.getD 0 []).getD k 0*x k:=by
 refine ⟨h.1,fun z hz=>?_⟩;rcases h.2 z hz with ⟨l,hl,hp,h0⟩ | he
 ·have e:∀ u,(probOf V [os.getD 0 []] rs bs).obj 0 u=sum V fun k=>(os.getD 0 []).getD k 0*u k:=fun u=>rfl
  by_cases h1:l=0
  ·subst h1; simp only [e] at hp; grind
  ·have:=h0 0 (by omega); simp only [e] at this; grind
 ·rw [zAh (g:=fun k=>(os.getD 0 []).getD k 0*x k) fun k hk=>by rw [he k hk]];exact Rat.le_refl
section
variable {P:Prob} {D:Dict} {k:Nat} {x:Nat->Rat}
theorem zQC (hK:P.K=1) (hI:PInv P none D) (hE:Ends P none D k) (hx:P.Feasible x) (hm:∀ z,P.Feasible z->(sum P.n fun k=>P.O 0 k*z k)<=sum P.n fun k=>P.O 0 k*x k):k=1:=by
 rcases hE.cases with rfl | rfl | rfl
 ·rfl
 ·exact absurd hx (ends2 hI hE x)
 ·obtain ⟨z,hz,h⟩:=grows hI hE hK ((sum P.n fun k=>P.O 0 k*x k)+1);have:=hm z hz;grind
theorem zQG (hK:P.K=1) (hI:PInv P none D) (hE:Ends P none D 1) (hx:P.Feasible x) (hm:∀ z,P.Feasible z->(sum P.n fun k=>P.O 0 k*z k)<=sum P.n fun k=>P.O 0 k*x k):(sum P.n fun k=>P.O 0 k*x k)=D.c 0 P.n:=by
 have h:=zQK hI hE (by omega);obtain ⟨⟨y,hy,e⟩,_⟩:=id h;have h1:=h.le hx;have h2:=hm y hy;grind
end
theorem zQD {g:Nat->Rat} (h:∀ i,i<n->f i<=g i) (e:sum n f=sum n g):∀ i,i<n->f i=g i:=by
 induction n with
 | zero=>exact fun i hi=>absurd hi (Nat.not_lt_zero i)
 | succ n ih=>
  intro i hi;have h1:sum n f<=sum n g:=zJN fun j hj=>h j (by omega)
  have h2:=h n (by omega);have e':sum n f+f n=sum n g+g n:=e;by_cases hn:i=n
  ·subst hn; grind
  ·exact ih (fun j hj=>h j (by omega)) (by grind) i (by omega)
theorem slackness {x y:Nat->Rat} (hx:P.Feasible x) (hy:P.Dual y) (he:(sum P.n fun k=>P.O 0 k*x k)=sum P.m fun i=>y i*P.b i) :
  (∀ i,i<P.m->¬ (0<y i/\0<P.b i-sum P.n fun k=>P.A i k*x k))/\∀ k,k<P.n->¬ (0<x k/\0<(sum P.m fun i=>y i*P.A i k)-P.O 0 k):=by
 have e:(sum P.m fun i=>y i*sum P.n fun k=>P.A i k*x k)=sum P.n fun k=>(sum P.m fun i=>y i*P.A i k)*x k:=by
  rw [zAh (g:=fun i=>sum P.n fun k=>y i*P.A i k*x k) (fun i _=>by rw [<-zBK]; exact zAh fun k _=>by grind),zD2];exact zAh fun k _=>zCc _ _ _
 have t1:∀ i,i<P.m->(y i*sum P.n fun k=>P.A i k*x k)<=y i*P.b i:=fun i hi=>by
  have:=mul_nonneg (hy.1 i hi) (show 0<=P.b i-sum P.n fun k=>P.A i k*x k by have:=hx.2 i hi; grind);grind
 have t2:∀ k,k<P.n->P.O 0 k*x k<=(sum P.m fun i=>y i*P.A i k)*x k:=fun k hk=>by
  have:=mul_nonneg (hx.1 k hk) (show 0<=(sum P.m fun i=>y i*P.A i k)-P.O 0 k by have:=hy.2 k hk; grind);grind
 have s1:=zJN t1;have s2:=zJN t2;have u1:=zQD t1 (by grind);have u2:=zQD t2 (by grind);constructor
 ·rintro i hi ⟨h1,h2⟩;have:=u1 i hi;have:=mul_pos h1 h2;grind
 ·rintro k hk ⟨h1,h2⟩;have:=u2 k hk;have:=mul_pos h1 h2;grind
theorem inactive {row:List Rat} {most:Rat} {x:Nat->Rat} {D D2:Dict} (hl:bs.length=rs.length) (hx:(prob1 V os rs bs).Feasible x)
  (hm:∀ z,(prob1 V os rs bs).Feasible z->(sum V fun k=>(os.getD 0 []).getD k 0*z k)<=sum V fun k=>(os.getD 0 []).getD k 0*x k) (hr:(sum V fun k=>row.getD k 0*x k)<most)
  (hI:PInv (prob1 V os rs bs) none D) (hE:Ends (prob1 V os rs bs) none D 1) (hI2:PInv (prob1 V os (rs++[row]) (bs++[most])) none D2) (hE2:Ends (prob1 V os (rs++[row]) (bs++[most])) none D2 k) :
  k=1/\(∀ i,i<rs.length->D2.dual (prob1 V os (rs++[row]) (bs++[most])) i=D.dual (prob1 V os rs bs) i)/\D2.dual (prob1 V os (rs++[row]) (bs++[most])) rs.length=0:=by
 obtain ⟨P,hP⟩:∃ P,prob1 V os rs bs=P:=⟨_,rfl⟩;obtain ⟨Q,hQ⟩:∃ Q,prob1 V os (rs++[row]) (bs++[most])=Q:=⟨_,rfl⟩;have en:P.n=V:=by rw [<-hP]; rfl
 have em:P.m=rs.length:=by rw [<-hP]; rfl
 have qn:Q.n=V:=by rw [<-hQ]; rfl
 have qm:Q.m=rs.length+1:=by rw [<-hQ]; exact List.length_append
 have qA:∀ i,i<rs.length->∀ k,Q.A i k=P.A i k:=fun i hi k=>by
  rw [<-hQ,<-hP]; show ((rs++[row]).getD i []).getD k 0=(rs.getD i []).getD k 0
  rw [zBG,if_pos hi]
 have qb:∀ i,i<rs.length->Q.b i=P.b i:=fun i hi=>by
  rw [<-hQ,<-hP]; show (bs++[most]).getD i 0=bs.getD i 0
  rw [zBG,if_pos (by omega)]
 have qAl:∀ k,Q.A rs.length k=row.getD k 0:=fun k=>by
  rw [<-hQ]; show ((rs++[row]).getD rs.length []).getD k 0=_
  rw [zBG,if_neg (by omega),if_pos rfl]
 have qbl:Q.b rs.length=most:=by
  rw [<-hQ]; show (bs++[most]).getD rs.length 0=most
  rw [<-hl,zBG,if_neg (by omega),if_pos rfl]
 have qO:∀ k,Q.O 0 k=P.O 0 k:=fun k=>by rw [<-hQ,<-hP]; rfl
 have hK:P.K=1:=by rw [<-hP]; rfl
 have hK2:Q.K=1:=by rw [<-hQ]; rfl
 have hm':∀ z,P.Feasible z->(sum P.n fun k=>P.O 0 k*z k)<=sum P.n fun k=>P.O 0 k*x k:=fun z hz=>by rw [<-hP] at hz ⊢; exact hm z hz
 rw [hP] at hx hI hE ⊢;rw [hQ] at hI2 hE2 ⊢
 have hxQ:Q.Feasible x:=by
  refine ⟨fun k hk=>hx.1 k (by omega),fun i hi=>?_⟩;rw [qn];by_cases h:i<rs.length
  ·rw [zAh (g:=fun k=>P.A i k*x k) (fun k _=>by rw [qA i h]),qb i h,<-en]; exact hx.2 i (by omega)
  ·(obtain rfl:i=rs.length:=by omega);rw [zAh (g:=fun k=>row.getD k 0*x k) (fun k _=>by rw [qAl]),qbl]; exact Rat.le_of_lt hr
 have hy:=zA5 hI hE (by omega);have hv:=zQG hK hI hE hx hm';have hyb:=(ends1 hI hE (by omega)).2.2.1;have sP:∀ f:Nat->Rat,sum Q.m f=sum P.m f+f rs.length:=fun f=>by rw [qm,em]; rfl
 have sQ:∀ F:Nat->Rat,(sum Q.m fun i=>(if i<rs.length then D.dual P i else 0)*F i)=sum P.m fun i=>D.dual P i*F i:=fun F=>by
  rw [sP];rw [if_neg (Nat.lt_irrefl _),zAh (f:=fun i=>(if i<rs.length then D.dual P i else 0)*F i) (g:=fun i=>D.dual P i*F i) fun i hi=>by rw [if_pos (by omega)]];grind
 have sA:∀ (y:Nat->Rat) (k:Nat),(sum P.m fun i=>y i*Q.A i k)=sum P.m fun i=>y i*P.A i k:=fun y k=>zAh fun i hi=>by rw [qA i (by omega)]
 have sB:∀ y:Nat->Rat,(sum P.m fun i=>y i*Q.b i)=sum P.m fun i=>y i*P.b i:=fun y=>zAh fun i hi=>by rw [qb i (by omega)]
 have ex:(sum Q.n fun k=>Q.O 0 k*x k)=sum P.n fun k=>P.O 0 k*x k:=by rw [qn,<-en]; exact zAh fun k _=>by rw [qO]
 have hyQ:PValid Q fun i=>if i<rs.length then D.dual P i else 0:=by
  refine ⟨⟨fun i hi=>?_,fun k hk=>?_⟩,x,hxQ,?_⟩
  ·dsimp only
   split
   ·exact hy.1.1 i (by omega)
   ·exact Rat.le_refl
  ·rw [sQ,sA,qO]; exact hy.1.2 k (by omega)
  ·rw [sQ,sB,ex,hv,hyb]
 have hk:k=1:=by
  rcases hE2.cases with rfl | rfl | rfl
  ·rfl
  ·exact absurd hxQ (ends2 hI2 hE2 x)
  ·exact absurd hyQ.1 (ends3 hI2 hE2 (by omega) _)
 subst hk;have hz:=zA5 hI2 hE2 (by omega)
 have hzv:(sum Q.n fun k=>Q.O 0 k*x k)=sum Q.m fun i=>D2.dual Q i*Q.b i:=by
  rw [zBW hz hyQ,sQ,sB,ex,hv,hyb]
 have hz0:D2.dual Q rs.length=0:=by
  have h1:=(slackness hxQ hz.1 hzv).1 rs.length (by omega);have h2:=hz.1.1 rs.length (by omega);rw [qbl,qn,zAh (g:=fun k=>row.getD k 0*x k) (fun k _=>by rw [qAl])] at h1;grind
 have hzP:PValid P (D2.dual Q):=by
  refine ⟨⟨fun i hi=>hz.1.1 i (by omega),fun k hk=>?_⟩,x,hx,?_⟩
  ·have h2:=hz.1.2 k (by omega);rw [sP] at h2;rw [hz0,qO,sA] at h2;grind
  ·rw [<-ex,hzv,sP];rw [hz0,sB];grind
 refine ⟨rfl,fun i hi=>?_,hz0⟩;have l1:=zII hI hE (by omega) hzP;have l2:=zII hI2 hE2 (by omega) hyQ;rcases l1 with l1 | ⟨a,ha,a1,a2⟩
 ·exact (l1 i (by omega)).symm
 ·rcases l2 with l2 | ⟨b,hb,b1,b2⟩
  ·rw [l2 i (by omega),if_pos hi]
  ·exfalso;by_cases hbl:b<rs.length
   ·rw [if_pos hbl] at b1;by_cases hab:a<b
    ·have:=b2 a hab;rw [if_pos (by omega)] at this;grind
    ·by_cases hba:b<a
     ·have:=a2 b hba; grind
     ·(obtain rfl:a=b:=by omega);grind
   ·rw [if_neg hbl,show b=rs.length by omega,hz0] at b1;grind
end Go.Proofs.YtpjaodcimomaiaaGreat
