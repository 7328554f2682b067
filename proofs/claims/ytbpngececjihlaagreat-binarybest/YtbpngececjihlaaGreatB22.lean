/- Texts BnA BnB BnK BnL BnM of this claim. -/
import Derived.Test.YtbpngececjihlaaGreatB11
set_option maxHeartbeats 4000000
namespace Go.Proofs.YtbpngececjihlaaGreat.Lin
variable {r N i j:Nat} {P:Prob}
structure NSel (P:Prob) (N:Nat) (D:Dict) (r s:Nat):Prop where
 hs:s<P.n
 cand:LexNeg N fun l=>D.cost P l s
 first:∀ j,j<P.n->LexNeg N (fun l=>D.cost P l j)->D.free s<=D.free j
 hr:r<P.m
 elt:0<D.a r s
 ratio:∀ i,i<P.m->0<D.a i s->D.a r P.n / D.a r s<=D.a i P.n / D.a i s
 least:∀ i,i<P.m->0<D.a i s->D.a r P.n / D.a r s=D.a i P.n / D.a i s->D.basic r<=D.basic i
theorem NSel.ne {D:Dict} {s:Nat} (h:NSel P N D r s):D.a r s ≠ 0:=by have:=h.elt; grind
theorem NSel.feas {D:Dict} {s:Nat} (h:NSel P N D r s) (F:Feas P D):Feas P (D.pivot r s):=by
 intro i hi;have hsn:P.n ≠ s:=by have:=h.hs; omega
 have h1:0<=(D.a r s)⁻¹*D.a r P.n:=mul_nonneg (Rat.le_of_lt (inv_pos h.elt)) (F r h.hr);by_cases e:i=r
 ·subst e;simp only [Dict.pivot,if_true,scaled,if_neg hsn]; exact h1
 ·simp only [Dict.pivot,if_neg e,elim,scaled,if_neg hsn];have h2:=F i hi;rcases (by grind:D.a i s<=0\/0<D.a i s) with h3 | h3
  ·have:=mul_nonneg (show 0<=- D.a i s by grind) h1;grind
  ·have h4:=h.ratio i hi h3;rw [Rat.div_def,Rat.div_def] at h4;have h5:=mul_nonneg (Rat.le_of_lt h3) (show 0<=D.a i P.n*(D.a i s)⁻¹-D.a r P.n*(D.a r s)⁻¹ by grind)
   have h6:D.a i s*(D.a i s)⁻¹=1:=by
    have:D.a i s ≠ 0:=(by grind);exact Rat.mul_inv_cancel _ this
   generalize (D.a i s)⁻¹=u at *;generalize (D.a r s)⁻¹=p at *;have h7:D.a i s*(D.a i P.n*u-D.a r P.n*p)=(D.a i s*u)*D.a i P.n-D.a i s*(p*D.a r P.n):=(by grind);rw [h7,h6] at h5;grind
theorem zL9 (hN:N<=P.K+P.n) {f:Nat->Dict} (hij:i<j) (G:∀ k,i<=k->k<=j->Good P (f k)) (F:∀ k,i<=k->k<=j->Feas P (f k))
  (st:∀ k,i<=k->k<j->∃ r s,NSel P N (f k) r s/\f (k+1)=(f k).pivot r s)
  (same:∀ v,v<P.n+P.m->(f i).bas P v=(f j).bas P v):False:=by
 have hpt:∀ v,v<P.n+P.m->(f i).point P v=(f j).point P v:=fun v hv=>
  (G i om om).unique (G i om om).point_sys (G j om om).point_sys (fun k hk=>by
   rw [(G i om om).point_free hk];have h1:=zBw (G i om om) hk;rw [same _ ((G i om om).fLt k hk)] at h1;exact (zB8 h1).symm) hv
 have step:=st
 have hz:∀ k,i<=k->k<j->∀ r s,NSel P N (f k) r s->f (k+1)=(f k).pivot r s->LexNN N fun l=>P.obj l ((f (k+1)).point P)-P.obj l ((f k).point P):=by
  intro k h1 h2 r s h e;have hth:0<=(f k).theta P r s:=zMb (F k h1 om r h.hr) h.elt;refine (LexNN.smul (f:=fun l=>- (f k).cost P l s) (.inr h.cand.neg) hth).congr fun l hl=>?_
  rw [e,zLB (G k h1 om) h.hr h.hs h.ne (show l<P.K+P.n by omega)]; grind
 have th0:∀ k,i<=k->k<j->∀ r s,NSel P N (f k) r s->f (k+1)=(f k).pivot r s->(f k).a r P.n=0:=by
  intro k h1 h2 r s h e;rcases (by have:=F k h1 om r h.hr; grind:(f k).a r P.n=0\/0<(f k).a r P.n) with h3 | h3
  ·exact h3
  ·exfalso;have hth:0<(f k).theta P r s:=by rw [Dict.theta,Rat.div_def]; exact mul_pos h3 (inv_pos h.elt)
   have hp:LexPos N fun l=>P.obj l ((f (k+1)).point P)-P.obj l ((f k).point P):=
    (LexPos.smul (f:=fun l=>- (f k).cost P l s) h.cand.neg hth).congr fun l hl=>by
     rw [e,zLB (G k h1 om) h.hr h.hs h.ne (show l<P.K+P.n by omega)]; grind
   have ha:LexNN N fun l=>P.obj l ((f k).point P)-P.obj l ((f i).point P):=zLZ (z:=fun k l=>P.obj l ((f k).point P)) h1 fun k' a b=>by
    obtain ⟨r,s,h,e⟩:=step k' a om;exact hz k' a om r s h e
   have hb:LexNN N fun l=>P.obj l ((f j).point P)-P.obj l ((f (k+1)).point P):=zLZ (z:=fun k l=>P.obj l ((f k).point P)) om fun k' a b=>by
    obtain ⟨r,s,h,e⟩:=step k' om b;exact hz k' om b r s h e
   have hc:=(hp.add ha).add hb
   exact hc.not_zero fun l hl=>by
    have:=zCo (P:=P) (fun v hv=>hpt v om) (show l<P.K+P.n by omega);grind
 have ptc:∀ k,i<=k->k<=j->∀ v,v<P.n+P.m->(f k).point P v=(f i).point P v:=by
  intro k
  induction k with
  | zero=>
   intro a b v hv;obtain rfl:i=0:=om
   rfl
  | succ k ih=>
   intro a b v hv;by_cases e:i=k+1
   ·rw [e]
   ·obtain ⟨r,s,h,e⟩:=step k om om;rw [e,zK4 (G k om om) h.hr h.hs h.ne hv,Dict.theta,th0 k om om r s h e,ih om om v hv];grind
 obtain ⟨t,ht,hmax,⟨p,hp1,hp2,hp3,hp4⟩,⟨q,hq1,hq2,hq3,hq4⟩⟩:=fickle hij G (fun k h1 h2=>by
  obtain ⟨r,s,h,e⟩:=step k h1 h2;exact ⟨r,s,h.hr,h.hs,h.ne,e⟩) same
 obtain ⟨r,s,hp,ep⟩:=step p hp1 hp2;obtain ⟨r',s',hq,eq⟩:=step q hq1 hq2;have Gp:=G p hp1 om;have Gq:=G q hq1 om;have et:t=(f p).free s:=enters hp3 (by rw [<-ep]; exact hp4);have et':t=(f q).basic r':=leaves Gq hq.hr hq.hs hq.ne ht hq3 (by rw [<-eq]; exact hq4)
 have zero:∀ v k k',v<P.n+P.m->i<=k->k<=j->i<=k'->k'<=j->(f k).bas P v ≠ (f k').bas P v->(f i).point P v=0:=by
  intro v k k' hv a b c d hne
  cases hb:(f k).bas P v with
  | false=>rw [<-ptc k a b v hv]; exact zB8 hb
  | true=>
   have:(f k').bas P v=false:=by rw [hb] at hne; cases h:(f k').bas P v <;> simp_all
   rw [<-ptc k' c d v hv]; exact zB8 this
 have first:=hp.first
 have hs':(f q).free s'<t:=by
  have h1:=hmax ((f q).free s') q (q+1) (Gq.fLt _ hq.hs) hq1 om om om (by
   show (f q).bas P _ ≠ (f (q+1)).bas P _;rw [zBw Gq hq.hs,eq,entered hq.hr]; simp)
  have h2:=Gq.apart r' s' hq.hr hq.hs;omega
 have hcost:∀ l,l<N->(f q).cost P l s'=sum P.n fun j=>(f p).cost P l j*(f q).dir P s' ((f p).free j):=by
  intro l hl;have hl':l<P.K+P.n:=om
  have e1:=Gq.obj_dir hq.hs Gq.point_sys 1 hl';have e2:=Gp.cost_val (Gq.dir_sys hq.hs Gq.point_sys 1) hl';have e3:=Gp.cost_val Gq.point_sys hl';rw [e1,e3] at e2;unfold val at e2;rw [zAh (f:=fun j=>(f p).cost P l j*((f q).point P ((f p).free j)+1*(f q).dir P s' ((f p).free j))) (g:=fun j=>(f p).cost P l j*(f q).point P ((f p).free j)+(f p).cost P l j*(f q).dir P s' ((f p).free j)) (fun _ _=>by grind),zCb] at e2;grind
 have hNN:LexNN N fun l=>sum P.n fun j=>(f p).cost P l j*(f q).dir P s' ((f p).free j):=by
  refine LexNN.sum fun j hj=>?_
  have col:(f p).free j<t->LexNN N fun l=>(f p).cost P l j:=fun hlt=>LexNN.of_not fun hn=>by
   have:=first j hj hn; omega
  cases hb:(f q).bas P ((f p).free j) with
  | false=>
   obtain ⟨k,hk,e⟩:=zBR Gq (Gp.fLt j hj) hb;by_cases hks:k=s'
   ·subst hks;(refine (col (by rw [<-e]; exact hs')).congr fun l hl=>?_);rw [<-e,Gq.dir_free hq.hs hk,if_pos rfl]; grind
   ·(refine .inl fun l hl=>?_);dsimp only
    rw [<-e,Gq.dir_free hq.hs hk,if_neg hks]; grind
  | true=>
   obtain ⟨i',hi',e⟩:=zFe hb;have hle:=hmax ((f p).free j) q p (Gp.fLt j hj) hq1 om hp1 om (by show (f q).bas P _ ≠ (f p).bas P _; rw [hb,zBw Gp hj]; simp);by_cases hjt:(f p).free j=t
   ·have hjs:j=s:=Gp.fInj j s hj hp.hs (by rw [hjt,et]);have hi'r:i'=r':=Gq.bInj _ _ hi' hq.hr (by rw [e,hjt,et']);subst hjs;(refine (LexNN.smul (f:=fun l=>- (f p).cost P l j) (.inr hp.cand.neg) (Rat.le_of_lt hq.elt)).congr fun l hl=>?_);rw [<-e,Gq.dir_basic hi',hi'r]; grind
   ·have hlt:(f p).free j<t:=om
    have hd:(f q).a i' s'<=0:=by
     rcases (by grind:(f q).a i' s'<=0\/0<(f q).a i' s') with h | h
     ·exact h
     ·exfalso;have z1:=zero ((f p).free j) q p (Gp.fLt j hj) hq1 om hp1 om (by rw [hb,zBw Gp hj]; simp);have z2:(f q).a i' P.n=0:=by rw [<-Gq.point_basic hi',e,ptc q hq1 om _ (Gp.fLt j hj)]; exact z1
      have z3:=th0 q hq1 hq2 r' s' hq eq;have:=hq.least i' hi' h (by rw [z2,z3]; grind);omega
    (refine (LexNN.smul (col hlt) (show 0<=- (f q).a i' s' by grind)).congr fun l hl=>?_);rw [<-e,Gq.dir_basic hi']; grind
 exact (hNN.congr (fun l hl=>(hcost l hl).symm)).not hq.cand
theorem zMa (P:Prob) (hN:N<=P.K+P.n):∃ rank:Dict->Nat,∀ D r s,Good P D->Feas P D->NSel P N D r s->rank (D.pivot r s)<rank D:=by
 obtain ⟨rank,h⟩:=zIQ (fun D:Dict=>Good P D/\Feas P D) (fun D D'=>∃ r s,NSel P N D r s/\D'=D.pivot r s) (2 ^ (P.n+P.m)) (fun f L h0 st=>by
  have G:∀ k,k<=L->Good P (f k)/\Feas P (f k):=by
   intro k
   induction k with
   | zero=>intro _; exact h0
   | succ k ih=>
    intro hk;obtain ⟨r,s,h,e⟩:=st k om;rw [e]; exact ⟨(ih om).1.pivot h.hr h.hs h.ne,h.feas (ih om).2⟩
  have:=pigeon (2 ^ (P.n+P.m)) (L+1) (fun k=>code ((f k).bas P) (P.n+P.m)) (fun _ _=>zFg _ _) (fun i j hij hj e=>
   zL9 hN hij (fun k _ h=>(G k om).1) (fun k _ h=>(G k om).2) (fun k _ h=>st k om) (zGV e))
  omega)
 exact ⟨rank,fun D r s G F h1=>h D _ ⟨G,F⟩ ⟨r,s,h1,rfl⟩⟩
end Go.Proofs.YtbpngececjihlaaGreat.Lin
namespace Go.Proofs.YtbpngececjihlaaGreat.Lin
variable {j:Nat}
def LInv (P:Prob) (N:Nat) (live:Nat->Bool) (D:Dict):Prop:=
 ∀ j,j<P.n->(live j=true->∀ l,l<N->D.c l j=0)/\(live j=false->LexPos N fun l=>D.c l j)
structure CSel (P:Prob) (N:Nat) (live:Nat->Bool) (D:Dict) (r s:Nat):Prop where
 hs:s<P.n
 lv:live s=true
 neg:D.c N s<0
 first:∀ j,j<P.n->live j=true->D.c N j<0->D.free s<=D.free j
 hr:r<P.m
 elt:0<D.a r s
 ratio:∀ i,i<P.m->0<D.a i s->D.a r P.n / D.a r s<=D.a i P.n / D.a i s
 least:∀ i,i<P.m->0<D.a i s->D.a r P.n / D.a r s=D.a i P.n / D.a i s->D.basic r<=D.basic i
section
variable {P:Prob} {N:Nat} {live:Nat->Bool} {D:Dict} {r s:Nat}
theorem CSel.ne (h:CSel P N live D r s):D.a r s ≠ 0:=by have:=h.elt; grind
theorem zKX {l:Nat} (hl:l<P.K):D.cost P l j=D.c l j:=by rw [Dict.cost,if_pos hl]
theorem LInv.cand (h:LInv P N live D) (hs:s<P.n) (lv:live s=true) (hn:D.c N s<0):LexNeg (N+1) fun l=>D.c l s:=
 ⟨N,om,hn,fun l hl=>(h s hs).1 lv l hl⟩
theorem CSel.nsel (hc:CSel P N live D r s) (h:LInv P N live D) (hN:N<P.K):NSel P (N+1) D r s:=by
 refine ⟨hc.hs,(h.cand hc.hs hc.lv hc.neg).congr fun l hl=>(zKX om).symm,fun j hj hn=>?_,hc.hr,hc.elt,hc.ratio,hc.least⟩;replace hn:LexNeg (N+1) fun l=>D.c l j:=hn.congr fun l hl=>zKX om
 cases hl:live j with
 | true=>
  refine hc.first j hj hl ?_;obtain ⟨i,hi,h1,h2⟩:=hn;by_cases e:i=N
  ·subst e; exact h1
  ·have:=(h j hj).1 hl i om;dsimp only at h1
   grind
 | false=>
  obtain ⟨i,hi,h1,h2⟩:=(h j hj).2 hl;exact absurd (⟨i,om,h1,h2⟩:LexPos (N+1) fun l=>D.c l j) hn.not_pos
theorem zLO {l:Nat} (h0:D.c l s=0):(D.pivot r s).c l j=D.c l j:=by
 show elim s (scaled s (D.a r)) (D.c l) j=_;unfold elim;rw [h0]
 split
 ·rename_i e; rw [e,h0]; grind
 ·grind
theorem LInv.pivot (h:LInv P N live D) (hs:s<P.n) (lv:live s=true):LInv P N live (D.pivot r s):=fun j hj=>
 ⟨fun hl l hN=>(zLO ((h s hs).1 lv l hN)).trans ((h j hj).1 hl l hN),fun hl=>((h j hj).2 hl).congr fun l hN=>(zLO ((h s hs).1 lv l hN)).symm⟩
theorem LInv.zero:LInv P 0 (fun _=>true) D:=fun _ _=>⟨fun _ l hl=>absurd hl om,fun h=>by cases h⟩
theorem LInv.next (h:LInv P N live D) (hd:∀ j,j<P.n->live j=true->0<=D.c N j):LInv P (N+1) (fun j=>live j && ! decide (0<D.c N j)) D:=by
 intro j hj
 cases hl:live j with
 | true=>
  refine ⟨fun h1 l hN=>?_,fun h1=>?_⟩
  ·have h2:¬ 0<D.c N j:=by simp [hl] at h1; exact h1
   have h3:=hd j hj hl;by_cases e:l=N
   ·subst e; grind
   ·exact (h j hj).1 hl l om
  ·have h2:0<D.c N j:=by simpa [hl] using h1
   exact ⟨N,om,h2,fun l hN=>(h j hj).1 hl l hN⟩
 | false=>
  refine ⟨fun h1=>by simp [hl] at h1,fun _=>?_⟩;obtain ⟨i,hi,h1,h2⟩:=(h j hj).2 hl;exact ⟨i,om,h1,h2⟩
theorem LInv.nn (h:LInv P N live D) (hj:j<P.n):LexNN N fun l=>D.c l j:=by
 cases hl:live j with
 | true=>exact .inl fun l hN=>(h j hj).1 hl l hN
 | false=>exact .inr ((h j hj).2 hl)
def Prob.at (P:Prob) (y:Nat->Rat) (l:Nat):Rat:=sum P.n fun k=>P.O l k*y k
theorem Good.at_point (G:Good P D) {l:Nat} (hl:l<P.K):P.at (D.point P) l=D.c l P.n:=by
 have h:=G.costs _ G.point_sys l hl;show sum P.n _=_;rw [h,val,zAC (fun j hj=>by rw [G.point_free hj]; grind)]; grind
theorem Good.at_full (G:Good P D) {l:Nat} (hl:l<P.K) (y:Nat->Rat):P.at y l=D.c l P.n-sum P.n fun j=>D.c l j*P.full y (D.free j):=by
 have h:=G.costs _ (zJe P y) l hl;rw [<-val,<-h];exact zAh fun k hk=>by rw [zM1 hk]
theorem Good.feasible_point (G:Good P D) (F:Feas P D):P.Feasible (D.point P):=zGu G.point_sys fun _ hv=>G.point_nonneg F hv
theorem Good.most (G:Good P D) (hN:N<=P.K) (h:∀ j,j<P.n->LexNN N fun l=>D.c l j) {y:Nat->Rat} (hy:P.Feasible y):LexNN N fun l=>D.c l P.n-P.at y l:=by
 have hs:LexNN N fun l=>sum P.n fun j=>D.c l j*P.full y (D.free j):=LexNN.sum fun j hj=>
  (LexNN.smul (h j hj) (zEg hy (G.fLt j hj))).congr fun l _=>by grind
 refine hs.congr fun l hl=>?_
 rw [G.at_full om]; grind
theorem Good.ray (G:Good P D) (F:Feas P D) (hN:N<P.K) (hI:LInv P N live D) (hs:s<P.n) (lv:live s=true) (hn:D.c N s<0) (h:∀ i,i<P.m->D.a i s<=0) :
  (∀ k,k<P.n->0<=D.dir P s k)/\(∀ i,i<P.m->sum P.n (fun k=>P.A i k*D.dir P s k)<=0)/\(∀ l,l<N->P.at (D.dir P s) l=0)/\0<P.at (D.dir P s) N:=by
 have hc:LexNeg (P.K+P.n) fun l=>D.cost P l s:=⟨N,om,by dsimp only; rw [zKX hN]; exact hn,fun l hl=>by dsimp only; rw [zKX om]; exact (hI s hs).1 lv l hl⟩
 obtain ⟨-,h1,h2,-⟩:=zLG G F hs hc h
 have e:∀ l,l<P.K->P.at (D.dir P s) l=- D.c l s:=fun l hl=>by
  have h1:=G.obj_dir hs G.point_sys 1 (l:=l) om
  have h2:P.obj l (fun v=>D.point P v+1*D.dir P s v)=P.obj l (D.point P)+P.obj l (D.dir P s):=by
   unfold Prob.obj;rw [if_pos hl,if_pos hl,if_pos hl,zLo]; grind
  rw [zKX hl] at h1;have h3:P.obj l (D.dir P s)=P.at (D.dir P s) l:=by unfold Prob.obj Prob.at; rw [if_pos hl]
  grind
 refine ⟨h1,h2,fun l hl=>?_,?_⟩
 ·rw [e l om,(hI s hs).1 lv l hl]; grind
 ·rw [e N hN]; grind
end
end Go.Proofs.YtbpngececjihlaaGreat.Lin
namespace Go.Proofs.YtbpngececjihlaaGreat.Lin
variable {i:Nat}
section
variable {p:Nat->Bool} {k j:Nat}
def filt (p:Nat->Bool) (k:Nat):List Nat:=(List.range k).filter p
theorem zKI (p:Nat->Bool) (k:Nat):filt p (k+1)=if p k=true then filt p k++[k] else filt p k:=by
 unfold filt;rw [List.range_succ,List.filter_append];by_cases h:p k=true
 ·rw [if_pos h]; simp [h]
 ·rw [if_neg h]; simp [h]
theorem zLl (h:j<(filt p k).length):(filt p k).getD j 0<k/\p ((filt p k).getD j 0)=true:=by
 have e:(filt p k).getD j 0=(filt p k)[j]:=by rw [gdd,gge h]; rfl
 rw [e];have:=List.getElem_mem h;unfold filt at this;rw [List.mem_filter,List.mem_range] at this;exact this
theorem zLV {v:Nat} (hv:v<k) (hp:p v=true):∃ j,j<(filt p k).length/\(filt p k).getD j 0=v:=by
 have:v ∈ filt p k:=by unfold filt; rw [List.mem_filter,List.mem_range]; exact ⟨hv,hp⟩
 obtain ⟨j,hj,e⟩:=List.getElem_of_mem this;exact ⟨j,hj,by rw [gdd,gge hj]; exact e⟩
theorem zMN :∀ k j,i<j->j<(filt p k).length->(filt p k).getD i 0<(filt p k).getD j 0:=by
 intro k
 induction k with
 | zero=>intro j _ h; simp [filt] at h
 | succ k ih=>
  intro j hij hj;rw [zKI] at hj ⊢
  split at hj
  ·rename_i hp;rw [if_pos hp];simp only [List.length_append,List.length_singleton] at hj;rw [gdd,gdd,List.getElem?_append_left om];by_cases e:j<(filt p k).length
   ·rw [List.getElem?_append_left e,<-gdd,<-gdd];exact ih j hij e
   ·(obtain rfl:j=(filt p k).length:=om);rw [<-gdd];simp;have:=(zLl (p:=p) (k:=k) hij).1
    rwa [gdd] at this
  ·rename_i hp;rw [if_neg hp];exact ih j hij hj
theorem zLW (p:Nat->Bool) (f:Nat->Rat):∀ k,sum k f=sum k (fun v=>if p v=true then 0 else f v)+sum (filt p k).length fun j=>f ((filt p k).getD j 0):=by
 intro k
 induction k with
 | zero=>simp only [filt,sum,List.range_zero,List.filter_nil,List.length_nil]; grind
 | succ k ih=>
  rw [zKI];have e0:∀ g:Nat->Rat,sum (k+1) g=sum k g+g k:=fun _=>rfl
  rw [e0,e0,ih]
  split
  ·rename_i hp;rw [List.length_append,List.length_singleton]
   have e:sum ((filt p k).length+1) (fun j=>f ((filt p k++[k]).getD j 0))=sum (filt p k).length (fun j=>f ((filt p k).getD j 0))+f k:=by
    conv=>lhs; unfold sum
    rw [zAh (g:=fun j=>f ((filt p k).getD j 0)) fun j hj=>by
     rw [gdd,List.getElem?_append_left hj,<-gdd]]
    simp
   rw [e];grind
  ·rename_i hp;grind
end
structure BP where
 V:Nat
 K:Nat
 M:Nat
 nb:Nat
 A:Nat->Nat->Rat
 O:Nat->Nat->Rat
 b:Nat->Rat
 bin:Nat->Nat
namespace BP
def dot (B:BP) (f x:Nat->Rat):Rat:=sum B.V fun k=>f k*x k
def lev (B:BP) (l k:Nat):Rat:=if l<B.K then B.O l k else if k=l-B.K then -1 else 0
def LF (B:BP) (x:Nat->Rat):Prop:=(∀ k,k<B.V->0<=x k)/\∀ i,i<B.M->B.dot (B.A i) x<=B.b i
def S (B:BP) (x:Nat->Rat):Prop:=B.LF x/\∀ i,i<B.nb->x (B.bin i)=0\/x (B.bin i)=1
def In (B:BP) (av:Nat->Int) (x:Nat->Rat):Prop:=∀ i,i<B.nb->av i ≠ -1->x (B.bin i)=(av i:Rat)
def Rel (B:BP) (av:Nat->Int) (x:Nat->Rat):Prop:=B.LF x/\B.In av x/\∀ i,i<B.nb->av i=-1->x (B.bin i)<=1
structure Ok (B:BP):Prop where
 lt:∀ i,i<B.nb->B.bin i<B.V
 inc:∀ i j,i<j->j<B.nb->B.bin i<B.bin j
def Av (B:BP) (av:Nat->Int):Prop:=∀ i,i<B.nb->av i=-1\/av i=0\/av i=1
def fixed (B:BP) (av:Nat->Int) (i k:Nat):Bool:=decide (find B.bin k i<i) && decide (av (find B.bin k i) ≠ -1)
def base (B:BP) (av:Nat->Int) (i k:Nat):Rat:=if B.fixed av i k=true then (av (find B.bin k i):Rat) else 0
def cols (B:BP) (av:Nat->Int):List Nat:=filt (fun v=>! B.fixed av B.nb v) B.V
def cl (B:BP) (av:Nat->Int) (j:Nat):Nat:=(B.cols av).getD j 0
def und (B:BP) (av:Nat->Int):List Nat:=filt (fun i=>decide (av i=-1)) B.nb
def prob (B:BP) (av:Nat->Int):Prob where
 n:=(B.cols av).length
 m:=B.M+(B.und av).length
 K:=B.K+B.V
 A:=fun i j=>if i<B.M then B.A i (B.cl av j) else if B.cl av j=B.bin ((B.und av).getD (i-B.M) 0) then 1 else 0
 b:=fun i=>if i<B.M then B.b i-B.dot (B.A i) (B.base av B.nb) else 1
 O:=fun l j=>B.lev l (B.cl av j)
def vn (B:BP) (av:Nat->Int) (v:Nat):Nat:=if v<(B.cols av).length then B.cl av v else B.V+(v-(B.cols av).length)
def lift (B:BP) (av:Nat->Int) (y:Nat->Rat) (k:Nat):Rat:=if B.fixed av B.nb k=true then B.base av B.nb k else y (find (B.cl av) k (B.cols av).length)
section
variable {B:BP} {av:Nat->Int}
theorem cl_lt {j:Nat} (hj:j<(B.cols av).length):B.cl av j<B.V/\B.fixed av B.nb (B.cl av j)=false:=by
 have:=zLl (p:=fun v=>! B.fixed av B.nb v) (k:=B.V) hj;exact ⟨this.1,by have h2:=this.2; rw [Bool.not_eq_true'] at h2; exact h2⟩
theorem zMr {i j:Nat} (hij:i<j) (hj:j<(B.cols av).length):B.cl av i<B.cl av j:=zMN _ _ hij hj
theorem cl_idx {k:Nat} (hk:k<B.V) (h:B.fixed av B.nb k=false):∃ j,j<(B.cols av).length/\B.cl av j=k:=zLV (p:=fun v=>! B.fixed av B.nb v) hk (by simp [h])
theorem zMZ {i j:Nat} (hi:i<(B.cols av).length) (hj:j<(B.cols av).length) (e:B.cl av i=B.cl av j):i=j:=by
 rcases Nat.lt_trichotomy i j with h | h | h
 ·have:=zMr (B:=B) (av:=av) h hj; omega
 ·exact h
 ·have:=zMr (B:=B) (av:=av) h hi; omega
theorem zMw {j:Nat} (hj:j<(B.cols av).length):find (B.cl av) (B.cl av j) (B.cols av).length=j:=zIl (fun _ _ h1 h2 e=>zMZ h1 h2 e) hj
theorem lift_cl (y:Nat->Rat) {j:Nat} (hj:j<(B.cols av).length):B.lift av y (B.cl av j)=y j:=by
 unfold lift;rw [(cl_lt hj).2,if_neg dj,zMw hj]
theorem zMI {u v:Nat} (huv:u<v):B.vn av u<B.vn av v:=by
 unfold vn
 split
 ·rename_i h1
  split
  ·rename_i h2; exact zMr huv h2
  ·have:=(cl_lt (B:=B) (av:=av) h1).1; omega
 ·split <;> omega
theorem vn_le {u v:Nat}:B.vn av u<=B.vn av v ↔ u<=v:=by
 constructor
 ·intro h;apply Nat.le_of_not_lt;intro h2;have:=zMI (B:=B) (av:=av) h2;omega
 ·intro h;rcases Nat.lt_or_eq_of_le h with h | h
  ·exact Nat.le_of_lt (zMI h)
  ·rw [h]; exact nlr _
theorem zLT (f y:Nat->Rat):B.dot f (B.lift av y)=B.dot f (B.base av B.nb)+sum (B.cols av).length fun j=>f (B.cl av j)*y j:=by
 unfold dot;rw [zLW (fun v=>! B.fixed av B.nb v) (fun k=>f k*B.lift av y k)];have e1:sum (B.cols av).length (fun j=>f (B.cl av j)*B.lift av y (B.cl av j))=sum (B.cols av).length fun j=>f (B.cl av j)*y j:=zAh fun j hj=>by rw [lift_cl y hj]
 have e2:sum B.V (fun v=>if (! B.fixed av B.nb v)=true then 0 else f v*B.lift av y v)=sum B.V fun k=>f k*B.base av B.nb k:=zAh fun k _=>by
  cases h:B.fixed av B.nb k with
  | true=>simp [lift,h]
  | false=>simp [base,h]
 rw [e2];exact congrArg _ e1
theorem base_fixed {k:Nat} (h:B.fixed av B.nb k=true):∃ i,i<B.nb/\B.bin i=k/\av i ≠ -1/\B.base av B.nb k=(av i:Rat):=by
 have h':=h;unfold fixed at h';simp only [Bool.and_eq_true,decide_eq_true_eq] at h';refine ⟨_,h'.1,?_,h'.2,by unfold base; rw [if_pos h]⟩;rcases zCi B.bin k B.nb with h2 | h2
 ·exact h2.2
 ·omega
theorem zMq (ok:B.Ok) {i j:Nat} (hi:i<B.nb) (hj:j<B.nb) (e:B.bin i=B.bin j):i=j:=by
 rcases Nat.lt_trichotomy i j with h | h | h
 ·have:=ok.inc i j h hj; omega
 ·exact h
 ·have:=ok.inc j i h hi; omega
theorem zKO (ok:B.Ok) {i:Nat} (hi:i<B.nb):B.fixed av B.nb (B.bin i)=decide (av i ≠ -1):=by
 unfold fixed;rw [zIl (fun _ _ h1 h2 e=>zMq ok h1 h2 e) hi];simp [hi]
theorem zMK (ok:B.Ok) {i:Nat} (hi:i<B.nb) (h:av i ≠ -1):B.base av B.nb (B.bin i)=(av i:Rat):=by
 unfold base;rw [zKO ok hi,if_pos (by simpa using h),zIl (fun _ _ h1 h2 e=>zMq ok h1 h2 e) hi]
theorem zMG {i:Nat} (hi:i<(B.und av).length):(B.und av).getD i 0<B.nb/\av ((B.und av).getD i 0)=-1:=by
 have:=zLl (p:=fun i=>decide (av i=-1)) (k:=B.nb) hi;exact ⟨this.1,of_decide_eq_true this.2⟩
theorem zLR {i:Nat} (hi:i<B.nb) (h:av i=-1):∃ j,j<(B.und av).length/\(B.und av).getD j 0=i:=zLV (p:=fun i=>decide (av i=-1)) hi (by simpa using h)
theorem zLS (ok:B.Ok) (y:Nat->Rat) {i:Nat} (hi:i<(B.und av).length) :
  sum (B.prob av).n (fun k=>(B.prob av).A (B.M+i) k*y k)=B.lift av y (B.bin ((B.und av).getD i 0)):=by
 obtain ⟨h1,h2⟩:=zMG hi;have hf:B.fixed av B.nb (B.bin ((B.und av).getD i 0))=false:=by rw [zKO ok h1]; exact decide_eq_false (fun h=>h h2)
 obtain ⟨j,hj,e⟩:=cl_idx (ok.lt _ h1) hf;rw [zBu (n:=(B.prob av).n) (s:=j) hj,<-e,lift_cl y hj]
 ·show (if B.M+i<B.M then _ else if B.cl av j=B.bin ((B.und av).getD (B.M+i-B.M) 0) then 1 else 0)*y j=y j;rw [if_neg om,Nat.add_sub_cancel_left,if_pos e]; grind
 ·intro j' hj' hne;show (if B.M+i<B.M then _ else if B.cl av j'=B.bin ((B.und av).getD (B.M+i-B.M) 0) then 1 else 0)*y j'=0;rw [if_neg om,Nat.add_sub_cancel_left,if_neg (fun h=>hne (zMZ hj' hj (h.trans e.symm)))]; grind
theorem zL2 (y:Nat->Rat) {i:Nat} (hi:i<B.M) :
  sum (B.prob av).n (fun k=>(B.prob av).A i k*y k)=B.dot (B.A i) (B.lift av y)-B.dot (B.A i) (B.base av B.nb):=by
 rw [zLT]
 have:sum (B.prob av).n (fun k=>(B.prob av).A i k*y k)=sum (B.cols av).length fun j=>B.A i (B.cl av j)*y j:=zAh fun j _=>by
  show (if i<B.M then B.A i (B.cl av j) else _)*y j=_;rw [if_pos hi]
 rw [this]; grind
theorem feas_lift (ok:B.Ok) (hv:B.Av av) {y:Nat->Rat} (h:(B.prob av).Feasible y):B.Rel av (B.lift av y):=by
 refine ⟨⟨fun k hk=>?_,fun i hi=>?_⟩,fun i hi hd=>?_,fun i hi hu=>?_⟩
 ·cases hf:B.fixed av B.nb k with
  | true=>
   obtain ⟨i,hi,-,h1,h2⟩:=base_fixed hf;unfold lift;rw [if_pos hf,h2];rcases hv i hi with e | e | e
   ·exact absurd e h1
   ·rw [e]; decide
   ·rw [e]; decide
  | false=>
   obtain ⟨j,hj,e⟩:=cl_idx hk hf;rw [<-e,lift_cl y hj];exact h.1 j hj
 ·have h1:=h.2 i (show i<(B.prob av).m by show i<B.M+_; omega);rw [zL2 y hi] at h1;have e:(B.prob av).b i=B.b i-B.dot (B.A i) (B.base av B.nb):=if_pos hi;rw [e] at h1;grind
 ·have hf:B.fixed av B.nb (B.bin i)=true:=by rw [zKO ok hi]; simpa using hd
  unfold lift;rw [if_pos hf,zMK ok hi hd]
 ·obtain ⟨j,hj,e⟩:=zLR hi hu;have h1:=h.2 (B.M+j) (show B.M+j<B.M+_ by omega);rw [zLS ok y hj,e] at h1;have e2:(B.prob av).b (B.M+j)=1:=if_neg om;rw [e2] at h1;exact h1
theorem zK3 (_ok:B.Ok) {x:Nat->Rat} (h:B.In av x) {k:Nat} (hk:k<B.V):B.lift av (fun j=>x (B.cl av j)) k=x k:=by
 cases hf:B.fixed av B.nb k with
 | true=>
  obtain ⟨i,hi,e,h1,h2⟩:=base_fixed hf;unfold lift
  rw [if_pos hf,h2,<-e,h i hi h1]
 | false=>
  obtain ⟨j,hj,e⟩:=cl_idx hk hf;rw [<-e,lift_cl _ hj]
theorem dot_congr {f x y:Nat->Rat} (h:∀ k,k<B.V->x k=y k):B.dot f x=B.dot f y:=zAh fun k hk=>by rw [h k hk]
theorem feas_rest (ok:B.Ok) {x:Nat->Rat} (h:B.Rel av x):(B.prob av).Feasible fun j=>x (B.cl av j):=by
 refine ⟨fun j hj=>h.1.1 _ (cl_lt hj).1,fun i hi=>?_⟩;by_cases hM:i<B.M
 ·rw [zL2 _ hM,dot_congr fun k hk=>zK3 ok h.2.1 hk];have e:(B.prob av).b i=B.b i-B.dot (B.A i) (B.base av B.nb):=if_pos hM;rw [e];have:=h.1.2 i hM;grind
 ·have hi':i<B.M+(B.und av).length:=hi;obtain ⟨j,rfl⟩:∃ j,i=B.M+j:=⟨i-B.M,om⟩;have hj:j<(B.und av).length:=om
  rw [zLS ok _ hj];have e2:(B.prob av).b (B.M+j)=1:=if_neg om;obtain ⟨h1,h2⟩:=zMG hj;rw [e2,zK3 ok h.2.1 (ok.lt _ h1)];exact h.2.2 _ h1 h2
theorem at_lift (y:Nat->Rat) (l:Nat):(B.prob av).at y l=B.dot (B.lev l) (B.lift av y)-B.dot (B.lev l) (B.base av B.nb):=by
 rw [zLT];unfold Prob.at;have:sum (B.prob av).n (fun k=>(B.prob av).O l k*y k)=sum (B.cols av).length fun j=>B.lev l (B.cl av j)*y j:=rfl
 rw [this]; grind
end
def Le (B:BP) (y x:Nat->Rat):Prop:=LexNN (B.K+B.V) fun l=>B.dot (B.lev l) x-B.dot (B.lev l) y
def Ray (B:BP):Prop:=∃ d:Nat->Rat,(∀ k,k<B.V->0<=d k)/\(∀ i,i<B.M->B.dot (B.A i) d<=0)/\(∀ i,i<B.nb->d (B.bin i)=0)/\LexPos B.K fun l=>B.dot (B.O l) d
def Best (B:BP) (av:Nat->Int) (x:Nat->Rat):Prop:=B.Rel av x/\∀ y,B.Rel av y->B.Le y x
section
variable {B:BP} {av:Nat->Int} {x y z:Nat->Rat}
theorem Le.trans (h:B.Le x y) (h':B.Le y z):B.Le x z:=(LexNN.add h h').congr fun l _=>by grind
theorem Le.of_not (h:¬ B.Le x y):B.Le y x:=by
 rcases zFM (B.K+B.V) (fun l=>B.dot (B.lev l) y-B.dot (B.lev l) x) with h1 | h1 | h1
 ·exact (LexNN.congr (.inr h1.neg) fun l _=>by grind)
 ·exact absurd (.inl h1) h
 ·exact absurd (.inr h1) h
theorem lev_x {k:Nat} (hk:k<B.V):B.dot (B.lev (B.K+k)) x=- x k:=by
 unfold dot;rw [zBu (s:=k) hk]
 ·unfold lev; rw [if_neg om,if_pos om]; grind
 ·intro i hi hne; unfold lev; rw [if_neg om,if_neg om]; grind
theorem Le.antisymm (h:B.Le x y) (h':B.Le y x) {k:Nat} (hk:k<B.V):x k=y k:=by
 rcases h with h | h
 ·have:=h (B.K+k) om;dsimp only at this;rw [lev_x hk,lev_x hk] at this;grind
 ·refine absurd ?_ h'.not;exact h.neg.congr fun l _=>by grind
theorem Le.congr {x' y':Nat->Rat} (h:B.Le x y) (hx:∀ k,k<B.V->x k=x' k) (hy:∀ k,k<B.V->y k=y' k):B.Le x' y':=
 LexNN.congr h fun l _=>by rw [dot_congr hx,dot_congr hy]
theorem zMt (f x d:Nat->Rat):B.dot f (fun k=>x k+d k)=B.dot f x+B.dot f d:=by
 unfold dot;rw [<-zCb];exact zAh fun k _=>by grind
theorem Ray.no_best (h:B.Ray):¬ B.Best av x:=by
 intro ⟨⟨hf,hi,hu⟩,hb⟩;obtain ⟨d,h1,h2,h3,h4⟩:=h
 have hR:B.Rel av (fun k=>x k+d k):=by
  refine ⟨⟨fun k hk=>?_,fun i hi=>?_⟩,fun i h5 h6=>?_,fun i h5 h6=>?_⟩
  ·have:=hf.1 k hk; have:=h1 k hk; grind
  ·rw [zMt]; have:=hf.2 i hi; have:=h2 i hi; grind
  ·show x _+d _=_; rw [h3 i h5,hi i h5 h6]; grind
  ·show x _+d _<=_; rw [h3 i h5]; have:=hu i h5 h6; grind
 refine (hb _ hR).not ?_;obtain ⟨l,hl,h5,h6⟩:=h4
 have key:∀ l,l<B.K->B.dot (B.lev l) x-B.dot (B.lev l) (fun k=>x k+d k)=- B.dot (B.O l) d:=fun l hl=>by
  have e:B.lev l=B.O l:=by funext k; exact if_pos hl
  rw [e,zMt]; grind
 refine ⟨l,om,by dsimp only; rw [key l hl]; dsimp only at h5; grind,fun j hj=>by dsimp only; rw [key j om]; have:=h6 j hj; dsimp only at this; grind⟩
theorem best_of (ok:B.Ok) (hv:B.Av av) {D:Dict} {live:Nat->Bool} (G:Good (B.prob av) D) (F:Feas (B.prob av) D) (hI:LInv (B.prob av) (B.K+B.V) live D):B.Best av (B.lift av (D.point (B.prob av))):=by
 refine ⟨feas_lift ok hv (G.feasible_point F),fun y hy=>?_⟩;have h:=G.most (N:=B.K+B.V) (nlr _) (fun j hj=>hI.nn hj) (feas_rest ok hy);refine LexNN.congr h fun l hl=>?_
 rw [<-G.at_point (show l<(B.prob av).K from hl),at_lift,at_lift,dot_congr (x:=B.lift av fun j=>y (B.cl av j)) fun k hk=>zK3 ok hy.2.1 hk];grind
theorem ray_of (ok:B.Ok) {D:Dict} {live:Nat->Bool} {N s:Nat} (G:Good (B.prob av) D) (F:Feas (B.prob av) D) (hN:N<B.K+B.V) (hI:LInv (B.prob av) N live D) (hs:s<(B.prob av).n) (lv:live s=true) (hn:D.c N s<0) (h:∀ i,i<(B.prob av).m->D.a i s<=0) :
  N<B.K/\B.Ray:=by
 obtain ⟨h1,h2,h3,h4⟩:=G.ray F (show N<(B.prob av).K from hN) hI hs lv hn h;obtain ⟨d,hd⟩:∃ d,d=fun k=>if B.fixed av B.nb k=true then (0:Rat) else D.dir (B.prob av) s (find (B.cl av) k (B.cols av).length):=⟨_,rfl⟩
 have dcl:∀ j,j<(B.cols av).length->d (B.cl av j)=D.dir (B.prob av) s j:=fun j hj=>by rw [hd]; dsimp only; rw [(cl_lt hj).2,if_neg dj,zMw hj]
 have hdot:∀ f,B.dot f d=sum (B.cols av).length fun j=>f (B.cl av j)*D.dir (B.prob av) s j:=fun f=>by
  unfold dot;rw [zLW (fun v=>! B.fixed av B.nb v) (fun k=>f k*d k),zAC (f:=fun v=>if (! B.fixed av B.nb v)=true then 0 else f v*d v)]
  ·have e1:sum (B.cols av).length (fun j=>f (B.cl av j)*d (B.cl av j))=sum (B.cols av).length fun j=>f (B.cl av j)*D.dir (B.prob av) s j:=zAh fun j hj=>by rw [dcl j hj]
   exact (Rat.zero_add _).trans e1
  ·intro k _
   cases hf:B.fixed av B.nb k with
   | true=>rw [hd]; simp [hf]
   | false=>simp
 have hat:∀ l,(B.prob av).at (D.dir (B.prob av) s) l=B.dot (B.lev l) d:=fun l=>(hdot (B.lev l)).symm
 have d0:∀ k,k<B.V->0<=d k:=fun k hk=>by
  cases hf:B.fixed av B.nb k with
  | true=>rw [hd]; simp [hf]
  | false=>
   obtain ⟨j,hj,e⟩:=cl_idx hk hf;rw [<-e,dcl j hj]; exact h1 j hj
 have hNK:N<B.K:=by
  apply Nat.lt_of_not_le;intro hle;rw [hat,show N=B.K+(N-B.K) by omega,lev_x om] at h4;have:=d0 (N-B.K) om;grind
 refine ⟨hNK,d,d0,fun i hi=>?_,fun i hi=>?_,N,hNK,?_,fun l hl=>?_⟩
 ·have h5:=h2 i (show i<B.M+_ by omega);rw [hdot];have e5:sum (B.cols av).length (fun j=>B.A i (B.cl av j)*D.dir (B.prob av) s j)=sum (B.prob av).n fun k=>(B.prob av).A i k*D.dir (B.prob av) s k:=zAh fun j _=>?_
  rw [e5]; exact h5
  show _=(if i<B.M then B.A i (B.cl av j) else _)*_;rw [if_pos hi]
 ·by_cases hu:av i=-1
  ·obtain ⟨j,hj,e⟩:=zLR hi hu;have hf:B.fixed av B.nb (B.bin i)=false:=by rw [zKO ok hi]; simp [hu]
   obtain ⟨j',hj',e'⟩:=cl_idx (ok.lt i hi) hf;have h5:=h2 (B.M+j) (show B.M+j<B.M+_ by omega);rw [zLS ok _ hj,e,<-e',lift_cl _ hj',<-dcl j' hj',e'] at h5;have:=d0 (B.bin i) (ok.lt i hi);grind
  ·have hf:B.fixed av B.nb (B.bin i)=true:=by rw [zKO ok hi]; simpa using hu
   rw [hd]; simp [hf]
 ·rw [hat] at h4;have e:B.lev N=B.O N:=by funext k; exact if_pos hNK
  rw [e] at h4; exact h4
 ·have h5:=h3 l hl;rw [hat] at h5;have e:B.lev l=B.O l:=by funext k; exact if_pos om
  rw [e] at h5; exact h5
end
end BP
end Go.Proofs.YtbpngececjihlaaGreat.Lin
namespace Go.Proofs.YtbpngececjihlaaGreat.Lin.BP
variable {i:Nat}
section
variable {B:BP} {av a:Nat->Int} {o:List (Nat->Int)} {st:Option (Option (Nat->Rat))} {r s:Option (Nat->Rat)} {x:Nat->Rat}
def left (B:BP) (av:Nat->Int):Nat:=(B.und av).length
def load (B:BP):List (Nat->Int)->Nat
 | []=>0
 | a :: o=>B.load o+(2 ^ (B.left a+1)-1)
theorem zKN (o:List (Nat->Int)) (a:Nat->Int):B.load (o++[a])=B.load o+(2 ^ (B.left a+1)-1):=by
 induction o with
 | nil=>simp [load]
 | cons b o ih=>simp only [List.cons_append,load,ih]; omega
theorem zMv {q q':Nat->Bool} {p:Nat} (h:∀ i,i ≠ p->q' i=q i) (h1:q p=true) (h2:q' p=false):∀ k,(filt q' k).length+(if p<k then 1 else 0)=(filt q k).length:=by
 intro k
 induction k with
 | zero=>simp [filt]
 | succ k ih=>
  rw [zKI,zKI];by_cases e:k=p
  ·subst e;rw [if_pos (show k<k+1 by omega),h1,h2];rw [if_neg om] at ih;simp; omega
  ·rw [h k e]
   have:(if p<k+1 then 1 else 0)=if p<k then 1 else 0:=by
    by_cases e2:p<k
    ·rw [if_pos e2,if_pos om]
    ·rw [if_neg e2,if_neg om]
   rw [this]
   split
   ·rw [List.length_append,List.length_append]; simp; omega
   ·exact ih
theorem left_turn {p:Nat} {v:Int} (hp:p<B.nb) (h:av p=-1) (hv:v ≠ -1):B.left (turn av p v)+1=B.left av:=by
 have:=zMv (q:=fun i=>decide (av i=-1)) (q':=fun i=>decide (turn av p v i=-1)) (p:=p) (fun i hi=>by rw [zBh _ hi]) (by simpa using h) (by rw [zBL]; simpa using hv) B.nb;rw [if_pos hp] at this;exact this
theorem left_zero (h:B.left av=0) (hi:i<B.nb):av i ≠ -1:=fun e=>by
 obtain ⟨j,hj,-⟩:=zLR (B:=B) hi e;unfold left at h; omega
theorem left_full (h:∀ i,i<B.nb->av i=-1):B.left av=B.nb:=by
 unfold left und
 have:∀ k,k<=B.nb->(filt (fun i=>decide (av i=-1)) k).length=k:=by
  intro k
  induction k with
  | zero=>intro _; simp [filt]
  | succ k ih=>
   intro hk;rw [zKI,if_pos (by simpa using h k om),List.length_append,ih om]; rfl
 exact this _ (nlr _)
theorem Av.turn (h:B.Av av) {p:Nat} {v:Int} (hv:v=0\/v=1):B.Av (turn av p v):=fun i hi=>by
 by_cases e:i=p
 ·rw [e,zBL]; exact .inr hv
 ·rw [zBh _ e]; exact h i hi
def Inv (B:BP) (o:List (Nat->Int)):Option (Option (Nat->Rat))->Prop
 | none=>∀ x,B.S x->∃ a,a ∈ o/\B.In a x
 | some none=>B.Ray/\∃ x,B.S x
 | some (some x0)=>B.S x0/\¬ B.Ray/\∀ x,B.S x->(∃ a,a ∈ o/\B.In a x)\/B.Le x x0
def Out (B:BP) (av:Nat->Int):Option (Nat->Rat)->Prop
 | none=>B.Ray/\∃ x,B.Rel av x
 | some x=>B.Best av x
theorem zMC (h:B.S x) (hi:B.In a x):B.Rel a x:=⟨h.1,hi,fun i hi _=>by rcases h.2 i hi with e | e <;> rw [e] <;> decide⟩
theorem Inv.start:B.Inv [fun _=>-1] none:=fun _x _=>⟨_,List.mem_singleton.2 rfl,fun _ _ h=>absurd rfl h⟩
theorem Inv.drop (h:B.Inv (o++[a]) st) (hE:∀ x,¬ B.Rel a x):B.Inv o st:=by
 have key:∀ x,B.S x->(∃ b,b ∈ o++[a]/\B.In b x)->∃ b,b ∈ o/\B.In b x:=fun x hx ⟨b,hb,hi⟩=>by
  rcases List.mem_append.1 hb with hb | hb
  ·exact ⟨b,hb,hi⟩
  ·rw [List.mem_singleton.1 hb] at hi;exact absurd (zMC hx hi) (hE x)
 cases st with
 | none=>exact fun x hx=>key x hx (h x hx)
 | some r=>cases r with
  | none=>exact h
  | some x0=>exact ⟨h.1,h.2.1,fun x hx=>(h.2.2 x hx).imp_left (key x hx)⟩
theorem Inv.cut (h:B.Inv (o++[a]) (some r)) (hs:B.Out a s) (hc:∀ x0 x1,r=some x0->s=some x1->B.Le x1 x0):B.Inv o (some r):=by
 cases r with
 | none=>exact h
 | some x0=>
  refine ⟨h.1,h.2.1,fun x hx=>?_⟩;rcases h.2.2 x hx with ⟨b,hb,hi⟩ | hl
  ·rcases List.mem_append.1 hb with hb | hb
   ·exact .inl ⟨b,hb,hi⟩
   ·rw [List.mem_singleton.1 hb] at hi
    cases s with
    | none=>exact absurd hs.1 h.2.1
    | some x1=>exact .inr ((hs.2 x (zMC hx hi)).trans (hc x0 x1 rfl rfl))
  ·exact .inr hl
theorem Inv.take (_ok:B.Ok) (hv:B.Av a) (h:B.Inv (o++[a]) st) (hs:B.Out a s) (h0:s=none->B.left a=0) (h1:∀ x,s=some x->∀ i,i<B.nb->a i=-1->x (B.bin i)=0\/x (B.bin i)=1)
  (hc:∀ x0 x1,st=some (some x0)->s=some x1->B.Le x0 x1):B.Inv o (some s):=by
 have bins:∀ {x i},B.In a x->i<B.nb->a i ≠ -1->x (B.bin i)=0\/x (B.bin i)=1:=fun {x i} hx hi hu=>by
  rw [hx i hi hu];rcases hv i hi with e | e | e
  ·exact absurd e hu
  ·exact .inl (by rw [e]; rfl)
  ·exact .inr (by rw [e]; rfl)
 cases s with
 | none=>
  obtain ⟨hr,x,hx⟩:=hs
  exact ⟨hr,x,hx.1,fun i hi=>bins hx.2.1 hi (left_zero (h0 rfl) hi)⟩
 | some x1=>
  have hnr:¬ B.Ray:=fun hr=>hr.no_best hs
  refine ⟨⟨hs.1.1,fun i hi=>?_⟩,hnr,fun x hx=>?_⟩
  ·by_cases hu:a i=-1
   ·exact h1 x1 rfl i hi hu
   ·exact bins hs.1.2.1 hi hu
  ·have key:(∃ b,b ∈ o++[a]/\B.In b x)->(∃ b,b ∈ o/\B.In b x)\/B.Le x x1:=fun ⟨b,hb,hi⟩=>by
    rcases List.mem_append.1 hb with hb | hb
    ·exact .inl ⟨b,hb,hi⟩
    ·rw [List.mem_singleton.1 hb] at hi;exact .inr (hs.2 x (zMC hx hi))
   cases st with
   | none=>exact key (h x hx)
   | some r=>cases r with
    | none=>exact absurd h.1 hnr
    | some x0=>exact (h.2.2 x hx).elim key fun hl=>.inr (hl.trans (hc x0 x1 rfl rfl))
theorem Inv.split {p:Nat} (h:B.Inv (o++[a]) st) (hp:p<B.nb) (_hu:a p=-1):B.Inv ((o++[turn a p 1])++[turn a p 0]) st:=by
 have key:∀ x,B.S x->(∃ b,b ∈ o++[a]/\B.In b x)->∃ b,b ∈ (o++[turn a p 1])++[turn a p 0]/\B.In b x:=fun x hx ⟨b,hb,hi⟩=>by
  rcases List.mem_append.1 hb with hb | hb
  ·exact ⟨b,List.mem_append_left _ (List.mem_append_left _ hb),hi⟩
  ·rw [List.mem_singleton.1 hb] at hi
   have tn:∀ v:Int,x (B.bin p)=(v:Rat)->B.In (turn a p v) x:=fun v e i hi' hu'=>by
    by_cases ei:i=p
    ·rw [ei,zBL]; exact e
    ·rw [zBh _ ei] at hu' ⊢; exact hi i hi' hu'
   rcases hx.2 p hp with e | e
   ·exact ⟨_,List.mem_append_right _ (List.mem_singleton.2 rfl),tn 0 e⟩
   ·exact ⟨_,List.mem_append_left _ (List.mem_append_right _ (List.mem_singleton.2 rfl)),tn 1 e⟩
 cases st with
 | none=>exact fun x hx=>key x hx (h x hx)
 | some r=>cases r with
  | none=>exact h
  | some x0=>exact ⟨h.1,h.2.1,fun x hx=>(h.2.2 x hx).imp_left (key x hx)⟩
theorem load_split {p:Nat} (hp:p<B.nb) (hu:a p=-1):B.load ((o++[turn a p 1])++[turn a p 0])+1=B.load (o++[a]):=by
 rw [zKN,zKN,zKN];have h1:=left_turn (B:=B) (v:=1) hp hu dj;have h0:=left_turn (B:=B) (v:=0) hp hu dj;rw [<-h1,show B.left (turn a p 0)=B.left (turn a p 1) by omega];generalize B.left (turn a p 1)=l;have:0<2 ^ (l+1):=Nat.pow_pos dj;rw [Nat.pow_succ 2 (l+1)];omega
theorem load_pop:B.load o+1<=B.load (o++[a]):=by
 rw [zKN];have:0<2 ^ (B.left a):=Nat.pow_pos dj;rw [Nat.pow_succ];omega
theorem load_start {a:Nat->Int} (h:∀ i,i<B.nb->a i=-1):B.load [a]=2 ^ (B.nb+1)-1:=by
 show 0+_=_;rw [left_full h,Nat.zero_add]
end
end Go.Proofs.YtbpngececjihlaaGreat.Lin.BP
namespace Go.Proofs.YtbpngececjihlaaGreat.Lin
variable {f:Nat->Rat} {k i j n m:Nat} {bn cn:Nat->Nat}
theorem zMX (n m:Nat) (f:Nat->Nat->Rat):sum n (fun i=>sum m fun j=>f i j)=sum m fun j=>sum n fun i=>f i j:=by
 induction n with
 | zero=>exact (zAC fun _ _=>rfl).symm
 | succ n ih=>
  show sum n _+sum m _=_;rw [ih,<-zCb];rfl
section
variable {P:Prob} {D:Dict}
theorem zLs (G:Good P D) (f g:Nat->Rat) (hz:∀ v,P.n<=v->v<P.n+P.m->f v=0) :
  sum P.n (fun k=>f k*(if find D.basic k P.m<P.m then g (find D.basic k P.m) else 0))=sum P.m fun i=>f (D.basic i)*g i:=by
 have h1:∀ k,k<P.n->f k*(if find D.basic k P.m<P.m then g (find D.basic k P.m) else 0)=sum P.m fun i=>if D.basic i=k then f k*g i else 0:=fun k _=>by
  rcases zCi D.basic k P.m with ⟨h,e⟩ | ⟨h,e⟩
  ·rw [if_pos h,zBu (s:=find D.basic k P.m) h,if_pos e];intro i hi hne;exact if_neg fun e'=>hne (G.bInj i _ hi h (e'.trans e.symm))
  ·rw [if_neg om,zAC]
   ·grind
   ·intro i hi; exact if_neg (e i hi)
 rw [zAh h1,zMX];refine zAh fun i hi=>?_
 by_cases hb:D.basic i<P.n
 ·rw [zBu (s:=D.basic i) hb,if_pos rfl];intro k _ hne;exact if_neg (Ne.symm hne)
 ·rw [zAC,hz _ om (G.bLt i hi)]
  ·grind
  ·intro k hk;exact if_neg om
theorem Good.cost_at (G:Good P D) {l:Nat} (hl:l<P.K) (hf:∀ v,v<P.n->f v=P.O l v) (hz:∀ v,P.n<=v->v<P.n+P.m->f v=0) {s:Nat} (hs:s<P.n) :
  D.c l s=- f (D.free s)+sum P.m fun i=>f (D.basic i)*D.a i s:=by
 have e:P.at (D.dir P s) l=- D.c l s:=by
  have h1:=G.obj_dir hs G.point_sys 1 (l:=l) om
  have h2:P.obj l (fun v=>D.point P v+1*D.dir P s v)=P.obj l (D.point P)+P.obj l (D.dir P s):=by
   unfold Prob.obj;rw [if_pos hl,if_pos hl,if_pos hl,zLo]; grind
  rw [zKX hl] at h1;have h3:P.obj l (D.dir P s)=P.at (D.dir P s) l:=by unfold Prob.obj Prob.at; rw [if_pos hl]
  grind
 have hb:=zLs G f (fun i=>- D.a i s) hz
 have e2:P.at (D.dir P s) l=sum P.n (fun k=>f k*(if find D.basic k P.m<P.m then-D.a (find D.basic k P.m) s else 0))+f (D.free s):=by
  have e3:∀ k,k<P.n->P.O l k*D.dir P s k=f k*(if find D.basic k P.m<P.m then-D.a (find D.basic k P.m) s else 0)+(if k=D.free s then f k else 0):=fun k hk=>by
   rw [<-hf k hk];unfold Dict.dir;by_cases h:find D.basic k P.m<P.m
   ·rw [if_pos h,if_pos h,if_neg,Rat.add_zero];intro e;exact G.apart _ s h hs ((zFk (f:=D.basic) (v:=k) (m:=P.m) h (by rcases zCi D.basic k P.m with h' | h'; exact h'.2; omega)).2.trans e)
   ·rw [if_neg h,if_neg h];by_cases e:k=D.free s
    ·rw [if_pos e,if_pos e]; grind
    ·rw [if_neg e,if_neg e]; grind
  unfold Prob.at;rw [zAh e3,zCb];congr 1;by_cases h:D.free s<P.n
  ·rw [zBu (s:=D.free s) h,if_pos rfl];intro k _ hne;exact if_neg hne
  ·rw [zAC,hz _ om (G.fLt s hs)];intro k hk;exact if_neg om
 rw [hb] at e2
 have e4:sum P.m (fun i=>f (D.basic i) *-D.a i s)=- sum P.m fun i=>f (D.basic i)*D.a i s:=by
  rw [<-zFC];exact zAh fun i _=>by grind
 grind
theorem Good.cost_last (G:Good P D) {l:Nat} (hl:l<P.K) (hf:∀ v,v<P.n->f v=P.O l v) (hz:∀ v,P.n<=v->v<P.n+P.m->f v=0) :
  D.c l P.n=sum P.m fun i=>f (D.basic i)*D.a i P.n:=by
 rw [<-G.at_point hl,<-zLs G f (fun i=>D.a i P.n) hz];unfold Prob.at;exact zAh fun k hk=>by rw [hf k hk]; rfl
end
def aimTo (n:Nat) (bn cn:Nat->Nat) (a:Nat->Nat->Rat) (f:Nat->Rat) (k0:Rat) (i j:Nat):Rat:=(if j=n then k0 else-f (cn j))+sum i fun r=>f (bn r)*a r j
theorem zLc (n:Nat) (bn cn:Nat->Nat) (a:Nat->Nat->Rat) (f:Nat->Rat) (k0:Rat) (i j:Nat):aimTo n bn cn a f k0 (i+1) j=aimTo n bn cn a f k0 i j+f (bn i)*a i j:=by
 unfold aimTo;rw [show sum (i+1) (fun r=>f (bn r)*a r j)=sum i (fun r=>f (bn r)*a r j)+f (bn i)*a i j from rfl];grind
theorem zL5 (n:Nat) (bn cn:Nat->Nat) (a:Nat->Nat->Rat) (f:Nat->Rat) (k0:Rat) (j:Nat):aimTo n bn cn a f k0 0 j=if j=n then k0 else-f (cn j):=by
 unfold aimTo;rw [show sum 0 (fun r=>f (bn r)*a r j)=0 from rfl];grind
theorem zMO :∀ {n:Nat},(∀ i,i<n->Fits k (f i))->Fits (n*(k+1)) (sum n f):=by
 intro n
 induction n with
 | zero=>intro _; exact Fits.zero _
 | succ n ih=>
  intro h;exact ((ih fun i hi=>h i om).add (h n om)).mono (by rw [Nat.add_mul]; omega)
theorem zMc {a:Nat->Nat->Rat} {k0:Rat} (hf:∀ v,Fits k (f v)) (h0:Fits k k0) (ha:∀ i j,i<m->j<=n->Fits k (a i j)) (hi:i<=m) (hj:j<=n):Fits (i*(2*k+1)+k+1) (aimTo n bn cn a f k0 i j):=by
 have h1:Fits (i*(2*k+1)) (sum i fun r=>f (bn r)*a r j):=zMO fun r hr=>by
  have:=(hf (bn r)).mul (ha r j om hj)
  rwa [<-Nat.two_mul] at this
 have h2:Fits k (if j=n then k0 else-f (cn j)):=by split; exact h0; exact (hf _).neg
 exact (h2.add h1).mono om
end Go.Proofs.YtbpngececjihlaaGreat.Lin
