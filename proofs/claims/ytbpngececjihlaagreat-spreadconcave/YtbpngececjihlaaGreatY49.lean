/- Texts PsM SpN SpY SpW of this claim. -/
import Derived.Test.YtbpngececjihlaaGreatY48
set_option maxHeartbeats 4000000
set_option maxRecDepth 40000
namespace Go.Proofs.YtbpngececjihlaaGreat
open Lin
variable {n row V i k K L b:Nat} {f:Nat->Rat} {P Q:Lin.Prob} {bs cl:List Rat} {os rs:List (List Rat)} {D:Lin.Dict} {w w' W:World} {f':Bool} {q:Rat} {X:Nat->Prop} {p:LPV}
section
variable {P:Prob} {D:Dict} {k:Nat} {x:Nat->Rat}
end
theorem zQD {g:Nat->Rat} (h:∀ i,i<n->f i<=g i) (e:sum n f=sum n g):∀ i,i<n->f i=g i:=by
 induction n with
 | zero=>exact fun i hi=>absurd hi (Nat.not_lt_zero i)
 | succ n ih=>
  intro i hi;have h1:sum n f<=sum n g:=zJN fun j hj=>h j (by omega)
  have h2:=h n (by omega);have e':sum n f+f n=sum n g+g n:=e;by_cases hn:i=n
  ·subst hn; grind
  ·exact ih (fun j hj=>h j (by omega)) (by grind) i (by omega)
theorem slackness {x y:Nat->Rat} (hx:P.Feasible x) (hy:P.Dual y) (he:(sum P.n fun k=>P.O 0 k*x k)=sum P.m fun i=>y i*P.b i) :
  (∀ i,i<P.m->¬ (0<y i/\0<P.b i-sum P.n fun k=>P.A i k*x k))/\∀ k,k<P.n->¬ (0<x k/\0<(sum P.m fun i=>y i*P.A i k)-P.O 0 k):=by
 have e:(sum P.m fun i=>y i*sum P.n fun k=>P.A i k*x k)=sum P.n fun k=>(sum P.m fun i=>y i*P.A i k)*x k:=by
  rw [zAh (g:=fun i=>sum P.n fun k=>y i*P.A i k*x k) (fun i _=>by rw [<-zBK]; exact zAh fun k _=>by grind),zD2];exact zAh fun k _=>zCc _ _ _
 have t1:∀ i,i<P.m->(y i*sum P.n fun k=>P.A i k*x k)<=y i*P.b i:=fun i hi=>by
  have:=mul_nonneg (hy.1 i hi) (show 0<=P.b i-sum P.n fun k=>P.A i k*x k by have:=hx.2 i hi; grind);grind
 have t2:∀ k,k<P.n->P.O 0 k*x k<=(sum P.m fun i=>y i*P.A i k)*x k:=fun k hk=>by
  have:=mul_nonneg (hx.1 k hk) (show 0<=(sum P.m fun i=>y i*P.A i k)-P.O 0 k by have:=hy.2 k hk; grind);grind
 have s1:=zJN t1;have s2:=zJN t2;have u1:=zQD t1 (by grind);have u2:=zQD t2 (by grind);constructor
 ·rintro i hi ⟨h1,h2⟩;have:=u1 i hi;have:=mul_pos h1 h2;grind
 ·rintro k hk ⟨h1,h2⟩;have:=u2 k hk;have:=mul_pos h1 h2;grind
theorem zS1 (s:Rat) (h:row<bs.length):prob1 V os rs (bset bs row s)=(prob1 V os rs bs).re (bump (prob1 V os rs bs) row s):=by
 have e:(fun i=>(bset bs row s).getD i 0)=bump (prob1 V os rs bs) row s:=funext fun j=>zS8 bs row s j h
 show Prob.mk V rs.length 1 _ (fun i=>(bset bs row s).getD i 0) _=_;rw [e]; rfl
theorem zSQ {s r:Rat} (h:row<bs.length) (ho:OptAt V os rs bs row s r):PMax ((prob1 V os rs bs).re (bump (prob1 V os rs bs) row s)) r:=by
 obtain ⟨D,hI,hE,rfl⟩:=ho;have:=zQK hI hE Nat.one_pos;rw [zS1 s h] at this;rw [zS1 s h] at hI;exact this
theorem PMax.val {v v':Rat} (h:PMax P v) (h':PMax P v'):v=v':=by
 obtain ⟨x,hx,e⟩:=h.1;obtain ⟨x',hx',e'⟩:=h'.1;have h1:=h'.le hx;have h2:=h.le hx';grind
theorem zS4 (i k:Nat):((rs.map fun r=>resize r (colsOf rs)).getD i []).getD k 0=(rs.getD i []).getD k 0:=by
 by_cases hi:i<rs.length
 ·rw [show (rs.map fun r=>resize r (colsOf rs)).getD i []=resize (rs.getD i []) (colsOf rs) by simp [List.getD,hi],resize,zRg]
  split
  ·rfl
  ·rename_i h;rw [zAw _ k _ (nlt (zBT (nlr _) i) (by omega))]
 ·rw [zAw (rs.map fun r=>resize r (colsOf rs)) i [] (by simpa using hi),zAw rs i [] (by omega)]
theorem zSS {α:Type} (l:List α) (i j:Nat) (x d:α) (h:i<l.length):(l.set i x).getD j d=if j=i then x else l.getD j d:=by
 simp only [gdd,List.getElem?_set];by_cases e:i=j
 ·subst e; simp [h]
 ·simp [e,show ¬ j=i from fun h=>e h.symm]
theorem zS3 {ol:List (List Rat)} {bq:Rat} (hr:row<rs.length) (hb:row<bs.length) :
  Repl (prob1 V os rs bs) (prob1 V ol ((rs.map fun r=>resize r (colsOf rs)).set row cl) (bs.set row bq)) row (fun k=>cl.getD k 0) bq fun k=>(ol.getD 0 []).getD k 0 where
 n:=rfl
 m:=by show List.length _=_; rw [List.length_set,List.length_map]; rfl
 K:=rfl
 A:=fun j _ hne k _=>by
  show ((List.set _ _ _).getD j []).getD k 0=(rs.getD j []).getD k 0;rw [zSS _ _ _ _ _ (by rw [List.length_map]; exact hr),if_neg hne,zS4]
 bs:=fun j _ hne=>by
  show (List.set _ _ _).getD j 0=bs.getD j 0;rw [zSS _ _ _ _ _ hb,if_neg hne]
 Ai:=fun k _=>by
  show ((List.set _ _ _).getD row []).getD k 0=_;rw [zSS _ _ _ _ _ (by rw [List.length_map]; exact hr),if_pos rfl]
 bi:=by
  show (List.set _ _ _).getD row 0=_;rw [zSS _ _ _ _ _ hb,if_pos rfl]
 O:=fun _ _=>rfl
theorem Repl.as {a a' o o':Nat->Rat} {b b':Rat} (h:Repl P Q i a b o) (ha:∀ k,k<P.n->a k=a' k) (hb:b=b') (ho:∀ k,k<P.n->o k=o' k):Repl P Q i a' b' o':=
 ⟨h.n,h.m,h.K,h.A,h.bs,fun k hk=>(h.Ai k hk).trans (ha k hk),h.bi.trans hb,fun k hk=>(h.O k hk).trans (ho k hk)⟩
theorem zS6 {s r0 r1:Rat} {lo up:Option Rat} (hI:PInv (prob1 V os rs bs) none D) (hE:Ends (prob1 V os rs bs) none D 1) (_hcr:colsOf rs<=V) (_hco:colsOf os<=V) (hr:row<rs.length) (hb:row<bs.length)
  (h0:OptAt V os rs bs row 0 r0) (h1:OptAt V os rs bs row s r1) :
  r1<=r0+s*D.dual (prob1 V os rs bs) row/\(RangeLo V os rs bs row (D.c 0 V) (D.dual (prob1 V os rs bs) row) lo->RangeUp V os rs bs row (D.c 0 V) (D.dual (prob1 V os rs bs) row) up->(lowB lo s && upB up s)=true->r1=r0+s*D.dual (prob1 V os rs bs) row):=by
 generalize hP:prob1 V os rs bs=P at *;have hv:PMax P (D.c 0 V):=by have:=zQK hI hE (by rw [<-hP]; exact Nat.one_pos); rw [show P.n=V by rw [<-hP]; rfl] at this; exact this
 have hd:=ends1 hI hE (by rw [<-hP]; exact Nat.one_pos);rw [show P.n=V by rw [<-hP]; rfl] at hd;have m0:=zSQ hb h0;have m1:=zSQ hb h1;rw [hP] at m0 m1;have hrm:row<P.m:=by rw [<-hP]; exact hr
 have e0:r0=D.c 0 V:=by
  refine PMax.val m0 ?_
  have:(P.re (bump P row 0))=P:=by
   have:bump P row 0=P.b:=funext fun j=>by unfold bump; split <;> grind
   rw [this]; rfl
  rw [this]; exact hv
 have hle:r1<=r0+s*D.dual P row:=by
  have:=zTa hrm hd.1 m1;rw [<-hd.2.2.1] at this;rw [e0]; exact this
 refine ⟨hle,fun hlo hup hc=>?_⟩;rw [Bool.and_eq_true] at hc;have hl:∀ l,lo=some l->l<=s:=fun l e=>by subst e; simpa [lowB] using hc.1
 have hu:∀ u,up=some u->s<=u:=fun u e=>by subst e; simpa [upB] using hc.2
 have hPO:∀ k,P.O 0 k=(os.getD 0 []).getD k 0:=fun k=>by rw [<-hP]; rfl
 have hPA:∀ k,P.A row k=(rs.getD row []).getD k 0:=fun k=>by rw [<-hP]; rfl
 have hPb:P.b row=bs.getD row 0:=by rw [<-hP]; rfl
 have key:∃ x,(P.re (bump P row s)).Feasible x/\r0+s*D.dual P row<=sum P.n fun k=>P.O 0 k*x k:=by
  by_cases hz:D.dual P row=0
  ·have hL:=hlo.1 hz;have hR:=zS3 (V:=V) (os:=os) (bs:=bs) (ol:=[(rs.getD row []).map ((-1:Rat)*·)]) (cl:=(os.getD 0 []).map ((-1:Rat)*·)) (bq:=- D.c 0 V) hr hb;rw [hP] at hR
   have hR2:=hR.as (a':=fun k=>- P.O 0 k) (o':=fun k=>- P.A row k) (b':=- D.c 0 V) (fun k _=>by rw [zSs,hPO]) rfl (fun k _=>by
    show ((rs.getD row []).map ((-1:Rat)*·)).getD k 0=_;rw [zSs,hPA])
   unfold FreeLim at hL;rw [<-hPb] at hL;obtain ⟨x,hx,hx2⟩:=zS9 hrm hR2 hv hL hl;exact ⟨x,hx,by rw [hz,e0]; grind⟩
  ·have hL:=hlo.2 hz;have hU:=hup.2 hz;have hpos:0<D.dual P row:=by have:=hd.1.1 row hrm; grind
   have hact:∀ x,P.Feasible x->(sum P.n fun k=>P.O 0 k*x k)=D.c 0 V->(sum P.n fun k=>P.A row k*x k)=P.b row:=fun x hx e=>by
    have h1:=(slackness hx hd.1 (by rw [e]; exact hd.2.2.1)).1 row hrm;have h2:=hx.2 row hrm;exact Classical.byContradiction fun h=>h1 ⟨hpos,by grind⟩
   have hcl:∀ k,((List.range (max (rs.getD row []).length (os.getD 0 []).length)).map fun i=>(rs.getD row []).getD i 0-((os.getD 0 []).map ((D.dual P row)⁻¹*·)).getD i 0).getD k 0=P.A row k-(D.dual P row)⁻¹*P.O 0 k:=fun k=>by
    rw [zRg,hPA,hPO]
    split
    ·rw [zRw]
    ·rename_i h;rw [zAw (rs.getD row []) _ _ (by omega),zAw (os.getD 0 []) _ _ (by omega)]; grind
   have hR:=zS3 (V:=V) (os:=os) (bs:=bs) (ol:=[((os.getD 0 []).map ((D.dual P row)⁻¹*·)).map ((-1:Rat)*·)]) (cl:=(List.range (max (rs.getD row []).length (os.getD 0 []).length)).map fun i=>(rs.getD row []).getD i 0-((os.getD 0 []).map ((D.dual P row)⁻¹*·)).getD i 0) (bq:=bs.getD row 0-(D.dual P row)⁻¹*D.c 0 V) hr hb;have hT:=zS3 (V:=V) (os:=os) (bs:=bs) (ol:=[(os.getD 0 []).map ((D.dual P row)⁻¹*·)]) (cl:=(List.range (max (rs.getD row []).length (os.getD 0 []).length)).map fun i=>(rs.getD row []).getD i 0-((os.getD 0 []).map ((D.dual P row)⁻¹*·)).getD i 0) (bq:=bs.getD row 0-(D.dual P row)⁻¹*D.c 0 V) hr hb;rw [hP] at hR hT
   have hR2:=hR.as (a':=fun k=>P.A row k-(D.dual P row)⁻¹*P.O 0 k) (o':=fun k=>- ((D.dual P row)⁻¹*P.O 0 k)) (b':=P.b row-(D.dual P row)⁻¹*D.c 0 V) (fun k _=>hcl k) (by rw [hPb]) (fun k _=>by
    show (((os.getD 0 []).map ((D.dual P row)⁻¹*·)).map ((-1:Rat)*·)).getD k 0=_;rw [zSs,zRw,hPO])
   have hT2:=hT.as (a':=fun k=>P.A row k-(D.dual P row)⁻¹*P.O 0 k) (o':=fun k=>(D.dual P row)⁻¹*P.O 0 k) (b':=P.b row-(D.dual P row)⁻¹*D.c 0 V) (fun k _=>hcl k) (by rw [hPb]) (fun k _=>by
    show ((os.getD 0 []).map ((D.dual P row)⁻¹*·)).getD k 0=_;rw [zRw,hPO])
   obtain ⟨x,hx,hx2⟩:=zS7 hrm hpos hR2 hT2 hv hact hL hU hl hu;exact ⟨x,hx,by rw [e0]; exact hx2⟩
 obtain ⟨x,hx,hx2⟩:=key;have:=m1.le hx;have h3:(sum P.n fun k=>P.O 0 k*x k)<=r1:=this;grind
theorem zTj {s t r1 r2 r3:Rat} (hb:row<bs.length) (h1:OptAt V os rs bs row s r1) (h2:OptAt V os rs bs row t r2) (h3:OptAt V os rs bs row ((s+t)*(1 / 2)) r3):r1+r2<=r3+r3:=
 zS0 (zSQ hb h1) (zSQ hb h2) (zSQ hb h3) fun j _=>by unfold bump; split <;> grind
theorem zS5 {s t r1 r2:Rat} (hb:row<bs.length) (h1:OptAt V os rs bs row s r1) (h2:OptAt V os rs bs row t r2) (h:s<=t):r1<=r2:=
 zTb (zSQ hb h1) (zSQ hb h2) fun j _=>by unfold bump; split <;> grind
theorem zTi {s:Rat} {D':Dict} (_hb:row<bs.length) (hI:PInv (prob1 V os rs bs) none D) (hE:Ends (prob1 V os rs bs) none D 1) (hI':PInv (prob1 V os rs (bset bs row s)) none D') (hE':Ends (prob1 V os rs (bset bs row s)) none D' k):k ≠ 3:=by
 rintro rfl;have hd:=(ends1 hI hE Nat.one_pos).1;exact ends3 hI' hE' Nat.one_pos _ (show (prob1 V os rs (bset bs row s)).Dual _ from hd)
theorem zS2 (fo:∀ j,Fits K ((os.getD 0 []).getD j 0)) (fr:∀ i j,Fits K ((rs.getD i []).getD j 0)) (fb:∀ i,Fits K (bs.getD i 0)) (hV:V<=4) (hK:1<=K) (D:Dict) (hD:PInv (prob1 V os rs bs) none D):Fits (625*K) (D.c 0 V):=by
 have fc:∀ l j,Fits K ((prob1 V os rs bs).start.c l j):=fun l j=>by
  show Fits _ (if j<V then-(os.getD 0 []).getD j 0 else 0)
  split
  ·exact (fo j).neg
  ·exact Fits.zero _
 have h:=hD.fits (P:=prob1 V os rs bs) (E:=V) (k:=K) (by simp [given,prob1]) Nat.one_pos hK ⟨fun i j _ _=>by
  show Fits _ (if j<V then (rs.getD i []).getD j 0 else bs.getD i 0)
  split
  ·exact fr i j
  ·exact fb i,fun l j _ _=>fc l j⟩ (fun c hc=>by cases hc)
 exact (h.c V (nlr _)).mono (zJZ hV)
theorem Lim.fits {f:Rat->Rat} {o:Option Rat} (h:Lim Q f o) (hc:∀ D,PInv Q Option.none D->Fits K (D.c 0 Q.n)) (hf:∀ r,Fits K r->QFit L (f r)):∀ q,o=some q->QFit L q:=fun q e=>by
 rcases h with ⟨D,hI,-,rfl⟩ | ⟨rfl,-⟩
 ·cases e; exact hf _ (hc D hI)
 ·cases e
theorem zSY (fr:∀ i j,Fits K ((rs.getD i []).getD j 0)) (fc:∀ j,Fits K (cl.getD j 0)) (i j:Nat):Fits K ((((rs.map fun r=>resize r (colsOf rs)).set row cl).getD i []).getD j 0):=by
 by_cases h:row<rs.length
 ·rw [zSS _ _ _ _ _ (by rw [List.length_map]; exact h)]
  split
  ·exact fc j
  ·rw [zS4]; exact fr i j
 ·rw [List.set_eq_of_length_le (by rw [List.length_map]; omega),zS4]; exact fr i j
theorem zSV {b:Rat} (fb:∀ i,Fits K (bs.getD i 0)) (f:Fits K b) (i:Nat):Fits K ((bs.set row b).getD i 0):=by
 by_cases h:row<bs.length
 ·rw [zSS _ _ _ _ _ h]
  split
  ·exact f
  ·exact fb i
 ·rw [List.set_eq_of_length_le (by omega)]; exact fb i
section
variable {V row:Nat} {os rs:List (List Rat)} {bs:List Rat} {v d:Rat} {o:Option Rat}
theorem zTh (hV:V<=4) (fo:∀ j,Fits 224 ((os.getD 0 []).getD j 0)) (fr:∀ i j,Fits 224 ((rs.getD i []).getD j 0)) (fb:∀ i,Fits 224 (bs.getD i 0)) (fv:Fits 140000 v) (fd:Fits 140000 d) (h:RangeLo V os rs bs row v d o):∀ q,o=some q->QFit 6000000 q:=by
 by_cases hd:d=0
 ·have h:=h.1 hd;unfold FreeLim at h;refine Lim.fits (K:=625*140000) h (fun D hD=>zS2 (K:=140000) (fun j=>?_) (fun i j=>zSY (fun i j=>(fr i j).mono (by omega)) (fun j=>by rw [zSs]; exact ((fo j).neg).mono (by omega)) i j) (fun i=>zSV (fun i=>(fb i).mono (by omega)) fv.neg i) hV (by omega) D hD) fun r hr=>zBn ((hr.add (fb row)).neg) (by omega)
  show Fits _ (((rs.getD row []).map ((-1:Rat)*·)).getD j 0);rw [zSs]; exact ((fr row j).neg).mono (by omega)
 ·have h:=h.2 hd;unfold TgLo at h;have fg:∀ j,Fits 140224 (((os.getD 0 []).map (d⁻¹*·)).getD j 0):=fun j=>by rw [zRw]; exact ((fd.inv).mul (fo j)).mono (by omega)
  refine Lim.fits (K:=625*281000) h (fun D hD=>zS2 (K:=281000) (fun j=>?_) (fun i j=>zSY (fun i j=>(fr i j).mono (by omega)) (fun j=>?_) i j) (fun i=>zSV (fun i=>(fb i).mono (by omega)) (((fb row).sub (fd.inv.mul fv)).mono (by omega)) i) hV (by omega) D hD) fun r hr=>zBn ((hr.add (fd.inv.mul fv)).neg) (by omega)
  ·show Fits _ ((((os.getD 0 []).map (d⁻¹*·)).map ((-1:Rat)*·)).getD j 0);rw [zSs]; exact ((fg j).neg).mono (by omega)
  ·rw [zRg]
   split
   ·exact ((fr row j).sub (fg j)).mono (by omega)
   ·exact Fits.zero _
theorem zTl (hV:V<=4) (fo:∀ j,Fits 224 ((os.getD 0 []).getD j 0)) (fr:∀ i j,Fits 224 ((rs.getD i []).getD j 0)) (fb:∀ i,Fits 224 (bs.getD i 0)) (fv:Fits 140000 v) (fd:Fits 140000 d) (h:RangeUp V os rs bs row v d o):∀ q,o=some q->QFit 6000000 q:=by
 by_cases hd:d=0
 ·intro q e;rw [h.1 hd] at e; cases e
 ·have h:=h.2 hd;unfold TgUp at h;have fg:∀ j,Fits 140224 (((os.getD 0 []).map (d⁻¹*·)).getD j 0):=fun j=>by rw [zRw]; exact ((fd.inv).mul (fo j)).mono (by omega)
  refine Lim.fits (K:=625*281000) h (fun D hD=>zS2 (K:=281000) (fun j=>?_) (fun i j=>zSY (fun i j=>(fr i j).mono (by omega)) (fun j=>?_) i j) (fun i=>zSV (fun i=>(fb i).mono (by omega)) (((fb row).sub (fd.inv.mul fv)).mono (by omega)) i) hV (by omega) D hD) fun r hr=>zBn (hr.sub (fd.inv.mul fv)) (by omega)
  ·show Fits _ (((os.getD 0 []).map (d⁻¹*·)).getD j 0);exact (fg j).mono (by omega)
  ·rw [zRg]
   split
   ·exact ((fr row j).sub (fg j)).mono (by omega)
   ·exact Fits.zero _
end
open Go.RowKit Go.Shelf
theorem zSR {P:Lin.Prob} {D D':Lin.Dict} {k':Nat} (hK:0<P.K) (hI:PInv P none D) (hE:Ends P none D k) (hI':PInv P none D') (hE':Ends P none D' k'):k=k':=by
 have feas3:∀ {D:Lin.Dict},PInv P none D->Ends P none D 3->∃ x,P.Feasible x:=fun {D} hI hE=>by
  have G:=hI.1;rcases hE with ⟨h,_⟩ | ⟨h,_⟩ | ⟨_,hF,s,hs,hc,hn⟩
  ·omega
  ·omega
  ·exact ⟨_,(Lin.zLG G (hF.feas G) hs ⟨0,by omega,by show D.cost P 0 s<0; unfold Lin.Dict.cost; rw [if_pos (by omega)]; exact hc,fun j hj=>absurd hj (Nat.not_lt_zero j)⟩ hn).1⟩
 rcases hE.cases with rfl | rfl | rfl
 ·exact (zSb hK hI hE hI' hE').symm
 ·rcases hE'.cases with rfl | rfl | rfl
  ·exact zSb hK hI' hE' hI hE
  ·rfl
  ·obtain ⟨x,hx⟩:=feas3 hI' hE';exact absurd hx (ends2 hI hE x)
 ·rcases hE'.cases with rfl | rfl | rfl
  ·exact zSb hK hI' hE' hI hE
  ·obtain ⟨x,hx⟩:=feas3 hI hE;exact absurd hx (ends2 hI' hE' x)
  ·rfl
abbrev QC (w:World) (p:Addr) (v:QV):Prop:=
 w.cell? p=some (.bool v.num.ng)/\w.cell? ⟨p.block,p.off+1,none⟩=some (.slice v.num.A v.num.n v.num.c)/\w.cell? ⟨p.block,p.off+2,none⟩=some (.bool v.den.ng)/\w.cell? ⟨p.block,p.off+3,none⟩=some (.slice v.den.A v.den.n v.den.c)
theorem QC.below {a:Addr} {v:QV} (h:QC w a v) (hb:Below w w w'):QC w' a v:=by
 obtain ⟨a0,a1,a2,a3⟩:=h;exact ⟨cellK hb a0,cellK hb a1,cellK hb a2,cellK hb a3⟩
abbrev SLa (wb wo:Nat) (ay:Addr) (ns nt nl nu:Nat) (u0 u1 u2 u3 yv mv nv v1 v2:QV) (b1 b2:Bool) (_:Bool) (w:World):Prop:=
 (w.cell? ⟨wb,wo,none⟩=some (.bool u0.num.ng)/\w.cell? ⟨wb,wo+1,none⟩=some (.slice u0.num.A u0.num.n u0.num.c)/\w.cell? ⟨wb,wo+2,none⟩=some (.bool u0.den.ng)/\w.cell? ⟨wb,wo+3,none⟩=some (.slice u0.den.A u0.den.n u0.den.c))/\(w.cell? ⟨wb,wo+4,none⟩=some (.bool u1.num.ng)/\w.cell? ⟨wb,wo+5,none⟩=some (.slice u1.num.A u1.num.n u1.num.c)/\w.cell? ⟨wb,wo+6,none⟩=some (.bool u1.den.ng)/\w.cell? ⟨wb,wo+7,none⟩=some (.slice u1.den.A u1.den.n u1.den.c))/\(w.cell? ⟨wb,wo+8,none⟩=some (.bool u2.num.ng)/\w.cell? ⟨wb,wo+9,none⟩=some (.slice u2.num.A u2.num.n u2.num.c)/\w.cell? ⟨wb,wo+10,none⟩=some (.bool u2.den.ng)/\w.cell? ⟨wb,wo+11,none⟩=some (.slice u2.den.A u2.den.n u2.den.c))/\(w.cell? ⟨wb,wo+12,none⟩=some (.bool u3.num.ng)/\w.cell? ⟨wb,wo+13,none⟩=some (.slice u3.num.A u3.num.n u3.num.c)/\w.cell? ⟨wb,wo+14,none⟩=some (.bool u3.den.ng)/\w.cell? ⟨wb,wo+15,none⟩=some (.slice u3.den.A u3.den.n u3.den.c))/\QC w ay yv/\BoxQ w ns mv/\BoxQ w nt nv/\Box5 w nl (.bool b1) (.bool v1.num.ng) (.slice v1.num.A v1.num.n v1.num.c) (.bool v1.den.ng) (.slice v1.den.A v1.den.n v1.den.c)/\Box5 w nu (.bool b2) (.bool v2.num.ng) (.slice v2.num.A v2.num.n v2.num.c) (.bool v2.den.ng) (.slice v2.den.A v2.den.n v2.den.c)
theorem zSP {wb wo:Nat} {ay:Addr} {ns nt nl nu:Nat} {u0 u1 u2 u3 yv mv nv v1 v2:QV} {b1 b2 f:Bool} (h:SLa wb wo ay ns nt nl nu u0 u1 u2 u3 yv mv nv v1 v2 b1 b2 f w) (hb:Below w w w'):SLa wb wo ay ns nt nl nu u0 u1 u2 u3 yv mv nv v1 v2 b1 b2 f' w':=
 ⟨⟨cellK hb h.1.1,cellK hb h.1.2.1,cellK hb h.1.2.2.1,cellK hb h.1.2.2.2⟩,⟨cellK hb h.2.1.1,cellK hb h.2.1.2.1,cellK hb h.2.1.2.2.1,cellK hb h.2.1.2.2.2⟩,⟨cellK hb h.2.2.1.1,cellK hb h.2.2.1.2.1,cellK hb h.2.2.1.2.2.1,cellK hb h.2.2.1.2.2.2⟩,⟨cellK hb h.2.2.2.1.1,cellK hb h.2.2.2.1.2.1,cellK hb h.2.2.2.1.2.2.1,cellK hb h.2.2.2.1.2.2.2⟩,QC.below h.2.2.2.2.1 hb,h.2.2.2.2.2.1.below hb (zAb h.2.2.2.2.2.1.1),h.2.2.2.2.2.2.1.below hb (zAb h.2.2.2.2.2.2.1.1),h.2.2.2.2.2.2.2.1.below hb (zAb h.2.2.2.2.2.2.2.1.1),h.2.2.2.2.2.2.2.2.below hb (zAb h.2.2.2.2.2.2.2.2.1)⟩
theorem zTc {p s t:Rat} (h1:s<=t->p<=q) (h2:t<=s->q<=p):0<=qcmp p q*qcmp s t/\qcmp p q*qcmp s t<=1:=by
 unfold qcmp
 split <;> (split <;> (try split) <;> (try split)) <;> first | omega | (exfalso; grind)
theorem zTk {p:Rat} (h:q<=p):0<=qcmp p q:=by
 unfold qcmp
 split
 ·exfalso; grind
 ·split <;> omega
theorem zTd {qs:List QV} {l:List Rat} (hl:qs.length=l.length) (hn:l.length<=1000) (he:∀ k,k<l.length->QIs w X L (qs.getD k QV.zero) (l.getD k 0)) :
  VecIs (w.alloc (.cells (qs.flatMap cells4q).toArray 30)) (fun _=>True) X L ⟨some ⟨w,0,none⟩,l.length,l.length⟩ l:=by
 have hb:Below w w (w.alloc (.cells (qs.flatMap cells4q).toArray 30)):=bal;have hh:(w.alloc (.cells (qs.flatMap cells4q).toArray 30)).heap[w.heap.size]?=some (.cells (qs.flatMap cells4q).toArray 30 (0,0)):=zAd _ _ rfl;refine ⟨rfl,nlr _,by show l.length<=_; omega,fun k hk=>⟨⟨w,0,none⟩,qs.getD k QV.zero,rfl,trivial,?_,(he k hk).below hb⟩⟩;have hk':k<l.length:=hk
 have ec:∀ o,o<4->(w.alloc (.cells (qs.flatMap cells4q).toArray 30)).cell? ⟨w.heap.size,k*4+o,none⟩=(cells4q (qs.getD k QV.zero))[o]?:=fun o ho=>by
  simp only [World.cell?,hh];rw [<-zCy qs k o (by omega) ho QV.zero];simp
 rw [zA4,Nat.zero_add];exact ⟨ec 0 (by omega),ec 1 (by omega),ec 2 (by omega),ec 3 (by omega)⟩
theorem zTe {P:Nat->Prop} (h0:P 0) (h1:P 1) (h2:P 2) (h3:P 3):∀ k,k<4->P k:=fun k hk=>by
 rcases (show k=0\/k=1\/k=2\/k=3 by omega) with rfl | rfl | rfl | rfl <;> assumption
theorem zTg {u v:QV} {x y:Rat} (h:w.heap[b]?=some (.cells #[.bool u.num.ng,.slice u.num.A u.num.n u.num.c,.bool u.den.ng,.slice u.den.A u.den.n u.den.c,.bool v.num.ng,.slice v.num.A v.num.n v.num.c,.bool v.den.ng,.slice v.den.A v.den.n v.den.c] 30 (0,0))) (hx:QAny w AllB u x) (hy:QAny w AllB v y):VecAt w AllB (QAny w AllB) ⟨some ⟨b,0,none⟩,2,2⟩ [x,y]:=
 ⟨rfl,nlr _,by show 2<=_; omega,fun k hk=>by
  rcases (show k=0\/k=1 by have:k<2:=hk; omega) with rfl | rfl
  ·exact ⟨⟨b,0,none⟩,u,rfl,trivial,by simp [QCell,Addr.add,World.cell?,h],hx⟩
  ·exact ⟨⟨b,0,none⟩,v,rfl,trivial,by simp [QCell,Addr.add,World.cell?,h],hy⟩⟩
theorem zTf {u v:QV} {x y:Rat} (hx:QAny w AllB u x) (hy:QAny w AllB v y) (h:W.heap[b]?=some (.cells #[.bool u.num.ng,.slice u.num.A u.num.n u.num.c,.bool u.den.ng,.slice u.den.A u.den.n u.den.c,.bool v.num.ng,.slice v.num.A v.num.n v.num.c,.bool v.den.ng,.slice v.den.A v.den.n v.den.c] 30 (0,0))) (hv:VecIs W AllB AllB 6 ⟨some ⟨b,0,none⟩,2,2⟩ [x,y]):QIs w AllB 6 u x/\QIs w AllB 6 v y:=by
 obtain ⟨ad,u',e,-,hc,hq⟩:=hv.elem 0 (by show 0<2; omega);obtain ⟨ad2,v',e',-,hc',hq'⟩:=hv.elem 1 (by show 1<2; omega);cases e;cases e';have e1:QCell W (Addr.add ⟨b,0,none⟩ (0*4)) u:=by simp [QCell,Addr.add,World.cell?,h]
 have e2:QCell W (Addr.add ⟨b,0,none⟩ (1*4)) v:=by simp [QCell,Addr.add,World.cell?,h]
 obtain rfl:=zDc hc e1;obtain rfl:=zDc hc' e2;exact ⟨hx.qis hq.sizes.1 hq.sizes.2,hy.qis hq'.sizes.1 hq'.sizes.2⟩
theorem zSW {mv nv:QV} {s t:Rat} {n1:Nat} (h:LPRaw w AllB (QAny w AllB) p os rs bs) (hm:QAny w AllB mv s) (hn:QAny w AllB nv t) (hn1:n1<256) :
  Calls Tryz.prog 3 #[p.val,.int .u8 n1,mv.val,nv.val] w fun e w'=>e = .returned (.bool true)/\Below w w w':=by
 obtain ⟨z,⟨oA,on,oc⟩,⟨rA,rn,rc⟩,⟨bA,bn,bc⟩⟩:=p;replace h:=hdq h;replace hm:=hdq hm;replace hn:=hdq hn;dsimp only [LPV.val,SV.val] at *;have hrc:rn<=9223372036854775807:=nlt h.out.rows.le h.out.rows.cap;go_enter Tryz.func3,Tryz.ntmps3
 go_upto_region 1 with fail
 refine zAo (fun W=>Below w w W/\Box4 W w (.int .i64 z) (.slice oA on oc) (.slice rA rn rc) (.slice bA bn bc)/\Box4 W (w+1) (.bool mv.num.ng) (.slice mv.num.A mv.num.n mv.num.c) (.bool mv.den.ng) (.slice mv.den.A mv.den.n mv.den.c)/\Box4 W (w+1+1) (.bool nv.num.ng) (.slice nv.num.A nv.num.n nv.num.c) (.bool nv.den.ng) (.slice nv.den.A nv.den.n nv.den.c)/\w.heap.size<W.heap.size/\w.heap.size+1<W.heap.size/\w.heap.size+1+1<W.heap.size) ⟨(az (az (az (brf _ _)))),bx4,bx4,bx4,by simp <;> omega,by simp <;> omega,by simp <;> omega⟩ ?_;rintro W ⟨hbW,bP,bM,bN,s0,s1,s2⟩;have hBW:=hbW.size;have ne02:¬ (w.heap.size=w.heap.size+1+1):=by omega
 obtain ⟨p0,p1,p2,p3,-⟩:=id bP;obtain ⟨m0,m1,m2,m3,-⟩:=id bM;obtain ⟨n0,n1',n2,n3,-⟩:=id bN;clear hBW ne02;go_wp2_with fail
 refine (zFQ (p:=⟨z,⟨oA,on,oc⟩,⟨rA,rn,rc⟩,⟨bA,bn,bc⟩⟩) (h.out.below hbW)).mono ?_;rintro e w1 ⟨⟨b,rfl,hbb⟩,hb1⟩
 cases b with
 | true=>
  clear hbb;replace bP:=bP.below hb1 s0;replace bM:=bM.below hb1 s1;replace bN:=bN.below hb1 s2;replace s0:=ltl s0 hb1.size;replace s1:=ltl s1 hb1.size;replace s2:=ltl s2 hb1.size;replace hbW:=hbW.trans (hb1.mono hbW.size);clear p0 p1 p2 p3 m0 m1 m2 m3 n0 n1' n2 n3;obtain ⟨p0,p1,p2,p3,-⟩:=id bP;obtain ⟨m0,m1,m2,m3,-⟩:=id bM;obtain ⟨n0,n1',n2,n3,-⟩:=id bN;go_wp2_with fail
  refine zRq.mono ?_;rintro e wl ⟨rfl,hbl⟩;have hbf:=hbW.trans (hbl.mono hbW.size);go_wp2;go_ret
  exact ⟨rfl,hbf⟩
 | false=>
  have HS:=hdq (And.intro (Short6.back h.out hbW (hbb rfl).1) (hbb rfl).2);clear hbb;replace bP:=bP.below hb1 s0;replace bM:=bM.below hb1 s1;replace bN:=bN.below hb1 s2;replace s0:=ltl s0 hb1.size;replace s1:=ltl s1 hb1.size;replace s2:=ltl s2 hb1.size;replace hbW:=hbW.trans (hb1.mono hbW.size);clear p0 p1 p2 p3 m0 m1 m2 m3 n0 n1' n2 n3;obtain ⟨p0,p1,p2,p3,-⟩:=id bP;obtain ⟨m0,m1,m2,m3,-⟩:=id bM;obtain ⟨n0,n1',n2,n3,-⟩:=id bN;go_wp2_with fail
  have al5:(w1.alloc (.cells #[.bool mv.num.ng,.slice mv.num.A mv.num.n mv.num.c,.bool mv.den.ng,.slice mv.den.A mv.den.n mv.den.c,.bool nv.num.ng,.slice nv.num.A nv.num.n nv.num.c,.bool nv.den.ng,.slice nv.den.A nv.den.n nv.den.c] 30)).heap[w1.heap.size]?=some (.cells #[.bool mv.num.ng,.slice mv.num.A mv.num.n mv.num.c,.bool mv.den.ng,.slice mv.den.A mv.den.n mv.den.c,.bool nv.num.ng,.slice nv.num.A nv.num.n nv.num.c,.bool nv.den.ng,.slice nv.den.A nv.den.n nv.den.c] 30 (0,0)):=zAd _ _ rfl;have hb5:Below w1 w1 (w1.alloc (.cells #[.bool mv.num.ng,.slice mv.num.A mv.num.n mv.num.c,.bool mv.den.ng,.slice mv.den.A mv.den.n mv.den.c,.bool nv.num.ng,.slice nv.num.A nv.num.n nv.num.c,.bool nv.den.ng,.slice nv.den.A nv.den.n nv.den.c] 30)):=bal;replace bP:=bP.below hb5 s0;replace bM:=bM.below hb5 s1;replace bN:=bN.below hb5 s2;replace s0:=ltl s0 hb5.size;replace s1:=ltl s1 hb5.size;replace s2:=ltl s2 hb5.size;replace hbW:=hbW.trans (hb5.mono hbW.size);clear p0 p1 p2 p3 m0 m1 m2 m3 n0 n1' n2 n3;obtain ⟨p0,p1,p2,p3,-⟩:=id bP;obtain ⟨m0,m1,m2,m3,-⟩:=id bM;obtain ⟨n0,n1',n2,n3,-⟩:=id bN;refine (zDG (zTg al5 (hm.out.below hbW) (hn.out.below hbW))).mono ?_;rintro e w6 ⟨⟨b,rfl,hbb⟩,hb6⟩
  cases b with
  | true=>
   clear hbb;replace bP:=bP.below hb6 s0;replace bM:=bM.below hb6 s1;replace bN:=bN.below hb6 s2;replace s0:=ltl s0 hb6.size;replace s1:=ltl s1 hb6.size;replace s2:=ltl s2 hb6.size;replace hbW:=hbW.trans (hb6.mono hbW.size);clear p0 p1 p2 p3 m0 m1 m2 m3 n0 n1' n2 n3;obtain ⟨p0,p1,p2,p3,-⟩:=id bP;obtain ⟨m0,m1,m2,m3,-⟩:=id bM;obtain ⟨n0,n1',n2,n3,-⟩:=id bN;(go_wp2_with fail);refine zRq.mono ?_;rintro e wl ⟨rfl,hbl⟩;have hbf:=hbW.trans (hbl.mono hbW.size);go_wp2;go_ret
   exact ⟨rfl,hbf⟩
  | false=>
   have HST:=hdq (zTf hm.out hn.out al5 (hbb rfl));clear hbb al5;replace bP:=bP.below hb6 s0;replace bM:=bM.below hb6 s1;replace bN:=bN.below hb6 s2;replace s0:=ltl s0 hb6.size;replace s1:=ltl s1 hb6.size;replace s2:=ltl s2 hb6.size;replace hbW:=hbW.trans (hb6.mono hbW.size);clear p0 p1 p2 p3 m0 m1 m2 m3 n0 n1' n2 n3;obtain ⟨p0,p1,p2,p3,-⟩:=id bP;obtain ⟨m0,m1,m2,m3,-⟩:=id bM;obtain ⟨n0,n1',n2,n3,-⟩:=id bN;clear hb1 hb5 hb6;(go_wp2_with fail);refine (zC2 (p:=⟨z,⟨oA,on,oc⟩,⟨rA,rn,rc⟩,⟨bA,bn,bc⟩⟩) (h.out.below hbW)).mono ?_;rintro e w7 ⟨rfl,hb7⟩;obtain ⟨m,hmm⟩:∃ m,mayB ⟨z,⟨oA,on,oc⟩,⟨rA,rn,rc⟩,⟨bA,bn,bc⟩⟩ os rs=m:=⟨_,rfl⟩;rw [hmm]
   cases m with
   | false=>
    replace bP:=bP.below hb7 s0;replace bM:=bM.below hb7 s1;replace bN:=bN.below hb7 s2;replace s0:=ltl s0 hb7.size;replace s1:=ltl s1 hb7.size;replace s2:=ltl s2 hb7.size;replace hbW:=hbW.trans (hb7.mono hbW.size);clear p0 p1 p2 p3 m0 m1 m2 m3 n0 n1' n2 n3;obtain ⟨p0,p1,p2,p3,-⟩:=id bP;obtain ⟨m0,m1,m2,m3,-⟩:=id bM;obtain ⟨n0,n1',n2,n3,-⟩:=id bN;clear hb7;(go_wp2_with fail);refine zRq.mono ?_;rintro e wl ⟨rfl,hbl⟩;have hbf:=hbW.trans (hbl.mono hbW.size);go_wp2;go_ret
    exact ⟨rfl,hbf⟩
   | true=>
    by_cases hr0:rn=0
    ·subst hr0;replace bP:=bP.below hb7 s0;replace bM:=bM.below hb7 s1;replace bN:=bN.below hb7 s2;replace s0:=ltl s0 hb7.size;replace s1:=ltl s1 hb7.size;replace s2:=ltl s2 hb7.size;replace hbW:=hbW.trans (hb7.mono hbW.size);clear p0 p1 p2 p3 m0 m1 m2 m3 n0 n1' n2 n3;obtain ⟨p0,p1,p2,p3,-⟩:=id bP;obtain ⟨m0,m1,m2,m3,-⟩:=id bM;obtain ⟨n0,n1',n2,n3,-⟩:=id bN;clear hb7;(go_wp2_with fail);refine zRq.mono ?_;rintro e wl ⟨rfl,hbl⟩;have hbf:=hbW.trans (hbl.mono hbW.size);go_wp2;go_ret;exact ⟨rfl,hbf⟩
    ·have hr1:((rn:Int) == 0)=false:=by simp; omega
     have hr2:¬ (rn=0):=hr0;have hr3:(rn == 0)=false:=by simp; omega
     obtain ⟨k,hk⟩:∃ k,n1 % rn=k:=⟨_,rfl⟩;have hkr:k<rn:=by rw [<-hk]; exact Nat.mod_lt _ (by omega)
     have hmod:((n1:Int)).tmod (rn:Int)=(k:Int):=(by rw [zDj,hk]);have hmod':((n1:Int)) % (rn:Int)=(k:Int):=by rw [<-hk]; rfl
     have HK:=hdq hk;clear hk;have HF:=hdq (zHY HS.out.1 HS.out.2 hmm);obtain ⟨V,rfl⟩:∃ V:Nat,z=V:=⟨z.toNat,by have:=HF.out.1; show z=(z.toNat:Int); simp only at this; omega⟩;have hon:on<=4:=HF.out.2.2.2.1;have hrn:rn<=4:=HF.out.2.2.2.2.1;obtain rfl:rn=bn:=HF.out.2.2.2.2.2.1.symm;have ho1:1<=on:=HF.out.2.2.1;have HC1:Hid (colsOf os<=V):=by have:=HF.out.2.2.2.2.2.2.1; dsimp only at this; show colsOf os<=V; omega
     have HC2:Hid (colsOf rs<=V):=by have:=HF.out.2.2.2.2.2.2.2.1; dsimp only at this; show colsOf rs<=V; omega
     have hV4:V<=4:=by have:=HF.out.2.1; dsimp only at this; omega
     have HP:=hdq (HF.out.2.2.2.2.2.2.2.2);have HRl:Hid (rs.length=rn):=HP.out.rows.len;have HBl:Hid (bs.length=rn):=HP.out.bounds.len;clear HS hmm HF;replace bP:=bP.below hb7 s0;replace bM:=bM.below hb7 s1;replace bN:=bN.below hb7 s2;replace s0:=ltl s0 hb7.size;replace s1:=ltl s1 hb7.size;replace s2:=ltl s2 hb7.size;replace hbW:=hbW.trans (hb7.mono hbW.size);clear p0 p1 p2 p3 m0 m1 m2 m3 n0 n1' n2 n3;obtain ⟨p0,p1,p2,p3,-⟩:=id bP;obtain ⟨m0,m1,m2,m3,-⟩:=id bM;obtain ⟨n0,n1',n2,n3,-⟩:=id bN;clear hb7;(go_wp2_with fail);refine (zDb (p:=⟨V,⟨oA,on,oc⟩,⟨rA,rn,rc⟩,⟨bA,rn,bc⟩⟩) (V:=V) (HP.out.below hbW) rfl (by omega) ho1 hon (by show rn<=_; omega) rfl HC1.out HC2.out (by omega)).mono ?_;rintro e w8 ⟨hpr,hb8⟩;(rcases hpr with ⟨D0,y,hI0,hE0,rfl,hy⟩ | ⟨D0,hI0,hE0,rfl⟩ | ⟨D0,hI0,hE0,rfl⟩);rotate_left
     ·have HE0:=hdq (And.intro hI0 hE0);clear hI0 hE0;replace bP:=bP.below hb8 s0;replace bM:=bM.below hb8 s1;replace bN:=bN.below hb8 s2;replace s0:=ltl s0 hb8.size;replace s1:=ltl s1 hb8.size;replace s2:=ltl s2 hb8.size;replace hbW:=hbW.trans (hb8.mono hbW.size);clear p0 p1 p2 p3 m0 m1 m2 m3 n0 n1' n2 n3;obtain ⟨p0,p1,p2,p3,-⟩:=id bP;obtain ⟨m0,m1,m2,m3,-⟩:=id bM;obtain ⟨n0,n1',n2,n3,-⟩:=id bN;clear hb8;(go_wp2_with fail);refine (zQ5 (row:=k) (p:=⟨V,⟨oA,on,oc⟩,⟨rA,rn,rc⟩,⟨bA,rn,bc⟩⟩) (V:=V) (HP.out.below hbW) rfl hV4 ho1 hon (by show rn<=_; omega) rfl HC1.out HC2.out hkr (by omega)).mono ?_;rintro e w9 ⟨hc,hb9⟩;rcases hc with ⟨D1,b1,b2,v1,v2,o1,o2,hI1,hE1,rfl,-⟩ | ⟨D1,j,c,hI1,hE1,hj,rfl⟩
      ·have:=zSR Nat.one_pos HE0.out.1 HE0.out.2 hI1 hE1; omega
      ·obtain rfl:c=8:=by have:=zSR Nat.one_pos HE0.out.1 HE0.out.2 hI1 hE1; omega
       clear hI1 hE1 hj;replace bP:=bP.below hb9 s0;replace bM:=bM.below hb9 s1;replace bN:=bN.below hb9 s2;replace s0:=ltl s0 hb9.size;replace s1:=ltl s1 hb9.size;replace s2:=ltl s2 hb9.size;replace hbW:=hbW.trans (hb9.mono hbW.size);clear p0 p1 p2 p3 m0 m1 m2 m3 n0 n1' n2 n3;obtain ⟨p0,p1,p2,p3,-⟩:=id bP;obtain ⟨m0,m1,m2,m3,-⟩:=id bM;obtain ⟨n0,n1',n2,n3,-⟩:=id bN;clear hb9;dsimp only [limV,q0V];(go_wp2_with fail);refine zRq.mono ?_;rintro e wl ⟨rfl,hbl⟩;have hbf:=hbW.trans ((Below.trans ((bal).alloc (by simp) _) (hbl.mono (by simp <;> omega))).mono hbW.size);go_wp2;go_ret;exact ⟨rfl,hbf⟩
     ·have HE0:=hdq (And.intro hI0 hE0);clear hI0 hE0;replace bP:=bP.below hb8 s0;replace bM:=bM.below hb8 s1;replace bN:=bN.below hb8 s2;replace s0:=ltl s0 hb8.size;replace s1:=ltl s1 hb8.size;replace s2:=ltl s2 hb8.size;replace hbW:=hbW.trans (hb8.mono hbW.size);clear p0 p1 p2 p3 m0 m1 m2 m3 n0 n1' n2 n3;obtain ⟨p0,p1,p2,p3,-⟩:=id bP;obtain ⟨m0,m1,m2,m3,-⟩:=id bM;obtain ⟨n0,n1',n2,n3,-⟩:=id bN;clear hb8;(go_wp2_with fail);refine (zQ5 (row:=k) (p:=⟨V,⟨oA,on,oc⟩,⟨rA,rn,rc⟩,⟨bA,rn,bc⟩⟩) (V:=V) (HP.out.below hbW) rfl hV4 ho1 hon (by show rn<=_; omega) rfl HC1.out HC2.out hkr (by omega)).mono ?_;rintro e w9 ⟨hc,hb9⟩;rcases hc with ⟨D1,b1,b2,v1,v2,o1,o2,hI1,hE1,rfl,-⟩ | ⟨D1,j,c,hI1,hE1,hj,rfl⟩
      ·have:=zSR Nat.one_pos HE0.out.1 HE0.out.2 hI1 hE1; omega
      ·obtain rfl:c=9:=by have:=zSR Nat.one_pos HE0.out.1 HE0.out.2 hI1 hE1; omega
       clear hI1 hE1 hj;replace bP:=bP.below hb9 s0;replace bM:=bM.below hb9 s1;replace bN:=bN.below hb9 s2;replace s0:=ltl s0 hb9.size;replace s1:=ltl s1 hb9.size;replace s2:=ltl s2 hb9.size;replace hbW:=hbW.trans (hb9.mono hbW.size);clear p0 p1 p2 p3 m0 m1 m2 m3 n0 n1' n2 n3;obtain ⟨p0,p1,p2,p3,-⟩:=id bP;obtain ⟨m0,m1,m2,m3,-⟩:=id bM;obtain ⟨n0,n1',n2,n3,-⟩:=id bN;clear hb9;dsimp only [limV,q0V];(go_wp2_with fail);refine zRq.mono ?_;rintro e wl ⟨rfl,hbl⟩;have hbf:=hbW.trans ((Below.trans ((bal).alloc (by simp) _) (hbl.mono (by simp <;> omega))).mono hbW.size);go_wp2;go_ret;exact ⟨rfl,hbf⟩
     have HE0:=hdq (And.intro hI0 hE0);obtain ⟨yA,yn,yc⟩:=y;obtain rfl:rn=yn:=by have:=hy.len; simpa [prob1,HRl.out] using this
     have HY:=hdq hy;have HYF:=hdq (zEc (HP.out) hV4 (E:=V) (by simp [Lin.given]) (nlr _) (fun c hc=>by cases hc) hI0).1;clear hI0 hE0 hy;replace bP:=bP.below hb8 s0;replace bM:=bM.below hb8 s1;replace bN:=bN.below hb8 s2;replace s0:=ltl s0 hb8.size;replace s1:=ltl s1 hb8.size;replace s2:=ltl s2 hb8.size;replace hbW:=hbW.trans (hb8.mono hbW.size);clear p0 p1 p2 p3 m0 m1 m2 m3 n0 n1' n2 n3;obtain ⟨p0,p1,p2,p3,-⟩:=id bP;obtain ⟨m0,m1,m2,m3,-⟩:=id bM;obtain ⟨n0,n1',n2,n3,-⟩:=id bN;clear hb8;dsimp only [SV.val];(go_wp2_with fail);refine (zQ5 (row:=k) (p:=⟨V,⟨oA,on,oc⟩,⟨rA,rn,rc⟩,⟨bA,rn,bc⟩⟩) (V:=V) (HP.out.below hbW) rfl hV4 ho1 hon (by show rn<=_; omega) rfl HC1.out HC2.out hkr (by omega)).mono ?_;rintro e w9 ⟨hc,hb9⟩;(rcases hc with ⟨D1,b1,b2,v1,v2,o1,o2,hI1,hE1,rfl,hl1,hl2,hr1,hr2⟩ | ⟨D1,j,c,hI1,hE1,hj,rfl⟩);rotate_left
     ·have:=zSR Nat.one_pos HE0.out.1 HE0.out.2 hI1 hE1; omega
     have hsame:=zSc Nat.one_pos hI1 hE1 HE0.out.1 HE0.out.2
     have HR1:Hid (RangeLo V os rs bs k (D0.c 0 V) (D0.dual (prob1 V os rs bs) k) o1):=by
      have e1:D1.c 0 V=D0.c 0 V:=hsame.1;have e2:=hsame.2 k (show k<rs.length by rw [HRl.out]; exact hkr);rw [e1,e2] at hr1; exact hr1
     have HR2:Hid (RangeUp V os rs bs k (D0.c 0 V) (D0.dual (prob1 V os rs bs) k) o2):=by
      have e1:D1.c 0 V=D0.c 0 V:=hsame.1;have e2:=hsame.2 k (show k<rs.length by rw [HRl.out]; exact hkr);rw [e1,e2] at hr2; exact hr2
     have HLa:=hdq hl1;have HLb:=hdq hl2;replace HY:=hdq (HY.out.belowC hb9);clear hI1 hE1 hl1 hl2 hr1 hr2 hsame;replace bP:=bP.below hb9 s0;replace bM:=bM.below hb9 s1;replace bN:=bN.below hb9 s2;replace s0:=ltl s0 hb9.size;replace s1:=ltl s1 hb9.size;replace s2:=ltl s2 hb9.size;replace hbW:=hbW.trans (hb9.mono hbW.size);clear p0 p1 p2 p3 m0 m1 m2 m3 n0 n1' n2 n3;obtain ⟨p0,p1,p2,p3,-⟩:=id bP;obtain ⟨m0,m1,m2,m3,-⟩:=id bM;obtain ⟨n0,n1',n2,n3,-⟩:=id bN;clear hb9;dsimp only [limV];(go_upto_region 6 with fail);have a1:Below w9 w9 (w9.alloc (.cells #[.bool b1,.bool v1.num.ng,.slice v1.num.A v1.num.n v1.num.c,.bool v1.den.ng,.slice v1.den.A v1.den.n v1.den.c] 38)):=bal;have P1:LimBlk (w9.alloc (.cells #[.bool b1,.bool v1.num.ng,.slice v1.num.A v1.num.n v1.num.c,.bool v1.den.ng,.slice v1.den.A v1.den.n v1.den.c] 38)) w9 b1 v1:=zAd _ _ rfl;have sz:(w9.alloc (.cells #[.bool b1,.bool v1.num.ng,.slice v1.num.A v1.num.n v1.num.c,.bool v1.den.ng,.slice v1.den.A v1.den.n v1.den.c] 38)).heap.size=w9.heap.size+1:=(by simp);rw [<-sz];have HSZ:=hdq sz;clear sz;generalize w9.alloc (.cells #[.bool b1,.bool v1.num.ng,.slice v1.num.A v1.num.n v1.num.c,.bool v1.den.ng,.slice v1.den.A v1.den.n v1.den.c] 38)=wx at *;have a2:Below wx wx (wx.alloc (.cells #[.bool b2,.bool v2.num.ng,.slice v2.num.A v2.num.n v2.num.c,.bool v2.den.ng,.slice v2.den.A v2.den.n v2.den.c] 38)):=bal;have P2:LimBlk (wx.alloc (.cells #[.bool b2,.bool v2.num.ng,.slice v2.num.A v2.num.n v2.num.c,.bool v2.den.ng,.slice v2.den.A v2.den.n v2.den.c] 38)) wx b2 v2:=zAd _ _ rfl;replace P1:=heapK P1 a2;have hb:=a1.trans (a2.mono a1.size);replace HY:=hdq (HY.out.belowC hb);replace HLa:=hdq (HLa.out.keep fun p _ hl=>hb.cell hl);replace HLb:=hdq (HLb.out.keep fun p _ hl=>hb.cell hl);replace bP:=bP.below hb s0;replace bM:=bM.below hb s1;replace bN:=bN.below hb s2;replace s0:=ltl s0 hb.size;replace s1:=ltl s1 hb.size;replace s2:=ltl s2 hb.size;replace hbW:=hbW.trans (hb.mono hbW.size);clear p0 p1 p2 p3 m0 m1 m2 m3 n0 n1' n2 n3;obtain ⟨p0,p1,p2,p3,-⟩:=id bP;obtain ⟨m0,m1,m2,m3,-⟩:=id bM;obtain ⟨n0,n1',n2,n3,-⟩:=id bN;clear a1 a2 hb;generalize wx.alloc (.cells #[.bool b2,.bool v2.num.ng,.slice v2.num.A v2.num.n v2.num.c,.bool v2.den.ng,.slice v2.den.A v2.den.n v2.den.c] 38)=W3 at *;generalize w9.heap.size=nl at *;generalize wx.heap.size=nu at *;(go_wp2_with fail);refine (zCD (a:=mv) (b:=nv) (HST.out.1.below hbW) (HST.out.2.below hbW) (by decide) (by decide)).mono ?_;rintro e wa ⟨⟨x1,rfl,hx1⟩,hb⟩;have fs:=HST.out.1.fit;have ft:=HST.out.2.fit;have HF1:=hdq (zBn (L:=15) ((zAR fs).add (zAR ft)) (by omega));have HX1:=hdq (hx1.qis HF1.out);replace HY:=hdq (HY.out.belowC hb);replace HLa:=hdq (HLa.out.keep fun p _ hl=>hb.cell hl);replace HLb:=hdq (HLb.out.keep fun p _ hl=>hb.cell hl);replace P1:=heapK P1 hb;replace P2:=heapK P2 hb;replace bP:=bP.below hb s0;replace bM:=bM.below hb s1;replace bN:=bN.below hb s2;replace s0:=ltl s0 hb.size;replace s1:=ltl s1 hb.size;replace s2:=ltl s2 hb.size;replace hbW:=hbW.trans (hb.mono hbW.size);clear p0 p1 p2 p3 m0 m1 m2 m3 n0 n1' n2 n3;obtain ⟨p0,p1,p2,p3,-⟩:=id bP;obtain ⟨m0,m1,m2,m3,-⟩:=id bM;obtain ⟨n0,n1',n2,n3,-⟩:=id bN;clear hb hx1;(go_wp2_with fail);refine (zIR 1 2 (1/2) (by decide) (by decide) (by decide) (by decide) (by decide) (by grind)).mono ?_;rintro e wb ⟨⟨x2,rfl,hx2⟩,hb⟩;replace HX1:=hdq (HX1.out.below hb);replace HY:=hdq (HY.out.belowC hb);replace HLa:=hdq (HLa.out.keep fun p _ hl=>hb.cell hl);replace HLb:=hdq (HLb.out.keep fun p _ hl=>hb.cell hl);replace P1:=heapK P1 hb;replace P2:=heapK P2 hb;replace bP:=bP.below hb s0;replace bM:=bM.below hb s1;replace bN:=bN.below hb s2;replace s0:=ltl s0 hb.size;replace s1:=ltl s1 hb.size;replace s2:=ltl s2 hb.size;replace hbW:=hbW.trans (hb.mono hbW.size);clear p0 p1 p2 p3 m0 m1 m2 m3 n0 n1' n2 n3;obtain ⟨p0,p1,p2,p3,-⟩:=id bP;obtain ⟨m0,m1,m2,m3,-⟩:=id bM;obtain ⟨n0,n1',n2,n3,-⟩:=id bN;clear hb;(go_wp2_with fail);refine (zBb (a:=x1) (b:=x2) HX1.out (hx2.qis (L:=1) ⟨by decide +kernel,by decide +kernel⟩) (by decide) (by decide)).mono ?_;rintro e wc ⟨⟨x3,rfl,hx3⟩,hb⟩;have HF3:Hid (QFit 17 ((s+t)*(1 / 2))):=hdq (zBn (L:=17) ((zAR HF1.out).mul (zAR (show QFit 1 (1/2:Rat) from ⟨by decide +kernel,by decide +kernel⟩))) (by omega));have HX3:=hdq (hx3.qis HF3.out);replace HY:=hdq (HY.out.belowC hb);replace HLa:=hdq (HLa.out.keep fun p _ hl=>hb.cell hl);replace HLb:=hdq (HLb.out.keep fun p _ hl=>hb.cell hl);replace P1:=heapK P1 hb;replace P2:=heapK P2 hb;replace bP:=bP.below hb s0;replace bM:=bM.below hb s1;replace bN:=bN.below hb s2;replace s0:=ltl s0 hb.size;replace s1:=ltl s1 hb.size;replace s2:=ltl s2 hb.size;replace hbW:=hbW.trans (hb.mono hbW.size);clear p0 p1 p2 p3 m0 m1 m2 m3 n0 n1' n2 n3;obtain ⟨p0,p1,p2,p3,-⟩:=id bP;obtain ⟨m0,m1,m2,m3,-⟩:=id bM;obtain ⟨n0,n1',n2,n3,-⟩:=id bN;clear hb hx2 hx3 HX1;(go_upto_region 9 with fail);have hb:Below wc wc (wc.alloc (.cells #[.bool x3.num.ng,.slice x3.num.A x3.num.n x3.num.c,.bool x3.den.ng,.slice x3.den.A x3.den.n x3.den.c] 30)):=bal;have P3:QBlk (wc.alloc (.cells #[.bool x3.num.ng,.slice x3.num.A x3.num.n x3.num.c,.bool x3.den.ng,.slice x3.den.A x3.den.n x3.den.c] 30)) wc x3:=zAd _ _ rfl;replace HX3:=hdq (HX3.out.below hb);replace HY:=hdq (HY.out.belowC hb);replace HLa:=hdq (HLa.out.keep fun p _ hl=>hb.cell hl);replace HLb:=hdq (HLb.out.keep fun p _ hl=>hb.cell hl);replace P1:=heapK P1 hb;replace P2:=heapK P2 hb;replace bP:=bP.below hb s0;replace bM:=bM.below hb s1;replace bN:=bN.below hb s2;replace s0:=ltl s0 hb.size;replace s1:=ltl s1 hb.size;replace s2:=ltl s2 hb.size;replace hbW:=hbW.trans (hb.mono hbW.size);clear p0 p1 p2 p3 m0 m1 m2 m3 n0 n1' n2 n3;obtain ⟨p0,p1,p2,p3,-⟩:=id bP;obtain ⟨m0,m1,m2,m3,-⟩:=id bM;obtain ⟨n0,n1',n2,n3,-⟩:=id bN;clear hb;generalize wc.alloc (.cells #[.bool x3.num.ng,.slice x3.num.A x3.num.n x3.num.c,.bool x3.den.ng,.slice x3.den.A x3.den.n x3.den.c] 30)=wd at *;generalize wc.heap.size=nx at *;obtain ⟨x30,x31,x32,x33,-⟩:=zAA P3;have HV4:=hdq (zTd (w:=wd) (X:=AllB) (L:=17) (qs:=[QV.zero,mv,nv,x3]) (l:=[0,s,t,(s+t)*(1 / 2)]) rfl (by show 4<=1000; omega) (zTe ((zFX _ _).qis (QFit.zero 16)) ((HST.out.1.below hbW).mono (by omega)) ((HST.out.2.below hbW).mono (by omega)) (HX3.out.imp fun _ _ _=>trivial)));(go_wp2_with fail);have hb:Below wd wd (wd.alloc (.cells ([QV.zero,mv,nv,x3].flatMap cells4q).toArray 30)):=bal;refine (zRG (V:=V) (row:=k) (ll:=[0,s,t,(s+t)*(1 / 2)]) (ls:=⟨some ⟨wd,0,none⟩,4,4⟩) (p:=⟨V,⟨oA,on,oc⟩,⟨rA,rn,rc⟩,⟨bA,rn,bc⟩⟩) ((HP.out.below (hbW.trans (hb.mono hbW.size))).more (show 6<=17 by omega)) rfl hV4 ho1 hon (by show rn<=_; omega) rfl HC1.out HC2.out hkr (HV4.out.imp (fun _ _ _=>trivial) fun _ _ hq=>hq) (by show 4<=1000; omega) (by omega)).mono ?_;rintro e we ⟨hopt,hbe⟩;have hb':=hb.trans (hbe.mono hb.size);replace HY:=hdq (HY.out.belowC hb');replace HLa:=hdq (HLa.out.keep fun p _ hl=>hb'.cell hl);replace HLb:=hdq (HLb.out.keep fun p _ hl=>hb'.cell hl);replace P1:=heapK P1 hb';replace P2:=heapK P2 hb';replace bP:=bP.below hb' s0;replace bM:=bM.below hb' s1;replace bN:=bN.below hb' s2;replace s0:=ltl s0 hb'.size;replace s1:=ltl s1 hb'.size;replace s2:=ltl s2 hb'.size;replace hbW:=hbW.trans (hb'.mono hbW.size);clear p0 p1 p2 p3 m0 m1 m2 m3 n0 n1' n2 n3;obtain ⟨p0,p1,p2,p3,-⟩:=id bP;obtain ⟨m0,m1,m2,m3,-⟩:=id bM;obtain ⟨n0,n1',n2,n3,-⟩:=id bN;clear hb hbe hb' x30 x31 x32 x33 P3 HV4 HX3;(rcases hopt with ⟨⟨wA,wn,wc'⟩,vs,rfl,hw,hwl,hwo⟩ | ⟨j,k',c,D2,hj,hI2,hE2,hk',rfl⟩);rotate_left
     ·have hc8:c=8:=by
       have:=zTi (by rw [HBl.out]; exact hkr) HE0.out.1 HE0.out.2 hI2 hE2;omega
      subst hc8;clear hI2 hE2 hk';(go_wp2_with fail);refine zRq.mono ?_;rintro e wl ⟨rfl,hbl⟩;have hbf:=hbW.trans (hbl.mono hbW.size);go_wp2;go_ret;exact ⟨rfl,hbf⟩
     have hwl4:vs.length=4:=hwl;have hw0:=hwo 0 (by show 0<4; omega);have hw1:=hwo 1 (by show 1<4; omega);have hw2:=hwo 2 (by show 2<4; omega);have hw3:=hwo 3 (by show 3<4; omega);obtain rfl:4=wn:=by have:=hw.len; dsimp only at this; omega
     obtain ⟨wad,u0,ew0,-,cw0,qw0⟩:=hw.elem 0 (by show 0<4; omega);obtain ⟨wad1,u1,ew1,-,cw1,qw1⟩:=hw.elem 1 (by show 1<4; omega);obtain ⟨wad2,u2,ew2,-,cw2,qw2⟩:=hw.elem 2 (by show 2<4; omega);obtain ⟨wad3,u3,ew3,-,cw3,qw3⟩:=hw.elem 3 (by show 3<4; omega);obtain ⟨yad,yv,ey,-,cy,qy⟩:=HY.out.elem k hkr;dsimp only at ew0 ew1 ew2 ew3 ey;cases ew0;cases ew1;cases ew2;cases ew3;cases ey;obtain ⟨r0,hr0'⟩:∃ r,vs.getD 0 0=r:=⟨_,rfl⟩;obtain ⟨r1,hr1'⟩:∃ r,vs.getD 1 0=r:=⟨_,rfl⟩;obtain ⟨r2,hr2'⟩:∃ r,vs.getD 2 0=r:=⟨_,rfl⟩;obtain ⟨r3,hr3'⟩:∃ r,vs.getD 3 0=r:=⟨_,rfl⟩;rw [hr0'] at qw0 hw0;rw [hr1'] at qw1 hw1;rw [hr2'] at qw2 hw2;rw [hr3'] at qw3 hw3;obtain ⟨d,hd⟩:∃ d,D0.dual (prob1 V os rs bs) k=d:=⟨_,rfl⟩
     have qy2:QIs we AllB 5000 yv d:=by
      have e:(List.map (D0.dual (prob1 V os rs bs)) (List.range (prob1 V os rs bs).m)).getD k 0=d:=by
       rw [zA6 _ _ _ _ (show k<(prob1 V os rs bs).m by show k<rs.length; rw [HRl.out]; exact hkr)]; exact hd
      rw [e] at qy;exact (qy.qis (zBn (by rw [<-hd]; exact HYF.out k) (by omega))).imp fun _ _ _=>trivial
     have HQ0:=hdq (qw0.qis hw0.2);have HQ1:=hdq (qw1.qis hw1.2);have HQ2:=hdq (qw2.qis hw2.2);have HQ3:=hdq (qw3.qis hw3.2);have HQY:=hdq qy2;have hrow:k<rs.length:=by rw [HRl.out]; exact hkr
     have hrow2:k<bs.length:=by rw [HBl.out]; exact hkr
     have hline:=zS6 (lo:=o1) (up:=o2) HE0.out.1 HE0.out.2 HC2.out HC1.out hrow hrow2 hw0.1 hw1.1;have HLE:Hid (r1<=r0+s*d):=by rw [<-hd]; exact hline.1
     have HLN:Hid ((lowB o1 s && upB o2 s)=true->r1=r0+s*d):=by rw [<-hd]; exact hline.2 HR1.out HR2.out
     have HMID:=hdq (zTj hrow2 hw1.1 hw2.1 hw3.1);have HMON:=hdq (show (s<=t->r1<=r2)/\(t<=s->r2<=r1) from ⟨fun h=>zS5 hrow2 hw1.1 hw2.1 h,fun h=>zS5 hrow2 hw2.1 hw1.1 h⟩);have HFD:Hid (QFit 5000 d):=zBn (by rw [<-hd]; exact HYF.out k) (by omega);have fo1:∀ j,Lin.Fits 224 ((os.getD 0 []).getD j 0):=(fun j=>(zAR (MatAt.fit HP.out.obj 0 j)).mono (by omega));have fr1:∀ i j,Lin.Fits 224 ((rs.getD i []).getD j 0):=(fun i j=>(zAR (MatAt.fit HP.out.rows i j)).mono (by omega));have fb1:∀ i,Lin.Fits 224 (bs.getD i 0):=(fun i=>(zAR (VecAt.fit HP.out.bounds i)).mono (by omega));have fv1:Lin.Fits 140000 (D0.c 0 V):=(zEc (HP.out) hV4 (E:=V) (by simp [Lin.given]) (nlr _) (fun c hc=>by cases hc) HE0.out.1).2.mono (by omega);have fd1:Lin.Fits 140000 (D0.dual (prob1 V os rs bs) k):=(HYF.out k).mono (by omega);have HLA:=hdq (HLa.out.loose (zTh hV4 fo1 fr1 fb1 fv1 fd1 HR1.out));have HLB:=hdq (HLb.out.loose (zTl hV4 fo1 fr1 fb1 fv1 fd1 HR2.out));clear fo1 fr1 fb1 fv1 fd1 HLa HLb;have HFS:Hid (QFit 7 s/\QFit 7 t):=⟨HST.out.1.fit,HST.out.2.fit⟩;obtain ⟨wb,wo,rfl⟩:=zRk (show we.cell? wad=some (.bool u0.num.ng) from cw0.1);have hS0:SLa wb wo (yad.add (k*4)) (w+1) (w+1+1) nl nu u0 u1 u2 u3 yv mv nv v1 v2 b1 b2 false we:=⟨cw0,cw1,cw2,cw3,cy,bM,bN,zQ0 P1,zQ0 P2⟩;have HSL:=hdq hS0;clear hS0 cw0 cw1 cw2 cw3 cy qw0 qw1 qw2 qw3 qy qy2 hw0 hw1 hw2 hw3 hwo hwl hwl4 hr0' hr1' hr2' hr3' hd hline hw P1 P2 m0 m1 m2 m3 n0 n1' n2 n3 bM bN HR1 HR2 HY HYF HE0;have hki:(k:Int)<(rn:Int):=(by omega);have hk0:¬ ((k:Int)<0):=(by omega);dsimp only [SV.val];(go_upto_region 14 with fail);refine zAp 1000 (SLa wb wo (yad.add (k*4)) (w+1) (w+1+1) nl nu u0 u1 u2 u3 yv mv nv v1 v2 b1 b2) (by kernel_rfl) ?_;have hS1:SLa wb wo (yad.add (k*4)) (w+1) (w+1+1) nl nu u0 u1 u2 u3 yv mv nv v1 v2 b1 b2 false we.drew:=zSP HSL.out (brf _ _).drew;have hB1:Below we we we.drew:=(brf _ _).drew;refine tx4 0 1 2 3 hS1 ?_;refine tx4 4 5 6 7 hS1 ?_;refine tx1 8 hS1 ?_;refine tx1 9 hS1 ?_;refine tx1 10 hS1 ?_;refine tk1 11 ?_;intro K hK;go_simp;refine (zBb (a:=mv) (b:=yv) ((HST.out.1.below hbW).below hB1) (HQY.out.below hB1) (by decide) (by decide)).mono ?_;rintro e wf ⟨⟨x,rfl,hx⟩,hb⟩;have hS2:=zSP (f':=false) hS1 hb;have hB2:=hB1.trans (hb.mono hB1.size);refine hK.out _ _ hS2 ?_;clear hK K hb;have HFX:Hid (QFit 5010 (s*d)):=zBn ((zAR HFS.out.1).mul (zAR HFD.out)) (by omega);refine tk1 12 ?_;intro K hK;go_simp;refine (zCD (a:=u0) (b:=x) (HQ0.out.below hB2) (hx.qis HFX.out) (by decide) (by decide)).mono ?_;rintro e wg ⟨⟨x',rfl,hx'⟩,hb⟩;have hS3:=zSP (f':=false) hS2 hb;have hB3:=hB2.trans (hb.mono hB2.size);refine hK.out _ _ hS3 ?_;clear hK K hb hx;have HFY:Hid (QFit 205100 (r0+s*d)):=zBn ((zAR HQ0.out.fit).add (zAR HFX.out)) (by omega);refine tk1 13 ?_;intro K hK;go_simp;refine (zFY (a:=u1) (b:=x') (HQ1.out.below hB3) (hx'.qis HFY.out) (by decide) (by decide)).mono ?_;rintro e wh ⟨rfl,hb⟩;have hS4:=zSP (f':=false) hS3 hb;have hB4:=hB3.trans (hb.mono hB3.size);refine hK.out _ _ hS4 ?_;clear hK K hb hx';obtain ⟨ln,hln⟩:∃ ln:Bool,decide (r1=r0+s*d)=ln:=⟨_,rfl⟩;rw [hln];refine tx1 14 hS4 ?_;refine zAf (by kernel_rfl) ?_ _;obtain ⟨cn,hcn⟩:∃ cn:Bool,(lowB o1 s && upB o2 s)=cn:=⟨_,rfl⟩;have HCN:=hdq hcn;have HLN2:Hid (cn=true->ln=true):=fun h=>by rw [<-hln]; exact decide_eq_true (HLN.out (by rw [hcn]; exact h))
     have HCM:Hid (qcmp r1 (r0+s*d)<=0):=by
      have:=HLE.out;show qcmp _ _<=0;unfold qcmp
      split
      ·omega
      ·split
       ·omega
       ·rename_i h1 h2; exfalso; grind
     clear hln hcn hS1 hS2 hS3;have hS5:=hS4;have hB5:=hB4;(go_upto_region 15 with fail);refine zAp 1000 (SLa wb wo (yad.add (k*4)) (w+1) (w+1+1) nl nu u0 u1 u2 u3 yv mv nv v1 v2 b1 b2) (by kernel_rfl) ?_;have hS6:SLa wb wo (yad.add (k*4)) (w+1) (w+1+1) nl nu u0 u1 u2 u3 yv mv nv v1 v2 b1 b2 false wh.drew:=zSP hS5 (brf _ _).drew;have hB6:=hB5.trans ((brf _ _).drew.mono hB5.size);clear hS4 hS5 hB1 hB2 hB3 hB4 hB5;refine tx4 0 1 2 4 hS6 ?_;refine tk1 3 ?_;intro K hK;go_simp;refine (zQ3 (L:=6000000) (b1:=b1) (b2:=b2) (v1:=v1) (v2:=v2) (z:=mv) (lo:=o1) (hi:=o2) (t:=s) cn HCN.out (HLA.out.below hB6) (HLB.out.below hB6) (((HST.out.1.below hbW).below hB6).mono (show 6<=6000000 by omega)) (by decide)).mono ?_;rintro e x7 ⟨rfl,hb⟩;have hS7:=zSP (f':=false) hS6 hb;have hB7:=hB6.trans (hb.mono hB6.size);refine hK.out _ _ hS7 ?_;clear hK K hb;obtain ⟨o,ho⟩:∃ o,qcmp r1 (r0+s*d)=o:=⟨_,rfl⟩;have ho0:o<=0:=by rw [<-ho]; exact HCM.out
     have HO:=hdq ho;clear ho;rcases (show (cn=true/\ln=true)\/(cn=false/\ln=false)\/(cn=false/\ln=true) by have:=HLN2.out; revert this; cases cn <;> cases ln <;> simp) with ⟨rfl,rfl⟩ | ⟨rfl,rfl⟩ | ⟨rfl,rfl⟩
     focus
      refine tx1 5 hS7 ?_;refine tx1 6 hS7 ?_;refine tn4 7 8 9 10 hS7 ?_;refine tx1 11 hS7 ?_;have hS8:=hS7;have hB8:=hB7;clear hS7 hB7;generalize x7=xx at *
     rotate_left
     focus
      refine tx1 5 hS7 ?_;refine tx1 6 hS7 ?_;refine tn4 7 8 9 10 hS7 ?_;refine tx1 11 hS7 ?_;have hS8:=hS7;have hB8:=hB7;clear hS7 hB7;generalize x7=xx at *
     rotate_left
     focus
      refine tx4 5 6 7 8 hS7 ?_;refine tx1 9 hS7 ?_;refine tk1 10 ?_;intro K hK;go_simp;refine (zQ3 (L:=6000000) (b1:=b1) (b2:=b2) (v1:=v1) (v2:=v2) (z:=mv) (lo:=o1) (hi:=o2) (t:=s) false HCN.out (HLA.out.below hB7) (HLB.out.below hB7) (((HST.out.1.below hbW).below hB7).mono (show 6<=6000000 by omega)) (by decide)).mono ?_;rintro e x8 ⟨rfl,hb⟩;have hS8:=zSP (f':=false) hS7 hb;have hB8:=hB7.trans (hb.mono hB7.size);refine hK.out _ _ hS8 ?_;clear hK K hb;refine tx1 11 hS8 ?_;clear hS7 hB7;generalize x8=xx at *
     rotate_left
     all_goals
      clear hS6 hB6;refine tx4 12 13 14 15 hS8 ?_;refine tx4 16 17 18 19 hS8 ?_;refine tx4 20 21 22 23 hS8 ?_;refine tk1 24 ?_;intro K hK;go_simp;refine (zBb (a:=mv) (b:=yv) ((HST.out.1.below hbW).below hB8) (HQY.out.below hB8) (by decide) (by decide)).mono ?_;rintro e x9 ⟨⟨xm,rfl,hxm⟩,hb⟩;have hS9:=zSP (f':=false) hS8 hb;have hB9:=hB8.trans (hb.mono hB8.size);refine hK.out _ _ hS9 ?_;clear hK K hb;refine tk1 25 ?_;intro K hK;go_simp;refine (zCD (a:=u0) (b:=xm) (HQ0.out.below hB9) (hxm.qis HFX.out) (by decide) (by decide)).mono ?_;rintro e x10 ⟨⟨xa,rfl,hxa⟩,hb⟩;have hS10:=zSP (f':=false) hS9 hb;have hB10:=hB9.trans (hb.mono hB9.size);refine hK.out _ _ hS10 ?_;clear hK K hb;clear hxm;refine tk1 26 ?_;intro K hK;go_simp;refine (zNn o (a:=u1) (b:=xa) (HQ1.out.below hB10) (hxa.qis HFY.out) (by decide) (by decide) HO.out).mono ?_;rintro e x11 ⟨rfl,hb⟩;have hS11:=zSP (f':=false) hS10 hb;have hB11:=hB10.trans (hb.mono hB10.size);refine hK.out _ _ hS11 ?_;clear hK K hb;clear hxa;have hog:¬ (0<o):=(by omega);refine tx1 27 hS11 ?_;refine tx1 28 hS11 ?_;refine zAf (by kernel_rfl) ?_ _;have hSz:=hS11;have hBz:=hB11;clear hS8 hB8 hS9 hB9 hS10 hB10 hS11 hB11;obtain ⟨oa,hoa⟩:∃ o,qcmp (r3+r3) (r1+r2)=o:=⟨_,rfl⟩;have hoa0:0<=oa:=by rw [<-hoa]; exact zTk HMID.out
      obtain ⟨ob,hob⟩:∃ o,qcmp r1 r2=o:=⟨_,rfl⟩;obtain ⟨oc',hoc⟩:∃ o,qcmp s t=o:=⟨_,rfl⟩;obtain ⟨P,hP⟩:∃ P,ob*oc'=P:=⟨_,rfl⟩;have hP2:0<=P/\P<=1:=by rw [<-hP,<-hob,<-hoc]; exact zTc HMON.out.1 HMON.out.2
      have HOA:=hdq hoa;have HOB:=hdq hob;have HOC:=hdq hoc;have HFA:Hid (QFit 401000 (r3+r3)):=zBn ((zAR HQ3.out.fit).add (zAR HQ3.out.fit)) (by omega);have HFB:Hid (QFit 401000 (r1+r2)):=zBn ((zAR HQ1.out.fit).add (zAR HQ2.out.fit)) (by omega);obtain ⟨hP0,hP1⟩:=hP2;clear hoa hob hoc;(go_upto_region 17 with fail);refine zAp 1000 (SLa wb wo (yad.add (k*4)) (w+1) (w+1+1) nl nu u0 u1 u2 u3 yv mv nv v1 v2 b1 b2) (by kernel_rfl) ?_;have hS12:SLa wb wo (yad.add (k*4)) (w+1) (w+1+1) nl nu u0 u1 u2 u3 yv mv nv v1 v2 b1 b2 false x11.drew:=zSP hSz (brf _ _).drew;have hB12:=hBz.trans ((brf _ _).drew.mono hBz.size);clear hSz hBz;refine tx4 0 1 2 3 hS12 ?_;refine tx4 4 5 7 8 hS12 ?_;refine tx4 9 10 11 12 hS12 ?_;refine tk1 6 ?_;intro K hK;go_simp;refine (zCD (a:=u3) (b:=u3) (HQ3.out.below hB12) (HQ3.out.below hB12) (by decide) (by decide)).mono ?_;rintro e y13 ⟨⟨xa,rfl,hxa⟩,hb⟩;have hS13:=zSP (f':=false) hS12 hb;have hB13:=hB12.trans (hb.mono hB12.size);refine hK.out _ _ hS13 ?_;clear hK K hb;refine tk1 13 ?_;intro K hK;go_simp;refine (zCD (a:=u1) (b:=u2) (HQ1.out.below hB13) (HQ2.out.below hB13) (by decide) (by decide)).mono ?_;have hxa1:=hxa;rintro e y14 ⟨⟨xc,rfl,hxc⟩,hb⟩;have hS14:=zSP (f':=false) hS13 hb;have hB14:=hB13.trans (hb.mono hB13.size);have hbq:=hb;refine hK.out _ _ hS14 ?_;clear hK K hb;refine tk1 14 ?_;intro K hK;go_simp;refine (zNn oa (a:=xa) (b:=xc) ((hxa.below hbq).qis HFA.out) (hxc.qis HFB.out) (by decide) (by decide) HOA.out).mono ?_;rintro e y15 ⟨rfl,hb⟩;have hS15:=zSP (f':=false) hS14 hb;have hB15:=hB14.trans (hb.mono hB14.size);refine hK.out _ _ hS15 ?_;clear hK K hb;clear hxa hxc hbq hxa1;refine tx4 15 16 17 18 hS15 ?_;refine tx4 19 20 21 22 hS15 ?_;refine tx1 24 hS15 ?_;refine tx1 25 hS15 ?_;refine tk1 23 ?_;intro K hK;go_simp;refine (zNn ob (a:=u1) (b:=u2) (HQ1.out.below hB15) (HQ2.out.below hB15) (by decide) (by decide) HOB.out).mono ?_;rintro e y16 ⟨rfl,hb⟩;have hS16:=zSP (f':=false) hS15 hb;have hB16:=hB15.trans (hb.mono hB15.size);refine hK.out _ _ hS16 ?_;clear hK K hb;refine tk1 26 ?_;intro K hK;go_simp;refine (zNn oc' (a:=mv) (b:=nv) (((HST.out.1.below hbW).below hB16)) (((HST.out.2.below hbW).below hB16)) (by decide) (by decide) HOC.out).mono ?_;rintro e y17 ⟨rfl,hb⟩;have hS17:=zSP (f':=false) hS16 hb;have hB17:=hB16.trans (hb.mono hB16.size);refine hK.out _ _ hS17 ?_;clear hK K hb;have hwr:IntKind.i64.wrap P=P:=IntWalk.i64_in _ (by omega);have hPg:decide (0<=P)=true:=decide_eq_true hP0;refine tkE 27 (.int .i64 P) (fun w' hSw=>?_) (hS17) ?_
      ·(obtain ⟨_,hSw⟩:=hSw; go_simp; try with_reducible rfl)
      simp only [zz];refine tx1 28 hS17 ?_;refine tx1 29 hS17 ?_;refine tx1 30 hS17 ?_;refine tk1 31 ?_;intro K hK;go_simp;refine zRq.mono ?_;rintro e zz9 ⟨rfl,hb⟩;have hS18:=zSP (f':=false) hS17 hb;have hB18:=hB17.trans (hb.mono hB17.size);refine hK.out _ _ hS18 ?_;clear hK K hb;refine tx1 32 hS18 ?_;refine tx1 33 hS18 ?_;refine zAf (by kernel_rfl) ?_ _;have hbf:=hbW.trans (hB18.mono hbW.size);clear hS12 hB12 hS13 hB13 hS14 hB14 hS15 hB15 hS16 hB16 hS17 hB17 hS18;go_wp2;go_ret;exact ⟨rfl,hbf⟩
end Go.Proofs.YtbpngececjihlaaGreat
