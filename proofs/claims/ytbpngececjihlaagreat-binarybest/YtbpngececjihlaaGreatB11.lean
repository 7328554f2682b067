/- Texts Lin Simplex1 Simplex2 Simplex3 Simplex4 DA Long3 Long4 Long5 Long6 PrH of this claim. -/
import Derived.Test.YtbpngececjihlaaGreatB10
import Derived.Test.YtbpngececjihlaaGreatB09
set_option maxHeartbeats 4000000
set_option maxRecDepth 20000
namespace Go.Proofs.YtbpngececjihlaaGreat.Lin
variable {f:Nat->Rat} {n N:Nat}
def sum:Nat->(Nat->Rat)->Rat
 | 0,_=>0
 | n+1,f=>sum n f+f n
theorem zAh {g:Nat->Rat} (h:∀ i,i<n->f i=g i):sum n f=sum n g:=by
 induction n with
 | zero=>rfl
 | succ n ih=>rw [sum,sum,ih fun i hi=>h i om,h n om]
theorem zCb (n:Nat) (f g:Nat->Rat):sum n (fun i=>f i+g i)=sum n f+sum n g:=by
 induction n with
 | zero=>simp only [sum]; grind
 | succ n ih=>simp only [sum,ih]; grind
theorem zFD (n:Nat) (f g:Nat->Rat):sum n (fun i=>f i-g i)=sum n f-sum n g:=by
 induction n with
 | zero=>simp only [sum]; grind
 | succ n ih=>simp only [sum,ih]; grind
theorem zBK (n:Nat) (k:Rat) (f:Nat->Rat):sum n (fun i=>k*f i)=k*sum n f:=by
 induction n with
 | zero=>simp only [sum]; grind
 | succ n ih=>simp only [sum,ih]; grind
theorem zFC (n:Nat) (f:Nat->Rat):sum n (fun i=>- f i)=- sum n f:=by
 induction n with
 | zero=>simp only [sum]; grind
 | succ n ih=>simp only [sum,ih]; grind
theorem zAC (h:∀ i,i<n->f i=0):sum n f=0:=by
 induction n with
 | zero=>rfl
 | succ n ih=>rw [sum,ih fun i hi=>h i om,h n om]; grind
def sumBut (n s:Nat) (f:Nat->Rat):Rat:=sum n fun i=>if i=s then 0 else f i
theorem zF9 {s:Nat} (h:s<n) (f:Nat->Rat):sum n f=f s+sumBut n s f:=by
 unfold sumBut
 induction n with
 | zero=>omega
 | succ n ih=>
  by_cases hs:s=n
  ·subst hs;simp only [sum,if_true];rw [show sum s (fun i=>if i=s then 0 else f i)=sum s f from zAh fun i hi=>if_neg om];grind
  ·simp only [sum];rw [ih om,if_neg om];grind
theorem zBu {s:Nat} (h:s<n) (h0:∀ i,i<n->i ≠ s->f i=0):sum n f=f s:=by
 rw [zF9 h,sumBut,zAC (fun i hi=>by by_cases e:i=s <;> simp [e]; exact h0 i hi e)];grind
theorem zBt (h:∀ i,i<n->0<=f i):0<=sum n f:=by
 induction n with
 | zero=>exact Rat.le_refl
 | succ n ih=>
  rw [sum];have:=ih fun i hi=>h i om
  have:=h n om;grind
theorem mul_nonneg {a b:Rat} (ha:0<=a) (hb:0<=b):0<=a*b:=Rat.mul_nonneg ha hb
theorem mul_pos {a b:Rat} (ha:0<a) (hb:0<b):0<a*b:=Rat.mul_pos ha hb
theorem zHC {a b:Rat} (ha:0<=a) (hb:b<=0):a*b<=0:=by
 have:=mul_nonneg ha (show 0<=-b by grind); grind
theorem inv_pos {a:Rat} (h:0<a):0<a⁻¹:=Rat.inv_pos.2 h
def LexNeg (N:Nat) (f:Nat->Rat):Prop:=∃ i,i<N/\f i<0/\∀ j,j<i->f j=0
def LexPos (N:Nat) (f:Nat->Rat):Prop:=∃ i,i<N/\0<f i/\∀ j,j<i->f j=0
def LexZero (N:Nat) (f:Nat->Rat):Prop:=∀ i,i<N->f i=0
theorem zFM (N:Nat) (f:Nat->Rat):LexNeg N f\/LexZero N f\/LexPos N f:=by
 induction N with
 | zero=>exact .inr (.inl fun i hi=>om)
 | succ N ih=>
  rcases ih with ⟨i,hi,h⟩ | h | ⟨i,hi,h⟩
  ·exact .inl ⟨i,om,h⟩
  ·rcases (by grind:f N<0\/f N=0\/0<f N) with h1 | h1 | h1
   ·exact .inl ⟨N,om,h1,h⟩
   ·refine .inr (.inl fun i hi=>?_);by_cases e:i=N
    ·rw [e]; exact h1
    ·exact h i om
   ·exact .inr (.inr ⟨N,om,h1,h⟩)
  ·exact .inr (.inr ⟨i,om,h⟩)
theorem LexNeg.not_pos (h:LexNeg N f):¬ LexPos N f:=by
 obtain ⟨i,_,h1,h2⟩:=h;rintro ⟨j,_,h3,h4⟩;rcases Nat.lt_trichotomy i j with h | h | h
 ·have:=h4 i h; grind
 ·subst h; grind
 ·have:=h2 j h; grind
theorem LexNeg.not_zero (h:LexNeg N f):¬ LexZero N f:=by
 obtain ⟨i,h0,h1,h2⟩:=h;intro hz; have:=hz i h0; grind
theorem LexPos.not_zero (h:LexPos N f):¬ LexZero N f:=by
 obtain ⟨i,h0,h1,h2⟩:=h;intro hz; have:=hz i h0; grind
def LexNN (N:Nat) (f:Nat->Rat):Prop:=LexZero N f\/LexPos N f
theorem LexNN.of_not (h:¬ LexNeg N f):LexNN N f:=(zFM N f).resolve_left h
theorem LexNN.not (h:LexNN N f):¬ LexNeg N f:=by
 intro hn;rcases h with h | h
 ·exact hn.not_zero h
 ·exact hn.not_pos h
theorem LexZero.add {g:Nat->Rat} (h:LexZero N f) (k:LexZero N g):LexZero N fun i=>f i+g i:=fun i hi=>by dsimp only; rw [h i hi,k i hi]; grind
theorem LexNN.add {g:Nat->Rat} (h:LexNN N f) (k:LexNN N g):LexNN N fun i=>f i+g i:=by
 rcases h with h | ⟨i,hi,h1,h2⟩
 ·rcases k with k | ⟨i,hi,h1,h2⟩
  ·exact .inl (h.add k)
  ·exact .inr ⟨i,hi,by dsimp only; rw [h i hi]; grind,fun j hj=>by dsimp only; rw [h j om,h2 j hj]; grind⟩
 ·rcases k with k | ⟨j,hj,h3,h4⟩
  ·exact .inr ⟨i,hi,by dsimp only; rw [k i hi]; grind,fun j hj=>by dsimp only; rw [k j om,h2 j hj]; grind⟩
  ·rcases Nat.lt_trichotomy i j with h | h | h
   ·exact .inr ⟨i,hi,by dsimp only; rw [h4 i h]; grind,fun k hk=>by dsimp only; rw [h4 k om,h2 k hk]; grind⟩
   ·subst h; exact .inr ⟨i,hi,by dsimp only; grind,fun k hk=>by dsimp only; rw [h4 k om,h2 k hk]; grind⟩
   ·exact .inr ⟨j,hj,by dsimp only; rw [h2 j h]; grind,fun k hk=>by dsimp only; rw [h4 k om,h2 k om]; grind⟩
theorem LexNN.smul (h:LexNN N f) {k:Rat} (hk:0<=k):LexNN N fun i=>k*f i:=by
 rcases h with h | ⟨i,hi,h1,h2⟩
 ·exact .inl fun i hi=>by dsimp only; rw [h i hi]; grind
 ·rcases (by grind:k=0\/0<k) with h0 | h0
  ·exact .inl fun i hi=>by dsimp only; rw [h0]; grind
  ·exact .inr ⟨i,hi,mul_pos h0 h1,fun j hj=>by dsimp only; rw [h2 j hj]; grind⟩
theorem LexNN.sum {f:Nat->Nat->Rat} (h:∀ j,j<n->LexNN N fun i=>f i j):LexNN N fun i=>Lin.sum n (f i):=by
 induction n with
 | zero=>exact .inl fun i hi=>rfl
 | succ n ih=>exact (ih fun j hj=>h j om).add (h n om)
theorem LexNeg.neg (h:LexNeg N f):LexPos N fun i=>- f i:=by
 obtain ⟨i,h0,h1,h2⟩:=h;exact ⟨i,h0,by dsimp only; grind,fun j hj=>by dsimp only; rw [h2 j hj]; grind⟩
theorem LexPos.neg (h:LexPos N f):LexNeg N fun i=>- f i:=by
 obtain ⟨i,h0,h1,h2⟩:=h;exact ⟨i,h0,by dsimp only; grind,fun j hj=>by dsimp only; rw [h2 j hj]; grind⟩
theorem LexPos.smul (h:LexPos N f) {k:Rat} (hk:0<k):LexPos N fun i=>k*f i:=by
 obtain ⟨i,h0,h1,h2⟩:=h;exact ⟨i,h0,mul_pos hk h1,fun j hj=>by dsimp only; rw [h2 j hj]; grind⟩
theorem LexNeg.congr {g:Nat->Rat} (h:LexNeg N f) (e:∀ i,i<N->f i=g i):LexNeg N g:=by
 obtain ⟨i,h0,h1,h2⟩:=h;exact ⟨i,h0,by rw [<-e i h0]; exact h1,fun j hj=>by rw [<-e j om]; exact h2 j hj⟩
theorem LexPos.congr {g:Nat->Rat} (h:LexPos N f) (e:∀ i,i<N->f i=g i):LexPos N g:=by
 obtain ⟨i,h0,h1,h2⟩:=h;exact ⟨i,h0,by rw [<-e i h0]; exact h1,fun j hj=>by rw [<-e j om]; exact h2 j hj⟩
theorem LexNN.congr {g:Nat->Rat} (h:LexNN N f) (e:∀ i,i<N->f i=g i):LexNN N g:=by
 rcases h with h | h
 ·exact .inl fun i hi=>by rw [<-e i hi]; exact h i hi
 ·exact .inr (h.congr e)
theorem LexPos.add {g:Nat->Rat} (h:LexPos N f) (k:LexNN N g):LexPos N fun i=>f i+g i:=by
 rcases (LexNN.add (.inr h) k) with h1 | h1
 ·exfalso;have h2:=h.neg;exact k.not (h2.congr fun i hi=>by have:=h1 i hi; grind)
 ·exact h1
end Go.Proofs.YtbpngececjihlaaGreat.Lin
namespace Go.Proofs.YtbpngececjihlaaGreat.Lin
variable {m i n j r:Nat} {x:Nat->Rat}
structure Prob where
 n:Nat
 m:Nat
 K:Nat
 A:Nat->Nat->Rat
 b:Nat->Rat
 O:Nat->Nat->Rat
def Prob.Sys (P:Prob) (x:Nat->Rat):Prop:=∀ i,i<P.m->x (P.n+i)=P.b i-sum P.n fun k=>P.A i k*x k
def Prob.obj (P:Prob) (l:Nat) (x:Nat->Rat):Rat:=if l<P.K then sum P.n (fun k=>P.O l k*x k) else-x (l-P.K)
structure Dict where
 basic:Nat->Nat
 free:Nat->Nat
 a:Nat->Nat->Rat
 c:Nat->Nat->Rat
def val (n:Nat) (F:Nat->Nat) (r:Nat->Rat) (x:Nat->Rat):Rat:=r n-sum n fun j=>r j*x (F j)
structure Good (P:Prob) (D:Dict):Prop where
 bLt:∀ i,i<P.m->D.basic i<P.n+P.m
 fLt:∀ j,j<P.n->D.free j<P.n+P.m
 bInj:∀ i j,i<P.m->j<P.m->D.basic i=D.basic j->i=j
 fInj:∀ i j,i<P.n->j<P.n->D.free i=D.free j->i=j
 apart:∀ i j,i<P.m->j<P.n->D.basic i ≠ D.free j
 all:∀ v,v<P.n+P.m->(∃ i,i<P.m/\D.basic i=v)\/(∃ j,j<P.n/\D.free j=v)
 rows:∀ x,P.Sys x ↔ ∀ i,i<P.m->x (D.basic i)=val P.n D.free (D.a i) x
 costs:∀ x,P.Sys x->∀ l,l<P.K->sum P.n (fun k=>P.O l k*x k)=val P.n D.free (D.c l) x
def find (f:Nat->Nat) (v:Nat):Nat->Nat
 | 0=>0
 | m+1=>if find f v m<m then find f v m else if f m=v then m else m+1
theorem zCi (f:Nat->Nat) (v m:Nat):(find f v m<m/\f (find f v m)=v)\/(find f v m=m/\∀ i,i<m->f i ≠ v):=by
 induction m with
 | zero=>exact .inr ⟨rfl,fun i hi=>om⟩
 | succ m ih=>
  unfold find;rcases ih with ⟨h1,h2⟩ | ⟨h1,h2⟩
  ·rw [if_pos h1]; exact .inl ⟨om,h2⟩
  ·rw [if_neg om];by_cases h:f m=v
   ·rw [if_pos h]; exact .inl ⟨om,h⟩
   ·rw [if_neg h];refine .inr ⟨rfl,fun i hi=>?_⟩;by_cases e:i=m
    ·rw [e]; exact h
    ·exact h2 i om
theorem zFk {f:Nat->Nat} {v:Nat} (hi:i<m) (h:f i=v):find f v m<m/\f (find f v m)=v:=by
 rcases zCi f v m with h1 | ⟨_,h2⟩
 ·exact h1
 ·exact absurd h (h2 i hi)
theorem zCQ {f:Nat->Nat} {v:Nat} (h:∀ i,i<m->f i ≠ v):¬ find f v m<m:=by
 intro hl;rcases zCi f v m with ⟨h1,h2⟩ | ⟨h1,_⟩
 ·exact h _ h1 h2
 ·omega
theorem zIl {f:Nat->Nat} (inj:∀ i j,i<m->j<m->f i=f j->i=j) (hi:i<m):find f (f i) m=i:=by
 obtain ⟨h1,h2⟩:=zFk hi rfl;exact inj _ _ h1 hi h2
def Dict.cost (P:Prob) (D:Dict) (l j:Nat):Rat:=
 if l<P.K then D.c l j
 else if find D.basic (l-P.K) P.m<P.m then-D.a (find D.basic (l-P.K) P.m) j
 else if j<P.n/\D.free j=l-P.K then 1 else 0
theorem zJ5 (n:Nat) (F:Nat->Nat) (r x:Nat->Rat):val n F (fun j=>- r j) x=- val n F r x:=by
 unfold val;rw [zAh (g:=fun j=>- (r j*x (F j))) (fun i _=>by grind),zFC];grind
theorem Good.cost_val {P:Prob} {D:Dict} (G:Good P D) (hx:P.Sys x) {l:Nat} (hl:l<P.K+P.n):P.obj l x=val P.n D.free (D.cost P l) x:=by
 by_cases h:l<P.K
 ·have:D.cost P l=D.c l:=by funext j; simp [Dict.cost,h]
  rw [this,Prob.obj,if_pos h];exact G.costs x hx l h
 ·rw [Prob.obj,if_neg h];rcases G.all (l-P.K) om with ⟨i,hi,e⟩ | ⟨j,hj,e⟩
  ·obtain ⟨h1,h2⟩:=zFk hi e;have:D.cost P l=fun j=>- D.a (find D.basic (l-P.K) P.m) j:=by funext j; simp [Dict.cost,h,h1]
   rw [this,zJ5,<-(G.rows x).1 hx _ h1,h2]
  ·have hno:=zCQ (f:=D.basic) (v:=l-P.K) (m:=P.m) (fun i hi e'=>G.apart i j hi hj (e'.trans e.symm));have:D.cost P l=fun j=>if j<P.n/\D.free j=l-P.K then 1 else 0:=by funext j; simp [Dict.cost,h,hno]
   rw [this,val,if_neg om,zBu (s:=j) hj (fun i hi hij=>by
    rw [if_neg (fun hh=>hij (G.fInj i j hi hj (hh.2.trans e.symm)))]; grind),if_pos ⟨hj,e⟩,e]
   grind
def scaled (s:Nat) (r:Nat->Rat):Nat->Rat:=fun j=>if j=s then (r s)⁻¹ else (r s)⁻¹*r j
def elim (s:Nat) (by' r:Nat->Rat):Nat->Rat:=fun j=>(if j=s then 0 else r j)-r s*by' j
def turn {α:Type} (f:Nat->α) (s:Nat) (v:α):Nat->α:=fun j=>if j=s then v else f j
def Dict.pivot (D:Dict) (r s:Nat):Dict where
 basic:=turn D.basic r (D.free s)
 free:=turn D.free s (D.basic r)
 a:=fun i=>if i=r then scaled s (D.a r) else elim s (scaled s (D.a r)) (D.a i)
 c:=fun l=>elim s (scaled s (D.a r)) (D.c l)
theorem zCu {s:Nat} (hs:s<n) (F:Nat->Nat) (r x:Nat->Rat):val n F r x=r n-(r s*x (F s)+sumBut n s fun j=>r j*x (F j)):=by
 rw [val,zF9 hs]
theorem zDA {s:Nat} (hs:s<n) {F:Nat->Nat} {r:Nat->Rat} (u:Nat) (h0:r s ≠ 0):x u=val n F r x ↔ x (F s)=val n (turn F s u) (scaled s r) x:=by
 rw [zCu hs,zCu hs]
 have e:sumBut n s (fun j=>scaled s r j*x (turn F s u j))=(r s)⁻¹*sumBut n s fun j=>r j*x (F j):=by
  unfold sumBut;rw [<-zBK];refine zAh fun i _=>?_
  by_cases h:i=s
  ·simp [h]
  ·simp [h,scaled,turn]; grind
 rw [e];have e1:scaled s r n=(r s)⁻¹*r n:=by unfold scaled; rw [if_neg om]
 have e2:scaled s r s=(r s)⁻¹:=by unfold scaled; rw [if_pos rfl]
 have e3:turn F s u s=u:=by unfold turn; rw [if_pos rfl]
 rw [e1,e2,e3];generalize sumBut n s (fun j=>r j*x (F j))=T;constructor
 ·intro h; rw [h]; grind
 ·intro h; rw [h]; grind
theorem zCY {s:Nat} (hs:s<n) {F:Nat->Nat} {r by':Nat->Rat} (u:Nat) (h:x (F s)=val n (turn F s u) by' x):val n F r x=val n (turn F s u) (elim s by' r) x:=by
 rw [zCu hs] at h;rw [zCu hs,zCu hs]
 have e:sumBut n s (fun j=>elim s by' r j*x (turn F s u j))=(sumBut n s fun j=>r j*x (F j))-r s*sumBut n s fun j=>by' j*x (turn F s u j):=by
  unfold sumBut;rw [<-zBK,<-zFD];refine zAh fun i _=>?_
  by_cases h:i=s
  ·simp [h]; grind
  ·simp [h,elim,turn]; grind
 rw [e];have e1:elim s by' r n=r n-r s*by' n:=by unfold elim; rw [if_neg om]
 have e2:elim s by' r s=- (r s*by' s):=by unfold elim; rw [if_pos rfl]; grind
 have e3:turn F s u s=u:=by unfold turn; rw [if_pos rfl]
 rw [e3] at h;rw [e1,e2,e3,h];grind
theorem zBL {α:Type} (f:Nat->α) (s:Nat) (v:α):turn f s v s=v:=by simp [turn]
theorem zBh {α:Type} (f:Nat->α) {s:Nat} (h:j ≠ s) (v:α):turn f s v j=f j:=by simp [turn,h]
theorem Good.pivot {P:Prob} {D:Dict} (G:Good P D) {s:Nat} (hr:r<P.m) (hs:s<P.n) (h0:D.a r s ≠ 0):Good P (D.pivot r s):=by
 have key:∀ x,P.Sys x ↔ ∀ i,i<P.m->x ((D.pivot r s).basic i)=val P.n (D.pivot r s).free ((D.pivot r s).a i) x:=by
  intro x;rw [G.rows x];have k0:=zDA hs (F:=D.free) (r:=D.a r) (x:=x) (D.basic r) h0;constructor
  ·intro h i hi;have k1:=k0.1 (h r hr);by_cases e:i=r
   ·subst e; simpa [Dict.pivot,turn] using k1
   ·have:=(h i hi).trans (zCY hs (D.basic r) (r:=D.a i) k1);simpa [Dict.pivot,zBh _ e,e] using this
  ·intro h i hi;have k1:=h r hr;simp only [Dict.pivot,zBL,if_true] at k1;by_cases e:i=r
   ·subst e; exact k0.2 k1
   ·rw [zCY hs (D.basic r) (r:=D.a i) k1];have:=h i hi;simpa [Dict.pivot,zBh _ e,e] using this
 refine ⟨?_,?_,?_,?_,?_,?_,key,?_⟩
 ·intro i hi;by_cases e:i=r
  ·simpa [Dict.pivot,turn,e] using G.fLt s hs
  ·simpa [Dict.pivot,turn,e] using G.bLt i hi
 ·intro j hj;by_cases e:j=s
  ·simpa [Dict.pivot,turn,e] using G.bLt r hr
  ·simpa [Dict.pivot,turn,e] using G.fLt j hj
 ·intro i j hi hj h;by_cases e:i=r <;> by_cases e':j=r <;> simp [Dict.pivot,turn,e,e'] at h
  ·omega
  ·exact absurd h.symm (G.apart j s hj hs)
  ·exact absurd h (G.apart i s hi hs)
  ·exact G.bInj i j hi hj h
 ·intro i j hi hj h;by_cases e:i=s <;> by_cases e':j=s <;> simp [Dict.pivot,turn,e,e'] at h
  ·omega
  ·exact absurd h (G.apart r j hr hj)
  ·exact absurd h.symm (G.apart r i hr hi)
  ·exact G.fInj i j hi hj h
 ·intro i j hi hj h;by_cases e:i=r <;> by_cases e':j=s <;> simp [Dict.pivot,turn,e,e'] at h
  ·exact absurd h.symm (G.apart r s hr hs)
  ·exact e' (G.fInj s j hs hj h).symm
  ·exact e (G.bInj i r hi hr h)
  ·exact G.apart i j hi hj h
 ·intro v hv;rcases G.all v hv with ⟨i,hi,e⟩ | ⟨j,hj,e⟩
  ·by_cases h:i=r
   ·exact .inr ⟨s,hs,by simp [Dict.pivot,turn,<-e,h]⟩
   ·exact .inl ⟨i,hi,by simp [Dict.pivot,turn,h,e]⟩
  ·by_cases h:j=s
   ·exact .inl ⟨r,hr,by simp [Dict.pivot,turn,<-e,h]⟩
   ·exact .inr ⟨j,hj,by simp [Dict.pivot,turn,h,e]⟩
 ·intro x hx l hl;rw [G.costs x hx l hl];have k1:=(key x).1 hx r hr;simp only [Dict.pivot,zBL,if_true] at k1;exact zCY hs (D.basic r) k1
def Dict.point (P:Prob) (D:Dict) (v:Nat):Rat:=if find D.basic v P.m<P.m then D.a (find D.basic v P.m) P.n else 0
def Dict.dir (P:Prob) (D:Dict) (s v:Nat):Rat:=if find D.basic v P.m<P.m then-D.a (find D.basic v P.m) s else if v=D.free s then 1 else 0
section
variable {P:Prob} {D:Dict} (G:Good P D)
 include G
theorem Good.point_basic (hi:i<P.m):D.point P (D.basic i)=D.a i P.n:=by
 rw [Dict.point,zIl G.bInj hi,if_pos hi]
theorem Good.point_free (hj:j<P.n):D.point P (D.free j)=0:=by
 rw [Dict.point,if_neg (zCQ fun i hi=>G.apart i j hi hj)]
theorem Good.dir_basic {s:Nat} (hi:i<P.m):D.dir P s (D.basic i)=- D.a i s:=by
 rw [Dict.dir,zIl G.bInj hi,if_pos hi]
theorem Good.dir_free {s:Nat} (hs:s<P.n) (hj:j<P.n):D.dir P s (D.free j)=if j=s then 1 else 0:=by
 rw [Dict.dir,if_neg (zCQ fun i hi=>G.apart i j hi hj)];by_cases e:j=s
 ·simp [e]
 ·rw [if_neg e,if_neg (fun h=>e (G.fInj j s hj hs h))]
theorem Good.point_sys:P.Sys (D.point P):=by
 rw [G.rows];intro i hi;rw [G.point_basic hi,val,zAC fun j hj=>by rw [G.point_free hj]; grind];grind
theorem zGM {s:Nat} (hs:s<P.n) (r x:Nat->Rat) (t:Rat):val P.n D.free r (fun v=>x v+t*D.dir P s v)=val P.n D.free r x-t*r s:=by
 unfold val
 have e:sum P.n (fun j=>r j*(x (D.free j)+t*D.dir P s (D.free j)))=sum P.n (fun j=>r j*x (D.free j))+t*r s:=by
  rw [zAh (g:=fun j=>r j*x (D.free j)+t*(r j*D.dir P s (D.free j))) (fun i _=>by grind),zCb,zBK]
  have e2:sum P.n (fun j=>r j*D.dir P s (D.free j))=r s:=by
   rw [zBu (s:=s) hs (fun i hi h=>by rw [G.dir_free hs hi,if_neg h]; grind),G.dir_free hs hs,if_pos rfl];grind
  rw [e2]
 rw [e]; grind
theorem Good.dir_sys {s:Nat} (hs:s<P.n) (hx:P.Sys x) (t:Rat):P.Sys fun v=>x v+t*D.dir P s v:=by
 rw [G.rows] at hx ⊢;intro i hi;rw [zGM G hs,<-hx i hi,G.dir_basic hi]; grind
theorem Good.obj_dir {s:Nat} (hs:s<P.n) (hx:P.Sys x) (t:Rat) {l:Nat} (hl:l<P.K+P.n):P.obj l (fun v=>x v+t*D.dir P s v)=P.obj l x-t*D.cost P l s:=by
 rw [G.cost_val (G.dir_sys hs hx t) hl,G.cost_val hx hl,zGM G hs]
theorem Good.obj_point {l:Nat} (hl:l<P.K+P.n):P.obj l (D.point P)=D.cost P l P.n:=by
 rw [G.cost_val G.point_sys hl,val,zAC fun j hj=>by rw [G.point_free hj]; grind];grind
theorem Good.unique {y:Nat->Rat} (hx:P.Sys x) (hy:P.Sys y) (h:∀ j,j<P.n->x (D.free j)=y (D.free j)) {v:Nat} (hv:v<P.n+P.m):x v=y v:=by
 rcases G.all v hv with ⟨i,hi,e⟩ | ⟨j,hj,e⟩
 ·rw [<-e,(G.rows x).1 hx i hi,(G.rows y).1 hy i hi,val,val,zAh fun j hj=>by rw [h j hj]]
 ·rw [<-e]; exact h j hj
end
def Prob.start (P:Prob):Dict where
 basic:=fun i=>P.n+i
 free:=fun j=>j
 a:=fun i j=>if j<P.n then P.A i j else P.b i
 c:=fun l j=>if j<P.n then-P.O l j else 0
theorem Prob.start_good (P:Prob):Good P P.start:=by
 refine ⟨fun i hi=>by simp [Prob.start]; omega,fun j hj=>by simp [Prob.start]; omega,fun i j _ _ h=>by simpa [Prob.start] using h,fun i j _ _ h=>by simpa [Prob.start] using h,fun i j hi hj=>by simp [Prob.start]; omega,?_,?_,?_⟩
 ·intro v hv;by_cases h:v<P.n
  ·exact .inr ⟨v,h,rfl⟩
  ·exact .inl ⟨v-P.n,om,by simp [Prob.start]; omega⟩
 ·intro x;unfold Prob.Sys;refine forall_congr' fun i=>forall_congr' fun hi=>?_
  simp only [Prob.start,val,Nat.lt_irrefl,if_false];rw [zAh (f:=fun j=>(if j<P.n then P.A i j else P.b i)*x j) (g:=fun k=>P.A i k*x k) (fun k hk=>by rw [if_pos hk])]
 ·intro x hx l hl;simp only [Prob.start,val,Nat.lt_irrefl,if_false];rw [zAh (f:=fun j=>(if j<P.n then-P.O l j else 0)*x j) (g:=fun k=>- (P.O l k*x k)) (fun k hk=>by rw [if_pos hk]; grind),zFC];grind
end Go.Proofs.YtbpngececjihlaaGreat.Lin
namespace Go.Proofs.YtbpngececjihlaaGreat.Lin
variable {i j b r N:Nat} {x:Nat->Rat}
def Dict.bas (P:Prob) (D:Dict) (v:Nat):Bool:=decide (find D.basic v P.m<P.m)
theorem zFe {P:Prob} {D:Dict} {v:Nat} (h:D.bas P v=true):∃ i,i<P.m/\D.basic i=v:=by
 rcases zCi D.basic v P.m with ⟨h1,h2⟩ | ⟨h1,h2⟩
 ·exact ⟨_,h1,h2⟩
 ·simp [Dict.bas] at h; omega
theorem zEP {P:Prob} {D:Dict} (hi:i<P.m):D.bas P (D.basic i)=true:=by
 simp [Dict.bas,(zFk hi rfl).1]
theorem zBR {P:Prob} {D:Dict} (G:Good P D) {v:Nat} (hv:v<P.n+P.m) (h:D.bas P v=false):∃ j,j<P.n/\D.free j=v:=by
 rcases G.all v hv with ⟨i,hi,e⟩ | h1
 ·rw [<-e,zEP hi] at h; cases h
 ·exact h1
theorem zBw {P:Prob} {D:Dict} (G:Good P D) (hj:j<P.n):D.bas P (D.free j)=false:=by
 simp only [Dict.bas,decide_eq_false_iff_not];exact zCQ fun i hi=>G.apart i j hi hj
theorem zB8 {P:Prob} {D:Dict} {v:Nat} (h:D.bas P v=false):D.point P v=0:=by
 rw [Dict.point,if_neg (by simpa [Dict.bas] using h)]
section
variable {P:Prob} {D:Dict} {r s:Nat}
theorem enters {v:Nat} (h1:D.bas P v=false) (h2:(D.pivot r s).bas P v=true):v=D.free s:=by
 obtain ⟨i,hi,e⟩:=zFe h2;by_cases h:i=r
 ·simp [Dict.pivot,turn,h] at e; exact e.symm
 ·simp [Dict.pivot,turn,h] at e;rw [<-e,zEP hi] at h1; cases h1
theorem leaves (G:Good P D) (hr:r<P.m) (hs:s<P.n) (h0:D.a r s ≠ 0) {v:Nat} (hv:v<P.n+P.m) (h1:D.bas P v=true) (h2:(D.pivot r s).bas P v=false):v=D.basic r:=by
 have G':=G.pivot hr hs h0;obtain ⟨j,hj,e⟩:=zBR G' hv h2;by_cases h:j=s
 ·simp [Dict.pivot,turn,h] at e; exact e.symm
 ·simp [Dict.pivot,turn,h] at e;rw [<-e,zBw G hj] at h1; cases h1
theorem entered (hr:r<P.m):(D.pivot r s).bas P (D.free s)=true:=by
 have:=zEP (P:=P) (D:=D.pivot r s) hr;simpa [Dict.pivot,turn] using this
theorem left (G:Good P D) (hr:r<P.m) (hs:s<P.n) (h0:D.a r s ≠ 0):(D.pivot r s).bas P (D.basic r)=false:=by
 have:=zBw (G.pivot hr hs h0) hs;simpa [Dict.pivot,turn] using this
end
theorem change {q:Nat->Bool} {a:Nat} (hab:a<=b) (h1:q a=false) (h2:q b=true):∃ k,a<=k/\k<b/\q k=false/\q (k+1)=true:=by
 induction b with
 | zero=>
  obtain rfl:a=0:=om
  rw [h1] at h2; cases h2
 | succ b ih=>
  by_cases e:a=b+1
  ·subst e; rw [h1] at h2; cases h2
  ·cases hb:q b with
   | true=>obtain ⟨k,hk1,hk2,h3⟩:=ih om hb; exact ⟨k,hk1,om,h3⟩
   | false=>exact ⟨b,om,om,hb,h2⟩
theorem change' {q:Nat->Bool} {a:Nat} (hab:a<=b) (h1:q a=true) (h2:q b=false):∃ k,a<=k/\k<b/\q k=true/\q (k+1)=false:=by
 obtain ⟨k,h3,h4,h5,h6⟩:=change (q:=fun i=>! q i) hab (by simp [h1]) (by simp [h2]);exact ⟨k,h3,h4,by simpa using h5,by simpa using h6⟩
theorem greatest {p:Nat->Prop} (N:Nat) (hN:∀ v,p v->v<N) (h:∃ v,p v):∃ t,p t/\∀ v,p v->v<=t:=by
 induction N with
 | zero=>obtain ⟨v,hv⟩:=h; have:=hN v hv; omega
 | succ N ih=>
  by_cases hp:p N
  ·exact ⟨N,hp,fun v hv=>by have:=hN v hv; omega⟩
  ·(refine ih fun v hv=>?_);have:=hN v hv;have:v ≠ N:=(fun e=>hp (e ▸ hv));omega
theorem fickle {P:Prob} {f:Nat->Dict} (hij:i<j) (G:∀ k,i<=k->k<=j->Good P (f k))
  (st:∀ k,i<=k->k<j->∃ r s,r<P.m/\s<P.n/\(f k).a r s ≠ 0/\f (k+1)=(f k).pivot r s)
  (same:∀ v,v<P.n+P.m->(f i).bas P v=(f j).bas P v) :
  ∃ t,t<P.n+P.m/\(∀ v k k',v<P.n+P.m->i<=k->k<=j->i<=k'->k'<=j->(f k).bas P v ≠ (f k').bas P v->v<=t)/\
   (∃ p,i<=p/\p<j/\(f p).bas P t=false/\(f (p+1)).bas P t=true)/\(∃ q,i<=q/\q<j/\(f q).bas P t=true/\(f (q+1)).bas P t=false):=by
 have hex:∃ v,v<P.n+P.m/\∃ k,i<=k/\k<=j/\(f k).bas P v ≠ (f i).bas P v:=by
  obtain ⟨r,s,hr,hs,h0,e⟩:=st i om hij;refine ⟨(f i).free s,(G i om om).fLt s hs,i+1,om,om,?_⟩;rw [e,entered hr,zBw (G i om om) hs];simp
 obtain ⟨t,⟨ht,k,hk1,hk2,hk3⟩,hmax⟩:=greatest (P.n+P.m) (fun v hv=>hv.1) hex;refine ⟨t,ht,?_,?_⟩
 ·intro v k k' hv a b c d hne;by_cases h:(f k).bas P v=(f i).bas P v
  ·exact hmax v ⟨hv,k',c,d,fun e=>hne (h.trans e.symm)⟩
  ·exact hmax v ⟨hv,k,a,b,h⟩
 ·have hs:=same t ht
  cases hb:(f i).bas P t with
  | false=>
   have hbk:(f k).bas P t=true:=by rw [hb] at hk3; simpa using hk3
   obtain ⟨p,h1,h2,h3,h4⟩:=change (q:=fun k=>(f k).bas P t) hk1 hb hbk;obtain ⟨q,h5,h6,h7,h8⟩:=change' (q:=fun k=>(f k).bas P t) hk2 hbk (by rw [<-hs]; exact hb)
   exact ⟨⟨p,h1,om,h3,h4⟩,⟨q,om,h6,h7,h8⟩⟩
  | true=>
   have hbk:(f k).bas P t=false:=by rw [hb] at hk3; simpa using hk3
   obtain ⟨p,h1,h2,h3,h4⟩:=change' (q:=fun k=>(f k).bas P t) hk1 hb hbk;obtain ⟨q,h5,h6,h7,h8⟩:=change (q:=fun k=>(f k).bas P t) hk2 hbk (by rw [<-hs]; exact hb);exact ⟨⟨q,om,h6,h7,h8⟩,⟨p,h1,om,h3,h4⟩⟩
structure RSel (P:Prob) (D:Dict) (r s:Nat):Prop where
 hr:r<P.m
 neg:D.a r P.n<0
 least:∀ i,i<P.m->D.a i P.n<0->D.basic r<=D.basic i
 hs:s<P.n
 elt:D.a r s<0
 first:∀ j,j<P.n->D.a r j<0->D.free s<=D.free j
theorem RSel.ne {P:Prob} {D:Dict} {s:Nat} (h:RSel P D r s):D.a r s ≠ 0:=by have:=h.elt; grind
theorem zF1 {P:Prob} {f:Nat->Dict} (hij:i<j) (G:∀ k,i<=k->k<=j->Good P (f k))
  (st:∀ k,i<=k->k<j->∃ r s,RSel P (f k) r s/\f (k+1)=(f k).pivot r s)
  (same:∀ v,v<P.n+P.m->(f i).bas P v=(f j).bas P v):False:=by
 obtain ⟨t,ht,hmax,⟨p,hp1,hp2,hp3,hp4⟩,⟨q,hq1,hq2,hq3,hq4⟩⟩:=fickle hij G (fun k h1 h2=>by
  obtain ⟨r,s,h,e⟩:=st k h1 h2;exact ⟨r,s,h.hr,h.hs,h.ne,e⟩) same
 obtain ⟨r,s,hp,ep⟩:=st p hp1 hp2;obtain ⟨r',s',hq,eq⟩:=st q hq1 hq2;have Gp:=G p hp1 om;have Gq:=G q hq1 om;have et:t=(f p).free s:=enters hp3 (by rw [<-ep]; exact hp4);have et':t=(f q).basic r':=leaves Gq hq.hr hq.hs hq.ne ht hq3 (by rw [<-eq]; exact hq4)
 have nn:∀ v,v<t->0<=(f q).point P v:=by
  intro v hv;rcases Gq.all v om with ⟨i,hi,e⟩ | ⟨j,hj,e⟩
  ·rw [<-e,Gq.point_basic hi];rcases (by grind:(f q).a i P.n<0\/0<=(f q).a i P.n) with h | h
   ·have:=hq.least i hi h; omega
   ·exact h
  ·rw [<-e,Gq.point_free hj]; exact Rat.le_refl
 have key:=(Gp.rows _).1 Gq.point_sys r hp.hr
 have hu:(f p).basic r<t:=by
  have h1:=hmax ((f p).basic r) p (p+1) (Gp.bLt r hp.hr) hp1 om om om (by rw [zEP hp.hr,ep,left Gp hp.hr hp.hs hp.ne]; simp);have h2:=Gp.apart r s hp.hr hp.hs;omega
 have hl:=nn _ hu
 have hS:0<=sum P.n fun j=>(f p).a r j*(f q).point P ((f p).free j):=by
  refine zBt fun j hj=>?_
  by_cases hjs:j=s
  ·subst hjs;rw [<-et,et',Gq.point_basic hq.hr];have h1:=hp.elt;have h2:=hq.neg;have:=mul_pos (show 0 < - (f p).a r j by grind) (show 0 < - (f q).a r' P.n by grind);grind
  ·cases hb:(f q).bas P ((f p).free j) with
   | false=>rw [zB8 hb]; grind
   | true=>
    have h1:=hmax ((f p).free j) q p (Gp.fLt j hj) hq1 om hp1 om (by rw [hb,zBw Gp hj]; simp);have h2:(f p).free j ≠ t:=(fun e=>hjs (Gp.fInj j s hj hp.hs (by rw [e,et])));refine mul_nonneg ?_ (nn _ om);rcases (by grind:(f p).a r j<0\/0<=(f p).a r j) with h | h
    ·have:=hp.first j hj h; omega
    ·exact h
 have hneg:=hp.neg;rw [val] at key;grind
structure ISel (P:Prob) (D:Dict) (careful:Bool) (r s:Nat):Prop where
 hs:s<P.n
 cand:LexNeg (P.K+P.n) fun l=>D.cost P l s
 first:careful=true->∀ j,j<P.n->LexNeg (P.K+P.n) (fun l=>D.cost P l j)->D.free s<=D.free j
 hr:r<P.m
 elt:0<D.a r s
 ratio:∀ i,i<P.m->0<D.a i s->D.a r P.n / D.a r s<=D.a i P.n / D.a i s
 least:∀ i,i<P.m->0<D.a i s->D.a r P.n / D.a r s=D.a i P.n / D.a i s->D.basic r<=D.basic i
def Feas (P:Prob) (D:Dict):Prop:=∀ i,i<P.m->0<=D.a i P.n
theorem ISel.ne {P:Prob} {D:Dict} {cf:Bool} {s:Nat} (h:ISel P D cf r s):D.a r s ≠ 0:=by have:=h.elt; grind
theorem zMb {a b:Rat} (ha:0<=a) (hb:0<b):0<=a / b:=by
 rw [Rat.div_def]; exact mul_nonneg ha (Rat.le_of_lt (inv_pos hb))
theorem ISel.feas {P:Prob} {D:Dict} {cf:Bool} {s:Nat} (h:ISel P D cf r s) (F:Feas P D):Feas P (D.pivot r s):=by
 intro i hi;have hsn:P.n ≠ s:=by have:=h.hs; omega
 have h1:0<=(D.a r s)⁻¹*D.a r P.n:=mul_nonneg (Rat.le_of_lt (inv_pos h.elt)) (F r h.hr);by_cases e:i=r
 ·subst e;simp only [Dict.pivot,if_true,scaled,if_neg hsn]; exact h1
 ·simp only [Dict.pivot,if_neg e,elim,scaled,if_neg hsn];have h2:=F i hi;rcases (by grind:D.a i s<=0\/0<D.a i s) with h3 | h3
  ·have:=mul_nonneg (show 0<=- D.a i s by grind) h1;grind
  ·have h4:=h.ratio i hi h3;rw [Rat.div_def,Rat.div_def] at h4;have h5:=mul_nonneg (Rat.le_of_lt h3) (show 0<=D.a i P.n*(D.a i s)⁻¹-D.a r P.n*(D.a r s)⁻¹ by grind)
   have h6:D.a i s*(D.a i s)⁻¹=1:=by
    have:D.a i s ≠ 0:=(by grind);exact Rat.mul_inv_cancel _ this
   generalize (D.a i s)⁻¹=u at *;generalize (D.a r s)⁻¹=p at *;have h7:D.a i s*(D.a i P.n*u-D.a r P.n*p)=(D.a i s*u)*D.a i P.n-D.a i s*(p*D.a r P.n):=(by grind);rw [h7,h6] at h5;grind
def Dict.theta (P:Prob) (D:Dict) (r s:Nat):Rat:=D.a r P.n / D.a r s
theorem zK4 {P:Prob} {D:Dict} (G:Good P D) {s:Nat} (hr:r<P.m) (hs:s<P.n) (h0:D.a r s ≠ 0) {v:Nat} (hv:v<P.n+P.m) :
  (D.pivot r s).point P v=D.point P v+D.theta P r s*D.dir P s v:=by
 have G':=G.pivot hr hs h0;refine G'.unique G'.point_sys (G.dir_sys hs G.point_sys _) (fun j hj=>?_) hv;rw [G'.point_free hj];by_cases e:j=s
 ·subst e;simp only [Dict.pivot,turn,if_true];rw [G.point_basic hr,G.dir_basic hr,Dict.theta];grind
 ·simp only [Dict.pivot,turn,if_neg e];rw [G.point_free hj,G.dir_free hs hj,if_neg e]; grind
theorem zCo {P:Prob} {y:Nat->Rat} (h:∀ v,v<P.n->x v=y v) {l:Nat} (hl:l<P.K+P.n):P.obj l x=P.obj l y:=by
 unfold Prob.obj
 split
 ·exact zAh fun k hk=>by rw [h k hk]
 ·rw [h _ om]
theorem zLB {P:Prob} {D:Dict} (G:Good P D) {s:Nat} (hr:r<P.m) (hs:s<P.n) (h0:D.a r s ≠ 0) {l:Nat} (hl:l<P.K+P.n) :
  P.obj l ((D.pivot r s).point P)=P.obj l (D.point P)-D.theta P r s*D.cost P l s:=by
 rw [<-G.obj_dir hs G.point_sys _ hl];exact zCo (fun v hv=>zK4 G hr hs h0 om) hl
def IStep (P:Prob) (S S':Dict × Bool):Prop:=∃ r s,ISel P S.1 S.2 r s/\S'.1=S.1.pivot r s/\S'.2=decide (S.1.a r P.n=0)
theorem zLZ {z:Nat->Nat->Rat} (hij:i<=j) (h:∀ k,i<=k->k<j->LexNN N fun l=>z (k+1) l-z k l):LexNN N fun l=>z j l-z i l:=by
 induction j with
 | zero=>
  obtain rfl:i=0:=om
  exact .inl fun l _=>by grind
 | succ j ih=>
  by_cases e:i=j+1
  ·subst e; exact .inl fun l _=>by grind
  ·exact ((ih om fun k h1 h2=>h k h1 om).add (h j om om)).congr fun l _=>by grind
theorem zPu {P:Prob} {f:Nat->Dict × Bool} (hij:i<j) (G:∀ k,i<=k->k<=j->Good P (f k).1) (F:∀ k,i<=k->k<=j->Feas P (f k).1)
  (st:∀ k,i<=k->k<j->IStep P (f k) (f (k+1)))
  (same:∀ v,v<P.n+P.m->(f i).1.bas P v=(f j).1.bas P v) (cf:(f i).2=(f j).2):False:=by
 have hpt:∀ v,v<P.n+P.m->(f i).1.point P v=(f j).1.point P v:=fun v hv=>
  (G i om om).unique (G i om om).point_sys (G j om om).point_sys (fun k hk=>by
   rw [(G i om om).point_free hk];have h1:=zBw (G i om om) hk;rw [same _ ((G i om om).fLt k hk)] at h1;exact (zB8 h1).symm) hv
 have step:∀ k,i<=k->k<j->∃ r s,ISel P (f k).1 (f k).2 r s/\(f (k+1)).1=(f k).1.pivot r s/\(f (k+1)).2=decide ((f k).1.a r P.n=0):=st
 have hz:∀ k,i<=k->k<j->∀ r s,ISel P (f k).1 (f k).2 r s->(f (k+1)).1=(f k).1.pivot r s->LexNN (P.K+P.n) fun l=>P.obj l ((f (k+1)).1.point P)-P.obj l ((f k).1.point P):=by
  intro k h1 h2 r s h e;have hth:0<=(f k).1.theta P r s:=zMb (F k h1 om r h.hr) h.elt;refine (LexNN.smul (f:=fun l=>- (f k).1.cost P l s) (.inr h.cand.neg) hth).congr fun l hl=>?_
  rw [e,zLB (G k h1 om) h.hr h.hs h.ne hl]; grind
 have th0:∀ k,i<=k->k<j->∀ r s,ISel P (f k).1 (f k).2 r s->(f (k+1)).1=(f k).1.pivot r s->(f k).1.a r P.n=0:=by
  intro k h1 h2 r s h e;rcases (by have:=F k h1 om r h.hr; grind:(f k).1.a r P.n=0\/0<(f k).1.a r P.n) with h3 | h3
  ·exact h3
  ·exfalso;have hth:0<(f k).1.theta P r s:=by rw [Dict.theta,Rat.div_def]; exact mul_pos h3 (inv_pos h.elt)
   have hp:LexPos (P.K+P.n) fun l=>P.obj l ((f (k+1)).1.point P)-P.obj l ((f k).1.point P):=
    (LexPos.smul (f:=fun l=>- (f k).1.cost P l s) h.cand.neg hth).congr fun l hl=>by
     rw [e,zLB (G k h1 om) h.hr h.hs h.ne hl]; grind
   have ha:LexNN (P.K+P.n) fun l=>P.obj l ((f k).1.point P)-P.obj l ((f i).1.point P):=zLZ (z:=fun k l=>P.obj l ((f k).1.point P)) h1 fun k' a b=>by
    obtain ⟨r,s,h,e,_⟩:=step k' a om;exact hz k' a om r s h e
   have hb:LexNN (P.K+P.n) fun l=>P.obj l ((f j).1.point P)-P.obj l ((f (k+1)).1.point P):=zLZ (z:=fun k l=>P.obj l ((f k).1.point P)) om fun k' a b=>by
    obtain ⟨r,s,h,e,_⟩:=step k' om b;exact hz k' om b r s h e
   have hc:=(hp.add ha).add hb
   exact hc.not_zero fun l hl=>by
    have:=zCo (P:=P) (fun v hv=>hpt v om) hl;grind
 have careful:∀ k,i<=k->k<j->(f k).2=true:=by
  have h1:∀ k,i<=k->k<j->(f (k+1)).2=true:=fun k a b=>by
   obtain ⟨r,s,h,e,e2⟩:=step k a b;rw [e2,th0 k a b r s h e]; simp
  intro k a b;by_cases e:k=i
  ·have:=h1 (j-1) om om;rw [show j-1+1=j by omega] at this;rw [e,cf]; exact this
  ·have:=h1 (k-1) om om
   rwa [show k-1+1=k by omega] at this
 have ptc:∀ k,i<=k->k<=j->∀ v,v<P.n+P.m->(f k).1.point P v=(f i).1.point P v:=by
  intro k
  induction k with
  | zero=>
   intro a b v hv;obtain rfl:i=0:=om
   rfl
  | succ k ih=>
   intro a b v hv;by_cases e:i=k+1
   ·rw [e]
   ·obtain ⟨r,s,h,e,_⟩:=step k om om;rw [e,zK4 (G k om om) h.hr h.hs h.ne hv,Dict.theta,th0 k om om r s h e,ih om om v hv];grind
 obtain ⟨t,ht,hmax,⟨p,hp1,hp2,hp3,hp4⟩,⟨q,hq1,hq2,hq3,hq4⟩⟩:=fickle (f:=fun k=>(f k).1) hij G (fun k h1 h2=>by
  obtain ⟨r,s,h,e,_⟩:=step k h1 h2;exact ⟨r,s,h.hr,h.hs,h.ne,e⟩) same
 obtain ⟨r,s,hp,ep,_⟩:=step p hp1 hp2;obtain ⟨r',s',hq,eq,_⟩:=step q hq1 hq2;have Gp:=G p hp1 om;have Gq:=G q hq1 om;have et:t=(f p).1.free s:=enters hp3 (by rw [<-ep]; exact hp4);have et':t=(f q).1.basic r':=leaves Gq hq.hr hq.hs hq.ne ht hq3 (by rw [<-eq]; exact hq4)
 have zero:∀ v k k',v<P.n+P.m->i<=k->k<=j->i<=k'->k'<=j->(f k).1.bas P v ≠ (f k').1.bas P v->(f i).1.point P v=0:=by
  intro v k k' hv a b c d hne
  cases hb:(f k).1.bas P v with
  | false=>rw [<-ptc k a b v hv]; exact zB8 hb
  | true=>
   have:(f k').1.bas P v=false:=by rw [hb] at hne; cases h:(f k').1.bas P v <;> simp_all
   rw [<-ptc k' c d v hv]; exact zB8 this
 have first:=hp.first (careful p hp1 hp2)
 have hs':(f q).1.free s'<t:=by
  have h1:=hmax ((f q).1.free s') q (q+1) (Gq.fLt _ hq.hs) hq1 om om om (by
   show (f q).1.bas P _ ≠ (f (q+1)).1.bas P _;rw [zBw Gq hq.hs,eq,entered hq.hr]; simp)
  have h2:=Gq.apart r' s' hq.hr hq.hs;omega
 have hcost:∀ l,l<P.K+P.n->(f q).1.cost P l s'=sum P.n fun j=>(f p).1.cost P l j*(f q).1.dir P s' ((f p).1.free j):=by
  intro l hl;have e1:=Gq.obj_dir hq.hs Gq.point_sys 1 hl;have e2:=Gp.cost_val (Gq.dir_sys hq.hs Gq.point_sys 1) hl;have e3:=Gp.cost_val Gq.point_sys hl;rw [e1,e3] at e2;unfold val at e2;rw [zAh (f:=fun j=>(f p).1.cost P l j*((f q).1.point P ((f p).1.free j)+1*(f q).1.dir P s' ((f p).1.free j))) (g:=fun j=>(f p).1.cost P l j*(f q).1.point P ((f p).1.free j)+(f p).1.cost P l j*(f q).1.dir P s' ((f p).1.free j)) (fun _ _=>by grind),zCb] at e2;grind
 have hNN:LexNN (P.K+P.n) fun l=>sum P.n fun j=>(f p).1.cost P l j*(f q).1.dir P s' ((f p).1.free j):=by
  refine LexNN.sum fun j hj=>?_
  have col:(f p).1.free j<t->LexNN (P.K+P.n) fun l=>(f p).1.cost P l j:=fun hlt=>LexNN.of_not fun hn=>by
   have:=first j hj hn; omega
  cases hb:(f q).1.bas P ((f p).1.free j) with
  | false=>
   obtain ⟨k,hk,e⟩:=zBR Gq (Gp.fLt j hj) hb;by_cases hks:k=s'
   ·subst hks;(refine (col (by rw [<-e]; exact hs')).congr fun l hl=>?_);rw [<-e,Gq.dir_free hq.hs hk,if_pos rfl]; grind
   ·(refine .inl fun l hl=>?_);dsimp only
    rw [<-e,Gq.dir_free hq.hs hk,if_neg hks]; grind
  | true=>
   obtain ⟨i',hi',e⟩:=zFe hb;have hle:=hmax ((f p).1.free j) q p (Gp.fLt j hj) hq1 om hp1 om (by show (f q).1.bas P _ ≠ (f p).1.bas P _; rw [hb,zBw Gp hj]; simp);by_cases hjt:(f p).1.free j=t
   ·have hjs:j=s:=Gp.fInj j s hj hp.hs (by rw [hjt,et]);have hi'r:i'=r':=Gq.bInj _ _ hi' hq.hr (by rw [e,hjt,et']);subst hjs;(refine (LexNN.smul (f:=fun l=>- (f p).1.cost P l j) (.inr hp.cand.neg) (Rat.le_of_lt hq.elt)).congr fun l hl=>?_);rw [<-e,Gq.dir_basic hi',hi'r]; grind
   ·have hlt:(f p).1.free j<t:=om
    have hd:(f q).1.a i' s'<=0:=by
     rcases (by grind:(f q).1.a i' s'<=0\/0<(f q).1.a i' s') with h | h
     ·exact h
     ·exfalso;have z1:=zero ((f p).1.free j) q p (Gp.fLt j hj) hq1 om hp1 om (by rw [hb,zBw Gp hj]; simp);have z2:(f q).1.a i' P.n=0:=by rw [<-Gq.point_basic hi',e,ptc q hq1 om _ (Gp.fLt j hj)]; exact z1
      have z3:=th0 q hq1 hq2 r' s' hq eq;have:=hq.least i' hi' h (by rw [z2,z3]; grind);omega
    (refine (LexNN.smul (col hlt) (show 0<=- (f q).1.a i' s' by grind)).congr fun l hl=>?_);rw [<-e,Gq.dir_basic hi']; grind
 exact (hNN.congr (fun l hl=>(hcost l hl).symm)).not hq.cand
end Go.Proofs.YtbpngececjihlaaGreat.Lin
namespace Go.Proofs.YtbpngececjihlaaGreat.Lin
variable {N r k:Nat} {x:Nat->Rat}
def code (p:Nat->Bool):Nat->Nat
 | 0=>0
 | N+1=>code p N+if p N then 2 ^ N else 0
theorem zFg (p:Nat->Bool) (N:Nat):code p N<2 ^ N:=by
 induction N with
 | zero=>simp [code]
 | succ N ih=>simp only [code,Nat.pow_succ]; split <;> omega
theorem zGV {p q:Nat->Bool} (h:code p N=code q N):∀ v,v<N->p v=q v:=by
 induction N with
 | zero=>intro v hv; omega
 | succ N ih=>
  have h1:=zFg p N;have h2:=zFg q N;simp only [code] at h
  have h3:p N=q N:=by
   cases hp:p N <;> cases hq:q N <;> simp [hp,hq] at h ⊢ <;> omega
  rw [h3] at h;intro v hv;by_cases e:v=N
  ·rw [e]; exact h3
  ·exact ih om v om
theorem pigeon:∀ (M L:Nat) (f:Nat->Nat),(∀ i,i<L->f i<M)->(∀ i j,i<j->j<L->f i ≠ f j)->L<=M:=by
 intro M
 induction M with
 | zero=>
  intro L f h _;rcases Nat.eq_zero_or_pos L with h0 | h0
  ·omega
  ·have:=h 0 h0; omega
 | succ M ih=>
  intro L f h inj;by_cases hex:∃ i,i<L/\f i=M
  ·obtain ⟨i0,hi0,e0⟩:=hex;have:=ih (L-1) (fun i=>f (if i<i0 then i else i+1)) ?_ ?_
   ·omega
   ·intro i hi;by_cases h1:i<i0
    ·simp only [h1,if_true];have h2:=h i om;have h3:=inj i i0 h1 hi0;omega
    ·simp only [h1,if_false];have h2:=h (i+1) om;have h3:=inj i0 (i+1) om om;omega
   ·intro i j hij hj;have:=inj (if i<i0 then i else i+1) (if j<i0 then j else j+1) (by split <;> split <;> omega) (by split <;> omega);exact this
  ·have:=ih L f (fun i hi=>by have:=h i hi; have:f i ≠ M:=fun e=>hex ⟨i,hi,e⟩; omega) inj;omega
theorem zHv (p:Nat->Prop) (h0:p 0) (M:Nat):∃ t,p t/\∀ L,L<=M->p L->L<=t:=by
 induction M with
 | zero=>exact ⟨0,h0,fun L h _=>h⟩
 | succ M ih=>
  by_cases hp:p (M+1)
  ·exact ⟨M+1,hp,fun L h _=>h⟩
  ·obtain ⟨t,h1,h2⟩:=ih;refine ⟨t,h1,fun L h h3=>?_⟩;by_cases e:L=M+1
   ·rw [e] at h3; exact absurd h3 hp
   ·exact h2 L om h3
theorem zIQ {α:Type} (good:α->Prop) (step:α->α->Prop) (M:Nat)
  (bound:∀ (f:Nat->α) (L:Nat),good (f 0)->(∀ i,i<L->step (f i) (f (i+1)))->L<=M) :
  ∃ rank:α->Nat,∀ a b,good a->step a b->rank b<rank a:=by
 have ex:∀ a,∃ t,(∃ f:Nat->α,f 0=a/\∀ i,i<t->step (f i) (f (i+1)))/\∀ L,L<=M->(∃ f:Nat->α,f 0=a/\∀ i,i<L->step (f i) (f (i+1)))->L<=t:=
  fun a=>zHv (fun L=>∃ f:Nat->α,f 0=a/\∀ i,i<L->step (f i) (f (i+1))) ⟨fun _=>a,rfl,fun i hi=>om⟩ M
 refine ⟨fun a=>Classical.choose (ex a),fun a b ga hs=>?_⟩;dsimp only;obtain ⟨⟨f,hf0,hf⟩,_⟩:=Classical.choose_spec (ex b);have ha:=(Classical.choose_spec (ex a)).2;generalize Classical.choose (ex b)=L at *;generalize Classical.choose (ex a)=L' at *
 have run:∃ f:Nat->α,f 0=a/\∀ i,i<L+1->step (f i) (f (i+1)):=by
  refine ⟨fun i=>match i with | 0=>a | i+1=>f i,rfl,fun i hi=>?_⟩
  cases i with
  | zero=>simpa [hf0] using hs
  | succ i=>exact hf i om
 have hle:L+1<=M:=by
  obtain ⟨g,hg0,hg⟩:=run;exact bound g (L+1) (by rw [hg0]; exact ga) hg
 have:=ha _ hle run;omega
def RStep (P:Prob) (D D':Dict):Prop:=∃ r s,RSel P D r s/\D'=D.pivot r s
theorem zF2 (P:Prob):∃ rank:Dict->Nat,∀ D r s,Good P D->RSel P D r s->rank (D.pivot r s)<rank D:=by
 obtain ⟨rank,h⟩:=zIQ (Good P) (RStep P) (2 ^ (P.n+P.m)) (fun f L h0 st=>by
  have G:∀ k,k<=L->Good P (f k):=by
   intro k
   induction k with
   | zero=>intro _; exact h0
   | succ k ih=>
    intro hk;obtain ⟨r,s,h,e⟩:=st k om;rw [e]; exact (ih om).pivot h.hr h.hs h.ne
  have:=pigeon (2 ^ (P.n+P.m)) (L+1) (fun k=>code ((f k).bas P) (P.n+P.m)) (fun _ _=>zFg _ _) (fun i j hij hj e=>
   zF1 hij (fun k _ h=>G k om) (fun k _ h=>st k om) (zGV e))
  omega)
 exact ⟨rank,fun D r s G h1=>h D _ G ⟨r,s,h1,rfl⟩⟩
theorem zPv (P:Prob):∃ rank:Dict->Bool->Nat,∀ D cf r s,Good P D->Feas P D->ISel P D cf r s->rank (D.pivot r s) (decide (D.a r P.n=0))<rank D cf:=by
 obtain ⟨rank,h⟩:=zIQ (fun S:Dict × Bool=>Good P S.1/\Feas P S.1) (IStep P) (2 ^ (P.n+P.m)*2) (fun f L h0 st=>by
  have G:∀ k,k<=L->Good P (f k).1/\Feas P (f k).1:=by
   intro k
   induction k with
   | zero=>intro _; exact h0
   | succ k ih=>
    intro hk;obtain ⟨r,s,h,e,_⟩:=st k om;rw [e]; exact ⟨(ih om).1.pivot h.hr h.hs h.ne,h.feas (ih om).2⟩
  have:=pigeon (2 ^ (P.n+P.m)*2) (L+1) (fun k=>code ((f k).1.bas P) (P.n+P.m)*2+if (f k).2 then 1 else 0) (fun k _=>by
    have:=zFg ((f k).1.bas P) (P.n+P.m)
    split <;> omega) (fun i j hij hj e=>by
   have e1:code ((f i).1.bas P) (P.n+P.m)=code ((f j).1.bas P) (P.n+P.m):=by split at e <;> split at e <;> omega
   have e2:(f i).2=(f j).2:=by cases h1:(f i).2 <;> cases h2:(f j).2 <;> simp [h1,h2] at e ⊢ <;> omega
   exact zPu hij (fun k _ h=>(G k om).1) (fun k _ h=>(G k om).2) (fun k _ h=>st k om) (zGV e1) e2)
  omega)
 exact ⟨fun D cf=>rank (D,cf),fun D cf r s G F h1=>h (D,cf) (D.pivot r s,_) ⟨G,F⟩ ⟨r,s,h1,rfl,rfl⟩⟩
def Prob.Feasible (P:Prob) (x:Nat->Rat):Prop:=(∀ k,k<P.n->0<=x k)/\∀ i,i<P.m->sum P.n (fun k=>P.A i k*x k)<=P.b i
def Prob.full (P:Prob) (x:Nat->Rat) (v:Nat):Rat:=if v<P.n then x v else P.b (v-P.n)-sum P.n fun k=>P.A (v-P.n) k*x k
theorem zJe (P:Prob) (x:Nat->Rat):P.Sys (P.full x):=by
 intro i hi;simp only [Prob.full,if_neg (show ¬ P.n+i<P.n by omega),show P.n+i-P.n=i by omega];rw [zAh (f:=fun k=>P.A i k*if k<P.n then x k else P.b (k-P.n)-sum P.n fun k_1=>P.A (k-P.n) k_1*x k_1) (g:=fun k=>P.A i k*x k) (fun k hk=>by rw [if_pos hk])]
theorem zEg {P:Prob} (h:P.Feasible x) {v:Nat} (hv:v<P.n+P.m):0<=P.full x v:=by
 unfold Prob.full
 split
 ·rename_i h1; exact h.1 v h1
 ·have:=h.2 (v-P.n) om; grind
theorem zM1 {P:Prob} {v:Nat} (hv:v<P.n):P.full x v=x v:=if_pos hv
theorem zGu {P:Prob} (hx:P.Sys x) (h:∀ v,v<P.n+P.m->0<=x v):P.Feasible x:=
 ⟨fun k hk=>h k om,fun i hi=>by have h1:=hx i hi; have h2:=h (P.n+i) om; grind⟩
theorem Good.point_nonneg {P:Prob} {D:Dict} (G:Good P D) (F:Feas P D) {v:Nat} (hv:v<P.n+P.m):0<=D.point P v:=by
 rcases G.all v hv with ⟨i,hi,e⟩ | ⟨j,hj,e⟩
 ·rw [<-e,G.point_basic hi]; exact F i hi
 ·rw [<-e,G.point_free hj]; exact Rat.le_refl
theorem zB6 {P:Prob} {D:Dict} (G:Good P D) (hr:r<P.m) (h0:D.a r P.n<0) (h:∀ j,j<P.n->0<=D.a r j) (x:Nat->Rat):¬ P.Feasible x:=by
 intro hx;have h1:=(G.rows _).1 (zJe P x) r hr;have h2:=zEg hx (G.bLt r hr);have h3:0<=sum P.n fun j=>D.a r j*P.full x (D.free j):=zBt fun j hj=>mul_nonneg (h j hj) (zEg hx (G.fLt j hj))
 rw [val] at h1;grind
def Prob.Better (P:Prob) (x y:Nat->Rat):Prop:=LexPos (P.K+P.n) fun l=>P.obj l x-P.obj l y
def Prob.Optimal (P:Prob) (x:Nat->Rat):Prop:=P.Feasible x/\∀ y,P.Feasible y->P.Better x y\/∀ k,k<P.n->y k=x k
def Prob.Unbounded (P:Prob) (x d:Nat->Rat):Prop:=
 P.Feasible x/\(∀ k,k<P.n->0<=d k)/\(∀ i,i<P.m->sum P.n (fun k=>P.A i k*d k)<=0)/\LexPos P.K fun l=>sum P.n fun k=>P.O l k*d k
theorem zPC {P:Prob} {D:Dict} (G:Good P D) (F:Feas P D) (h:∀ j,j<P.n->¬ LexNeg (P.K+P.n) fun l=>D.cost P l j):P.Optimal (D.point P):=by
 refine ⟨zGu G.point_sys fun v hv=>G.point_nonneg F hv,fun y hy=>?_⟩
 have hN:LexNN (P.K+P.n) fun l=>sum P.n fun j=>D.cost P l j*P.full y (D.free j):=LexNN.sum fun j hj=>
  (LexNN.smul (LexNN.of_not (h j hj)) (zEg hy (G.fLt j hj))).congr fun l _=>by grind
 have hd:LexNN (P.K+P.n) fun l=>P.obj l (D.point P)-P.obj l y:=hN.congr fun l hl=>by
  rw [G.obj_point hl,zCo (y:=P.full y) (fun v hv=>(zM1 hv).symm) hl,G.cost_val (zJe P y) hl,val]; grind
 rcases hd with hd | hd
 ·refine .inr fun k hk=>?_
  have:=hd (P.K+k) om;simp only [Prob.obj,if_neg (show ¬ P.K+k<P.K by omega),show P.K+k-P.K=k by omega] at this;grind
 ·exact .inl hd
theorem zLo {P:Prob} (g x d:Nat->Rat) (t:Rat):sum P.n (fun k=>g k*(x k+t*d k))=sum P.n (fun k=>g k*x k)+t*sum P.n fun k=>g k*d k:=by
 rw [<-zBK,<-zCb];exact zAh fun k _=>by grind
theorem zLG {P:Prob} {D:Dict} (G:Good P D) (F:Feas P D) {s:Nat} (hs:s<P.n) (hc:LexNeg (P.K+P.n) fun l=>D.cost P l s) (h:∀ i,i<P.m->D.a i s<=0):P.Unbounded (D.point P) (D.dir P s):=by
 have hd:∀ v,v<P.n+P.m->0<=D.dir P s v:=by
  intro v hv;rcases G.all v hv with ⟨i,hi,e⟩ | ⟨j,hj,e⟩
  ·rw [<-e,G.dir_basic hi]; have:=h i hi; grind
  ·rw [<-e,G.dir_free hs hj]; split <;> grind
 refine ⟨zGu G.point_sys fun v hv=>G.point_nonneg F hv,fun k hk=>hd k om,fun i hi=>?_,?_⟩
 ·have h1:=G.dir_sys hs G.point_sys 1 i hi;have h2:=G.point_sys i hi;dsimp only at h1;rw [zLo,h2] at h1;have:=hd (P.n+i) om;grind
 ·
  have e:∀ l,l<P.K+P.n->P.obj l (D.dir P s)=- D.cost P l s:=by
   intro l hl;have h1:=G.obj_dir hs G.point_sys 1 hl
   have h2:P.obj l (fun v=>D.point P v+1*D.dir P s v)=P.obj l (D.point P)+P.obj l (D.dir P s):=by
    unfold Prob.obj
    split
    ·rw [zLo]; grind
    ·grind
   grind
  obtain ⟨i,hi,h1,h2⟩:=hc
  have hiK:i<P.K:=by
   rcases Nat.lt_or_ge i P.K with h3 | h3
   ·exact h3
   ·exfalso;have h4:=e i hi;simp only [Prob.obj,if_neg (show ¬ i<P.K by omega)] at h4;have:=hd (i-P.K) om;grind
  refine ⟨i,hiK,?_,fun j hj=>?_⟩
  ·have h4:=e i hi;simp only [Prob.obj,if_pos hiK] at h4;grind
  ·have h4:=e j om;simp only [Prob.obj,if_pos (show j<P.K by omega)] at h4;have:=h2 j hj;grind
theorem Prob.Unbounded.move {P:Prob} {d:Nat->Rat} (h:P.Unbounded x d) {y:Nat->Rat} (hy:P.Feasible y) {t:Rat} (ht:0<=t):P.Feasible fun k=>y k+t*d k:=by
 refine ⟨fun k hk=>?_,fun i hi=>?_⟩
 ·have:=mul_nonneg ht (h.2.1 k hk); have:=hy.1 k hk; grind
 ·rw [zLo];have:=zHC ht (h.2.2.1 i hi); have:=hy.2 i hi; grind
theorem Prob.Unbounded.rise {P:Prob} {d:Nat->Rat} (h:P.Unbounded x d) (y:Nat->Rat) {t:Rat} (ht:0<t):LexPos P.K fun l=>sum P.n (fun k=>P.O l k*(y k+t*d k))-sum P.n fun k=>P.O l k*y k:=
 (h.2.2.2.smul ht).congr fun l _=>by rw [zLo]; grind
theorem Prob.Unbounded.no_optimal {P:Prob} {d:Nat->Rat} (h:P.Unbounded x d) (y:Nat->Rat):¬ P.Optimal y:=by
 intro ho;have h1:=h.rise y (t:=1) dj;have h2:=h.move ho.1 (t:=1) dj;obtain ⟨i,hi,h3,h4⟩:=h1
 have hb:LexPos (P.K+P.n) fun l=>P.obj l (fun k=>y k+1*d k)-P.obj l y:=by
  refine ⟨i,om,?_,fun j hj=>?_⟩
  ·simp only [Prob.obj,if_pos hi]; exact h3
  ·simp only [Prob.obj,if_pos (show j<P.K by omega)]; exact h4 j hj
 rcases ho.2 _ h2 with h5 | h5
 ·refine LexNeg.not_pos (hb.neg.congr fun l _=>?_) h5;grind
 ·have h6:=hb.not_zero;refine h6 fun l hl=>?_
  dsimp only;rw [zCo (fun k hk=>h5 k hk) hl]; grind
theorem Prob.Optimal.unique {P:Prob} {y:Nat->Rat} (hx:P.Optimal x) (hy:P.Optimal y) (hk:k<P.n):x k=y k:=by
 rcases hx.2 y hy.1 with h | h
 ·rcases hy.2 x hx.1 with h' | h'
  ·exfalso;refine LexNeg.not_pos (h.neg.congr fun l _=>?_) h';grind
  ·exact h' k hk
 ·exact (h k hk).symm
end Go.Proofs.YtbpngececjihlaaGreat.Lin
namespace Go.Proofs.YtbpngececjihlaaGreat.Lin
variable {q:Rat} {d k r N n:Nat} {z:Int}
def Fits (k:Nat) (q:Rat):Prop:=q.num.natAbs<=2 ^ k/\q.den<=2 ^ k
theorem zGx {n:Int} (hd:d ≠ 0) (e:q=mkRat n d) (hn:n.natAbs<=2 ^ k) (hk:d<=2 ^ k):Fits k q:=by
 obtain ⟨m,hm,h1,h2⟩:=Rat.mkRat_num_den hd (show mkRat n d=⟨q.num,q.den,q.den_nz,q.reduced⟩ from e.symm);constructor
 ·rw [h1,Int.natAbs_mul] at hn;have:q.num.natAbs*1<=q.num.natAbs*(m:Int).natAbs:=Nat.mul_le_mul_left _ om;omega
 ·rw [h2] at hk;have:q.den*1<=q.den*m:=Nat.mul_le_mul_left _ om;omega
theorem Fits.mono {l:Nat} (h:Fits k q) (hl:k<=l):Fits l q:=
 have:2 ^ k<=2 ^ l:=Nat.pow_le_pow_right om hl
 ⟨nlt h.1 this,nlt h.2 this⟩
theorem Fits.mul {l:Nat} {p:Rat} (h:Fits k p) (h':Fits l q):Fits (k+l) (p*q):=by
 refine zGx (n:=p.num*q.num) (d:=p.den*q.den) (by have:=p.den_nz; have:=q.den_nz; exact Nat.mul_ne_zero ‹_› ‹_›) ?_ ?_ ?_
 ·rw [<-Rat.mkRat_mul_mkRat,Rat.mkRat_self,Rat.mkRat_self]
 ·rw [Int.natAbs_mul,Nat.pow_add]; exact Nat.mul_le_mul h.1 h'.1
 ·rw [Nat.pow_add]; exact Nat.mul_le_mul h.2 h'.2
theorem Fits.add {l:Nat} {p:Rat} (h:Fits k p) (h':Fits l q):Fits (k+l+1) (p+q):=by
 refine zGx (n:=p.num*q.den+q.num*p.den) (d:=p.den*q.den) (by have:=p.den_nz; have:=q.den_nz; exact Nat.mul_ne_zero ‹_› ‹_›) ?_ ?_ ?_
 ·rw [<-Rat.mkRat_add_mkRat _ _ p.den_nz q.den_nz,Rat.mkRat_self,Rat.mkRat_self]
 ·have h1:(p.num*q.den).natAbs<=2 ^ k*2 ^ l:=by rw [Int.natAbs_mul]; exact Nat.mul_le_mul h.1 h'.2
  have h2:(q.num*p.den).natAbs<=2 ^ k*2 ^ l:=by rw [Int.natAbs_mul,Nat.mul_comm]; exact Nat.mul_le_mul h.2 h'.1
  have h3:=Int.natAbs_add_le (p.num*q.den) (q.num*p.den);rw [Nat.pow_succ,Nat.pow_add]; omega
 ·have:p.den*q.den<=2 ^ k*2 ^ l:=Nat.mul_le_mul h.2 h'.2;rw [Nat.pow_succ,Nat.pow_add]; omega
theorem Fits.neg {p:Rat} (h:Fits k p):Fits k (- p):=⟨by show (- p.num).natAbs<=_; rw [Int.natAbs_neg]; exact h.1,h.2⟩
theorem Fits.sub {l:Nat} {p:Rat} (h:Fits k p) (h':Fits l q):Fits (k+l+1) (p-q):=by rw [Rat.sub_eq_add_neg]; exact h.add h'.neg
theorem Fits.zero (k:Nat):Fits k 0:=⟨by show 0<=_; exact nzl _,by show 1<=_; exact Nat.pow_pos om⟩
theorem Fits.one (k:Nat):Fits k 1:=⟨by show 1<=_; exact Nat.pow_pos om,by show 1<=_; exact Nat.pow_pos om⟩
theorem Fits.inv {p:Rat} (h:Fits k p):Fits k p⁻¹:=by
 rcases Decidable.em (p=0) with h0 | h0
 ·rw [h0,Rat.inv_zero]; exact Fits.zero k
 ·have hn:p.num ≠ 0:=fun e=>h0 (Rat.num_eq_zero.1 e)
  refine zGx (n:=p.num.sign*p.den) (d:=p.num.natAbs) om ?_ ?_ h.1
  ·rw [Rat.inv_def,Rat.divInt_eq_div,Rat.mkRat_eq_div]
   have e1:(p.num:Rat)=(p.num.sign:Rat)*(p.num.natAbs:Rat):=by
    have:=Int.sign_mul_natAbs p.num;exact_mod_cast this.symm
   have hs:(p.num.sign:Rat)*(p.num.sign:Rat)=1:=by
    have:p.num.sign*p.num.sign=1:=by
     rcases Int.lt_trichotomy p.num 0 with h | h | h
     ·rw [Int.sign_eq_neg_one_of_neg h]; rfl
     ·exact absurd h hn
     ·rw [Int.sign_eq_one_of_pos h]; rfl
    exact_mod_cast this
   have hs0:(p.num.sign:Rat) ≠ 0:=by intro e; rw [e] at hs; grind
   have hn0:(p.num.natAbs:Rat) ≠ 0:=by
    have:p.num.natAbs ≠ 0:=om;exact_mod_cast this
   rw [e1];push_cast;grind
  ·rw [Int.natAbs_mul,Int.natAbs_sign_of_ne_zero hn]; simpa using h.2
theorem Fits.ofInt (h:z.natAbs<=2 ^ k):Fits k (z:Rat):=⟨by simpa using h,by simp; exact Nat.pow_pos om⟩
def Dict.Fits (P:Prob) (D:Dict) (k:Nat):Prop:=(∀ i j,i<P.m->j<=P.n->Lin.Fits k (D.a i j))/\∀ l j,l<P.K->j<=P.n->Lin.Fits k (D.c l j)
theorem zHF {P:Prob} {D:Dict} {s:Nat} (h:D.Fits P k) (hr:r<P.m) (hs:s<P.n):(D.pivot r s).Fits P (4*k+1):=by
 have hb:∀ j,j<=P.n->Lin.Fits (2*k) (scaled s (D.a r) j):=by
  intro j hj;unfold scaled
  split
  ·exact (h.1 r s hr om).inv.mono om
  ·exact ((h.1 r s hr om).inv.mul (h.1 r j hr hj)).mono om
 have he:∀ R:Nat->Rat,(∀ j,j<=P.n->Lin.Fits k (R j))->∀ j,j<=P.n->Lin.Fits (4*k+1) (elim s (scaled s (D.a r)) R j):=by
  intro R hR j hj;unfold elim;have h1:=(hR s om).mul (hb j hj)
  split
  ·exact ((Fits.zero k).sub h1).mono om
  ·exact ((hR j hj).sub h1).mono om
 constructor
 ·intro i j hi hj;simp only [Dict.pivot]
  split
  ·exact (hb j hj).mono om
  ·exact he _ (fun j hj=>h.1 i j hi hj) j hj
 ·intro l j hl hj;exact he _ (fun j hj=>h.2 l j hl hj) j hj
def count (p:Nat->Bool):Nat->Nat
 | 0=>0
 | N+1=>count p N+if p N then 1 else 0
theorem zFj {p q:Nat->Bool} (N:Nat) (h:∀ v,v<N->p v=true->q v=true):count p N<=count q N:=by
 induction N with
 | zero=>exact nlr _
 | succ N ih=>
  have:=ih fun v hv=>h v om
  have h1:=h N om;simp only [count];cases hp:p N <;> cases hq:q N <;> simp_all <;> omega
theorem zI8 {p q:Nat->Bool} {u:Nat} (h:∀ v,v<N->p v=true->q v=true) (hu:u<N) (h1:p u=false) (h2:q u=true):count p N<count q N:=by
 induction N with
 | zero=>omega
 | succ N ih=>
  simp only [count];by_cases e:u=N
  ·subst e;have:=zFj u fun v hv=>h v om
   simp [h1,h2]; omega
  ·have:=ih (fun v hv=>h v om) om;have h1:=h N om;cases hp:p N <;> cases hq:q N <;> simp_all <;> omega
theorem zHs {p:Nat->Bool} (h:count p N=0):∀ v,v<N->p v=false:=by
 induction N with
 | zero=>intro v hv; omega
 | succ N ih=>
  simp only [count] at h;intro v hv;by_cases e:v=N
  ·subst e; cases hp:p v with
   | false=>rfl
   | true=>simp [hp] at h
  ·exact ih om v om
theorem zGo {p:Nat->Bool} :∀ N,(∀ v,n<=v->p v=false)->count p N<=n:=by
 intro N
 induction N with
 | zero=>intro _; simp [count]
 | succ N ih=>
  intro h;have h1:=ih h;simp only [count];by_cases e:n<=N
  ·simp [h N e]; exact h1
  ·have h2:∀ N,count p N<=N:=fun N=>by
    induction N with
    | zero=>exact nlr _
    | succ N ih=>simp only [count]; split <;> omega
   have:=h2 N
   split <;> omega
theorem zJw {P:Prob} {C D:Dict} (GC:Good P C) (GD:Good P D) (h:∀ v,v<P.n+P.m->D.bas P v=true->C.bas P v=true):∀ v,v<P.n+P.m->C.bas P v=D.bas P v:=by
 intro v hv
 cases hd:D.bas P v with
 | true=>exact h v hv hd
 | false=>
  cases hc:C.bas P v with
  | false=>rfl
  | true=>
   exfalso;obtain ⟨s,hs,e⟩:=zBR GD hv hd
   have h1:=GC.unique (GD.dir_sys hs GD.point_sys 1) GD.point_sys (fun j hj=>by
    have h2:D.bas P (C.free j)=false:=by
     cases h3:D.bas P (C.free j) with
     | false=>rfl
     | true=>have:=h _ (GC.fLt j hj) h3; rw [zBw GC hj] at this; cases this
    obtain ⟨k,hk,e2⟩:=zBR GD (GC.fLt j hj) h2;rw [<-e2,GD.dir_free hs hk,if_neg]
    ·grind
    ·rintro rfl;have:C.free j=v:=by rw [<-e2]; exact e
     rw [<-this,zBw GC hj] at hc; cases hc) hv
   rw [<-e,GD.dir_free hs hs,if_pos rfl] at h1;grind
theorem path {P:Prob} {D:Dict} (GD:Good P D):∀ (N:Nat) (C:Dict) (k:Nat),Good P C->C.Fits P k->1<=k->count (fun v=>D.bas P v && ! C.bas P v) (P.n+P.m)<=N->
  ∃ C',Good P C'/\C'.Fits P (5 ^ N*k)/\∀ v,v<P.n+P.m->C'.bas P v=D.bas P v:=by
 intro N
 induction N with
 | zero=>
  intro C k GC hF _ hN;refine ⟨C,GC,by simpa using hF,zJw GC GD fun v hv hb=>?_⟩;have:=zHs (Nat.le_zero.1 hN) v hv
  simpa [hb] using this
 | succ N ih=>
  intro C k GC hF hk hN;by_cases hex:∃ u,u<P.n+P.m/\D.bas P u=true/\C.bas P u=false
  ·obtain ⟨u,hu,hub,huc⟩:=hex;obtain ⟨s,hs,es⟩:=zBR GC hu huc
   have hr:∃ r,r<P.m/\D.bas P (C.basic r)=false/\C.a r s ≠ 0:=by
    apply Classical.byContradiction;intro hno
    have h1:=GD.unique (GC.dir_sys hs GC.point_sys 1) GC.point_sys (fun j hj=>by
     have hj1:D.bas P (D.free j)=false:=zBw GD hj
     cases hc:C.bas P (D.free j) with
     | true=>
      obtain ⟨i,hi,e⟩:=zFe hc;rw [<-e,GC.dir_basic hi];have:C.a i s=0:=Classical.byContradiction fun h0=>hno ⟨i,hi,by rw [e]; exact hj1,h0⟩
      rw [this]; grind
     | false=>
      obtain ⟨i,hi,e⟩:=zBR GC (GD.fLt j hj) hc;rw [<-e,GC.dir_free hs hi,if_neg]
      ·grind
      ·rintro rfl;rw [<-e,es,hub] at hj1; cases hj1) hu
    rw [<-es,GC.dir_free hs hs,if_pos rfl] at h1;grind
   obtain ⟨r,hr,hrd,h0⟩:=hr;have GC':=GC.pivot hr hs h0;have hF':=(zHF (r:=r) (s:=s) hF hr hs)
   obtain ⟨C',g1,g2,g3⟩:=ih (C.pivot r s) (5*k) GC' ⟨fun i j hi hj=>(hF'.1 i j hi hj).mono om,fun l j hl hj=>(hF'.2 l j hl hj).mono om⟩ om (by
    refine Nat.le_of_lt_succ (ltl (zI8 (u:=u) (fun v hv hp=>?_) hu ?_ ?_) hN)
    ·simp only [Bool.and_eq_true,Bool.not_eq_true'] at hp ⊢;refine ⟨hp.1,?_⟩
     cases hc:C.bas P v with
     | false=>rfl
     | true=>
      have:=leaves GC hr hs h0 hv hc hp.2;rw [this,hrd] at hp; cases hp.1
    ·rw [<-es,entered hr]; simp
    ·simp [hub,huc])
   refine ⟨C',g1,?_,g3⟩;rw [Nat.pow_succ,Nat.mul_assoc]; exact g2
  ·obtain ⟨C',g1,g2,g3⟩:=ih C k GC hF hk (by
    have:count (fun v=>D.bas P v && ! C.bas P v) (P.n+P.m)<=count (fun _=>false) (P.n+P.m):=zFj _ fun v hv hp=>by
     simp only [Bool.and_eq_true,Bool.not_eq_true'] at hp;exact absurd ⟨v,hv,hp.1,hp.2⟩ hex
    have h0:∀ N,count (fun _=>false) N=0:=fun N=>by induction N <;> simp_all [count]
    rw [h0] at this; omega)
   have h5:5 ^ N*k<=5 ^ (N+1)*k:=Nat.mul_le_mul_right _ (Nat.pow_le_pow_right om om);exact ⟨C',g1,⟨fun i j hi hj=>(g2.1 i j hi hj).mono h5,fun l j hl hj=>(g2.2 l j hl hj).mono h5⟩,g3⟩
theorem zIT (P:Prob) {v:Nat} (h1:P.n<=v) (hv:v<P.n+P.m):P.start.bas P v=true:=by
 have:=zEP (P:=P) (D:=P.start) (i:=v-P.n) om;simpa [Prob.start,show P.n+(v-P.n)=v by omega] using this
theorem Good.fits {P:Prob} {D:Dict} (G:Good P D) (hk:1<=k) (h0:P.start.Fits P k):D.Fits P (5 ^ P.n*k):=by
 obtain ⟨C,GC,hF,hb⟩:=path G P.n P.start k P.start_good h0 hk (by
  refine nlt (zFj (q:=fun v=>decide (v<P.n)) _ fun v hv hp=>?_) (zGo _ (fun v hv=>by simp; omega));simp only [Bool.and_eq_true,Bool.not_eq_true'] at hp;rcases Nat.lt_or_ge v P.n with h | h
  ·simpa using h
  ·rw [zIT P h hv] at hp; cases hp.2)
 have hfree:∀ j,j<P.n->∃ j',j'<P.n/\C.free j'=D.free j:=fun j hj=>
  zBR GC (G.fLt j hj) (by rw [hb _ (G.fLt j hj)]; exact zBw G hj)
 have hpt:∀ v,v<P.n+P.m->D.point P v=C.point P v:=fun v hv=>G.unique G.point_sys GC.point_sys (fun j hj=>by
  rw [G.point_free hj,zB8 (by rw [hb _ (G.fLt j hj)]; exact zBw G hj)]) hv
 have hdir:∀ j j',j<P.n->j'<P.n->C.free j'=D.free j->∀ v,v<P.n+P.m->D.dir P j v=C.dir P j' v:=by
  intro j j' hj hj' e v hv
  have h1:=G.unique (G.dir_sys hj G.point_sys 1) (GC.dir_sys hj' GC.point_sys 1) (fun i hi=>by
   rw [hpt _ (G.fLt i hi),G.dir_free hj hi];obtain ⟨i',hi',e'⟩:=hfree i hi;rw [<-e',GC.dir_free hj' hi'];by_cases h:i=j
   ·have:i'=j':=GC.fInj _ _ hi' hj' (by rw [e',h,e]);rw [if_pos h,if_pos this]
   ·have:i' ≠ j':=(fun h'=>h (G.fInj _ _ hi hj (by rw [<-e',h',e])));rw [if_neg h,if_neg this]) hv
  have:=hpt v hv;grind
 constructor
 ·intro i j hi hj;obtain ⟨i',hi',ei⟩:∃ i',i'<P.m/\C.basic i'=D.basic i:=zFe (by rw [hb _ (G.bLt i hi)]; exact zEP hi);by_cases hjn:j=P.n
  ·have h1:=hpt _ (G.bLt i hi);rw [G.point_basic hi,<-ei,GC.point_basic hi'] at h1;rw [hjn,h1]; exact hF.1 _ _ hi' om
  ·obtain ⟨j',hj',ej⟩:=hfree j om;have h1:=hdir j j' om hj' ej _ (G.bLt i hi);rw [G.dir_basic hi,<-ei,GC.dir_basic hi'] at h1;have:D.a i j=C.a i' j':=(by grind);rw [this]; exact hF.1 _ _ hi' om
 ·intro l j hl hj;have hc:∀ j,D.cost P l j=D.c l j:=fun j=>by simp [Dict.cost,hl]
  have hc':∀ j,C.cost P l j=C.c l j:=fun j=>by simp [Dict.cost,hl]
  by_cases hjn:j=P.n
  ·have h1:=G.obj_point (l:=l) om;rw [zCo (fun v hv=>hpt v om) om,GC.obj_point om,hc,hc'] at h1;rw [hjn,<-h1]; exact hF.2 _ _ hl om
  ·obtain ⟨j',hj',ej⟩:=hfree j om;have h1:=G.obj_dir (s:=j) om G.point_sys 1 (l:=l) om;have h2:=GC.obj_dir (s:=j') hj' GC.point_sys 1 (l:=l) om;rw [zCo (y:=fun v=>C.point P v+1*C.dir P j' v) (fun v hv=>by rw [hpt v om,hdir j j' om hj' ej v om]) om,h2,zCo (x:=D.point P) (y:=C.point P) (fun v hv=>hpt v om) om,hc,hc'] at h1;have:D.c l j=C.c l j':=(by grind);rw [this]; exact hF.2 _ _ hl om
end Go.Proofs.YtbpngececjihlaaGreat.Lin
namespace Go.Proofs.YtbpngececjihlaaGreat
open Go.RowKit
variable {B b k V g d n L i c:Nat} {f:Nat->Rat} {cs:Array Value} {T:TypeId} {s:SV} {l bs:List Rat} {q:Rat} {Y X X' Y':Nat->Prop} {w w' W:World} {A:Option Addr} {os rs:List (List Rat)} {p:LPV}
structure Fr (G:Nat->Prop) (w w':World):Prop where
 os:w'.os=w.os
 tape:w'.tape=w.tape
 output:w'.output=w.output
 size:w.heap.size<=w'.heap.size
 block:∀ b,b<w.heap.size->¬ G b->w'.heap[b]?=w.heap[b]?
section
variable {G H:Nat->Prop} {w w' w'':World}
theorem Fr.refl (G:Nat->Prop) (w:World):Fr G w w:=⟨rfl,rfl,rfl,nlr _,fun _ _ _=>rfl⟩
theorem Fr.trans (h:Fr G w w') (k:Fr G w' w''):Fr G w w'':=
 ⟨k.os.trans h.os,k.tape.trans h.tape,k.output.trans h.output,nlt h.size k.size,fun b hb hg=>(k.block b (ltl hb h.size) hg).trans (h.block b hb hg)⟩
theorem Fr.mono (h:Fr G w w') (hG:∀ b,G b->H b):Fr H w w':=⟨h.os,h.tape,h.output,h.size,fun b hb hg=>h.block b hb fun x=>hg (hG b x)⟩
theorem Fr.of_below (h:Below w w w'):Fr G w w':=⟨h.os,h.tape,h.output,h.size,fun b hb _=>h.block b hb⟩
theorem Fr.below (h:Fr G w w') (hB:B<=w.heap.size) (hG:∀ b,G b->B<=b):Below B w w':=
 ⟨h.os,h.tape,h.output,h.size,fun b hb=>h.block b om fun x=>by have:=hG b x; omega⟩
theorem Fr.call (h:Fr G w w') (k:Below w' w' w''):Fr G w w'':=h.trans (Fr.of_below k)
theorem Fr.set (h:Fr G w w') {p:Addr} (hp:G p.block) (v:Value):Fr G w (w'.setCell p v):=
 ⟨h.os,h.tape,h.output,by simpa [World.setCell] using h.size,fun b hb hg=>(bhs _ _ _ _ (fun e=>hg (by rw [e]; exact hp))).trans (h.block b hb hg)⟩
theorem Fr.put4 (h:Fr G w w') (hb:G b) (k:Nat) (v:QV):Fr G w (put4 w' b k v):=
 (((h.set (p:=⟨b,k*4,none⟩) hb _).set (p:=⟨b,k*4+1,none⟩) hb _).set (p:=⟨b,k*4+2,none⟩) hb _).set (p:=⟨b,k*4+3,none⟩) hb _
theorem Fr.cell (h:Fr G w w') {p:Addr} (hp:p.block<w) (hg:¬ G p.block):w'.cell? p=w.cell? p:=cob (h.block _ hp hg)
theorem Fr.drew (h:Fr G w w'):Fr G w w'.drew:=h.trans (Fr.of_below (brf _ _).drew)
end
def rowL (V:Nat) (f:Nat->Rat):List Rat:=(List.range (V+1)).map f
theorem zAm (V:Nat) (f:Nat->Rat):(rowL V f).length=V+1:=by simp [rowL]
theorem zAL (f:Nat->Rat) (hk:k<=V):(rowL V f).getD k 0=f k:=by
 simp [rowL,List.getElem?_map,List.getElem?_range (show k<V+1 by omega)]
theorem zBs {g:Nat->Rat} (h:∀ k,k<=V->f k=g k):rowL V f=rowL V g:=by
 unfold rowL;apply List.map_congr_left;intro k hk;rw [List.mem_range] at hk;exact h k om
theorem zD1 (f:Nat->Rat) (q:Rat):(rowL V f).set k q=rowL V (Lin.turn f k q):=by
 apply List.ext_getElem
 ·simp [rowL]
 ·intro i h1 h2;simp only [rowL,List.getElem_set,List.getElem_map,List.getElem_range,Lin.turn];by_cases e:k=i
  ·subst e; simp
  ·rw [if_neg e,if_neg (Ne.symm e)]
structure Arr (W:World) (s:SV) (n:Nat) (T:TypeId) (f:Nat->Value):Prop where
 len:s.n=n
 le:s.n<=s.c
 cap:s.c<=9223372036854775807
 blk:(s.A=none/\n=0)\/∃ g cs,s.A=some ⟨g,0,none⟩/\W.heap[g]?=some (.cells cs T (0,0))/\∀ k,k<n->cs[k]?=some (f k)
section
variable {W W':World} {s:SV} {n:Nat} {T:TypeId} {f:Nat->Value}
theorem Arr.elem (h:Arr W s n T f) (hk:k<n):∃ g,s.A=some ⟨g,0,none⟩/\W.cell? ⟨g,k,none⟩=some (f k)/\(∀ o,W.frozen? ⟨g,o,none⟩=false)/\g<W.heap.size:=by
 rcases h.blk with ⟨_,h0⟩ | ⟨g,cs,e,hb,hc⟩
 ·omega
 ·exact ⟨g,e,by simp [World.cell?,hb,hc k hk],fun o=>by simp [World.frozen?,hb],zAa hb⟩
theorem Arr.keep (h:Arr W s n T f) (hk:∀ g,s.A=some ⟨g,0,none⟩->g<W.heap.size->W'.heap[g]?=W.heap[g]?):Arr W' s n T f:=
 ⟨h.len,h.le,h.cap,by
  rcases h.blk with h0 | ⟨g,cs,e,hb,hc⟩
  ·exact .inl h0
  ·exact .inr ⟨g,cs,e,(hk g e (zAa hb)).trans hb,hc⟩⟩
theorem Arr.below (h:Arr W s n T f) (hb:Below W W W'):Arr W' s n T f:=h.keep fun g _ hl=>hb.block g hl
theorem Arr.set (h:Arr W s n T f) (e:s.A=some ⟨g,0,none⟩) (v:Value):Arr (W.setCell ⟨g,k,none⟩ v) s n T (fun j=>if j=k then v else f j):=
 ⟨h.len,h.le,h.cap,by
  rcases h.blk with ⟨h0,_⟩ | ⟨g',cs,e',hb,hc⟩
  ·rw [h0] at e; cases e
  ·rw [e] at e'; cases e'
   refine .inr ⟨g,_,e,zAe v hb,fun j hj=>?_⟩;have hs:j<cs.size:=(Array.getElem?_eq_some_iff.1 (hc j hj)).1;rw [Array.getElem?_setIfInBounds];by_cases ejk:k=j
   ·subst ejk; rw [if_pos rfl,if_pos hs,if_pos rfl]
   ·rw [if_neg ejk,if_neg (Ne.symm ejk)]; exact hc j hj⟩
theorem Arr.congr {f':Nat->Value} (h:Arr W s n T f) (e:∀ k,k<n->f k=f' k):Arr W s n T f':=
 ⟨h.len,h.le,h.cap,by
  rcases h.blk with h0 | ⟨g,cs,e',hb,hc⟩
  ·exact .inl h0
  ·exact .inr ⟨g,cs,e',hb,fun k hk=>(hc k hk).trans (by rw [e k hk])⟩⟩
end
structure DV where
 d:Nat
 bas:SV
 fre:SV
 row:SV
 cst:SV
 rb:Nat->Nat
 cb:Nat->Nat
structure DA (W:World) (G:Nat->Prop) (x:DV) (V M K:Nat) (D:Lin.Dict) (pv rw cl:Int):Prop where
 blk:W.heap[x.d]?=some (.cells #[.int .i64 V,x.bas.val,x.fre.val,x.row.val,x.cst.val,.int .i64 pv,.int .i64 rw,.int .i64 cl] 193 (0,0))
 bas:Arr W x.bas M 3 fun i=>.int .i64 (D.basic i)
 fre:Arr W x.fre V 3 fun j=>.int .i64 (D.free j)
 row:Arr W x.row M 23 fun i=>rowVal (V+1) (x.rb i)
 cst:Arr W x.cst K 23 fun l=>rowVal (V+1) (x.cb l)
 rows:∀ i,i<M->RowAt W G (x.rb i) (rowL V (D.a i))
 csts:∀ l,l<K->RowAt W G (x.cb l) (rowL V (D.c l))
 rinj:∀ i j,i<M->j<M->x.rb i=x.rb j->i=j
 cinj:∀ i j,i<K->j<K->x.cb i=x.cb j->i=j
 apart:∀ i l,i<M->l<K->x.rb i ≠ x.cb l
 bf:∀ g,x.bas.A=some ⟨g,0,none⟩->x.fre.A ≠ some ⟨g,0,none⟩
 gin:∀ b,G b->b<W.heap.size
 gd:G x.d
 gb:∀ g,x.bas.A=some ⟨g,0,none⟩->G g
 gf:∀ g,x.fre.A=some ⟨g,0,none⟩->G g
 gr:∀ g,x.row.A=some ⟨g,0,none⟩->G g
 gc:∀ g,x.cst.A=some ⟨g,0,none⟩->G g
section
variable {W W':World} {G:Nat->Prop} {x:DV} {V M K:Nat} {D D':Lin.Dict} {pv rw cl:Int}
theorem DA.dlt (h:DA W G x V M K D pv rw cl):x.d<W.heap.size:=zAa h.blk
theorem DA.opn {bn bc fn fc rn rc cn cc:Nat} {bA fA rA cA:Option Addr} {rb cb:Nat->Nat} (h:DA W G ⟨d,⟨bA,bn,bc⟩,⟨fA,fn,fc⟩,⟨rA,rn,rc⟩,⟨cA,cn,cc⟩,rb,cb⟩ V M K D pv rw cl) :
  d<W.heap.size/\M=bn/\V=fn/\M=rn/\K=cn/\M<=bc/\bc<=9223372036854775807/\V<=fc/\fc<=9223372036854775807/\M<=rc/\rc<=9223372036854775807/\K<=cc/\cc<=9223372036854775807:=by
 obtain rfl:M=bn:=h.bas.len.symm;obtain rfl:V=fn:=h.fre.len.symm;obtain rfl:M=rn:=h.row.len.symm;obtain rfl:K=cn:=h.cst.len.symm;exact ⟨h.dlt,rfl,rfl,rfl,rfl,h.bas.le,h.bas.cap,h.fre.le,h.fre.cap,h.row.le,h.row.cap,h.cst.le,h.cst.cap⟩
theorem DA.cells (h:DA W G x V M K D pv rw cl) :
  W.cell? x.d=some (.int .i64 V)/\W.cell? ⟨x.d,1,none⟩=some x.bas.val/\W.cell? ⟨x.d,2,none⟩=some x.fre.val/\W.cell? ⟨x.d,3,none⟩=some x.row.val/\W.cell? ⟨x.d,4,none⟩=some x.cst.val/\
  W.cell? ⟨x.d,5,none⟩=some (.int .i64 pv)/\W.cell? ⟨x.d,6,none⟩=some (.int .i64 rw)/\W.cell? ⟨x.d,7,none⟩=some (.int .i64 cl)/\∀ o,W.frozen? ⟨x.d,o,none⟩=false:=by
 simp [World.cell?,World.frozen?,h.blk]
theorem DA.call (h:DA W G x V M K D pv rw cl) (hb:Below W W W'):DA W' G x V M K D pv rw cl:=
 ⟨(hb.block _ h.dlt).trans h.blk,h.bas.below hb,h.fre.below hb,h.row.below hb,h.cst.below hb,fun i hi=>(h.rows i hi).below hb,fun i hi=>(h.csts i hi).below hb,h.rinj,h.cinj,h.apart,h.bf,
  fun b hg=>ltl (h.gin b hg) hb.size,h.gd,h.gb,h.gf,h.gr,h.gc⟩
theorem zDD {T':TypeId} {f:Nat->Value} (h:Arr W s n T f) (hb:W.heap[b]?=some (.cells cs T' (0,0))) (hT:T' ≠ T) (e:s.A=some ⟨g,0,none⟩):g ≠ b:=by
 rintro rfl;rcases h.blk with ⟨h0,_⟩ | ⟨g',cs',e',hb',_⟩
 ·rw [h0] at e; cases e
 ·rw [e] at e'; cases e'
  rw [hb] at hb';simp only [Option.some.injEq,Obj.cells.injEq] at hb';exact hT hb'.2.1
theorem DA.turnRow (h:DA W G x V M K D pv rw cl) (hR:RowAt W G b l) (hW:Fr (fun y=>y=b) W W') (ha:∀ i,i<M->x.rb i ≠ b->D'.a i=D.a i) (hc:∀ i,i<K->x.cb i ≠ b->D'.c i=D.c i)
  (hb:D'.basic=D.basic) (hf:D'.free=D.free) (hra:∀ i,i<M->x.rb i=b->RowAt W' G b (rowL V (D'.a i))) (hca:∀ i,i<K->x.cb i=b->RowAt W' G b (rowL V (D'.c i))):DA W' G x V M K D' pv rw cl:=by
 obtain ⟨cs,eb,_⟩:=hR.blk;have hd:x.d ≠ b:=by rintro e; have:=h.blk; rw [e,eb] at this; cases this
 have keep:∀ g,g ≠ b->g<W.heap.size->W'.heap[g]?=W.heap[g]?:=fun g hg hl=>hW.block g hl hg
 refine ⟨(keep _ hd h.dlt).trans h.blk,?_,?_,h.row.keep fun g e hl=>keep g (zDD h.row eb dj e) hl,h.cst.keep fun g e hl=>keep g (zDD h.cst eb dj e) hl,fun i hi=>?_,fun i hi=>?_,h.rinj,h.cinj,h.apart,h.bf,
  fun y hy=>ltl (h.gin y hy) hW.size,h.gd,h.gb,h.gf,h.gr,h.gc⟩
 ·rw [hb]; exact h.bas.keep fun g e hl=>keep g (zDD h.bas eb dj e) hl
 ·rw [hf]; exact h.fre.keep fun g e hl=>keep g (zDD h.fre eb dj e) hl
 ·by_cases e:x.rb i=b
  ·have:=hra i hi e; rw [e]; exact this
  ·rw [ha i hi e];exact (h.rows i hi).keep (keep _ e (h.rows i hi).lt) fun p hp hl=>cob (keep _ (fun e=>hp (by rw [e]; exact hR.mem)) hl)
 ·by_cases e:x.cb i=b
  ·have:=hca i hi e; rw [e]; exact this
  ·rw [hc i hi e];exact (h.csts i hi).keep (keep _ e (h.csts i hi).lt) fun p hp hl=>cob (keep _ (fun e=>hp (by rw [e]; exact hR.mem)) hl)
end
open Go.RowKit Go.Shelf
def QAny (w:World) (Y:Nat->Prop) (v:QV) (q:Rat):Prop:=∃ L,QIs w Y L v q
theorem QAny.below {v:QV} (h:QAny w Y v q) (hb:Below w w w'):QAny w' Y v q:=by
 obtain ⟨L,h⟩:=h; exact ⟨L,h.below hb⟩
theorem QAny.qis {v:QV} (h:QAny w Y v q) (h1:v.num.n<=L) (h2:v.den.n<=L):QIs w Y L v q:=by
 obtain ⟨_,x,y,⟨lx,hx,-,ex⟩,⟨ly,hy,-,ey⟩,e⟩:=h;exact ⟨x,y,⟨lx,hx,h1,ex⟩,⟨ly,hy,h2,ey⟩,e⟩
theorem QAny.cap {v:QV} (h:QAny w Y v q):(v.num.n<=v.num.c/\v.num.c<=9223372036854775807)/\v.den.n<=v.den.c/\v.den.c<=9223372036854775807:=by
 obtain ⟨_,x,y,⟨lx,hx,-,-⟩,⟨ly,hy,-,-⟩,-⟩:=h;exact ⟨⟨hx.le,hx.cap⟩,hy.le,hy.cap⟩
def Seen6 (w:World) (A:Option Addr) (i:Nat):Prop:=∀ j,j<i->∀ ad v,A=some ad->QCell w (ad.add (j*4)) v->v.num.n<=6/\v.den.n<=6
theorem zDc {p:Addr} {v v':QV} (h:QCell w p v) (h':QCell w p v'):v=v':=by
 obtain ⟨a0,a1,a2,a3⟩:=h;obtain ⟨b0,b1,b2,b3⟩:=h';rw [a0] at b0; rw [a1] at b1; rw [a2] at b2; rw [a3] at b3
 obtain ⟨⟨n0,A0,m0,k0⟩,⟨n1,A1,m1,k1⟩⟩:=v;obtain ⟨⟨n0',A0',m0',k0'⟩,⟨n1',A1',m1',k1'⟩⟩:=v';simp at b0 b1 b2 b3;simp [b0,b1,b2,b3]
theorem Seen6.next {ad:Addr} {v:QV} (h:Seen6 w (some ad) i) (hc:QCell w (ad.add (i*4)) v) (h1:v.num.n<=6) (h2:v.den.n<=6):Seen6 w (some ad) (i+1):=by
 intro j hj ad' v' e hc';by_cases e2:j=i
 ·subst e2;cases e;rw [zDc hc' hc]; exact ⟨h1,h2⟩
 ·exact h j om ad' v' e hc'
def L2Loop (w:World) (A:Option Addr) (n:Nat) (t:Value) (W:World):Prop:=
 ∃ i:Nat,i<=n/\t = .int .i64 i/\Seen6 w A i/\Below w w W
theorem zDG (h:VecAt w X (QAny w Y) s l) :
  Calls Tryz.prog 8 #[s.val] w fun e w'=>BRet (fun b=>b=false->VecIs w X Y 6 s l) e/\Below w w w':=by
 have hn:=h.le;have hc:=h.cap;obtain ⟨A,n,c⟩:=s;dsimp only at hn hc;have HV:=hdq h;clear h;show Calls _ _ #[.slice A n c] _ _;go_enter Tryz.func8,Tryz.ntmps8
 go_wp2;go_loopw [3] (fun t W=>L2Loop w A n t W) (fun t _=>n-(intOf t).toNat)
 case atStart=>exact ⟨0,nzl _,rfl,fun j hj=>absurd hj om,brf _ _⟩
 case round=>
  obtain ⟨i,hi,rfl,hseen,hB⟩:=hrel;have hseen:=hdq hseen;by_cases hlt:i<n
  ·obtain ⟨ad,v,e,hx,hcell,hq⟩:=HV.out.elem i hlt;dsimp only at e;subst e;have HC:=hdq hcell;obtain ⟨⟨k1,k2⟩,k3,k4⟩:=hq.cap;have hold:ad.block<w:=by have:=zAb hcell.1; rwa [zAj] at this
   (obtain ⟨c0,c1,c2,c3⟩:=hcell.keep (w':=_) fun a ha hl=>hB.cell (by rw [ha]; exact hl));clear hq hx;(go_upto_region 4 with fail);have hBW:=hB.size;have hadl:(ad.add (i*4)).block<wr:=zAb c0;refine zAp 1000 (fun _ w'=>Sees w [] wr w') kj ?_;have hS0:Sees w [] wr wr.drew:=Sees.st si hBW;refine tx4 0 1 2 3 hS0 ?_;refine tx4 4 5 6 7 hS0 ?_;refine tx1 8 hS0 ?_;refine tx1 9 hS0 ?_;refine tk1 10 ?_;intro K hK;go_simp;have hA:(wr.alloc (.cells #[v.num.ng,v.num,v.den.ng,v.den] 28)).drew.heap[wr.heap.size]?=some (.cells #[v.num.ng,v.num,v.den.ng,v.den] 28 (0,0)):=zAd _ _ rfl;have hS1:Sees w [] wr (wr.alloc (.cells #[v.num.ng,v.num,v.den.ng,v.den] 28)).drew:=Sees.ad hS0;refine hK.out _ _ hS1 ?_;clear hK K;generalize (wr.alloc (.cells #[v.num.ng,v.num,v.den.ng,v.den] 28)).drew=wa at *;refine tk1 11 ?_;intro K hK;go_simp;refine (zFN hA om om).mono ?_;rintro e wb ⟨⟨r,rfl,-⟩,rfl⟩;dsimp only;have hS2:=hS1;refine hK.out _ _ hS2 ?_;clear hK K hS0 hS1 hA;have hbf:=hB.trans (hS2.kept.whole.mono hBW)
   cases r with
   | true=>
    refine tx1 12 hS2 ?_;refine tn4 13 14 15 16 hS2 ?_;refine tn4 17 18 19 20 hS2 ?_;refine tx1 21 hS2 ?_;refine tx1 22 hS2 ?_;refine tn4 23 24 25 26 hS2 ?_;refine tn4 27 28 29 30 hS2 ?_;refine tx1 31 hS2 ?_;refine zAf kj ?_ _;clear hS2 c0 c1 c2 c3;go_wp2;go_ret
    exact ⟨⟨_,rfl,fun h=>by cases h⟩,hbf⟩
   | false=>
    by_cases h6:(6:Int)<(v.num.n:Int)
    ·skip
     refine tx4 12 13 14 15 hS2 ?_;refine tx4 16 17 18 19 hS2 ?_;refine tx1 20 hS2 ?_;refine tx1 21 hS2 ?_;refine tx1 22 hS2 ?_;refine tn4 23 24 25 26 hS2 ?_;refine tn4 27 28 29 30 hS2 ?_;refine tx1 31 hS2 ?_;refine zAf kj ?_ _;clear hS2 c0 c1 c2 c3;go_wp2;go_ret;exact ⟨⟨_,rfl,fun h=>by cases h⟩,hbf⟩
    ·by_cases h7:(6:Int)<(v.den.n:Int)
     ·skip
      refine tx4 12 13 14 15 hS2 ?_;refine tx4 16 17 18 19 hS2 ?_;refine tx4 20 21 22 23 hS2 ?_;refine tx4 24 25 26 27 hS2 ?_;refine tx4 28 29 30 31 hS2 ?_;refine zAf kj ?_ _;clear hS2 c0 c1 c2 c3;go_wp2;go_ret;exact ⟨⟨_,rfl,fun h=>by cases h⟩,hbf⟩
     ·skip
      refine tx4 12 13 14 15 hS2 ?_;refine tx4 16 17 18 19 hS2 ?_;refine tx4 20 21 22 23 hS2 ?_;refine tx4 24 25 26 27 hS2 ?_;refine tx4 28 29 30 31 hS2 ?_;refine zAf kj ?_ _;have Hfin:Hid (L2Loop w (some ad) n (.int .i64 ((i:Int)+1)) wa):=⟨i+1,om,si,hseen.out.next HC.out om om,hbf⟩;clear hS2 c0 c1 c2 c3;go_wp2;go_roundw;case rel=>exact Hfin.out
      case measure=>simp [intOf]; omega
  ·(obtain rfl:i=n:=om);go_wp2;go_ret
   exact ⟨⟨_,rfl,fun _=>⟨HV.out.len,HV.out.le,HV.out.cap,fun k hk=>by
    obtain ⟨ad,v,e,hx,hcell,hq⟩:=HV.out.elem k hk;have:=hseen.out k hk ad v e hcell;exact ⟨ad,v,e,hx,hcell,hq.qis this.1 this.2⟩⟩⟩,hB⟩
def SeenR (w:World) (X Y:Nat->Prop) (s:SV) (m:List (List Rat)) (i:Nat):Prop:=∀ j,j<i->∃ ad r,s.A=some ad/\X ad.block/\w.cell? (ad.add j)=some (SV.val r)/\r.n<=20/\VecIs w X Y 6 r (m.getD j [])
def L3Loop (w:World) (X Y:Nat->Prop) (s:SV) (m:List (List Rat)) (t:Value) (W:World):Prop:=
 ∃ i:Nat,i<=s.n/\t = .int .i64 i/\SeenR w X Y s m i/\Below w w W
theorem VecAt.belowA (h:VecAt w X (QAny w Y) s l) (hb:Below w w w'):VecAt w' X (QAny w' Y) s l:=h.keep (fun _ _ hl=>hb.cell hl) fun _ _ hr=>hr.below hb
theorem MatAt.belowA {m:List (List Rat)} (h:MatAt w X (QAny w Y) s m) (hb:Below w w w'):MatAt w' X (QAny w' Y) s m:=h.keep (fun _ _ hl=>hb.cell hl) fun _ _ hr=>hr.below hb
theorem VecAt.back (h:VecAt w X (QAny w Y) s l) (hb:Below w w W) (h':VecIs W X Y L s l):VecIs w X Y L s l:=
 ⟨h.len,h.le,h.cap,fun k hk=>by
  obtain ⟨ad,v,e,hx,hc,hq⟩:=h.elem k hk;obtain ⟨ad',v',e',_,hc',_,_,⟨_,_,h1,_⟩,⟨_,_,h2,_⟩,_⟩:=h'.elem k hk;rw [e] at e';cases e';obtain rfl:=zDc hc' (hc.keep fun a ha hl=>hb.cell (by rw [ha]; exact hl));exact ⟨ad,v',e,hx,hc,hq.qis h1 h2⟩⟩
theorem zCl {m:List (List Rat)} (h:MatAt w X (QAny w Y) s m) :
  Calls Tryz.prog 31 #[s.val] w fun e w'=>BRet (fun b=>b=false->MatIs w X Y 6 s m/\colsOf m<=20) e/\Below w w w':=by
 have hn:=h.le;have hc:=h.cap;obtain ⟨A,n,c⟩:=s;dsimp only at hn hc;have HV:=hdq h;clear h;show Calls _ _ #[.slice A n c] _ _;go_enter Tryz.func31,Tryz.ntmps31
 go_wp2;go_loopw [3] (fun t W=>L3Loop w X Y ⟨A,n,c⟩ m t W) (fun t _=>n-(intOf t).toNat)
 case atStart=>exact ⟨0,nzl _,rfl,fun j hj=>absurd hj om,brf _ _⟩
 case round=>
  obtain ⟨i,hi,rfl,hseen,hB⟩:=hrel;dsimp only at hi;replace hseen:=hdq hseen;by_cases hlt:i<n
  ·obtain ⟨ad,r,e,hx,hcell,hr⟩:=HV.out.row i hlt;dsimp only at e;subst e;have r1:=hr.le;have r2:=hr.cap;have HR:=hdq hr;have HX:=hdq (And.intro hx hcell);replace hcell:=(hB.cell (zAb hcell)).trans hcell;clear hr hx;obtain ⟨rA,rn,rc⟩:=r;dsimp only [SV.val] at r1 r2 hcell;by_cases h20:(20:Int)<(rn:Int)
   ·go_wp2;go_ret;exact ⟨⟨_,rfl,fun h=>by cases h⟩,hB⟩
   ·(go_wp2_with fail);refine (zDG (s:=⟨rA,rn,rc⟩) (HR.out.belowA hB)).mono ?_;rintro e w1 ⟨⟨b,rfl,hbb⟩,hb1⟩;have hbw:=hB.trans (hb1.mono hB.size)
    cases b with
    | true=>
     clear hbb;go_wp2;go_ret
     exact ⟨⟨_,rfl,fun h=>by cases h⟩,hbw⟩
    | false=>
     have Hfin:Hid (L3Loop w X Y ⟨some ad,n,c⟩ m (.int .i64 ((i:Int)+1)) w1):=⟨i+1,by show i+1<=n; omega,si,fun j hj=>by
      by_cases e:j=i
      ·subst e;exact ⟨ad,⟨rA,rn,rc⟩,rfl,HX.out.1,HX.out.2,by show rn<=20; omega,HR.out.back hB (hbb rfl)⟩
      ·exact hseen.out j om,hbw⟩
     clear hbb;go_wp2;go_roundw;case rel=>exact Hfin.out
     case measure=>simp [intOf]; omega
  ·obtain rfl:i=n:=om
   have HF:Hid (MatIs w X Y 6 ⟨A,i,c⟩ m/\colsOf m<=20):=⟨⟨HV.out.len,HV.out.le,HV.out.cap,fun k hk=>by
    obtain ⟨ad,r,e,hx,hcell,h20,hv⟩:=hseen.out k hk;exact ⟨ad,r,e,hx,hcell,hv⟩⟩,zAU.2 fun l hl=>by
    obtain ⟨k,hk,rfl⟩:=List.mem_iff_getElem.1 hl;have hl:m.length=i:=HV.out.len;obtain ⟨ad,r,e,hx,hcell,h20,hv⟩:=hseen.out k om;have:=hv.len;rw [gdd,gge hk] at this;simp only [Option.getD_some] at this;omega⟩
   go_wp2;go_ret;exact ⟨⟨_,rfl,fun _=>HF.out⟩,hB⟩
theorem MatAt.back {m:List (List Rat)} (h:MatAt w X (QAny w Y) s m) (hb:Below w w W) (h':MatIs W X Y L s m):MatIs w X Y L s m:=
 ⟨h.len,h.le,h.cap,fun k hk=>by
  obtain ⟨ad,r,e,hx,hc,hq⟩:=h.row k hk;obtain ⟨ad',r',e',_,hc',hq'⟩:=h'.row k hk;rw [e] at e';cases e';rw [(hb.cell (zAb hc)).trans hc] at hc';obtain ⟨rA,rn,rc⟩:=r;obtain ⟨rA',rn',rc'⟩:=r';simp [SV.val] at hc';obtain ⟨rfl,rfl,rfl⟩:=hc';exact ⟨ad,⟨rA,rn,rc⟩,e,hx,hc,hq.back hb hq'⟩⟩
def L4Loop (w:World) (Q:Prop) (t:Value) (W:World):Prop:=
 (t = .int .i64 0/\w=W)\/(t = .int .i64 1/\Q/\Below w w W)
theorem zCm {m:List (List Rat)} (h:MatAt w X (QAny w Y) s m) (hcell:w.cell? b=some s.val) :
  Calls Tryz.prog 173 #[.slice (some ⟨b,0,none⟩) 1 1] w fun e w'=>BRet (fun b=>b=false->s.n<=8/\colsOf m<=8/\MatIs w X Y 6 s m) e/\Below w w w':=by
 have hn:=h.le;have hc:=h.cap;obtain ⟨A,n,c⟩:=s;dsimp only at hn hc ⊢;have HV:=hdq h;clear h;dsimp only [SV.val] at hcell;go_enter Tryz.func173,Tryz.ntmps173
 go_wp2;go_loopw [3] (fun t W=>L4Loop w (n<=8/\colsOf m<=8/\MatIs w X Y 6 ⟨A,n,c⟩ m) t W) (fun t _=>1-(intOf t).toNat)
 case atStart=>exact .inl ⟨rfl,rfl⟩
 case round=>
  rcases hrel with ⟨rfl,rfl⟩ | ⟨rfl,hQ,hB⟩
  ·by_cases h8:(8:Int)<(n:Int)
   ·go_wp2;go_ret;exact ⟨⟨_,rfl,fun h=>by cases h⟩,brf _ _⟩
   ·have HC:=hdq (zDf HV.out);generalize hk:colsOf m=k at HC;replace hk:=hdq hk;(go_wp2_with fail);refine HC.out.mono ?_;rintro e w1 ⟨rfl,rfl⟩;by_cases h9:(8:Int)<(k:Int)
    ·go_wp2;go_ret;exact ⟨⟨_,rfl,fun h=>by cases h⟩,brf _ _⟩
    ·(go_wp2_with fail);refine (zCl HV.out).mono ?_;rintro e w1 ⟨⟨b,rfl,hbb⟩,hb1⟩
     cases b with
     | true=>
      clear hbb;go_wp2;go_ret
      exact ⟨⟨_,rfl,fun h=>by cases h⟩,hb1⟩
     | false=>
      have Hfin:Hid (L4Loop w (n<=8/\colsOf m<=8/\MatIs w X Y 6 ⟨A,n,c⟩ m) (.int .i64 1) w1):=.inr ⟨rfl,⟨om,by rw [hk.out]; omega,(hbb rfl).1⟩,hb1⟩;clear hbb;go_wp2;go_roundw;case rel=>rw [<-hk.out]; exact Hfin.out
      case measure=>simp [intOf]
  ·replace hQ:=hdq hQ;go_wp2;go_ret;exact ⟨⟨_,rfl,fun _=>hQ.out⟩,hB⟩
theorem VecAt.back' (h:VecAt w X (QAny w Y) s l) (hb:Below w w W) (h':VecIs W X' Y' L s l):VecIs w X Y L s l:=
 ⟨h.len,h.le,h.cap,fun k hk=>by
  obtain ⟨ad,v,e,hx,hc,hq⟩:=h.elem k hk;obtain ⟨ad',v',e',_,hc',_,_,⟨_,_,h1,_⟩,⟨_,_,h2,_⟩,_⟩:=h'.elem k hk;rw [e] at e';cases e';obtain rfl:=zDc hc' (hc.keep fun a ha hl=>hb.cell (by rw [ha]; exact hl));exact ⟨ad,v',e,hx,hc,hq.qis h1 h2⟩⟩
theorem VecAt.cut {R:QV->Rat->Prop} (h:VecAt w X R ⟨A,n,c⟩ l):VecAt w X R ⟨A,min n 20,c⟩ (l.take 20):=
 ⟨by have:=h.len; simp at this ⊢; omega,nlt (Nat.min_le_left _ _) h.le,h.cap,fun k hk=>by
  have hk':k<min n 20:=hk;obtain ⟨ad,v,e,hx,hc,hq⟩:=h.elem k (by show k<n; omega);refine ⟨ad,v,e,hx,hc,?_⟩;have e2:(l.take 20).getD k 0=l.getD k 0:=by simp only [gdd]; rw [List.getElem?_take_of_lt om]
  rw [e2]; exact hq⟩
theorem MatAt.single {R:QV->Rat->Prop} (h:VecAt w X R s l) (hc:w.cell? b=some s.val):MatAt w (fun x=>X x\/x=b) R ⟨some ⟨b,0,none⟩,1,1⟩ [l]:=
 ⟨rfl,nlr _,by show 1<=_; omega,fun i hi=>by
  obtain rfl:i=0:=by have hi':i<1:=hi; omega
  exact ⟨⟨b,0,none⟩,s,rfl,.inr rfl,by rw [zA4]; exact hc,h.imp (fun _ _ hx=>.inl hx) fun _ _ hq=>hq⟩⟩
def Short6 (w:World) (X Y:Nat->Prop) (p:LPV) (os rs:List (List Rat)) (bs:List Rat):Prop:=
 MatIs w X Y 6 p.O os/\(p.R.n<=8->MatIs w X Y 6 p.R rs)/\(p.B.n<=20->VecIs w X Y 6 p.B bs)
theorem zFO (h:LPRaw w X (QAny w Y) p os rs bs) :
  Calls Tryz.prog 103 #[p.val] w fun e w'=>BRet (fun b=>b=false->Short6 w X Y p os rs bs) e/\Below w w w':=by
 obtain ⟨z,⟨oA,on,oc⟩,⟨rA,rn,rc⟩,⟨bA,bn,bc⟩⟩:=p;have o1:on<=oc:=h.obj.le;have o2:oc<=9223372036854775807:=h.obj.cap;have r1:rn<=rc:=h.rows.le;have r2:rc<=9223372036854775807:=h.rows.cap;have b1:bn<=bc:=h.bounds.le;have b2:bc<=9223372036854775807:=h.bounds.cap;have ho:=hdq h.obj;have hr:=hdq h.rows;have hb:=hdq h.bounds;clear h;dsimp only [LPV.val] at *;go_enter Tryz.func103,Tryz.ntmps103
 go_upto_region 1 with fail
 refine zAo (fun W=>Below w w W/\Box4 W w z (.slice oA on oc) (.slice rA rn rc) (.slice bA bn bc)/\w.heap.size<W.heap.size) ⟨(az (brf _ _)),bx4,by simp <;> omega⟩ ?_;rintro W ⟨hbW,bP,s0⟩;have hBW:=hbW.size;have hP:=bP;obtain ⟨p0,p1,p2,p3,-⟩:=bP;by_cases a1:(6:Int)<(on:Int)
 ·skip
  go_wp2;go_ret;exact ⟨⟨_,rfl,fun h=>by cases h⟩,hbW⟩
 by_cases a2:(140:Int)<(rn:Int)
 ·skip
  go_wp2;go_ret;exact ⟨⟨_,rfl,fun h=>by cases h⟩,hbW⟩
 by_cases a3:(140:Int)<(bn:Int)
 ·skip
  go_wp2;go_ret;exact ⟨⟨_,rfl,fun h=>by cases h⟩,hbW⟩
 by_cases a4:(8:Int)<(rn:Int)
 focus
  have HRow:Hid (rn<=8->MatIs w X Y 6 ⟨rA,rn,rc⟩ rs):=fun h=>om
  go_wp2_with fail
  refine (zHq (s:=⟨rA,rn,rc⟩) (hr.out.belowA hbW)).mono ?_;rintro e w1 ⟨⟨b,rfl,-⟩,rfl⟩;cases b
  focus
   go_wp2;go_ret;exact ⟨⟨_,rfl,fun h=>by cases h⟩,hbW⟩
  obtain ⟨w2,rfl⟩:∃ W':World,W'=W:=⟨W,rfl⟩;have hbw2:=hbW;have hP3:=hP;have t0:=s0
 rotate_left
 focus
  go_wp2_with fail
  have q0:(W.alloc (.cells #[.slice rA rn rc] 22)).cell? W=some (SV.val ⟨rA,rn,rc⟩):=by go_simp
  have q1:Below W W (W.alloc (.cells #[.slice rA rn rc] 22)):=bal;have q2:=hbW.trans (q1.mono hbW.size);refine (zCm (hr.out.belowA q2) q0).mono ?_;rintro e w2 ⟨⟨b,rfl,hbb⟩,hb2⟩;have q3:=q1.trans (hb2.mono q1.size);have hbw2:=q2.trans (hb2.mono q2.size);have hP2:=hP.below q3 s0;have t0:w.heap.size<w2.heap.size:=ltl s0 q3.size;clear p0 p1 p2 p3 hP;have hP3:=hP2;obtain ⟨p0,p1,p2,p3,-⟩:=hP2;cases b;rotate_left
  focus
   clear hbb hbW;have hbW:=hbw2;go_wp2;go_ret;exact ⟨⟨_,rfl,fun h=>by cases h⟩,hbW⟩
  focus
   have HRow:Hid (rn<=8->MatIs w X Y 6 ⟨rA,rn,rc⟩ rs):=(fun _=>hr.out.back q2 (hbb rfl).2.2);clear hbb q0 q1 q2 hb2 q3 hbW
 all_goals
  go_wp2_with fail
  have q0:(w2.alloc (.cells #[.slice oA on oc] 22)).cell? w2=some (SV.val ⟨oA,on,oc⟩):=by go_simp
  have q1:Below w2 w2 (w2.alloc (.cells #[.slice oA on oc] 22)):=bal;have q2:=hbw2.trans (q1.mono hbw2.size);refine (zCm (ho.out.belowA q2) q0).mono ?_;rintro e w3 ⟨⟨b,rfl,hbb⟩,hb3⟩;have q3:=q1.trans (hb3.mono q1.size);have hbW:=q2.trans (hb3.mono q2.size);clear p0 p1 p2 p3;obtain ⟨p0,p1,p2,p3,-⟩:=hP3.below q3 t0
  cases b with
  | true=>
   clear hbb;go_wp2;go_ret
   exact ⟨⟨_,rfl,fun h=>by cases h⟩,hbW⟩
  | false=>
   have HO:Hid (MatIs w X Y 6 ⟨oA,on,oc⟩ os):=ho.out.back q2 (hbb rfl).2.2;clear hbb q0 q1 q2 hb3;(go_wp2_with fail);refine (zDF (s:=⟨bA,bn,bc⟩) b1 b2).mono ?_;rintro e w4 ⟨rfl,rfl⟩;dsimp only;have HVc:=hdq hb.out.cut;generalize hmn:min bn 20=mn at *;replace hmn:=hdq hmn;(go_wp2_with fail);have q0:(w3.alloc (.cells #[.slice bA mn bc] 23)).cell? w3=some (SV.val ⟨bA,mn,bc⟩):=(by go_simp);have q1:Below w3 w3 (w3.alloc (.cells #[.slice bA mn bc] 23)):=bal;have q2:=hbW.trans (q1.mono hbW.size);refine (zCl (MatAt.single (HVc.out.belowA q2) q0)).mono ?_;rintro e w5 ⟨⟨b,rfl,hbb⟩,hb5⟩;have hbf:=q2.trans (hb5.mono q2.size)
   cases b with
   | true=>
    clear hbb hbW;have hbW:=hbf;go_wp2;go_ret
    exact ⟨⟨_,rfl,fun h=>by cases h⟩,hbW⟩
   | false=>
    have HB:Hid (Short6 w X Y ⟨z,⟨oA,on,oc⟩,⟨rA,rn,rc⟩,⟨bA,bn,bc⟩⟩ os rs bs):=⟨HO.out,HRow.out,fun h20=>by
     have h20':bn<=20:=h20;obtain ⟨ad,r,e,-,hc,hv⟩:=(hbb rfl).1.row 0 (by show 0<1; omega);cases e;rw [zA4] at hc;rw [show (0+0:Nat)=0 from rfl,q0] at hc;obtain ⟨rA',rn',rc'⟩:=r;simp [SV.val] at hc;obtain ⟨rfl,rfl,rfl⟩:=hc;have e1:mn=bn:=by rw [<-hmn.out]; omega
     subst e1;have e2:bs.take 20=bs:=List.take_of_length_le (by have:=hb.out.len; dsimp only at this; omega);rw [show ([bs.take 20]:List (List Rat)).getD 0 []=bs from e2] at hv;exact hb.out.back' q2 hv⟩
    clear hbb;go_wp2;go_ret;exact ⟨⟨_,rfl,fun _=>HB.out⟩,hbf⟩
theorem LPRaw.below (h:LPRaw w X (QAny w Y) p os rs bs) (hb:Below w w w'):LPRaw w' X (QAny w' Y) p os rs bs:=
 ⟨h.obj.belowA hb,h.rows.belowA hb,h.bounds.belowA hb⟩
theorem Short6.back (h:LPRaw w X (QAny w Y) p os rs bs) (hb:Below w w W) (h':Short6 W X Y p os rs bs):Short6 w X Y p os rs bs:=
 ⟨h.obj.back hb h'.1,fun hn=>h.rows.back hb (h'.2.1 hn),fun hn=>h.bounds.back hb (h'.2.2 hn)⟩
theorem zFP (h:LPRaw w X (QAny w Y) p os rs bs) :
  Calls Tryz.prog 39 #[p.val] w fun e w'=>BRet (fun b=>b=false->Short6 w X Y p os rs bs) e/\Below w w w':=by
 obtain ⟨z,⟨oA,on,oc⟩,⟨rA,rn,rc⟩,⟨bA,bn,bc⟩⟩:=p;have r1:rn<=rc:=h.rows.le;have r2:rc<=9223372036854775807:=h.rows.cap;replace h:=hdq h;dsimp only [LPV.val] at *;go_enter Tryz.func39,Tryz.ntmps39
 go_upto_region 1 with fail
 refine zAo (fun W=>Below w w W/\Box4 W w z (.slice oA on oc) (.slice rA rn rc) (.slice bA bn bc)/\w.heap.size<W.heap.size) ⟨(az (brf _ _)),bx4,by simp <;> omega⟩ ?_;rintro W ⟨hbW,bP,s0⟩;have hBW:=hbW.size;have hP:=bP;obtain ⟨p0,p1,p2,p3,-⟩:=bP;go_wp2_with fail
 refine (zFO (p:=⟨z,⟨oA,on,oc⟩,⟨rA,rn,rc⟩,⟨bA,bn,bc⟩⟩) (h.out.below hbW)).mono ?_;rintro e w1 ⟨⟨b,rfl,hbb⟩,hb1⟩;replace hP:=hP.below hb1 s0;have t0:=ltl s0 hb1.size;clear p0 p1 p2 p3;obtain ⟨p0,p1,p2,p3,-⟩:=id hP;have hbf:=hbW.trans (hb1.mono hbW.size)
 cases b with
 | true=>
  clear hbb;go_wp2;go_ret
  exact ⟨⟨_,rfl,fun h=>by cases h⟩,hbf⟩
 | false=>
  have HS:=hdq (Short6.back h.out hbW (hbb rfl));clear hbb hb1 hbW;obtain ⟨m,hm⟩:∃ m,mayB ⟨z,⟨oA,on,oc⟩,⟨rA,rn,rc⟩,⟨bA,bn,bc⟩⟩ os rs=m:=⟨_,rfl⟩;by_cases a1:(5:Int)<(rn:Int)
  ·skip
   (go_wp2_with fail);refine (zC2 (p:=⟨z,⟨oA,on,oc⟩,⟨rA,rn,rc⟩,⟨bA,bn,bc⟩⟩) (h.out.below hbf)).mono ?_;rintro e w2 ⟨rfl,hb2⟩;replace hP:=hP.below hb2 t0;replace t0:=ltl t0 hb2.size;clear p0 p1 p2 p3;obtain ⟨p0,p1,p2,p3,-⟩:=id hP;replace hbf:=hbf.trans (hb2.mono hbf.size);clear hb2;rw [hm]
   cases m with
   | true=>
    go_wp2;go_ret
    exact ⟨⟨_,rfl,fun _=>HS.out⟩,hbf⟩
   | false=>
    by_cases a2:(6:Int)<z
    ·skip
     (go_wp2_with fail);refine (zC2 (p:=⟨z,⟨oA,on,oc⟩,⟨rA,rn,rc⟩,⟨bA,bn,bc⟩⟩) (h.out.below hbf)).mono ?_;rintro e w3 ⟨rfl,hb3⟩;replace hP:=hP.below hb3 t0;replace t0:=ltl t0 hb3.size;clear p0 p1 p2 p3;obtain ⟨p0,p1,p2,p3,-⟩:=id hP;replace hbf:=hbf.trans (hb3.mono hbf.size);clear hb3;rw [hm];go_wp2;go_ret;exact ⟨⟨_,rfl,fun _=>HS.out⟩,hbf⟩
    ·skip
     go_wp2;go_ret;exact ⟨⟨_,rfl,fun _=>HS.out⟩,hbf⟩
  ·by_cases a2:(6:Int)<z
   ·skip
    (go_wp2_with fail);refine (zC2 (p:=⟨z,⟨oA,on,oc⟩,⟨rA,rn,rc⟩,⟨bA,bn,bc⟩⟩) (h.out.below hbf)).mono ?_;rintro e w3 ⟨rfl,hb3⟩;replace hP:=hP.below hb3 t0;replace t0:=ltl t0 hb3.size;clear p0 p1 p2 p3;obtain ⟨p0,p1,p2,p3,-⟩:=id hP;replace hbf:=hbf.trans (hb3.mono hbf.size);clear hb3;rw [hm];go_wp2;go_ret;exact ⟨⟨_,rfl,fun _=>HS.out⟩,hbf⟩
   ·skip
    go_wp2;go_ret;exact ⟨⟨_,rfl,fun _=>HS.out⟩,hbf⟩
theorem zFQ (h:LPRaw w X (QAny w Y) p os rs bs) :
  Calls Tryz.prog 7 #[p.val] w fun e w'=>BRet (fun b=>b=false->Short6 w X Y p os rs bs/\(mayB p os rs=true->p.n<=4/\p.R.n<=4)) e/\Below w w w':=by
 obtain ⟨z,⟨oA,on,oc⟩,⟨rA,rn,rc⟩,⟨bA,bn,bc⟩⟩:=p;have r1:rn<=rc:=h.rows.le;have r2:rc<=9223372036854775807:=h.rows.cap;replace h:=hdq h;dsimp only [LPV.val] at *;go_enter Tryz.func7,Tryz.ntmps7
 go_upto_region 1 with fail
 refine zAo (fun W=>Below w w W/\Box4 W w z (.slice oA on oc) (.slice rA rn rc) (.slice bA bn bc)/\w.heap.size<W.heap.size) ⟨(az (brf _ _)),bx4,by simp <;> omega⟩ ?_;rintro W ⟨hbW,bP,s0⟩;have hBW:=hbW.size;have hP:=bP;obtain ⟨p0,p1,p2,p3,-⟩:=bP;go_wp2_with fail
 refine (zFP (p:=⟨z,⟨oA,on,oc⟩,⟨rA,rn,rc⟩,⟨bA,bn,bc⟩⟩) (h.out.below hbW)).mono ?_;rintro e w1 ⟨⟨b,rfl,hbb⟩,hb1⟩;replace hP:=hP.below hb1 s0;have t0:=ltl s0 hb1.size;clear p0 p1 p2 p3;obtain ⟨p0,p1,p2,p3,-⟩:=id hP;have hbf:=hbW.trans (hb1.mono hbW.size)
 cases b with
 | true=>
  clear hbb;go_wp2;go_ret
  exact ⟨⟨_,rfl,fun h=>by cases h⟩,hbf⟩
 | false=>
  have HS':=hdq (Short6.back h.out hbW (hbb rfl));clear hbb hb1 hbW;obtain ⟨m,hm⟩:∃ m,mayB ⟨z,⟨oA,on,oc⟩,⟨rA,rn,rc⟩,⟨bA,bn,bc⟩⟩ os rs=m:=⟨_,rfl⟩;go_wp2_with fail
  refine (zC2 (p:=⟨z,⟨oA,on,oc⟩,⟨rA,rn,rc⟩,⟨bA,bn,bc⟩⟩) (h.out.below hbf)).mono ?_;rintro e w2 ⟨rfl,hb2⟩;replace hP:=hP.below hb2 t0;replace t0:=ltl t0 hb2.size;clear p0 p1 p2 p3;obtain ⟨p0,p1,p2,p3,-⟩:=id hP;replace hbf:=hbf.trans (hb2.mono hbf.size);clear hb2;rw [hm]
  cases m with
  | false=>
   have HS:Hid (Short6 w X Y ⟨z,⟨oA,on,oc⟩,⟨rA,rn,rc⟩,⟨bA,bn,bc⟩⟩ os rs bs/\(mayB ⟨z,⟨oA,on,oc⟩,⟨rA,rn,rc⟩,⟨bA,bn,bc⟩⟩ os rs=true->z<=4/\rn<=4)):=⟨HS'.out,fun h=>by rw [hm] at h; cases h⟩;go_wp2;go_ret
   exact ⟨⟨_,rfl,fun _=>HS.out⟩,hbf⟩
  | true=>
   by_cases a1:(4:Int)<z
   ·go_wp2;go_ret;exact ⟨⟨_,rfl,fun h=>by cases h⟩,hbf⟩
   ·by_cases a2:(4:Int)<(rn:Int)
    ·go_wp2;go_ret;exact ⟨⟨_,rfl,fun h=>by cases h⟩,hbf⟩
    ·have HS:Hid (Short6 w X Y ⟨z,⟨oA,on,oc⟩,⟨rA,rn,rc⟩,⟨bA,bn,bc⟩⟩ os rs bs/\(mayB ⟨z,⟨oA,on,oc⟩,⟨rA,rn,rc⟩,⟨bA,bn,bc⟩⟩ os rs=true->z<=4/\rn<=4)):=⟨HS'.out,fun _=>om⟩;go_wp2;go_ret;exact ⟨⟨_,rfl,fun _=>HS.out⟩,hbf⟩
end Go.Proofs.YtbpngececjihlaaGreat
