/- Texts Lin Simplex1 Simplex2 Simplex3 BnA BnB BnK BnL of this claim. -/
import Derived.Test.YtpjaodcimomaiaaGreatLA0
set_option maxHeartbeats 4000000
namespace Go.Proofs.YtpjaodcimomaiaaGreat.Lin
variable {f:Nat->Rat} {n s N:Nat}
def sum:Nat->(Nat->Rat)->Rat
 | 0,_=>0
 | n+1,f=>sum n f+f n
theorem zAh {g:Nat->Rat} (h:∀ i,i<n->f i=g i):sum n f=sum n g:=by
 induction n with
 | zero=>rfl
 | succ n ih=>rw [sum,sum,ih fun i hi=>h i (by omega),h n (by omega)]
theorem zCb (n:Nat) (f g:Nat->Rat):sum n (fun i=>f i+g i)=sum n f+sum n g:=by
 induction n with
 | zero=>simp only [sum]; grind
 | succ n ih=>simp only [sum,ih]; grind
theorem zFD (n:Nat) (f g:Nat->Rat):sum n (fun i=>f i-g i)=sum n f-sum n g:=by
 induction n with
 | zero=>simp only [sum]; grind
 | succ n ih=>simp only [sum,ih]; grind
theorem zBK (n:Nat) (k:Rat) (f:Nat->Rat):sum n (fun i=>k*f i)=k*sum n f:=by
 induction n with
 | zero=>simp only [sum]; grind
 | succ n ih=>simp only [sum,ih]; grind
theorem zFC (n:Nat) (f:Nat->Rat):sum n (fun i=>- f i)=- sum n f:=by
 induction n with
 | zero=>simp only [sum]; grind
 | succ n ih=>simp only [sum,ih]; grind
theorem zAC (h:∀ i,i<n->f i=0):sum n f=0:=by
 induction n with
 | zero=>rfl
 | succ n ih=>rw [sum,ih fun i hi=>h i (by omega),h n (by omega)]; grind
def sumBut (n s:Nat) (f:Nat->Rat):Rat:=sum n fun i=>if i=s then 0 else f i
theorem zF9 (h:s<n) (f:Nat->Rat):sum n f=f s+sumBut n s f:=by
 unfold sumBut
 induction n with
 | zero=>omega
 | succ n ih=>
  by_cases hs:s=n
  ·subst hs;simp only [sum,if_true];rw [show sum s (fun i=>if i=s then 0 else f i)=sum s f from zAh fun i hi=>if_neg (by omega)];grind
  ·simp only [sum];rw [ih (by omega),if_neg (by omega)];grind
theorem zBu (h:s<n) (h0:∀ i,i<n->i ≠ s->f i=0):sum n f=f s:=by
 rw [zF9 h,sumBut,zAC (fun i hi=>by by_cases e:i=s <;> simp [e]; exact h0 i hi e)];grind
theorem zBt (h:∀ i,i<n->0<=f i):0<=sum n f:=by
 induction n with
 | zero=>exact Rat.le_refl
 | succ n ih=>
  rw [sum];have:=ih fun i hi=>h i (by omega)
  have:=h n (by omega);grind
theorem zH0 (h:∀ i,i<n->f i<=0):sum n f<=0:=by
 have:=zBt (n:=n) (f:=fun i=>- f i) fun i hi=>by have:=h i hi; grind
 rw [zFC] at this;grind
theorem mul_nonneg {a b:Rat} (ha:0<=a) (hb:0<=b):0<=a*b:=Rat.mul_nonneg ha hb
theorem mul_pos {a b:Rat} (ha:0<a) (hb:0<b):0<a*b:=Rat.mul_pos ha hb
theorem inv_pos {a:Rat} (h:0<a):0<a⁻¹:=Rat.inv_pos.2 h
def LexNeg (N:Nat) (f:Nat->Rat):Prop:=∃ i,i<N/\f i<0/\∀ j,j<i->f j=0
def LexPos (N:Nat) (f:Nat->Rat):Prop:=∃ i,i<N/\0<f i/\∀ j,j<i->f j=0
def LexZero (N:Nat) (f:Nat->Rat):Prop:=∀ i,i<N->f i=0
theorem zFM (N:Nat) (f:Nat->Rat):LexNeg N f\/LexZero N f\/LexPos N f:=by
 induction N with
 | zero=>exact .inr (.inl fun i hi=>by omega)
 | succ N ih=>
  rcases ih with ⟨i,hi,h⟩ | h | ⟨i,hi,h⟩
  ·exact .inl ⟨i,by omega,h⟩
  ·rcases (by grind:f N<0\/f N=0\/0<f N) with h1 | h1 | h1
   ·exact .inl ⟨N,by omega,h1,h⟩
   ·refine .inr (.inl fun i hi=>?_);by_cases e:i=N
    ·rw [e]; exact h1
    ·exact h i (by omega)
   ·exact .inr (.inr ⟨N,by omega,h1,h⟩)
  ·exact .inr (.inr ⟨i,by omega,h⟩)
theorem LexNeg.not_pos (h:LexNeg N f):¬ LexPos N f:=by
 obtain ⟨i,_,h1,h2⟩:=h;rintro ⟨j,_,h3,h4⟩;rcases Nat.lt_trichotomy i j with h | h | h
 ·have:=h4 i h; grind
 ·subst h; grind
 ·have:=h2 j h; grind
theorem LexNeg.not_zero (h:LexNeg N f):¬ LexZero N f:=by
 obtain ⟨i,h0,h1,h2⟩:=h;intro hz; have:=hz i h0; grind
theorem LexPos.not_zero (h:LexPos N f):¬ LexZero N f:=by
 obtain ⟨i,h0,h1,h2⟩:=h;intro hz; have:=hz i h0; grind
def LexNN (N:Nat) (f:Nat->Rat):Prop:=LexZero N f\/LexPos N f
theorem LexNN.of_not (h:¬ LexNeg N f):LexNN N f:=(zFM N f).resolve_left h
theorem LexNN.not (h:LexNN N f):¬ LexNeg N f:=by
 intro hn;rcases h with h | h
 ·exact hn.not_zero h
 ·exact hn.not_pos h
theorem LexZero.add {g:Nat->Rat} (h:LexZero N f) (k:LexZero N g):LexZero N fun i=>f i+g i:=fun i hi=>by dsimp only; rw [h i hi,k i hi]; grind
theorem LexNN.add {g:Nat->Rat} (h:LexNN N f) (k:LexNN N g):LexNN N fun i=>f i+g i:=by
 rcases h with h | ⟨i,hi,h1,h2⟩
 ·rcases k with k | ⟨i,hi,h1,h2⟩
  ·exact .inl (h.add k)
  ·exact .inr ⟨i,hi,by dsimp only; rw [h i hi]; grind,fun j hj=>by dsimp only; rw [h j (by omega),h2 j hj]; grind⟩
 ·rcases k with k | ⟨j,hj,h3,h4⟩
  ·exact .inr ⟨i,hi,by dsimp only; rw [k i hi]; grind,fun j hj=>by dsimp only; rw [k j (by omega),h2 j hj]; grind⟩
  ·rcases Nat.lt_trichotomy i j with h | h | h
   ·exact .inr ⟨i,hi,by dsimp only; rw [h4 i h]; grind,fun k hk=>by dsimp only; rw [h4 k (by omega),h2 k hk]; grind⟩
   ·subst h; exact .inr ⟨i,hi,by dsimp only; grind,fun k hk=>by dsimp only; rw [h4 k (by omega),h2 k hk]; grind⟩
   ·exact .inr ⟨j,hj,by dsimp only; rw [h2 j h]; grind,fun k hk=>by dsimp only; rw [h4 k (by omega),h2 k (by omega)]; grind⟩
theorem LexNN.smul (h:LexNN N f) {k:Rat} (hk:0<=k):LexNN N fun i=>k*f i:=by
 rcases h with h | ⟨i,hi,h1,h2⟩
 ·exact .inl fun i hi=>by dsimp only; rw [h i hi]; grind
 ·rcases (by grind:k=0\/0<k) with h0 | h0
  ·exact .inl fun i hi=>by dsimp only; rw [h0]; grind
  ·exact .inr ⟨i,hi,mul_pos h0 h1,fun j hj=>by dsimp only; rw [h2 j hj]; grind⟩
theorem LexNN.sum {f:Nat->Nat->Rat} (h:∀ j,j<n->LexNN N fun i=>f i j):LexNN N fun i=>Lin.sum n (f i):=by
 induction n with
 | zero=>exact .inl fun i hi=>rfl
 | succ n ih=>exact (ih fun j hj=>h j (by omega)).add (h n (by omega))
theorem LexNeg.neg (h:LexNeg N f):LexPos N fun i=>- f i:=by
 obtain ⟨i,h0,h1,h2⟩:=h;exact ⟨i,h0,by dsimp only; grind,fun j hj=>by dsimp only; rw [h2 j hj]; grind⟩
theorem LexPos.neg (h:LexPos N f):LexNeg N fun i=>- f i:=by
 obtain ⟨i,h0,h1,h2⟩:=h;exact ⟨i,h0,by dsimp only; grind,fun j hj=>by dsimp only; rw [h2 j hj]; grind⟩
theorem LexPos.smul (h:LexPos N f) {k:Rat} (hk:0<k):LexPos N fun i=>k*f i:=by
 obtain ⟨i,h0,h1,h2⟩:=h;exact ⟨i,h0,mul_pos hk h1,fun j hj=>by dsimp only; rw [h2 j hj]; grind⟩
theorem LexNeg.congr {g:Nat->Rat} (h:LexNeg N f) (e:∀ i,i<N->f i=g i):LexNeg N g:=by
 obtain ⟨i,h0,h1,h2⟩:=h;exact ⟨i,h0,by rw [<-e i h0]; exact h1,fun j hj=>by rw [<-e j (by omega)]; exact h2 j hj⟩
theorem LexPos.congr {g:Nat->Rat} (h:LexPos N f) (e:∀ i,i<N->f i=g i):LexPos N g:=by
 obtain ⟨i,h0,h1,h2⟩:=h;exact ⟨i,h0,by rw [<-e i h0]; exact h1,fun j hj=>by rw [<-e j (by omega)]; exact h2 j hj⟩
theorem LexNN.congr {g:Nat->Rat} (h:LexNN N f) (e:∀ i,i<N->f i=g i):LexNN N g:=by
 rcases h with h | h
 ·exact .inl fun i hi=>by rw [<-e i hi]; exact h i hi
 ·exact .inr (h.congr e)
theorem LexPos.add {g:Nat->Rat} (h:LexPos N f) (k:LexNN N g):LexPos N fun i=>f i+g i:=by
 rcases (LexNN.add (.inr h) k) with h1 | h1
 ·exfalso;have h2:=h.neg;exact k.not (h2.congr fun i hi=>by have:=h1 i hi; grind)
 ·exact h1
end Go.Proofs.YtpjaodcimomaiaaGreat.Lin
namespace Go.Proofs.YtpjaodcimomaiaaGreat.Lin
variable {m i n s j r:Nat}
structure Prob where
 n:Nat
 m:Nat
 K:Nat
 A:Nat->Nat->Rat
 b:Nat->Rat
 O:Nat->Nat->Rat
def Prob.Sys (P:Prob) (x:Nat->Rat):Prop:=∀ i,i<P.m->x (P.n+i)=P.b i-sum P.n fun k=>P.A i k*x k
def Prob.obj (P:Prob) (l:Nat) (x:Nat->Rat):Rat:=if l<P.K then sum P.n (fun k=>P.O l k*x k) else-x (l-P.K)
structure Dict where
 basic:Nat->Nat
 free:Nat->Nat
 a:Nat->Nat->Rat
 c:Nat->Nat->Rat
def val (n:Nat) (F:Nat->Nat) (r:Nat->Rat) (x:Nat->Rat):Rat:=r n-sum n fun j=>r j*x (F j)
structure Good (P:Prob) (D:Dict):Prop where
 bLt:∀ i,i<P.m->D.basic i<P.n+P.m
 fLt:∀ j,j<P.n->D.free j<P.n+P.m
 bInj:∀ i j,i<P.m->j<P.m->D.basic i=D.basic j->i=j
 fInj:∀ i j,i<P.n->j<P.n->D.free i=D.free j->i=j
 apart:∀ i j,i<P.m->j<P.n->D.basic i ≠ D.free j
 all:∀ v,v<P.n+P.m->(∃ i,i<P.m/\D.basic i=v)\/(∃ j,j<P.n/\D.free j=v)
 rows:∀ x,P.Sys x ↔ ∀ i,i<P.m->x (D.basic i)=val P.n D.free (D.a i) x
 costs:∀ x,P.Sys x->∀ l,l<P.K->sum P.n (fun k=>P.O l k*x k)=val P.n D.free (D.c l) x
def find (f:Nat->Nat) (v:Nat):Nat->Nat
 | 0=>0
 | m+1=>if find f v m<m then find f v m else if f m=v then m else m+1
theorem zCi (f:Nat->Nat) (v m:Nat):(find f v m<m/\f (find f v m)=v)\/(find f v m=m/\∀ i,i<m->f i ≠ v):=by
 induction m with
 | zero=>exact .inr ⟨rfl,fun i hi=>by omega⟩
 | succ m ih=>
  unfold find;rcases ih with ⟨h1,h2⟩ | ⟨h1,h2⟩
  ·rw [if_pos h1]; exact .inl ⟨by omega,h2⟩
  ·rw [if_neg (by omega)];by_cases h:f m=v
   ·rw [if_pos h]; exact .inl ⟨by omega,h⟩
   ·rw [if_neg h];refine .inr ⟨rfl,fun i hi=>?_⟩;by_cases e:i=m
    ·rw [e]; exact h
    ·exact h2 i (by omega)
theorem zFk {f:Nat->Nat} {v:Nat} (hi:i<m) (h:f i=v):find f v m<m/\f (find f v m)=v:=by
 rcases zCi f v m with h1 | ⟨_,h2⟩
 ·exact h1
 ·exact absurd h (h2 i hi)
theorem zCQ {f:Nat->Nat} {v:Nat} (h:∀ i,i<m->f i ≠ v):¬ find f v m<m:=by
 intro hl;rcases zCi f v m with ⟨h1,h2⟩ | ⟨h1,_⟩
 ·exact h _ h1 h2
 ·omega
theorem zIl {f:Nat->Nat} (inj:∀ i j,i<m->j<m->f i=f j->i=j) (hi:i<m):find f (f i) m=i:=by
 obtain ⟨h1,h2⟩:=zFk hi rfl;exact inj _ _ h1 hi h2
def Dict.cost (P:Prob) (D:Dict) (l j:Nat):Rat:=
 if l<P.K then D.c l j
 else if find D.basic (l-P.K) P.m<P.m then-D.a (find D.basic (l-P.K) P.m) j
 else if j<P.n/\D.free j=l-P.K then 1 else 0
theorem zJ5 (n:Nat) (F:Nat->Nat) (r x:Nat->Rat):val n F (fun j=>- r j) x=- val n F r x:=by
 unfold val;rw [zAh (g:=fun j=>- (r j*x (F j))) (fun i _=>by grind),zFC];grind
theorem Good.cost_val {P:Prob} {D:Dict} (G:Good P D) {x:Nat->Rat} (hx:P.Sys x) {l:Nat} (hl:l<P.K+P.n):P.obj l x=val P.n D.free (D.cost P l) x:=by
 by_cases h:l<P.K
 ·have:D.cost P l=D.c l:=by funext j; simp [Dict.cost,h]
  rw [this,Prob.obj,if_pos h];exact G.costs x hx l h
 ·rw [Prob.obj,if_neg h];rcases G.all (l-P.K) (by omega) with ⟨i,hi,e⟩ | ⟨j,hj,e⟩
  ·obtain ⟨h1,h2⟩:=zFk hi e;have:D.cost P l=fun j=>- D.a (find D.basic (l-P.K) P.m) j:=by funext j; simp [Dict.cost,h,h1]
   rw [this,zJ5,<-(G.rows x).1 hx _ h1,h2]
  ·have hno:=zCQ (f:=D.basic) (v:=l-P.K) (m:=P.m) (fun i hi e'=>G.apart i j hi hj (e'.trans e.symm));have:D.cost P l=fun j=>if j<P.n/\D.free j=l-P.K then 1 else 0:=by funext j; simp [Dict.cost,h,hno]
   rw [this,val,if_neg (by omega),zBu (s:=j) hj (fun i hi hij=>by
    rw [if_neg (fun hh=>hij (G.fInj i j hi hj (hh.2.trans e.symm)))]; grind),if_pos ⟨hj,e⟩,e]
   grind
def scaled (s:Nat) (r:Nat->Rat):Nat->Rat:=fun j=>if j=s then (r s)⁻¹ else (r s)⁻¹*r j
def elim (s:Nat) (by' r:Nat->Rat):Nat->Rat:=fun j=>(if j=s then 0 else r j)-r s*by' j
def turn {α:Type} (f:Nat->α) (s:Nat) (v:α):Nat->α:=fun j=>if j=s then v else f j
def Dict.pivot (D:Dict) (r s:Nat):Dict where
 basic:=turn D.basic r (D.free s)
 free:=turn D.free s (D.basic r)
 a:=fun i=>if i=r then scaled s (D.a r) else elim s (scaled s (D.a r)) (D.a i)
 c:=fun l=>elim s (scaled s (D.a r)) (D.c l)
theorem zCu (hs:s<n) (F:Nat->Nat) (r x:Nat->Rat):val n F r x=r n-(r s*x (F s)+sumBut n s fun j=>r j*x (F j)):=by
 rw [val,zF9 hs]
theorem zDA (hs:s<n) {F:Nat->Nat} {r x:Nat->Rat} (u:Nat) (h0:r s ≠ 0):x u=val n F r x ↔ x (F s)=val n (turn F s u) (scaled s r) x:=by
 rw [zCu hs,zCu hs]
 have e:sumBut n s (fun j=>scaled s r j*x (turn F s u j))=(r s)⁻¹*sumBut n s fun j=>r j*x (F j):=by
  unfold sumBut;rw [<-zBK];refine zAh fun i _=>?_
  by_cases h:i=s
  ·simp [h]
  ·simp [h,scaled,turn]; grind
 rw [e];have e1:scaled s r n=(r s)⁻¹*r n:=by unfold scaled; rw [if_neg (by omega)]
 have e2:scaled s r s=(r s)⁻¹:=by unfold scaled; rw [if_pos rfl]
 have e3:turn F s u s=u:=by unfold turn; rw [if_pos rfl]
 rw [e1,e2,e3];generalize sumBut n s (fun j=>r j*x (F j))=T;constructor
 ·intro h; rw [h]; grind
 ·intro h; rw [h]; grind
theorem zCY (hs:s<n) {F:Nat->Nat} {r by' x:Nat->Rat} (u:Nat) (h:x (F s)=val n (turn F s u) by' x):val n F r x=val n (turn F s u) (elim s by' r) x:=by
 rw [zCu hs] at h;rw [zCu hs,zCu hs]
 have e:sumBut n s (fun j=>elim s by' r j*x (turn F s u j))=(sumBut n s fun j=>r j*x (F j))-r s*sumBut n s fun j=>by' j*x (turn F s u j):=by
  unfold sumBut;rw [<-zBK,<-zFD];refine zAh fun i _=>?_
  by_cases h:i=s
  ·simp [h]; grind
  ·simp [h,elim,turn]; grind
 rw [e];have e1:elim s by' r n=r n-r s*by' n:=by unfold elim; rw [if_neg (by omega)]
 have e2:elim s by' r s=- (r s*by' s):=by unfold elim; rw [if_pos rfl]; grind
 have e3:turn F s u s=u:=by unfold turn; rw [if_pos rfl]
 rw [e3] at h;rw [e1,e2,e3,h];grind
theorem zBL {α:Type} (f:Nat->α) (s:Nat) (v:α):turn f s v s=v:=by simp [turn]
theorem zBh {α:Type} (f:Nat->α) (h:j ≠ s) (v:α):turn f s v j=f j:=by simp [turn,h]
theorem Good.pivot {P:Prob} {D:Dict} (G:Good P D) (hr:r<P.m) (hs:s<P.n) (h0:D.a r s ≠ 0):Good P (D.pivot r s):=by
 have key:∀ x,P.Sys x ↔ ∀ i,i<P.m->x ((D.pivot r s).basic i)=val P.n (D.pivot r s).free ((D.pivot r s).a i) x:=by
  intro x;rw [G.rows x];have k0:=zDA hs (F:=D.free) (r:=D.a r) (x:=x) (D.basic r) h0;constructor
  ·intro h i hi;have k1:=k0.1 (h r hr);by_cases e:i=r
   ·subst e; simpa [Dict.pivot,turn] using k1
   ·have:=(h i hi).trans (zCY hs (D.basic r) (r:=D.a i) k1);simpa [Dict.pivot,zBh _ e,e] using this
  ·intro h i hi;have k1:=h r hr;simp only [Dict.pivot,zBL,if_true] at k1;by_cases e:i=r
   ·subst e; exact k0.2 k1
   ·rw [zCY hs (D.basic r) (r:=D.a i) k1];have:=h i hi;simpa [Dict.pivot,zBh _ e,e] using this
 refine ⟨?_,?_,?_,?_,?_,?_,key,?_⟩
 ·intro i hi;by_cases e:i=r
  ·simpa [Dict.pivot,turn,e] using G.fLt s hs
  ·simpa [Dict.pivot,turn,e] using G.bLt i hi
 ·intro j hj;by_cases e:j=s
  ·simpa [Dict.pivot,turn,e] using G.bLt r hr
  ·simpa [Dict.pivot,turn,e] using G.fLt j hj
 ·intro i j hi hj h;by_cases e:i=r <;> by_cases e':j=r <;> simp [Dict.pivot,turn,e,e'] at h
  ·omega
  ·exact absurd h.symm (G.apart j s hj hs)
  ·exact absurd h (G.apart i s hi hs)
  ·exact G.bInj i j hi hj h
 ·intro i j hi hj h;by_cases e:i=s <;> by_cases e':j=s <;> simp [Dict.pivot,turn,e,e'] at h
  ·omega
  ·exact absurd h (G.apart r j hr hj)
  ·exact absurd h.symm (G.apart r i hr hi)
  ·exact G.fInj i j hi hj h
 ·intro i j hi hj h;by_cases e:i=r <;> by_cases e':j=s <;> simp [Dict.pivot,turn,e,e'] at h
  ·exact absurd h.symm (G.apart r s hr hs)
  ·exact e' (G.fInj s j hs hj h).symm
  ·exact e (G.bInj i r hi hr h)
  ·exact G.apart i j hi hj h
 ·intro v hv;rcases G.all v hv with ⟨i,hi,e⟩ | ⟨j,hj,e⟩
  ·by_cases h:i=r
   ·exact .inr ⟨s,hs,by simp [Dict.pivot,turn,<-e,h]⟩
   ·exact .inl ⟨i,hi,by simp [Dict.pivot,turn,h,e]⟩
  ·by_cases h:j=s
   ·exact .inl ⟨r,hr,by simp [Dict.pivot,turn,<-e,h]⟩
   ·exact .inr ⟨j,hj,by simp [Dict.pivot,turn,h,e]⟩
 ·intro x hx l hl;rw [G.costs x hx l hl];have k1:=(key x).1 hx r hr;simp only [Dict.pivot,zBL,if_true] at k1;exact zCY hs (D.basic r) k1
def Dict.point (P:Prob) (D:Dict) (v:Nat):Rat:=if find D.basic v P.m<P.m then D.a (find D.basic v P.m) P.n else 0
def Dict.dir (P:Prob) (D:Dict) (s v:Nat):Rat:=if find D.basic v P.m<P.m then-D.a (find D.basic v P.m) s else if v=D.free s then 1 else 0
section
variable {P:Prob} {D:Dict} (G:Good P D)
 include G
theorem Good.point_basic (hi:i<P.m):D.point P (D.basic i)=D.a i P.n:=by
 rw [Dict.point,zIl G.bInj hi,if_pos hi]
theorem Good.point_free (hj:j<P.n):D.point P (D.free j)=0:=by
 rw [Dict.point,if_neg (zCQ fun i hi=>G.apart i j hi hj)]
theorem Good.dir_basic (hi:i<P.m):D.dir P s (D.basic i)=- D.a i s:=by
 rw [Dict.dir,zIl G.bInj hi,if_pos hi]
theorem Good.dir_free (hs:s<P.n) (hj:j<P.n):D.dir P s (D.free j)=if j=s then 1 else 0:=by
 rw [Dict.dir,if_neg (zCQ fun i hi=>G.apart i j hi hj)];by_cases e:j=s
 ·simp [e]
 ·rw [if_neg e,if_neg (fun h=>e (G.fInj j s hj hs h))]
theorem Good.point_sys:P.Sys (D.point P):=by
 rw [G.rows];intro i hi;rw [G.point_basic hi,val,zAC fun j hj=>by rw [G.point_free hj]; grind];grind
theorem zGM (hs:s<P.n) (r x:Nat->Rat) (t:Rat):val P.n D.free r (fun v=>x v+t*D.dir P s v)=val P.n D.free r x-t*r s:=by
 unfold val
 have e:sum P.n (fun j=>r j*(x (D.free j)+t*D.dir P s (D.free j)))=sum P.n (fun j=>r j*x (D.free j))+t*r s:=by
  rw [zAh (g:=fun j=>r j*x (D.free j)+t*(r j*D.dir P s (D.free j))) (fun i _=>by grind),zCb,zBK]
  have e2:sum P.n (fun j=>r j*D.dir P s (D.free j))=r s:=by
   rw [zBu (s:=s) hs (fun i hi h=>by rw [G.dir_free hs hi,if_neg h]; grind),G.dir_free hs hs,if_pos rfl];grind
  rw [e2]
 rw [e]; grind
theorem Good.dir_sys (hs:s<P.n) {x:Nat->Rat} (hx:P.Sys x) (t:Rat):P.Sys fun v=>x v+t*D.dir P s v:=by
 rw [G.rows] at hx ⊢;intro i hi;rw [zGM G hs,<-hx i hi,G.dir_basic hi]; grind
theorem Good.obj_dir (hs:s<P.n) {x:Nat->Rat} (hx:P.Sys x) (t:Rat) {l:Nat} (hl:l<P.K+P.n):P.obj l (fun v=>x v+t*D.dir P s v)=P.obj l x-t*D.cost P l s:=by
 rw [G.cost_val (G.dir_sys hs hx t) hl,G.cost_val hx hl,zGM G hs]
theorem Good.obj_point {l:Nat} (hl:l<P.K+P.n):P.obj l (D.point P)=D.cost P l P.n:=by
 rw [G.cost_val G.point_sys hl,val,zAC fun j hj=>by rw [G.point_free hj]; grind];grind
theorem Good.unique {x y:Nat->Rat} (hx:P.Sys x) (hy:P.Sys y) (h:∀ j,j<P.n->x (D.free j)=y (D.free j)) {v:Nat} (hv:v<P.n+P.m):x v=y v:=by
 rcases G.all v hv with ⟨i,hi,e⟩ | ⟨j,hj,e⟩
 ·rw [<-e,(G.rows x).1 hx i hi,(G.rows y).1 hy i hi,val,val,zAh fun j hj=>by rw [h j hj]]
 ·rw [<-e]; exact h j hj
end
def Prob.start (P:Prob):Dict where
 basic:=fun i=>P.n+i
 free:=fun j=>j
 a:=fun i j=>if j<P.n then P.A i j else P.b i
 c:=fun l j=>if j<P.n then-P.O l j else 0
theorem Prob.start_good (P:Prob):Good P P.start:=by
 refine ⟨fun i hi=>by simp [Prob.start]; omega,fun j hj=>by simp [Prob.start]; omega,fun i j _ _ h=>by simpa [Prob.start] using h,fun i j _ _ h=>by simpa [Prob.start] using h,fun i j hi hj=>by simp [Prob.start]; omega,?_,?_,?_⟩
 ·intro v hv;by_cases h:v<P.n
  ·exact .inr ⟨v,h,rfl⟩
  ·exact .inl ⟨v-P.n,by omega,by simp [Prob.start]; omega⟩
 ·intro x;unfold Prob.Sys;refine forall_congr' fun i=>forall_congr' fun hi=>?_
  simp only [Prob.start,val,Nat.lt_irrefl,if_false];rw [zAh (f:=fun j=>(if j<P.n then P.A i j else P.b i)*x j) (g:=fun k=>P.A i k*x k) (fun k hk=>by rw [if_pos hk])]
 ·intro x hx l hl;simp only [Prob.start,val,Nat.lt_irrefl,if_false];rw [zAh (f:=fun j=>(if j<P.n then-P.O l j else 0)*x j) (g:=fun k=>- (P.O l k*x k)) (fun k hk=>by rw [if_pos hk]; grind),zFC];grind
end Go.Proofs.YtpjaodcimomaiaaGreat.Lin
namespace Go.Proofs.YtpjaodcimomaiaaGreat.Lin
variable {i j b r s N:Nat}
def Dict.bas (P:Prob) (D:Dict) (v:Nat):Bool:=decide (find D.basic v P.m<P.m)
theorem zFe {P:Prob} {D:Dict} {v:Nat} (h:D.bas P v=true):∃ i,i<P.m/\D.basic i=v:=by
 rcases zCi D.basic v P.m with ⟨h1,h2⟩ | ⟨h1,h2⟩
 ·exact ⟨_,h1,h2⟩
 ·simp [Dict.bas] at h; omega
theorem zEP {P:Prob} {D:Dict} (hi:i<P.m):D.bas P (D.basic i)=true:=by
 simp [Dict.bas,(zFk hi rfl).1]
theorem zBR {P:Prob} {D:Dict} (G:Good P D) {v:Nat} (hv:v<P.n+P.m) (h:D.bas P v=false):∃ j,j<P.n/\D.free j=v:=by
 rcases G.all v hv with ⟨i,hi,e⟩ | h1
 ·rw [<-e,zEP hi] at h; cases h
 ·exact h1
theorem zBw {P:Prob} {D:Dict} (G:Good P D) (hj:j<P.n):D.bas P (D.free j)=false:=by
 simp only [Dict.bas,decide_eq_false_iff_not];exact zCQ fun i hi=>G.apart i j hi hj
theorem zB8 {P:Prob} {D:Dict} {v:Nat} (h:D.bas P v=false):D.point P v=0:=by
 rw [Dict.point,if_neg (by simpa [Dict.bas] using h)]
section
variable {P:Prob} {D:Dict} {r s:Nat}
theorem enters {v:Nat} (h1:D.bas P v=false) (h2:(D.pivot r s).bas P v=true):v=D.free s:=by
 obtain ⟨i,hi,e⟩:=zFe h2;by_cases h:i=r
 ·simp [Dict.pivot,turn,h] at e; exact e.symm
 ·simp [Dict.pivot,turn,h] at e;rw [<-e,zEP hi] at h1; cases h1
theorem leaves (G:Good P D) (hr:r<P.m) (hs:s<P.n) (h0:D.a r s ≠ 0) {v:Nat} (hv:v<P.n+P.m) (h1:D.bas P v=true) (h2:(D.pivot r s).bas P v=false):v=D.basic r:=by
 have G':=G.pivot hr hs h0;obtain ⟨j,hj,e⟩:=zBR G' hv h2;by_cases h:j=s
 ·simp [Dict.pivot,turn,h] at e; exact e.symm
 ·simp [Dict.pivot,turn,h] at e;rw [<-e,zBw G hj] at h1; cases h1
theorem entered (hr:r<P.m):(D.pivot r s).bas P (D.free s)=true:=by
 have:=zEP (P:=P) (D:=D.pivot r s) hr;simpa [Dict.pivot,turn] using this
theorem left (G:Good P D) (hr:r<P.m) (hs:s<P.n) (h0:D.a r s ≠ 0):(D.pivot r s).bas P (D.basic r)=false:=by
 have:=zBw (G.pivot hr hs h0) hs;simpa [Dict.pivot,turn] using this
end
theorem change {q:Nat->Bool} {a:Nat} (hab:a<=b) (h1:q a=false) (h2:q b=true):∃ k,a<=k/\k<b/\q k=false/\q (k+1)=true:=by
 induction b with
 | zero=>
  obtain rfl:a=0:=by omega
  rw [h1] at h2; cases h2
 | succ b ih=>
  by_cases e:a=b+1
  ·subst e; rw [h1] at h2; cases h2
  ·cases hb:q b with
   | true=>obtain ⟨k,hk1,hk2,h3⟩:=ih (by omega) hb; exact ⟨k,hk1,by omega,h3⟩
   | false=>exact ⟨b,by omega,by omega,hb,h2⟩
theorem change' {q:Nat->Bool} {a:Nat} (hab:a<=b) (h1:q a=true) (h2:q b=false):∃ k,a<=k/\k<b/\q k=true/\q (k+1)=false:=by
 obtain ⟨k,h3,h4,h5,h6⟩:=change (q:=fun i=>! q i) hab (by simp [h1]) (by simp [h2]);exact ⟨k,h3,h4,by simpa using h5,by simpa using h6⟩
theorem greatest {p:Nat->Prop} (N:Nat) (hN:∀ v,p v->v<N) (h:∃ v,p v):∃ t,p t/\∀ v,p v->v<=t:=by
 induction N with
 | zero=>obtain ⟨v,hv⟩:=h; have:=hN v hv; omega
 | succ N ih=>
  by_cases hp:p N
  ·exact ⟨N,hp,fun v hv=>by have:=hN v hv; omega⟩
  ·(refine ih fun v hv=>?_);have:=hN v hv;have:v ≠ N:=(fun e=>hp (e ▸ hv));omega
theorem fickle {P:Prob} {f:Nat->Dict} (hij:i<j) (G:∀ k,i<=k->k<=j->Good P (f k))
  (st:∀ k,i<=k->k<j->∃ r s,r<P.m/\s<P.n/\(f k).a r s ≠ 0/\f (k+1)=(f k).pivot r s)
  (same:∀ v,v<P.n+P.m->(f i).bas P v=(f j).bas P v) :
  ∃ t,t<P.n+P.m/\(∀ v k k',v<P.n+P.m->i<=k->k<=j->i<=k'->k'<=j->(f k).bas P v ≠ (f k').bas P v->v<=t)/\
   (∃ p,i<=p/\p<j/\(f p).bas P t=false/\(f (p+1)).bas P t=true)/\(∃ q,i<=q/\q<j/\(f q).bas P t=true/\(f (q+1)).bas P t=false):=by
 have hex:∃ v,v<P.n+P.m/\∃ k,i<=k/\k<=j/\(f k).bas P v ≠ (f i).bas P v:=by
  obtain ⟨r,s,hr,hs,h0,e⟩:=st i (by omega) hij;refine ⟨(f i).free s,(G i (by omega) (by omega)).fLt s hs,i+1,by omega,by omega,?_⟩;rw [e,entered hr,zBw (G i (by omega) (by omega)) hs];simp
 obtain ⟨t,⟨ht,k,hk1,hk2,hk3⟩,hmax⟩:=greatest (P.n+P.m) (fun v hv=>hv.1) hex;refine ⟨t,ht,?_,?_⟩
 ·intro v k k' hv a b c d hne;by_cases h:(f k).bas P v=(f i).bas P v
  ·exact hmax v ⟨hv,k',c,d,fun e=>hne (h.trans e.symm)⟩
  ·exact hmax v ⟨hv,k,a,b,h⟩
 ·have hs:=same t ht
  cases hb:(f i).bas P t with
  | false=>
   have hbk:(f k).bas P t=true:=by rw [hb] at hk3; simpa using hk3
   obtain ⟨p,h1,h2,h3,h4⟩:=change (q:=fun k=>(f k).bas P t) hk1 hb hbk;obtain ⟨q,h5,h6,h7,h8⟩:=change' (q:=fun k=>(f k).bas P t) hk2 hbk (by rw [<-hs]; exact hb)
   exact ⟨⟨p,h1,by omega,h3,h4⟩,⟨q,by omega,h6,h7,h8⟩⟩
  | true=>
   have hbk:(f k).bas P t=false:=by rw [hb] at hk3; simpa using hk3
   obtain ⟨p,h1,h2,h3,h4⟩:=change' (q:=fun k=>(f k).bas P t) hk1 hb hbk;obtain ⟨q,h5,h6,h7,h8⟩:=change (q:=fun k=>(f k).bas P t) hk2 hbk (by rw [<-hs]; exact hb);exact ⟨⟨q,by omega,h6,h7,h8⟩,⟨p,h1,by omega,h3,h4⟩⟩
structure RSel (P:Prob) (D:Dict) (r s:Nat):Prop where
 hr:r<P.m
 neg:D.a r P.n<0
 least:∀ i,i<P.m->D.a i P.n<0->D.basic r<=D.basic i
 hs:s<P.n
 elt:D.a r s<0
 first:∀ j,j<P.n->D.a r j<0->D.free s<=D.free j
theorem RSel.ne {P:Prob} {D:Dict} (h:RSel P D r s):D.a r s ≠ 0:=by have:=h.elt; grind
theorem zF1 {P:Prob} {f:Nat->Dict} (hij:i<j) (G:∀ k,i<=k->k<=j->Good P (f k))
  (st:∀ k,i<=k->k<j->∃ r s,RSel P (f k) r s/\f (k+1)=(f k).pivot r s)
  (same:∀ v,v<P.n+P.m->(f i).bas P v=(f j).bas P v):False:=by
 obtain ⟨t,ht,hmax,⟨p,hp1,hp2,hp3,hp4⟩,⟨q,hq1,hq2,hq3,hq4⟩⟩:=fickle hij G (fun k h1 h2=>by
  obtain ⟨r,s,h,e⟩:=st k h1 h2;exact ⟨r,s,h.hr,h.hs,h.ne,e⟩) same
 obtain ⟨r,s,hp,ep⟩:=st p hp1 hp2;obtain ⟨r',s',hq,eq⟩:=st q hq1 hq2;have Gp:=G p hp1 (by omega);have Gq:=G q hq1 (by omega);have et:t=(f p).free s:=enters hp3 (by rw [<-ep]; exact hp4);have et':t=(f q).basic r':=leaves Gq hq.hr hq.hs hq.ne ht hq3 (by rw [<-eq]; exact hq4)
 have nn:∀ v,v<t->0<=(f q).point P v:=by
  intro v hv;rcases Gq.all v (by omega) with ⟨i,hi,e⟩ | ⟨j,hj,e⟩
  ·rw [<-e,Gq.point_basic hi];rcases (by grind:(f q).a i P.n<0\/0<=(f q).a i P.n) with h | h
   ·have:=hq.least i hi h; omega
   ·exact h
  ·rw [<-e,Gq.point_free hj]; exact Rat.le_refl
 have key:=(Gp.rows _).1 Gq.point_sys r hp.hr
 have hu:(f p).basic r<t:=by
  have h1:=hmax ((f p).basic r) p (p+1) (Gp.bLt r hp.hr) hp1 (by omega) (by omega) (by omega) (by rw [zEP hp.hr,ep,left Gp hp.hr hp.hs hp.ne]; simp);have h2:=Gp.apart r s hp.hr hp.hs;omega
 have hl:=nn _ hu
 have hS:0<=sum P.n fun j=>(f p).a r j*(f q).point P ((f p).free j):=by
  refine zBt fun j hj=>?_
  by_cases hjs:j=s
  ·subst hjs;rw [<-et,et',Gq.point_basic hq.hr];have h1:=hp.elt;have h2:=hq.neg;have:=mul_pos (show 0 < - (f p).a r j by grind) (show 0 < - (f q).a r' P.n by grind);grind
  ·cases hb:(f q).bas P ((f p).free j) with
   | false=>rw [zB8 hb]; grind
   | true=>
    have h1:=hmax ((f p).free j) q p (Gp.fLt j hj) hq1 (by omega) hp1 (by omega) (by rw [hb,zBw Gp hj]; simp);have h2:(f p).free j ≠ t:=(fun e=>hjs (Gp.fInj j s hj hp.hs (by rw [e,et])));refine mul_nonneg ?_ (nn _ (by omega));rcases (by grind:(f p).a r j<0\/0<=(f p).a r j) with h | h
    ·have:=hp.first j hj h; omega
    ·exact h
 have hneg:=hp.neg;rw [val] at key;grind
def Feas (P:Prob) (D:Dict):Prop:=∀ i,i<P.m->0<=D.a i P.n
theorem zMb {a b:Rat} (ha:0<=a) (hb:0<b):0<=a / b:=by
 rw [Rat.div_def]; exact mul_nonneg ha (Rat.le_of_lt (inv_pos hb))
def Dict.theta (P:Prob) (D:Dict) (r s:Nat):Rat:=D.a r P.n / D.a r s
theorem zK4 {P:Prob} {D:Dict} (G:Good P D) (hr:r<P.m) (hs:s<P.n) (h0:D.a r s ≠ 0) {v:Nat} (hv:v<P.n+P.m) :
  (D.pivot r s).point P v=D.point P v+D.theta P r s*D.dir P s v:=by
 have G':=G.pivot hr hs h0;refine G'.unique G'.point_sys (G.dir_sys hs G.point_sys _) (fun j hj=>?_) hv;rw [G'.point_free hj];by_cases e:j=s
 ·subst e;simp only [Dict.pivot,turn,if_true];rw [G.point_basic hr,G.dir_basic hr,Dict.theta];grind
 ·simp only [Dict.pivot,turn,if_neg e];rw [G.point_free hj,G.dir_free hs hj,if_neg e]; grind
theorem zCo {P:Prob} {x y:Nat->Rat} (h:∀ v,v<P.n->x v=y v) {l:Nat} (hl:l<P.K+P.n):P.obj l x=P.obj l y:=by
 unfold Prob.obj
 split
 ·exact zAh fun k hk=>by rw [h k hk]
 ·rw [h _ (by omega)]
theorem zLB {P:Prob} {D:Dict} (G:Good P D) (hr:r<P.m) (hs:s<P.n) (h0:D.a r s ≠ 0) {l:Nat} (hl:l<P.K+P.n) :
  P.obj l ((D.pivot r s).point P)=P.obj l (D.point P)-D.theta P r s*D.cost P l s:=by
 rw [<-G.obj_dir hs G.point_sys _ hl];exact zCo (fun v hv=>zK4 G hr hs h0 (by omega)) hl
theorem zLZ {z:Nat->Nat->Rat} (hij:i<=j) (h:∀ k,i<=k->k<j->LexNN N fun l=>z (k+1) l-z k l):LexNN N fun l=>z j l-z i l:=by
 induction j with
 | zero=>
  obtain rfl:i=0:=by omega
  exact .inl fun l _=>by grind
 | succ j ih=>
  by_cases e:i=j+1
  ·subst e; exact .inl fun l _=>by grind
  ·exact ((ih (by omega) fun k h1 h2=>h k h1 (by omega)).add (h j (by omega) (by omega))).congr fun l _=>by grind
end Go.Proofs.YtpjaodcimomaiaaGreat.Lin
namespace Go.Proofs.YtpjaodcimomaiaaGreat.Lin
variable {N r s:Nat}
def code (p:Nat->Bool):Nat->Nat
 | 0=>0
 | N+1=>code p N+if p N then 2 ^ N else 0
theorem zFg (p:Nat->Bool) (N:Nat):code p N<2 ^ N:=by
 induction N with
 | zero=>simp [code]
 | succ N ih=>simp only [code,Nat.pow_succ]; split <;> omega
theorem zGV {p q:Nat->Bool} (h:code p N=code q N):∀ v,v<N->p v=q v:=by
 induction N with
 | zero=>intro v hv; omega
 | succ N ih=>
  have h1:=zFg p N;have h2:=zFg q N;simp only [code] at h
  have h3:p N=q N:=by
   cases hp:p N <;> cases hq:q N <;> simp [hp,hq] at h ⊢ <;> omega
  rw [h3] at h;intro v hv;by_cases e:v=N
  ·rw [e]; exact h3
  ·exact ih (by omega) v (by omega)
theorem pigeon:∀ (M L:Nat) (f:Nat->Nat),(∀ i,i<L->f i<M)->(∀ i j,i<j->j<L->f i ≠ f j)->L<=M:=by
 intro M
 induction M with
 | zero=>
  intro L f h _;rcases Nat.eq_zero_or_pos L with h0 | h0
  ·omega
  ·have:=h 0 h0; omega
 | succ M ih=>
  intro L f h inj;by_cases hex:∃ i,i<L/\f i=M
  ·obtain ⟨i0,hi0,e0⟩:=hex;have:=ih (L-1) (fun i=>f (if i<i0 then i else i+1)) ?_ ?_
   ·omega
   ·intro i hi;by_cases h1:i<i0
    ·simp only [h1,if_true];have h2:=h i (by omega);have h3:=inj i i0 h1 hi0;omega
    ·simp only [h1,if_false];have h2:=h (i+1) (by omega);have h3:=inj i0 (i+1) (by omega) (by omega);omega
   ·intro i j hij hj;have:=inj (if i<i0 then i else i+1) (if j<i0 then j else j+1) (by split <;> split <;> omega) (by split <;> omega);exact this
  ·have:=ih L f (fun i hi=>by have:=h i hi; have:f i ≠ M:=fun e=>hex ⟨i,hi,e⟩; omega) inj;omega
theorem zHv (p:Nat->Prop) (h0:p 0) (M:Nat):∃ t,p t/\∀ L,L<=M->p L->L<=t:=by
 induction M with
 | zero=>exact ⟨0,h0,fun L h _=>h⟩
 | succ M ih=>
  by_cases hp:p (M+1)
  ·exact ⟨M+1,hp,fun L h _=>h⟩
  ·obtain ⟨t,h1,h2⟩:=ih;refine ⟨t,h1,fun L h h3=>?_⟩;by_cases e:L=M+1
   ·rw [e] at h3; exact absurd h3 hp
   ·exact h2 L (by omega) h3
theorem zIQ {α:Type} (good:α->Prop) (step:α->α->Prop) (M:Nat)
  (bound:∀ (f:Nat->α) (L:Nat),good (f 0)->(∀ i,i<L->step (f i) (f (i+1)))->L<=M) :
  ∃ rank:α->Nat,∀ a b,good a->step a b->rank b<rank a:=by
 have ex:∀ a,∃ t,(∃ f:Nat->α,f 0=a/\∀ i,i<t->step (f i) (f (i+1)))/\∀ L,L<=M->(∃ f:Nat->α,f 0=a/\∀ i,i<L->step (f i) (f (i+1)))->L<=t:=
  fun a=>zHv (fun L=>∃ f:Nat->α,f 0=a/\∀ i,i<L->step (f i) (f (i+1))) ⟨fun _=>a,rfl,fun i hi=>by omega⟩ M
 refine ⟨fun a=>Classical.choose (ex a),fun a b ga hs=>?_⟩;dsimp only;obtain ⟨⟨f,hf0,hf⟩,_⟩:=Classical.choose_spec (ex b);have ha:=(Classical.choose_spec (ex a)).2;generalize Classical.choose (ex b)=L at *;generalize Classical.choose (ex a)=L' at *
 have run:∃ f:Nat->α,f 0=a/\∀ i,i<L+1->step (f i) (f (i+1)):=by
  refine ⟨fun i=>match i with | 0=>a | i+1=>f i,rfl,fun i hi=>?_⟩
  cases i with
  | zero=>simpa [hf0] using hs
  | succ i=>exact hf i (by omega)
 have hle:L+1<=M:=by
  obtain ⟨g,hg0,hg⟩:=run;exact bound g (L+1) (by rw [hg0]; exact ga) hg
 have:=ha _ hle run;omega
def RStep (P:Prob) (D D':Dict):Prop:=∃ r s,RSel P D r s/\D'=D.pivot r s
theorem zF2 (P:Prob):∃ rank:Dict->Nat,∀ D r s,Good P D->RSel P D r s->rank (D.pivot r s)<rank D:=by
 obtain ⟨rank,h⟩:=zIQ (Good P) (RStep P) (2 ^ (P.n+P.m)) (fun f L h0 st=>by
  have G:∀ k,k<=L->Good P (f k):=by
   intro k
   induction k with
   | zero=>intro _; exact h0
   | succ k ih=>
    intro hk;obtain ⟨r,s,h,e⟩:=st k (by omega);rw [e]; exact (ih (by omega)).pivot h.hr h.hs h.ne
  have:=pigeon (2 ^ (P.n+P.m)) (L+1) (fun k=>code ((f k).bas P) (P.n+P.m)) (fun _ _=>zFg _ _) (fun i j hij hj e=>
   zF1 hij (fun k _ h=>G k (by omega)) (fun k _ h=>st k (by omega)) (zGV e))
  omega)
 exact ⟨rank,fun D r s G h1=>h D _ G ⟨r,s,h1,rfl⟩⟩
def Prob.Feasible (P:Prob) (x:Nat->Rat):Prop:=(∀ k,k<P.n->0<=x k)/\∀ i,i<P.m->sum P.n (fun k=>P.A i k*x k)<=P.b i
def Prob.full (P:Prob) (x:Nat->Rat) (v:Nat):Rat:=if v<P.n then x v else P.b (v-P.n)-sum P.n fun k=>P.A (v-P.n) k*x k
theorem zJe (P:Prob) (x:Nat->Rat):P.Sys (P.full x):=by
 intro i hi;simp only [Prob.full,if_neg (show ¬ P.n+i<P.n by omega),show P.n+i-P.n=i by omega];rw [zAh (f:=fun k=>P.A i k*if k<P.n then x k else P.b (k-P.n)-sum P.n fun k_1=>P.A (k-P.n) k_1*x k_1) (g:=fun k=>P.A i k*x k) (fun k hk=>by rw [if_pos hk])]
theorem zEg {P:Prob} {x:Nat->Rat} (h:P.Feasible x) {v:Nat} (hv:v<P.n+P.m):0<=P.full x v:=by
 unfold Prob.full
 split
 ·rename_i h1; exact h.1 v h1
 ·have:=h.2 (v-P.n) (by omega); grind
theorem zM1 {P:Prob} {x:Nat->Rat} {v:Nat} (hv:v<P.n):P.full x v=x v:=if_pos hv
theorem zGu {P:Prob} {x:Nat->Rat} (hx:P.Sys x) (h:∀ v,v<P.n+P.m->0<=x v):P.Feasible x:=
 ⟨fun k hk=>h k (by omega),fun i hi=>by have h1:=hx i hi; have h2:=h (P.n+i) (by omega); grind⟩
theorem Good.point_nonneg {P:Prob} {D:Dict} (G:Good P D) (F:Feas P D) {v:Nat} (hv:v<P.n+P.m):0<=D.point P v:=by
 rcases G.all v hv with ⟨i,hi,e⟩ | ⟨j,hj,e⟩
 ·rw [<-e,G.point_basic hi]; exact F i hi
 ·rw [<-e,G.point_free hj]; exact Rat.le_refl
theorem zB6 {P:Prob} {D:Dict} (G:Good P D) (hr:r<P.m) (h0:D.a r P.n<0) (h:∀ j,j<P.n->0<=D.a r j) (x:Nat->Rat):¬ P.Feasible x:=by
 intro hx;have h1:=(G.rows _).1 (zJe P x) r hr;have h2:=zEg hx (G.bLt r hr);have h3:0<=sum P.n fun j=>D.a r j*P.full x (D.free j):=zBt fun j hj=>mul_nonneg (h j hj) (zEg hx (G.fLt j hj))
 rw [val] at h1;grind
def Prob.Unbounded (P:Prob) (x d:Nat->Rat):Prop:=
 P.Feasible x/\(∀ k,k<P.n->0<=d k)/\(∀ i,i<P.m->sum P.n (fun k=>P.A i k*d k)<=0)/\LexPos P.K fun l=>sum P.n fun k=>P.O l k*d k
theorem zLo {P:Prob} (g x d:Nat->Rat) (t:Rat):sum P.n (fun k=>g k*(x k+t*d k))=sum P.n (fun k=>g k*x k)+t*sum P.n fun k=>g k*d k:=by
 rw [<-zBK,<-zCb];exact zAh fun k _=>by grind
theorem zLG {P:Prob} {D:Dict} (G:Good P D) (F:Feas P D) (hs:s<P.n) (hc:LexNeg (P.K+P.n) fun l=>D.cost P l s) (h:∀ i,i<P.m->D.a i s<=0):P.Unbounded (D.point P) (D.dir P s):=by
 have hd:∀ v,v<P.n+P.m->0<=D.dir P s v:=by
  intro v hv;rcases G.all v hv with ⟨i,hi,e⟩ | ⟨j,hj,e⟩
  ·rw [<-e,G.dir_basic hi]; have:=h i hi; grind
  ·rw [<-e,G.dir_free hs hj]; split <;> grind
 refine ⟨zGu G.point_sys fun v hv=>G.point_nonneg F hv,fun k hk=>hd k (by omega),fun i hi=>?_,?_⟩
 ·have h1:=G.dir_sys hs G.point_sys 1 i hi;have h2:=G.point_sys i hi;dsimp only at h1;rw [zLo,h2] at h1;have:=hd (P.n+i) (by omega);grind
 ·
  have e:∀ l,l<P.K+P.n->P.obj l (D.dir P s)=- D.cost P l s:=by
   intro l hl;have h1:=G.obj_dir hs G.point_sys 1 hl
   have h2:P.obj l (fun v=>D.point P v+1*D.dir P s v)=P.obj l (D.point P)+P.obj l (D.dir P s):=by
    unfold Prob.obj
    split
    ·rw [zLo]; grind
    ·grind
   grind
  obtain ⟨i,hi,h1,h2⟩:=hc
  have hiK:i<P.K:=by
   rcases Nat.lt_or_ge i P.K with h3 | h3
   ·exact h3
   ·exfalso;have h4:=e i hi;simp only [Prob.obj,if_neg (show ¬ i<P.K by omega)] at h4;have:=hd (i-P.K) (by omega);grind
  refine ⟨i,hiK,?_,fun j hj=>?_⟩
  ·have h4:=e i hi;simp only [Prob.obj,if_pos hiK] at h4;grind
  ·have h4:=e j (by omega);simp only [Prob.obj,if_pos (show j<P.K by omega)] at h4;have:=h2 j hj;grind
end Go.Proofs.YtpjaodcimomaiaaGreat.Lin
namespace Go.Proofs.YtpjaodcimomaiaaGreat.Lin
variable {r s N i j:Nat}
structure NSel (P:Prob) (N:Nat) (D:Dict) (r s:Nat):Prop where
 hs:s<P.n
 cand:LexNeg N fun l=>D.cost P l s
 first:∀ j,j<P.n->LexNeg N (fun l=>D.cost P l j)->D.free s<=D.free j
 hr:r<P.m
 elt:0<D.a r s
 ratio:∀ i,i<P.m->0<D.a i s->D.a r P.n / D.a r s<=D.a i P.n / D.a i s
 least:∀ i,i<P.m->0<D.a i s->D.a r P.n / D.a r s=D.a i P.n / D.a i s->D.basic r<=D.basic i
theorem NSel.ne {P:Prob} {D:Dict} (h:NSel P N D r s):D.a r s ≠ 0:=by have:=h.elt; grind
theorem NSel.feas {P:Prob} {D:Dict} (h:NSel P N D r s) (F:Feas P D):Feas P (D.pivot r s):=by
 intro i hi;have hsn:P.n ≠ s:=by have:=h.hs; omega
 have h1:0<=(D.a r s)⁻¹*D.a r P.n:=mul_nonneg (Rat.le_of_lt (inv_pos h.elt)) (F r h.hr);by_cases e:i=r
 ·subst e;simp only [Dict.pivot,if_true,scaled,if_neg hsn]; exact h1
 ·simp only [Dict.pivot,if_neg e,elim,scaled,if_neg hsn];have h2:=F i hi;rcases (by grind:D.a i s<=0\/0<D.a i s) with h3 | h3
  ·have:=mul_nonneg (show 0<=- D.a i s by grind) h1;grind
  ·have h4:=h.ratio i hi h3;rw [Rat.div_def,Rat.div_def] at h4;have h5:=mul_nonneg (Rat.le_of_lt h3) (show 0<=D.a i P.n*(D.a i s)⁻¹-D.a r P.n*(D.a r s)⁻¹ by grind)
   have h6:D.a i s*(D.a i s)⁻¹=1:=by
    have:D.a i s ≠ 0:=(by grind);exact Rat.mul_inv_cancel _ this
   generalize (D.a i s)⁻¹=u at *;generalize (D.a r s)⁻¹=p at *;have h7:D.a i s*(D.a i P.n*u-D.a r P.n*p)=(D.a i s*u)*D.a i P.n-D.a i s*(p*D.a r P.n):=(by grind);rw [h7,h6] at h5;grind
theorem zL9 {P:Prob} (hN:N<=P.K+P.n) {f:Nat->Dict} (hij:i<j) (G:∀ k,i<=k->k<=j->Good P (f k)) (F:∀ k,i<=k->k<=j->Feas P (f k))
  (st:∀ k,i<=k->k<j->∃ r s,NSel P N (f k) r s/\f (k+1)=(f k).pivot r s)
  (same:∀ v,v<P.n+P.m->(f i).bas P v=(f j).bas P v):False:=by
 have hpt:∀ v,v<P.n+P.m->(f i).point P v=(f j).point P v:=fun v hv=>
  (G i (by omega) (by omega)).unique (G i (by omega) (by omega)).point_sys (G j (by omega) (by omega)).point_sys (fun k hk=>by
   rw [(G i (by omega) (by omega)).point_free hk];have h1:=zBw (G i (by omega) (by omega)) hk;rw [same _ ((G i (by omega) (by omega)).fLt k hk)] at h1;exact (zB8 h1).symm) hv
 have step:=st
 have hz:∀ k,i<=k->k<j->∀ r s,NSel P N (f k) r s->f (k+1)=(f k).pivot r s->LexNN N fun l=>P.obj l ((f (k+1)).point P)-P.obj l ((f k).point P):=by
  intro k h1 h2 r s h e;have hth:0<=(f k).theta P r s:=zMb (F k h1 (by omega) r h.hr) h.elt;refine (LexNN.smul (f:=fun l=>- (f k).cost P l s) (.inr h.cand.neg) hth).congr fun l hl=>?_
  rw [e,zLB (G k h1 (by omega)) h.hr h.hs h.ne (show l<P.K+P.n by omega)]; grind
 have th0:∀ k,i<=k->k<j->∀ r s,NSel P N (f k) r s->f (k+1)=(f k).pivot r s->(f k).a r P.n=0:=by
  intro k h1 h2 r s h e;rcases (by have:=F k h1 (by omega) r h.hr; grind:(f k).a r P.n=0\/0<(f k).a r P.n) with h3 | h3
  ·exact h3
  ·exfalso;have hth:0<(f k).theta P r s:=by rw [Dict.theta,Rat.div_def]; exact mul_pos h3 (inv_pos h.elt)
   have hp:LexPos N fun l=>P.obj l ((f (k+1)).point P)-P.obj l ((f k).point P):=
    (LexPos.smul (f:=fun l=>- (f k).cost P l s) h.cand.neg hth).congr fun l hl=>by
     rw [e,zLB (G k h1 (by omega)) h.hr h.hs h.ne (show l<P.K+P.n by omega)]; grind
   have ha:LexNN N fun l=>P.obj l ((f k).point P)-P.obj l ((f i).point P):=zLZ (z:=fun k l=>P.obj l ((f k).point P)) h1 fun k' a b=>by
    obtain ⟨r,s,h,e⟩:=step k' a (by omega);exact hz k' a (by omega) r s h e
   have hb:LexNN N fun l=>P.obj l ((f j).point P)-P.obj l ((f (k+1)).point P):=zLZ (z:=fun k l=>P.obj l ((f k).point P)) (by omega) fun k' a b=>by
    obtain ⟨r,s,h,e⟩:=step k' (by omega) b;exact hz k' (by omega) b r s h e
   have hc:=(hp.add ha).add hb
   exact hc.not_zero fun l hl=>by
    have:=zCo (P:=P) (fun v hv=>hpt v (by omega)) (show l<P.K+P.n by omega);grind
 have ptc:∀ k,i<=k->k<=j->∀ v,v<P.n+P.m->(f k).point P v=(f i).point P v:=by
  intro k
  induction k with
  | zero=>
   intro a b v hv;obtain rfl:i=0:=by omega
   rfl
  | succ k ih=>
   intro a b v hv;by_cases e:i=k+1
   ·rw [e]
   ·obtain ⟨r,s,h,e⟩:=step k (by omega) (by omega);rw [e,zK4 (G k (by omega) (by omega)) h.hr h.hs h.ne hv,Dict.theta,th0 k (by omega) (by omega) r s h e,ih (by omega) (by omega) v hv];grind
 obtain ⟨t,ht,hmax,⟨p,hp1,hp2,hp3,hp4⟩,⟨q,hq1,hq2,hq3,hq4⟩⟩:=fickle hij G (fun k h1 h2=>by
  obtain ⟨r,s,h,e⟩:=step k h1 h2;exact ⟨r,s,h.hr,h.hs,h.ne,e⟩) same
 obtain ⟨r,s,hp,ep⟩:=step p hp1 hp2;obtain ⟨r',s',hq,eq⟩:=step q hq1 hq2;have Gp:=G p hp1 (by omega);have Gq:=G q hq1 (by omega);have et:t=(f p).free s:=enters hp3 (by rw [<-ep]; exact hp4);have et':t=(f q).basic r':=leaves Gq hq.hr hq.hs hq.ne ht hq3 (by rw [<-eq]; exact hq4)
 have zero:∀ v k k',v<P.n+P.m->i<=k->k<=j->i<=k'->k'<=j->(f k).bas P v ≠ (f k').bas P v->(f i).point P v=0:=by
  intro v k k' hv a b c d hne
  cases hb:(f k).bas P v with
  | false=>rw [<-ptc k a b v hv]; exact zB8 hb
  | true=>
   have:(f k').bas P v=false:=by rw [hb] at hne; cases h:(f k').bas P v <;> simp_all
   rw [<-ptc k' c d v hv]; exact zB8 this
 have first:=hp.first
 have hs':(f q).free s'<t:=by
  have h1:=hmax ((f q).free s') q (q+1) (Gq.fLt _ hq.hs) hq1 (by omega) (by omega) (by omega) (by
   show (f q).bas P _ ≠ (f (q+1)).bas P _;rw [zBw Gq hq.hs,eq,entered hq.hr]; simp)
  have h2:=Gq.apart r' s' hq.hr hq.hs;omega
 have hcost:∀ l,l<N->(f q).cost P l s'=sum P.n fun j=>(f p).cost P l j*(f q).dir P s' ((f p).free j):=by
  intro l hl;have hl':l<P.K+P.n:=by omega
  have e1:=Gq.obj_dir hq.hs Gq.point_sys 1 hl';have e2:=Gp.cost_val (Gq.dir_sys hq.hs Gq.point_sys 1) hl';have e3:=Gp.cost_val Gq.point_sys hl';rw [e1,e3] at e2;unfold val at e2;rw [zAh (f:=fun j=>(f p).cost P l j*((f q).point P ((f p).free j)+1*(f q).dir P s' ((f p).free j))) (g:=fun j=>(f p).cost P l j*(f q).point P ((f p).free j)+(f p).cost P l j*(f q).dir P s' ((f p).free j)) (fun _ _=>by grind),zCb] at e2;grind
 have hNN:LexNN N fun l=>sum P.n fun j=>(f p).cost P l j*(f q).dir P s' ((f p).free j):=by
  refine LexNN.sum fun j hj=>?_
  have col:(f p).free j<t->LexNN N fun l=>(f p).cost P l j:=fun hlt=>LexNN.of_not fun hn=>by
   have:=first j hj hn; omega
  cases hb:(f q).bas P ((f p).free j) with
  | false=>
   obtain ⟨k,hk,e⟩:=zBR Gq (Gp.fLt j hj) hb;by_cases hks:k=s'
   ·subst hks;(refine (col (by rw [<-e]; exact hs')).congr fun l hl=>?_);rw [<-e,Gq.dir_free hq.hs hk,if_pos rfl]; grind
   ·(refine .inl fun l hl=>?_);dsimp only
    rw [<-e,Gq.dir_free hq.hs hk,if_neg hks]; grind
  | true=>
   obtain ⟨i',hi',e⟩:=zFe hb;have hle:=hmax ((f p).free j) q p (Gp.fLt j hj) hq1 (by omega) hp1 (by omega) (by show (f q).bas P _ ≠ (f p).bas P _; rw [hb,zBw Gp hj]; simp);by_cases hjt:(f p).free j=t
   ·have hjs:j=s:=Gp.fInj j s hj hp.hs (by rw [hjt,et]);have hi'r:i'=r':=Gq.bInj _ _ hi' hq.hr (by rw [e,hjt,et']);subst hjs;(refine (LexNN.smul (f:=fun l=>- (f p).cost P l j) (.inr hp.cand.neg) (Rat.le_of_lt hq.elt)).congr fun l hl=>?_);rw [<-e,Gq.dir_basic hi',hi'r]; grind
   ·have hlt:(f p).free j<t:=by omega
    have hd:(f q).a i' s'<=0:=by
     rcases (by grind:(f q).a i' s'<=0\/0<(f q).a i' s') with h | h
     ·exact h
     ·exfalso;have z1:=zero ((f p).free j) q p (Gp.fLt j hj) hq1 (by omega) hp1 (by omega) (by rw [hb,zBw Gp hj]; simp);have z2:(f q).a i' P.n=0:=by rw [<-Gq.point_basic hi',e,ptc q hq1 (by omega) _ (Gp.fLt j hj)]; exact z1
      have z3:=th0 q hq1 hq2 r' s' hq eq;have:=hq.least i' hi' h (by rw [z2,z3]; grind);omega
    (refine (LexNN.smul (col hlt) (show 0<=- (f q).a i' s' by grind)).congr fun l hl=>?_);rw [<-e,Gq.dir_basic hi']; grind
 exact (hNN.congr (fun l hl=>(hcost l hl).symm)).not hq.cand
theorem zMa (P:Prob) (hN:N<=P.K+P.n):∃ rank:Dict->Nat,∀ D r s,Good P D->Feas P D->NSel P N D r s->rank (D.pivot r s)<rank D:=by
 obtain ⟨rank,h⟩:=zIQ (fun D:Dict=>Good P D/\Feas P D) (fun D D'=>∃ r s,NSel P N D r s/\D'=D.pivot r s) (2 ^ (P.n+P.m)) (fun f L h0 st=>by
  have G:∀ k,k<=L->Good P (f k)/\Feas P (f k):=by
   intro k
   induction k with
   | zero=>intro _; exact h0
   | succ k ih=>
    intro hk;obtain ⟨r,s,h,e⟩:=st k (by omega);rw [e]; exact ⟨(ih (by omega)).1.pivot h.hr h.hs h.ne,h.feas (ih (by omega)).2⟩
  have:=pigeon (2 ^ (P.n+P.m)) (L+1) (fun k=>code ((f k).bas P) (P.n+P.m)) (fun _ _=>zFg _ _) (fun i j hij hj e=>
   zL9 hN hij (fun k _ h=>(G k (by omega)).1) (fun k _ h=>(G k (by omega)).2) (fun k _ h=>st k (by omega)) (zGV e))
  omega)
 exact ⟨rank,fun D r s G F h1=>h D _ ⟨G,F⟩ ⟨r,s,h1,rfl⟩⟩
end Go.Proofs.YtpjaodcimomaiaaGreat.Lin
namespace Go.Proofs.YtpjaodcimomaiaaGreat.Lin
variable {j:Nat}
def LInv (P:Prob) (N:Nat) (live:Nat->Bool) (D:Dict):Prop:=
 ∀ j,j<P.n->(live j=true->∀ l,l<N->D.c l j=0)/\(live j=false->LexPos N fun l=>D.c l j)
structure CSel (P:Prob) (N:Nat) (live:Nat->Bool) (D:Dict) (r s:Nat):Prop where
 hs:s<P.n
 lv:live s=true
 neg:D.c N s<0
 first:∀ j,j<P.n->live j=true->D.c N j<0->D.free s<=D.free j
 hr:r<P.m
 elt:0<D.a r s
 ratio:∀ i,i<P.m->0<D.a i s->D.a r P.n / D.a r s<=D.a i P.n / D.a i s
 least:∀ i,i<P.m->0<D.a i s->D.a r P.n / D.a r s=D.a i P.n / D.a i s->D.basic r<=D.basic i
section
variable {P:Prob} {N:Nat} {live:Nat->Bool} {D:Dict} {r s:Nat}
theorem CSel.ne (h:CSel P N live D r s):D.a r s ≠ 0:=by have:=h.elt; grind
theorem zKX {l:Nat} (hl:l<P.K):D.cost P l j=D.c l j:=by rw [Dict.cost,if_pos hl]
theorem LInv.cand (h:LInv P N live D) (hs:s<P.n) (lv:live s=true) (hn:D.c N s<0):LexNeg (N+1) fun l=>D.c l s:=
 ⟨N,by omega,hn,fun l hl=>(h s hs).1 lv l hl⟩
theorem CSel.nsel (hc:CSel P N live D r s) (h:LInv P N live D) (hN:N<P.K):NSel P (N+1) D r s:=by
 refine ⟨hc.hs,(h.cand hc.hs hc.lv hc.neg).congr fun l hl=>(zKX (by omega)).symm,fun j hj hn=>?_,hc.hr,hc.elt,hc.ratio,hc.least⟩;replace hn:LexNeg (N+1) fun l=>D.c l j:=hn.congr fun l hl=>zKX (by omega)
 cases hl:live j with
 | true=>
  refine hc.first j hj hl ?_;obtain ⟨i,hi,h1,h2⟩:=hn;by_cases e:i=N
  ·subst e; exact h1
  ·have:=(h j hj).1 hl i (by omega);dsimp only at h1
   grind
 | false=>
  obtain ⟨i,hi,h1,h2⟩:=(h j hj).2 hl;exact absurd (⟨i,by omega,h1,h2⟩:LexPos (N+1) fun l=>D.c l j) hn.not_pos
theorem zLO {l:Nat} (h0:D.c l s=0):(D.pivot r s).c l j=D.c l j:=by
 show elim s (scaled s (D.a r)) (D.c l) j=_;unfold elim;rw [h0]
 split
 ·rename_i e; rw [e,h0]; grind
 ·grind
theorem LInv.pivot (h:LInv P N live D) (hs:s<P.n) (lv:live s=true):LInv P N live (D.pivot r s):=fun j hj=>
 ⟨fun hl l hN=>(zLO ((h s hs).1 lv l hN)).trans ((h j hj).1 hl l hN),fun hl=>((h j hj).2 hl).congr fun l hN=>(zLO ((h s hs).1 lv l hN)).symm⟩
theorem LInv.zero:LInv P 0 (fun _=>true) D:=fun _ _=>⟨fun _ l hl=>absurd hl (by omega),fun h=>by cases h⟩
theorem LInv.next (h:LInv P N live D) (hd:∀ j,j<P.n->live j=true->0<=D.c N j):LInv P (N+1) (fun j=>live j && ! decide (0<D.c N j)) D:=by
 intro j hj
 cases hl:live j with
 | true=>
  refine ⟨fun h1 l hN=>?_,fun h1=>?_⟩
  ·have h2:¬ 0<D.c N j:=by simp [hl] at h1; exact h1
   have h3:=hd j hj hl;by_cases e:l=N
   ·subst e; grind
   ·exact (h j hj).1 hl l (by omega)
  ·have h2:0<D.c N j:=by simpa [hl] using h1
   exact ⟨N,by omega,h2,fun l hN=>(h j hj).1 hl l hN⟩
 | false=>
  refine ⟨fun h1=>by simp [hl] at h1,fun _=>?_⟩;obtain ⟨i,hi,h1,h2⟩:=(h j hj).2 hl;exact ⟨i,by omega,h1,h2⟩
theorem LInv.nn (h:LInv P N live D) (hj:j<P.n):LexNN N fun l=>D.c l j:=by
 cases hl:live j with
 | true=>exact .inl fun l hN=>(h j hj).1 hl l hN
 | false=>exact .inr ((h j hj).2 hl)
def Prob.at (P:Prob) (y:Nat->Rat) (l:Nat):Rat:=sum P.n fun k=>P.O l k*y k
theorem Good.at_point (G:Good P D) {l:Nat} (hl:l<P.K):P.at (D.point P) l=D.c l P.n:=by
 have h:=G.costs _ G.point_sys l hl;show sum P.n _=_;rw [h,val,zAC (fun j hj=>by rw [G.point_free hj]; grind)]; grind
theorem Good.at_full (G:Good P D) {l:Nat} (hl:l<P.K) (y:Nat->Rat):P.at y l=D.c l P.n-sum P.n fun j=>D.c l j*P.full y (D.free j):=by
 have h:=G.costs _ (zJe P y) l hl;rw [<-val,<-h];exact zAh fun k hk=>by rw [zM1 hk]
theorem Good.feasible_point (G:Good P D) (F:Feas P D):P.Feasible (D.point P):=zGu G.point_sys fun _ hv=>G.point_nonneg F hv
theorem Good.most (G:Good P D) (hN:N<=P.K) (h:∀ j,j<P.n->LexNN N fun l=>D.c l j) {y:Nat->Rat} (hy:P.Feasible y):LexNN N fun l=>D.c l P.n-P.at y l:=by
 have hs:LexNN N fun l=>sum P.n fun j=>D.c l j*P.full y (D.free j):=LexNN.sum fun j hj=>
  (LexNN.smul (h j hj) (zEg hy (G.fLt j hj))).congr fun l _=>by grind
 refine hs.congr fun l hl=>?_
 rw [G.at_full (by omega)]; grind
theorem Good.ray (G:Good P D) (F:Feas P D) (hN:N<P.K) (hI:LInv P N live D) (hs:s<P.n) (lv:live s=true) (hn:D.c N s<0) (h:∀ i,i<P.m->D.a i s<=0) :
  (∀ k,k<P.n->0<=D.dir P s k)/\(∀ i,i<P.m->sum P.n (fun k=>P.A i k*D.dir P s k)<=0)/\(∀ l,l<N->P.at (D.dir P s) l=0)/\0<P.at (D.dir P s) N:=by
 have hc:LexNeg (P.K+P.n) fun l=>D.cost P l s:=⟨N,by omega,by dsimp only; rw [zKX hN]; exact hn,fun l hl=>by dsimp only; rw [zKX (by omega)]; exact (hI s hs).1 lv l hl⟩
 obtain ⟨-,h1,h2,-⟩:=zLG G F hs hc h
 have e:∀ l,l<P.K->P.at (D.dir P s) l=- D.c l s:=fun l hl=>by
  have h1:=G.obj_dir hs G.point_sys 1 (l:=l) (by omega)
  have h2:P.obj l (fun v=>D.point P v+1*D.dir P s v)=P.obj l (D.point P)+P.obj l (D.dir P s):=by
   unfold Prob.obj;rw [if_pos hl,if_pos hl,if_pos hl,zLo]; grind
  rw [zKX hl] at h1;have h3:P.obj l (D.dir P s)=P.at (D.dir P s) l:=by unfold Prob.obj Prob.at; rw [if_pos hl]
  grind
 refine ⟨h1,h2,fun l hl=>?_,?_⟩
 ·rw [e l (by omega),(hI s hs).1 lv l hl]; grind
 ·rw [e N hN]; grind
end
end Go.Proofs.YtpjaodcimomaiaaGreat.Lin
namespace Go.Proofs.YtpjaodcimomaiaaGreat.Lin
variable {i:Nat}
section
variable {p:Nat->Bool} {k j:Nat}
def filt (p:Nat->Bool) (k:Nat):List Nat:=(List.range k).filter p
theorem zKI (p:Nat->Bool) (k:Nat):filt p (k+1)=if p k=true then filt p k++[k] else filt p k:=by
 unfold filt;rw [List.range_succ,List.filter_append];by_cases h:p k=true
 ·rw [if_pos h]; simp [h]
 ·rw [if_neg h]; simp [h]
theorem zLl (h:j<(filt p k).length):(filt p k).getD j 0<k/\p ((filt p k).getD j 0)=true:=by
 have e:(filt p k).getD j 0=(filt p k)[j]:=by rw [gdd,gge h]; rfl
 rw [e];have:=List.getElem_mem h;unfold filt at this;rw [List.mem_filter,List.mem_range] at this;exact this
theorem zLV {v:Nat} (hv:v<k) (hp:p v=true):∃ j,j<(filt p k).length/\(filt p k).getD j 0=v:=by
 have:v ∈ filt p k:=by unfold filt; rw [List.mem_filter,List.mem_range]; exact ⟨hv,hp⟩
 obtain ⟨j,hj,e⟩:=List.getElem_of_mem this;exact ⟨j,hj,by rw [gdd,gge hj]; exact e⟩
theorem zMN :∀ k j,i<j->j<(filt p k).length->(filt p k).getD i 0<(filt p k).getD j 0:=by
 intro k
 induction k with
 | zero=>intro j _ h; simp [filt] at h
 | succ k ih=>
  intro j hij hj;rw [zKI] at hj ⊢
  split at hj
  ·rename_i hp;rw [if_pos hp];simp only [List.length_append,List.length_singleton] at hj;rw [gdd,gdd,List.getElem?_append_left (by omega)];by_cases e:j<(filt p k).length
   ·rw [List.getElem?_append_left e,<-gdd,<-gdd];exact ih j hij e
   ·(obtain rfl:j=(filt p k).length:=by omega);rw [<-gdd];simp;have:=(zLl (p:=p) (k:=k) hij).1
    rwa [gdd] at this
  ·rename_i hp;rw [if_neg hp];exact ih j hij hj
theorem zLW (p:Nat->Bool) (f:Nat->Rat):∀ k,sum k f=sum k (fun v=>if p v=true then 0 else f v)+sum (filt p k).length fun j=>f ((filt p k).getD j 0):=by
 intro k
 induction k with
 | zero=>simp only [filt,sum,List.range_zero,List.filter_nil,List.length_nil]; grind
 | succ k ih=>
  rw [zKI];have e0:∀ g:Nat->Rat,sum (k+1) g=sum k g+g k:=fun _=>rfl
  rw [e0,e0,ih]
  split
  ·rename_i hp;rw [List.length_append,List.length_singleton]
   have e:sum ((filt p k).length+1) (fun j=>f ((filt p k++[k]).getD j 0))=sum (filt p k).length (fun j=>f ((filt p k).getD j 0))+f k:=by
    conv=>lhs; unfold sum
    rw [zAh (g:=fun j=>f ((filt p k).getD j 0)) fun j hj=>by
     rw [gdd,List.getElem?_append_left hj,<-gdd]]
    simp
   rw [e];grind
  ·rename_i hp;grind
end
structure BP where
 V:Nat
 K:Nat
 M:Nat
 nb:Nat
 A:Nat->Nat->Rat
 O:Nat->Nat->Rat
 b:Nat->Rat
 bin:Nat->Nat
namespace BP
def dot (B:BP) (f x:Nat->Rat):Rat:=sum B.V fun k=>f k*x k
def lev (B:BP) (l k:Nat):Rat:=if l<B.K then B.O l k else if k=l-B.K then -1 else 0
def LF (B:BP) (x:Nat->Rat):Prop:=(∀ k,k<B.V->0<=x k)/\∀ i,i<B.M->B.dot (B.A i) x<=B.b i
def S (B:BP) (x:Nat->Rat):Prop:=B.LF x/\∀ i,i<B.nb->x (B.bin i)=0\/x (B.bin i)=1
def In (B:BP) (av:Nat->Int) (x:Nat->Rat):Prop:=∀ i,i<B.nb->av i ≠ -1->x (B.bin i)=(av i:Rat)
def Rel (B:BP) (av:Nat->Int) (x:Nat->Rat):Prop:=B.LF x/\B.In av x/\∀ i,i<B.nb->av i=-1->x (B.bin i)<=1
structure Ok (B:BP):Prop where
 lt:∀ i,i<B.nb->B.bin i<B.V
 inc:∀ i j,i<j->j<B.nb->B.bin i<B.bin j
def Av (B:BP) (av:Nat->Int):Prop:=∀ i,i<B.nb->av i=-1\/av i=0\/av i=1
def fixed (B:BP) (av:Nat->Int) (i k:Nat):Bool:=decide (find B.bin k i<i) && decide (av (find B.bin k i) ≠ -1)
def base (B:BP) (av:Nat->Int) (i k:Nat):Rat:=if B.fixed av i k=true then (av (find B.bin k i):Rat) else 0
def cols (B:BP) (av:Nat->Int):List Nat:=filt (fun v=>! B.fixed av B.nb v) B.V
def cl (B:BP) (av:Nat->Int) (j:Nat):Nat:=(B.cols av).getD j 0
def und (B:BP) (av:Nat->Int):List Nat:=filt (fun i=>decide (av i=-1)) B.nb
def prob (B:BP) (av:Nat->Int):Prob where
 n:=(B.cols av).length
 m:=B.M+(B.und av).length
 K:=B.K+B.V
 A:=fun i j=>if i<B.M then B.A i (B.cl av j) else if B.cl av j=B.bin ((B.und av).getD (i-B.M) 0) then 1 else 0
 b:=fun i=>if i<B.M then B.b i-B.dot (B.A i) (B.base av B.nb) else 1
 O:=fun l j=>B.lev l (B.cl av j)
def vn (B:BP) (av:Nat->Int) (v:Nat):Nat:=if v<(B.cols av).length then B.cl av v else B.V+(v-(B.cols av).length)
def lift (B:BP) (av:Nat->Int) (y:Nat->Rat) (k:Nat):Rat:=if B.fixed av B.nb k=true then B.base av B.nb k else y (find (B.cl av) k (B.cols av).length)
section
variable {B:BP} {av:Nat->Int}
theorem cl_lt {j:Nat} (hj:j<(B.cols av).length):B.cl av j<B.V/\B.fixed av B.nb (B.cl av j)=false:=by
 have:=zLl (p:=fun v=>! B.fixed av B.nb v) (k:=B.V) hj;exact ⟨this.1,by have h2:=this.2; rw [Bool.not_eq_true'] at h2; exact h2⟩
theorem zMr {i j:Nat} (hij:i<j) (hj:j<(B.cols av).length):B.cl av i<B.cl av j:=zMN _ _ hij hj
theorem cl_idx {k:Nat} (hk:k<B.V) (h:B.fixed av B.nb k=false):∃ j,j<(B.cols av).length/\B.cl av j=k:=zLV (p:=fun v=>! B.fixed av B.nb v) hk (by simp [h])
theorem zMZ {i j:Nat} (hi:i<(B.cols av).length) (hj:j<(B.cols av).length) (e:B.cl av i=B.cl av j):i=j:=by
 rcases Nat.lt_trichotomy i j with h | h | h
 ·have:=zMr (B:=B) (av:=av) h hj; omega
 ·exact h
 ·have:=zMr (B:=B) (av:=av) h hi; omega
theorem zMw {j:Nat} (hj:j<(B.cols av).length):find (B.cl av) (B.cl av j) (B.cols av).length=j:=zIl (fun _ _ h1 h2 e=>zMZ h1 h2 e) hj
theorem lift_cl (y:Nat->Rat) {j:Nat} (hj:j<(B.cols av).length):B.lift av y (B.cl av j)=y j:=by
 unfold lift;rw [(cl_lt hj).2,if_neg (by decide),zMw hj]
theorem zMI {u v:Nat} (huv:u<v):B.vn av u<B.vn av v:=by
 unfold vn
 split
 ·rename_i h1
  split
  ·rename_i h2; exact zMr huv h2
  ·have:=(cl_lt (B:=B) (av:=av) h1).1; omega
 ·split <;> omega
theorem vn_le {u v:Nat}:B.vn av u<=B.vn av v ↔ u<=v:=by
 constructor
 ·intro h;apply Nat.le_of_not_lt;intro h2;have:=zMI (B:=B) (av:=av) h2;omega
 ·intro h;rcases Nat.lt_or_eq_of_le h with h | h
  ·exact Nat.le_of_lt (zMI h)
  ·rw [h]; exact nlr _
theorem zLT (f y:Nat->Rat):B.dot f (B.lift av y)=B.dot f (B.base av B.nb)+sum (B.cols av).length fun j=>f (B.cl av j)*y j:=by
 unfold dot;rw [zLW (fun v=>! B.fixed av B.nb v) (fun k=>f k*B.lift av y k)];have e1:sum (B.cols av).length (fun j=>f (B.cl av j)*B.lift av y (B.cl av j))=sum (B.cols av).length fun j=>f (B.cl av j)*y j:=zAh fun j hj=>by rw [lift_cl y hj]
 have e2:sum B.V (fun v=>if (! B.fixed av B.nb v)=true then 0 else f v*B.lift av y v)=sum B.V fun k=>f k*B.base av B.nb k:=zAh fun k _=>by
  cases h:B.fixed av B.nb k with
  | true=>simp [lift,h]
  | false=>simp [base,h]
 rw [e2];exact congrArg _ e1
theorem base_fixed {k:Nat} (h:B.fixed av B.nb k=true):∃ i,i<B.nb/\B.bin i=k/\av i ≠ -1/\B.base av B.nb k=(av i:Rat):=by
 have h':=h;unfold fixed at h';simp only [Bool.and_eq_true,decide_eq_true_eq] at h';refine ⟨_,h'.1,?_,h'.2,by unfold base; rw [if_pos h]⟩;rcases zCi B.bin k B.nb with h2 | h2
 ·exact h2.2
 ·omega
theorem zMq (ok:B.Ok) {i j:Nat} (hi:i<B.nb) (hj:j<B.nb) (e:B.bin i=B.bin j):i=j:=by
 rcases Nat.lt_trichotomy i j with h | h | h
 ·have:=ok.inc i j h hj; omega
 ·exact h
 ·have:=ok.inc j i h hi; omega
theorem zKO (ok:B.Ok) {i:Nat} (hi:i<B.nb):B.fixed av B.nb (B.bin i)=decide (av i ≠ -1):=by
 unfold fixed;rw [zIl (fun _ _ h1 h2 e=>zMq ok h1 h2 e) hi];simp [hi]
theorem zMK (ok:B.Ok) {i:Nat} (hi:i<B.nb) (h:av i ≠ -1):B.base av B.nb (B.bin i)=(av i:Rat):=by
 unfold base;rw [zKO ok hi,if_pos (by simpa using h),zIl (fun _ _ h1 h2 e=>zMq ok h1 h2 e) hi]
theorem zMG {i:Nat} (hi:i<(B.und av).length):(B.und av).getD i 0<B.nb/\av ((B.und av).getD i 0)=-1:=by
 have:=zLl (p:=fun i=>decide (av i=-1)) (k:=B.nb) hi;exact ⟨this.1,of_decide_eq_true this.2⟩
theorem zLR {i:Nat} (hi:i<B.nb) (h:av i=-1):∃ j,j<(B.und av).length/\(B.und av).getD j 0=i:=zLV (p:=fun i=>decide (av i=-1)) hi (by simpa using h)
theorem zLS (ok:B.Ok) (y:Nat->Rat) {i:Nat} (hi:i<(B.und av).length) :
  sum (B.prob av).n (fun k=>(B.prob av).A (B.M+i) k*y k)=B.lift av y (B.bin ((B.und av).getD i 0)):=by
 obtain ⟨h1,h2⟩:=zMG hi;have hf:B.fixed av B.nb (B.bin ((B.und av).getD i 0))=false:=by rw [zKO ok h1]; exact decide_eq_false (fun h=>h h2)
 obtain ⟨j,hj,e⟩:=cl_idx (ok.lt _ h1) hf;rw [zBu (n:=(B.prob av).n) (s:=j) hj,<-e,lift_cl y hj]
 ·show (if B.M+i<B.M then _ else if B.cl av j=B.bin ((B.und av).getD (B.M+i-B.M) 0) then 1 else 0)*y j=y j;rw [if_neg (by omega),Nat.add_sub_cancel_left,if_pos e]; grind
 ·intro j' hj' hne;show (if B.M+i<B.M then _ else if B.cl av j'=B.bin ((B.und av).getD (B.M+i-B.M) 0) then 1 else 0)*y j'=0;rw [if_neg (by omega),Nat.add_sub_cancel_left,if_neg (fun h=>hne (zMZ hj' hj (h.trans e.symm)))]; grind
theorem zL2 (y:Nat->Rat) {i:Nat} (hi:i<B.M) :
  sum (B.prob av).n (fun k=>(B.prob av).A i k*y k)=B.dot (B.A i) (B.lift av y)-B.dot (B.A i) (B.base av B.nb):=by
 rw [zLT]
 have:sum (B.prob av).n (fun k=>(B.prob av).A i k*y k)=sum (B.cols av).length fun j=>B.A i (B.cl av j)*y j:=zAh fun j _=>by
  show (if i<B.M then B.A i (B.cl av j) else _)*y j=_;rw [if_pos hi]
 rw [this]; grind
theorem feas_lift (ok:B.Ok) (hv:B.Av av) {y:Nat->Rat} (h:(B.prob av).Feasible y):B.Rel av (B.lift av y):=by
 refine ⟨⟨fun k hk=>?_,fun i hi=>?_⟩,fun i hi hd=>?_,fun i hi hu=>?_⟩
 ·cases hf:B.fixed av B.nb k with
  | true=>
   obtain ⟨i,hi,-,h1,h2⟩:=base_fixed hf;unfold lift;rw [if_pos hf,h2];rcases hv i hi with e | e | e
   ·exact absurd e h1
   ·rw [e]; decide
   ·rw [e]; decide
  | false=>
   obtain ⟨j,hj,e⟩:=cl_idx hk hf;rw [<-e,lift_cl y hj];exact h.1 j hj
 ·have h1:=h.2 i (show i<(B.prob av).m by show i<B.M+_; omega);rw [zL2 y hi] at h1;have e:(B.prob av).b i=B.b i-B.dot (B.A i) (B.base av B.nb):=if_pos hi;rw [e] at h1;grind
 ·have hf:B.fixed av B.nb (B.bin i)=true:=by rw [zKO ok hi]; simpa using hd
  unfold lift;rw [if_pos hf,zMK ok hi hd]
 ·obtain ⟨j,hj,e⟩:=zLR hi hu;have h1:=h.2 (B.M+j) (show B.M+j<B.M+_ by omega);rw [zLS ok y hj,e] at h1;have e2:(B.prob av).b (B.M+j)=1:=if_neg (by omega);rw [e2] at h1;exact h1
theorem zK3 (_ok:B.Ok) {x:Nat->Rat} (h:B.In av x) {k:Nat} (hk:k<B.V):B.lift av (fun j=>x (B.cl av j)) k=x k:=by
 cases hf:B.fixed av B.nb k with
 | true=>
  obtain ⟨i,hi,e,h1,h2⟩:=base_fixed hf;unfold lift
  rw [if_pos hf,h2,<-e,h i hi h1]
 | false=>
  obtain ⟨j,hj,e⟩:=cl_idx hk hf;rw [<-e,lift_cl _ hj]
theorem zKT {f x y:Nat->Rat} (h:∀ k,k<B.V->x k=y k):B.dot f x=B.dot f y:=zAh fun k hk=>by rw [h k hk]
theorem feas_rest (ok:B.Ok) {x:Nat->Rat} (h:B.Rel av x):(B.prob av).Feasible fun j=>x (B.cl av j):=by
 refine ⟨fun j hj=>h.1.1 _ (cl_lt hj).1,fun i hi=>?_⟩;by_cases hM:i<B.M
 ·rw [zL2 _ hM,zKT fun k hk=>zK3 ok h.2.1 hk];have e:(B.prob av).b i=B.b i-B.dot (B.A i) (B.base av B.nb):=if_pos hM;rw [e];have:=h.1.2 i hM;grind
 ·have hi':i<B.M+(B.und av).length:=hi;obtain ⟨j,rfl⟩:∃ j,i=B.M+j:=⟨i-B.M,by omega⟩;have hj:j<(B.und av).length:=by omega
  rw [zLS ok _ hj];have e2:(B.prob av).b (B.M+j)=1:=if_neg (by omega);obtain ⟨h1,h2⟩:=zMG hj;rw [e2,zK3 ok h.2.1 (ok.lt _ h1)];exact h.2.2 _ h1 h2
theorem at_lift (y:Nat->Rat) (l:Nat):(B.prob av).at y l=B.dot (B.lev l) (B.lift av y)-B.dot (B.lev l) (B.base av B.nb):=by
 rw [zLT];unfold Prob.at;have:sum (B.prob av).n (fun k=>(B.prob av).O l k*y k)=sum (B.cols av).length fun j=>B.lev l (B.cl av j)*y j:=rfl
 rw [this]; grind
end
def Le (B:BP) (y x:Nat->Rat):Prop:=LexNN (B.K+B.V) fun l=>B.dot (B.lev l) x-B.dot (B.lev l) y
def Ray (B:BP):Prop:=∃ d:Nat->Rat,(∀ k,k<B.V->0<=d k)/\(∀ i,i<B.M->B.dot (B.A i) d<=0)/\(∀ i,i<B.nb->d (B.bin i)=0)/\LexPos B.K fun l=>B.dot (B.O l) d
def Best (B:BP) (av:Nat->Int) (x:Nat->Rat):Prop:=B.Rel av x/\∀ y,B.Rel av y->B.Le y x
section
variable {B:BP} {av:Nat->Int} {x y z:Nat->Rat}
theorem Le.trans (h:B.Le x y) (h':B.Le y z):B.Le x z:=(LexNN.add h h').congr fun l _=>by grind
theorem lev_x {k:Nat} (hk:k<B.V):B.dot (B.lev (B.K+k)) x=- x k:=by
 unfold dot;rw [zBu (s:=k) hk]
 ·unfold lev; rw [if_neg (by omega),if_pos (by omega)]; grind
 ·intro i hi hne; unfold lev; rw [if_neg (by omega),if_neg (by omega)]; grind
theorem zMt (f x d:Nat->Rat):B.dot f (fun k=>x k+d k)=B.dot f x+B.dot f d:=by
 unfold dot;rw [<-zCb];exact zAh fun k _=>by grind
theorem Ray.no_best (h:B.Ray):¬ B.Best av x:=by
 intro ⟨⟨hf,hi,hu⟩,hb⟩;obtain ⟨d,h1,h2,h3,h4⟩:=h
 have hR:B.Rel av (fun k=>x k+d k):=by
  refine ⟨⟨fun k hk=>?_,fun i hi=>?_⟩,fun i h5 h6=>?_,fun i h5 h6=>?_⟩
  ·have:=hf.1 k hk; have:=h1 k hk; grind
  ·rw [zMt]; have:=hf.2 i hi; have:=h2 i hi; grind
  ·show x _+d _=_; rw [h3 i h5,hi i h5 h6]; grind
  ·show x _+d _<=_; rw [h3 i h5]; have:=hu i h5 h6; grind
 refine (hb _ hR).not ?_;obtain ⟨l,hl,h5,h6⟩:=h4
 have key:∀ l,l<B.K->B.dot (B.lev l) x-B.dot (B.lev l) (fun k=>x k+d k)=- B.dot (B.O l) d:=fun l hl=>by
  have e:B.lev l=B.O l:=by funext k; exact if_pos hl
  rw [e,zMt]; grind
 refine ⟨l,by omega,by dsimp only; rw [key l hl]; dsimp only at h5; grind,fun j hj=>by dsimp only; rw [key j (by omega)]; have:=h6 j hj; dsimp only at this; grind⟩
theorem best_of (ok:B.Ok) (hv:B.Av av) {D:Dict} {live:Nat->Bool} (G:Good (B.prob av) D) (F:Feas (B.prob av) D) (hI:LInv (B.prob av) (B.K+B.V) live D):B.Best av (B.lift av (D.point (B.prob av))):=by
 refine ⟨feas_lift ok hv (G.feasible_point F),fun y hy=>?_⟩;have h:=G.most (N:=B.K+B.V) (nlr _) (fun j hj=>hI.nn hj) (feas_rest ok hy);refine LexNN.congr h fun l hl=>?_
 rw [<-G.at_point (show l<(B.prob av).K from hl),at_lift,at_lift,zKT (x:=B.lift av fun j=>y (B.cl av j)) fun k hk=>zK3 ok hy.2.1 hk];grind
theorem ray_of (ok:B.Ok) {D:Dict} {live:Nat->Bool} {N s:Nat} (G:Good (B.prob av) D) (F:Feas (B.prob av) D) (hN:N<B.K+B.V) (hI:LInv (B.prob av) N live D) (hs:s<(B.prob av).n) (lv:live s=true) (hn:D.c N s<0) (h:∀ i,i<(B.prob av).m->D.a i s<=0) :
  N<B.K/\B.Ray:=by
 obtain ⟨h1,h2,h3,h4⟩:=G.ray F (show N<(B.prob av).K from hN) hI hs lv hn h;obtain ⟨d,hd⟩:∃ d,d=fun k=>if B.fixed av B.nb k=true then (0:Rat) else D.dir (B.prob av) s (find (B.cl av) k (B.cols av).length):=⟨_,rfl⟩
 have dcl:∀ j,j<(B.cols av).length->d (B.cl av j)=D.dir (B.prob av) s j:=fun j hj=>by rw [hd]; dsimp only; rw [(cl_lt hj).2,if_neg (by decide),zMw hj]
 have hdot:∀ f,B.dot f d=sum (B.cols av).length fun j=>f (B.cl av j)*D.dir (B.prob av) s j:=fun f=>by
  unfold dot;rw [zLW (fun v=>! B.fixed av B.nb v) (fun k=>f k*d k),zAC (f:=fun v=>if (! B.fixed av B.nb v)=true then 0 else f v*d v)]
  ·have e1:sum (B.cols av).length (fun j=>f (B.cl av j)*d (B.cl av j))=sum (B.cols av).length fun j=>f (B.cl av j)*D.dir (B.prob av) s j:=zAh fun j hj=>by rw [dcl j hj]
   exact (Rat.zero_add _).trans e1
  ·intro k _
   cases hf:B.fixed av B.nb k with
   | true=>rw [hd]; simp [hf]
   | false=>simp
 have hat:∀ l,(B.prob av).at (D.dir (B.prob av) s) l=B.dot (B.lev l) d:=fun l=>(hdot (B.lev l)).symm
 have d0:∀ k,k<B.V->0<=d k:=fun k hk=>by
  cases hf:B.fixed av B.nb k with
  | true=>rw [hd]; simp [hf]
  | false=>
   obtain ⟨j,hj,e⟩:=cl_idx hk hf;rw [<-e,dcl j hj]; exact h1 j hj
 have hNK:N<B.K:=by
  apply Nat.lt_of_not_le;intro hle;rw [hat,show N=B.K+(N-B.K) by omega,lev_x (by omega)] at h4;have:=d0 (N-B.K) (by omega);grind
 refine ⟨hNK,d,d0,fun i hi=>?_,fun i hi=>?_,N,hNK,?_,fun l hl=>?_⟩
 ·have h5:=h2 i (show i<B.M+_ by omega);rw [hdot];have e5:sum (B.cols av).length (fun j=>B.A i (B.cl av j)*D.dir (B.prob av) s j)=sum (B.prob av).n fun k=>(B.prob av).A i k*D.dir (B.prob av) s k:=zAh fun j _=>?_
  rw [e5]; exact h5
  show _=(if i<B.M then B.A i (B.cl av j) else _)*_;rw [if_pos hi]
 ·by_cases hu:av i=-1
  ·obtain ⟨j,hj,e⟩:=zLR hi hu;have hf:B.fixed av B.nb (B.bin i)=false:=by rw [zKO ok hi]; simp [hu]
   obtain ⟨j',hj',e'⟩:=cl_idx (ok.lt i hi) hf;have h5:=h2 (B.M+j) (show B.M+j<B.M+_ by omega);rw [zLS ok _ hj,e,<-e',lift_cl _ hj',<-dcl j' hj',e'] at h5;have:=d0 (B.bin i) (ok.lt i hi);grind
  ·have hf:B.fixed av B.nb (B.bin i)=true:=by rw [zKO ok hi]; simpa using hu
   rw [hd]; simp [hf]
 ·rw [hat] at h4;have e:B.lev N=B.O N:=by funext k; exact if_pos hNK
  rw [e] at h4; exact h4
 ·have h5:=h3 l hl;rw [hat] at h5;have e:B.lev l=B.O l:=by funext k; exact if_pos (by omega)
  rw [e] at h5; exact h5
end
end BP
end Go.Proofs.YtpjaodcimomaiaaGreat.Lin
namespace Go.Proofs.YtpjaodcimomaiaaGreat.Lin.BP
variable {i:Nat}
section
variable {B:BP} {av a:Nat->Int} {o:List (Nat->Int)} {st:Option (Option (Nat->Rat))} {r s:Option (Nat->Rat)} {x:Nat->Rat}
def left (B:BP) (av:Nat->Int):Nat:=(B.und av).length
def load (B:BP):List (Nat->Int)->Nat
 | []=>0
 | a :: o=>B.load o+(2 ^ (B.left a+1)-1)
theorem zKN (o:List (Nat->Int)) (a:Nat->Int):B.load (o++[a])=B.load o+(2 ^ (B.left a+1)-1):=by
 induction o with
 | nil=>simp [load]
 | cons b o ih=>simp only [List.cons_append,load,ih]; omega
theorem zMv {q q':Nat->Bool} {p:Nat} (h:∀ i,i ≠ p->q' i=q i) (h1:q p=true) (h2:q' p=false):∀ k,(filt q' k).length+(if p<k then 1 else 0)=(filt q k).length:=by
 intro k
 induction k with
 | zero=>simp [filt]
 | succ k ih=>
  rw [zKI,zKI];by_cases e:k=p
  ·subst e;rw [if_pos (show k<k+1 by omega),h1,h2];rw [if_neg (by omega)] at ih;simp; omega
  ·rw [h k e]
   have:(if p<k+1 then 1 else 0)=if p<k then 1 else 0:=by
    by_cases e2:p<k
    ·rw [if_pos e2,if_pos (by omega)]
    ·rw [if_neg e2,if_neg (by omega)]
   rw [this]
   split
   ·rw [List.length_append,List.length_append]; simp; omega
   ·exact ih
theorem left_turn {p:Nat} {v:Int} (hp:p<B.nb) (h:av p=-1) (hv:v ≠ -1):B.left (turn av p v)+1=B.left av:=by
 have:=zMv (q:=fun i=>decide (av i=-1)) (q':=fun i=>decide (turn av p v i=-1)) (p:=p) (fun i hi=>by rw [zBh _ hi]) (by simpa using h) (by rw [zBL]; simpa using hv) B.nb;rw [if_pos hp] at this;exact this
theorem zMy (h:B.left av=0) (hi:i<B.nb):av i ≠ -1:=fun e=>by
 obtain ⟨j,hj,-⟩:=zLR (B:=B) hi e;unfold left at h; omega
theorem left_full (h:∀ i,i<B.nb->av i=-1):B.left av=B.nb:=by
 unfold left und
 have:∀ k,k<=B.nb->(filt (fun i=>decide (av i=-1)) k).length=k:=by
  intro k
  induction k with
  | zero=>intro _; simp [filt]
  | succ k ih=>
   intro hk;rw [zKI,if_pos (by simpa using h k (by omega)),List.length_append,ih (by omega)]; rfl
 exact this _ (nlr _)
theorem Av.turn (h:B.Av av) {p:Nat} {v:Int} (hv:v=0\/v=1):B.Av (turn av p v):=fun i hi=>by
 by_cases e:i=p
 ·rw [e,zBL]; exact .inr hv
 ·rw [zBh _ e]; exact h i hi
def Inv (B:BP) (o:List (Nat->Int)):Option (Option (Nat->Rat))->Prop
 | none=>∀ x,B.S x->∃ a,a ∈ o/\B.In a x
 | some none=>B.Ray/\∃ x,B.S x
 | some (some x0)=>B.S x0/\¬ B.Ray/\∀ x,B.S x->(∃ a,a ∈ o/\B.In a x)\/B.Le x x0
def Out (B:BP) (av:Nat->Int):Option (Nat->Rat)->Prop
 | none=>B.Ray/\∃ x,B.Rel av x
 | some x=>B.Best av x
theorem zMC (h:B.S x) (hi:B.In a x):B.Rel a x:=⟨h.1,hi,fun i hi _=>by rcases h.2 i hi with e | e <;> rw [e] <;> decide⟩
theorem Inv.start:B.Inv [fun _=>-1] none:=fun _x _=>⟨_,List.mem_singleton.2 rfl,fun _ _ h=>absurd rfl h⟩
theorem Inv.drop (h:B.Inv (o++[a]) st) (hE:∀ x,¬ B.Rel a x):B.Inv o st:=by
 have key:∀ x,B.S x->(∃ b,b ∈ o++[a]/\B.In b x)->∃ b,b ∈ o/\B.In b x:=fun x hx ⟨b,hb,hi⟩=>by
  rcases List.mem_append.1 hb with hb | hb
  ·exact ⟨b,hb,hi⟩
  ·rw [List.mem_singleton.1 hb] at hi;exact absurd (zMC hx hi) (hE x)
 cases st with
 | none=>exact fun x hx=>key x hx (h x hx)
 | some r=>cases r with
  | none=>exact h
  | some x0=>exact ⟨h.1,h.2.1,fun x hx=>(h.2.2 x hx).imp_left (key x hx)⟩
theorem Inv.cut (h:B.Inv (o++[a]) (some r)) (hs:B.Out a s) (hc:∀ x0 x1,r=some x0->s=some x1->B.Le x1 x0):B.Inv o (some r):=by
 cases r with
 | none=>exact h
 | some x0=>
  refine ⟨h.1,h.2.1,fun x hx=>?_⟩;rcases h.2.2 x hx with ⟨b,hb,hi⟩ | hl
  ·rcases List.mem_append.1 hb with hb | hb
   ·exact .inl ⟨b,hb,hi⟩
   ·rw [List.mem_singleton.1 hb] at hi
    cases s with
    | none=>exact absurd hs.1 h.2.1
    | some x1=>exact .inr ((hs.2 x (zMC hx hi)).trans (hc x0 x1 rfl rfl))
  ·exact .inr hl
theorem Inv.take (_ok:B.Ok) (hv:B.Av a) (h:B.Inv (o++[a]) st) (hs:B.Out a s) (h0:s=none->B.left a=0) (h1:∀ x,s=some x->∀ i,i<B.nb->a i=-1->x (B.bin i)=0\/x (B.bin i)=1)
  (hc:∀ x0 x1,st=some (some x0)->s=some x1->B.Le x0 x1):B.Inv o (some s):=by
 have bins:∀ {x i},B.In a x->i<B.nb->a i ≠ -1->x (B.bin i)=0\/x (B.bin i)=1:=fun {x i} hx hi hu=>by
  rw [hx i hi hu];rcases hv i hi with e | e | e
  ·exact absurd e hu
  ·exact .inl (by rw [e]; rfl)
  ·exact .inr (by rw [e]; rfl)
 cases s with
 | none=>
  obtain ⟨hr,x,hx⟩:=hs
  exact ⟨hr,x,hx.1,fun i hi=>bins hx.2.1 hi (zMy (h0 rfl) hi)⟩
 | some x1=>
  have hnr:¬ B.Ray:=fun hr=>hr.no_best hs
  refine ⟨⟨hs.1.1,fun i hi=>?_⟩,hnr,fun x hx=>?_⟩
  ·by_cases hu:a i=-1
   ·exact h1 x1 rfl i hi hu
   ·exact bins hs.1.2.1 hi hu
  ·have key:(∃ b,b ∈ o++[a]/\B.In b x)->(∃ b,b ∈ o/\B.In b x)\/B.Le x x1:=fun ⟨b,hb,hi⟩=>by
    rcases List.mem_append.1 hb with hb | hb
    ·exact .inl ⟨b,hb,hi⟩
    ·rw [List.mem_singleton.1 hb] at hi;exact .inr (hs.2 x (zMC hx hi))
   cases st with
   | none=>exact key (h x hx)
   | some r=>cases r with
    | none=>exact absurd h.1 hnr
    | some x0=>exact (h.2.2 x hx).elim key fun hl=>.inr (hl.trans (hc x0 x1 rfl rfl))
theorem Inv.split {p:Nat} (h:B.Inv (o++[a]) st) (hp:p<B.nb) (_hu:a p=-1):B.Inv ((o++[turn a p 1])++[turn a p 0]) st:=by
 have key:∀ x,B.S x->(∃ b,b ∈ o++[a]/\B.In b x)->∃ b,b ∈ (o++[turn a p 1])++[turn a p 0]/\B.In b x:=fun x hx ⟨b,hb,hi⟩=>by
  rcases List.mem_append.1 hb with hb | hb
  ·exact ⟨b,List.mem_append_left _ (List.mem_append_left _ hb),hi⟩
  ·rw [List.mem_singleton.1 hb] at hi
   have tn:∀ v:Int,x (B.bin p)=(v:Rat)->B.In (turn a p v) x:=fun v e i hi' hu'=>by
    by_cases ei:i=p
    ·rw [ei,zBL]; exact e
    ·rw [zBh _ ei] at hu' ⊢; exact hi i hi' hu'
   rcases hx.2 p hp with e | e
   ·exact ⟨_,List.mem_append_right _ (List.mem_singleton.2 rfl),tn 0 e⟩
   ·exact ⟨_,List.mem_append_left _ (List.mem_append_right _ (List.mem_singleton.2 rfl)),tn 1 e⟩
 cases st with
 | none=>exact fun x hx=>key x hx (h x hx)
 | some r=>cases r with
  | none=>exact h
  | some x0=>exact ⟨h.1,h.2.1,fun x hx=>(h.2.2 x hx).imp_left (key x hx)⟩
theorem load_split {p:Nat} (hp:p<B.nb) (hu:a p=-1):B.load ((o++[turn a p 1])++[turn a p 0])+1=B.load (o++[a]):=by
 rw [zKN,zKN,zKN];have h1:=left_turn (B:=B) (v:=1) hp hu (by decide);have h0:=left_turn (B:=B) (v:=0) hp hu (by decide);rw [<-h1,show B.left (turn a p 0)=B.left (turn a p 1) by omega];generalize B.left (turn a p 1)=l;have:0<2 ^ (l+1):=Nat.pow_pos (by decide);rw [Nat.pow_succ 2 (l+1)];omega
theorem load_pop:B.load o+1<=B.load (o++[a]):=by
 rw [zKN];have:0<2 ^ (B.left a):=Nat.pow_pos (by decide);rw [Nat.pow_succ];omega
theorem load_start {a:Nat->Int} (h:∀ i,i<B.nb->a i=-1):B.load [a]=2 ^ (B.nb+1)-1:=by
 show 0+_=_;rw [left_full h,Nat.zero_add]
end
end Go.Proofs.YtpjaodcimomaiaaGreat.Lin.BP
