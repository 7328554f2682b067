/- Texts Lin Simplex1 Simplex2 Simplex3 Simplex4 DA Long3 Long4 Long5 Long6 PrH of this claim. -/
import Derived.Test.YtbpngececjihlaaGreatX10
import Derived.Test.YtbpngececjihlaaGreatX09
set_option maxHeartbeats 4000000
namespace Go.Proofs.YtbpngececjihlaaGreat.Lin
variable {f:Nat->Rat} {n N:Nat}
def sum:Nat->(Nat->Rat)->Rat
 | 0,_=>0
 | n+1,f=>sum n f+f n
theorem zAh {g:Nat->Rat} (h:∀ i,i<n->f i=g i):sum n f=sum n g:=by
 induction n with
 | zero=>rfl
 | succ n ih=>rw [sum,sum,ih fun i hi=>h i (by omega),h n (by omega)]
theorem zCb (n:Nat) (f g:Nat->Rat):sum n (fun i=>f i+g i)=sum n f+sum n g:=by
 induction n with
 | zero=>simp only [sum]; grind
 | succ n ih=>simp only [sum,ih]; grind
theorem zFD (n:Nat) (f g:Nat->Rat):sum n (fun i=>f i-g i)=sum n f-sum n g:=by
 induction n with
 | zero=>simp only [sum]; grind
 | succ n ih=>simp only [sum,ih]; grind
theorem zBK (n:Nat) (k:Rat) (f:Nat->Rat):sum n (fun i=>k*f i)=k*sum n f:=by
 induction n with
 | zero=>simp only [sum]; grind
 | succ n ih=>simp only [sum,ih]; grind
theorem zFC (n:Nat) (f:Nat->Rat):sum n (fun i=>- f i)=- sum n f:=by
 induction n with
 | zero=>simp only [sum]; grind
 | succ n ih=>simp only [sum,ih]; grind
theorem zAC (h:∀ i,i<n->f i=0):sum n f=0:=by
 induction n with
 | zero=>rfl
 | succ n ih=>rw [sum,ih fun i hi=>h i (by omega),h n (by omega)]; grind
def sumBut (n s:Nat) (f:Nat->Rat):Rat:=sum n fun i=>if i=s then 0 else f i
theorem zF9 {s:Nat} (h:s<n) (f:Nat->Rat):sum n f=f s+sumBut n s f:=by
 unfold sumBut
 induction n with
 | zero=>omega
 | succ n ih=>
  by_cases hs:s=n
  ·subst hs;simp only [sum,if_true];rw [show sum s (fun i=>if i=s then 0 else f i)=sum s f from zAh fun i hi=>if_neg (by omega)];grind
  ·simp only [sum];rw [ih (by omega),if_neg (by omega)];grind
theorem zBu {s:Nat} (h:s<n) (h0:∀ i,i<n->i ≠ s->f i=0):sum n f=f s:=by
 rw [zF9 h,sumBut,zAC (fun i hi=>by by_cases e:i=s <;> simp [e]; exact h0 i hi e)];grind
theorem zBt (h:∀ i,i<n->0<=f i):0<=sum n f:=by
 induction n with
 | zero=>exact Rat.le_refl
 | succ n ih=>
  rw [sum];have:=ih fun i hi=>h i (by omega)
  have:=h n (by omega);grind
theorem zH0 (h:∀ i,i<n->f i<=0):sum n f<=0:=by
 have:=zBt (n:=n) (f:=fun i=>- f i) fun i hi=>by have:=h i hi; grind
 rw [zFC] at this;grind
theorem mul_nonneg {a b:Rat} (ha:0<=a) (hb:0<=b):0<=a*b:=Rat.mul_nonneg ha hb
theorem mul_pos {a b:Rat} (ha:0<a) (hb:0<b):0<a*b:=Rat.mul_pos ha hb
theorem zHC {a b:Rat} (ha:0<=a) (hb:b<=0):a*b<=0:=by
 have:=mul_nonneg ha (show 0<=-b by grind); grind
theorem inv_pos {a:Rat} (h:0<a):0<a⁻¹:=Rat.inv_pos.2 h
def LexNeg (N:Nat) (f:Nat->Rat):Prop:=∃ i,i<N/\f i<0/\∀ j,j<i->f j=0
def LexPos (N:Nat) (f:Nat->Rat):Prop:=∃ i,i<N/\0<f i/\∀ j,j<i->f j=0
def LexZero (N:Nat) (f:Nat->Rat):Prop:=∀ i,i<N->f i=0
theorem zFM (N:Nat) (f:Nat->Rat):LexNeg N f\/LexZero N f\/LexPos N f:=by
 induction N with
 | zero=>exact .inr (.inl fun i hi=>by omega)
 | succ N ih=>
  rcases ih with ⟨i,hi,h⟩ | h | ⟨i,hi,h⟩
  ·exact .inl ⟨i,by omega,h⟩
  ·rcases (by grind:f N<0\/f N=0\/0<f N) with h1 | h1 | h1
   ·exact .inl ⟨N,by omega,h1,h⟩
   ·refine .inr (.inl fun i hi=>?_);by_cases e:i=N
    ·rw [e]; exact h1
    ·exact h i (by omega)
   ·exact .inr (.inr ⟨N,by omega,h1,h⟩)
  ·exact .inr (.inr ⟨i,by omega,h⟩)
theorem LexNeg.not_pos (h:LexNeg N f):¬ LexPos N f:=by
 obtain ⟨i,_,h1,h2⟩:=h;rintro ⟨j,_,h3,h4⟩;rcases Nat.lt_trichotomy i j with h | h | h
 ·have:=h4 i h; grind
 ·subst h; grind
 ·have:=h2 j h; grind
theorem LexNeg.not_zero (h:LexNeg N f):¬ LexZero N f:=by
 obtain ⟨i,h0,h1,h2⟩:=h;intro hz; have:=hz i h0; grind
def LexNN (N:Nat) (f:Nat->Rat):Prop:=LexZero N f\/LexPos N f
theorem LexNN.of_not (h:¬ LexNeg N f):LexNN N f:=(zFM N f).resolve_left h
theorem LexNN.not (h:LexNN N f):¬ LexNeg N f:=by
 intro hn;rcases h with h | h
 ·exact hn.not_zero h
 ·exact hn.not_pos h
theorem LexZero.add {g:Nat->Rat} (h:LexZero N f) (k:LexZero N g):LexZero N fun i=>f i+g i:=fun i hi=>by dsimp only; rw [h i hi,k i hi]; grind
theorem LexNN.add {g:Nat->Rat} (h:LexNN N f) (k:LexNN N g):LexNN N fun i=>f i+g i:=by
 rcases h with h | ⟨i,hi,h1,h2⟩
 ·rcases k with k | ⟨i,hi,h1,h2⟩
  ·exact .inl (h.add k)
  ·exact .inr ⟨i,hi,by dsimp only; rw [h i hi]; grind,fun j hj=>by dsimp only; rw [h j (by omega),h2 j hj]; grind⟩
 ·rcases k with k | ⟨j,hj,h3,h4⟩
  ·exact .inr ⟨i,hi,by dsimp only; rw [k i hi]; grind,fun j hj=>by dsimp only; rw [k j (by omega),h2 j hj]; grind⟩
  ·rcases Nat.lt_trichotomy i j with h | h | h
   ·exact .inr ⟨i,hi,by dsimp only; rw [h4 i h]; grind,fun k hk=>by dsimp only; rw [h4 k (by omega),h2 k hk]; grind⟩
   ·subst h; exact .inr ⟨i,hi,by dsimp only; grind,fun k hk=>by dsimp only; rw [h4 k (by omega),h2 k hk]; grind⟩
   ·exact .inr ⟨j,hj,by dsimp only; rw [h2 j h]; grind,fun k hk=>by dsimp only; rw [h4 k (by omega),h2 k (by omega)]; grind⟩
theorem LexNN.smul (h:LexNN N f) {k:Rat} (hk:0<=k):LexNN N fun i=>k*f i:=by
 rcases h with h | ⟨i,hi,h1,h2⟩
 ·exact .inl fun i hi=>by dsimp only; rw [h i hi]; grind
 ·rcases (by grind:k=0\/0<k) with h0 | h0
  ·exact .inl fun i hi=>by dsimp only; rw [h0]; grind
  ·exact .inr ⟨i,hi,mul_pos h0 h1,fun j hj=>by dsimp only; rw [h2 j hj]; grind⟩
theorem LexNN.sum {f:Nat->Nat->Rat} (h:∀ j,j<n->LexNN N fun i=>f i j):LexNN N fun i=>Lin.sum n (f i):=by
 induction n with
 | zero=>exact .inl fun i hi=>rfl
 | succ n ih=>exact (ih fun j hj=>h j (by omega)).add (h n (by omega))
theorem LexNeg.neg (h:LexNeg N f):LexPos N fun i=>- f i:=by
 obtain ⟨i,h0,h1,h2⟩:=h;exact ⟨i,h0,by dsimp only; grind,fun j hj=>by dsimp only; rw [h2 j hj]; grind⟩
theorem LexNeg.congr {g:Nat->Rat} (h:LexNeg N f) (e:∀ i,i<N->f i=g i):LexNeg N g:=by
 obtain ⟨i,h0,h1,h2⟩:=h;exact ⟨i,h0,by rw [<-e i h0]; exact h1,fun j hj=>by rw [<-e j (by omega)]; exact h2 j hj⟩
theorem LexPos.congr {g:Nat->Rat} (h:LexPos N f) (e:∀ i,i<N->f i=g i):LexPos N g:=by
 obtain ⟨i,h0,h1,h2⟩:=h;exact ⟨i,h0,by rw [<-e i h0]; exact h1,fun j hj=>by rw [<-e j (by omega)]; exact h2 j hj⟩
theorem LexNN.congr {g:Nat->Rat} (h:LexNN N f) (e:∀ i,i<N->f i=g i):LexNN N g:=by
 rcases h with h | h
 ·exact .inl fun i hi=>by rw [<-e i hi]; exact h i hi
 ·exact .inr (h.congr e)
end Go.Proofs.YtbpngececjihlaaGreat.Lin
namespace Go.Proofs.YtbpngececjihlaaGreat.Lin
variable {m i n j r:Nat}
structure Prob where
 n:Nat
 m:Nat
 K:Nat
 A:Nat->Nat->Rat
 b:Nat->Rat
 O:Nat->Nat->Rat
def Prob.Sys (P:Prob) (x:Nat->Rat):Prop:=∀ i,i<P.m->x (P.n+i)=P.b i-sum P.n fun k=>P.A i k*x k
def Prob.obj (P:Prob) (l:Nat) (x:Nat->Rat):Rat:=if l<P.K then sum P.n (fun k=>P.O l k*x k) else-x (l-P.K)
structure Dict where
 basic:Nat->Nat
 free:Nat->Nat
 a:Nat->Nat->Rat
 c:Nat->Nat->Rat
def val (n:Nat) (F:Nat->Nat) (r:Nat->Rat) (x:Nat->Rat):Rat:=r n-sum n fun j=>r j*x (F j)
structure Good (P:Prob) (D:Dict):Prop where
 bLt:∀ i,i<P.m->D.basic i<P.n+P.m
 fLt:∀ j,j<P.n->D.free j<P.n+P.m
 bInj:∀ i j,i<P.m->j<P.m->D.basic i=D.basic j->i=j
 fInj:∀ i j,i<P.n->j<P.n->D.free i=D.free j->i=j
 apart:∀ i j,i<P.m->j<P.n->D.basic i ≠ D.free j
 all:∀ v,v<P.n+P.m->(∃ i,i<P.m/\D.basic i=v)\/(∃ j,j<P.n/\D.free j=v)
 rows:∀ x,P.Sys x ↔ ∀ i,i<P.m->x (D.basic i)=val P.n D.free (D.a i) x
 costs:∀ x,P.Sys x->∀ l,l<P.K->sum P.n (fun k=>P.O l k*x k)=val P.n D.free (D.c l) x
def find (f:Nat->Nat) (v:Nat):Nat->Nat
 | 0=>0
 | m+1=>if find f v m<m then find f v m else if f m=v then m else m+1
theorem zCi (f:Nat->Nat) (v m:Nat):(find f v m<m/\f (find f v m)=v)\/(find f v m=m/\∀ i,i<m->f i ≠ v):=by
 induction m with
 | zero=>exact .inr ⟨rfl,fun i hi=>by omega⟩
 | succ m ih=>
  unfold find;rcases ih with ⟨h1,h2⟩ | ⟨h1,h2⟩
  ·rw [if_pos h1]; exact .inl ⟨by omega,h2⟩
  ·rw [if_neg (by omega)];by_cases h:f m=v
   ·rw [if_pos h]; exact .inl ⟨by omega,h⟩
   ·rw [if_neg h];refine .inr ⟨rfl,fun i hi=>?_⟩;by_cases e:i=m
    ·rw [e]; exact h
    ·exact h2 i (by omega)
theorem zFk {f:Nat->Nat} {v:Nat} (hi:i<m) (h:f i=v):find f v m<m/\f (find f v m)=v:=by
 rcases zCi f v m with h1 | ⟨_,h2⟩
 ·exact h1
 ·exact absurd h (h2 i hi)
theorem zCQ {f:Nat->Nat} {v:Nat} (h:∀ i,i<m->f i ≠ v):¬ find f v m<m:=by
 intro hl;rcases zCi f v m with ⟨h1,h2⟩ | ⟨h1,_⟩
 ·exact h _ h1 h2
 ·omega
theorem zIl {f:Nat->Nat} (inj:∀ i j,i<m->j<m->f i=f j->i=j) (hi:i<m):find f (f i) m=i:=by
 obtain ⟨h1,h2⟩:=zFk hi rfl;exact inj _ _ h1 hi h2
def Dict.cost (P:Prob) (D:Dict) (l j:Nat):Rat:=
 if l<P.K then D.c l j
 else if find D.basic (l-P.K) P.m<P.m then-D.a (find D.basic (l-P.K) P.m) j
 else if j<P.n/\D.free j=l-P.K then 1 else 0
theorem zJ5 (n:Nat) (F:Nat->Nat) (r x:Nat->Rat):val n F (fun j=>- r j) x=- val n F r x:=by
 unfold val;rw [zAh (g:=fun j=>- (r j*x (F j))) (fun i _=>by grind),zFC];grind
theorem Good.cost_val {P:Prob} {D:Dict} (G:Good P D) {x:Nat->Rat} (hx:P.Sys x) {l:Nat} (hl:l<P.K+P.n):P.obj l x=val P.n D.free (D.cost P l) x:=by
 by_cases h:l<P.K
 ·have:D.cost P l=D.c l:=by funext j; simp [Dict.cost,h]
  rw [this,Prob.obj,if_pos h];exact G.costs x hx l h
 ·rw [Prob.obj,if_neg h];rcases G.all (l-P.K) (by omega) with ⟨i,hi,e⟩ | ⟨j,hj,e⟩
  ·obtain ⟨h1,h2⟩:=zFk hi e;have:D.cost P l=fun j=>- D.a (find D.basic (l-P.K) P.m) j:=by funext j; simp [Dict.cost,h,h1]
   rw [this,zJ5,<-(G.rows x).1 hx _ h1,h2]
  ·have hno:=zCQ (f:=D.basic) (v:=l-P.K) (m:=P.m) (fun i hi e'=>G.apart i j hi hj (e'.trans e.symm));have:D.cost P l=fun j=>if j<P.n/\D.free j=l-P.K then 1 else 0:=by funext j; simp [Dict.cost,h,hno]
   rw [this,val,if_neg (by omega),zBu (s:=j) hj (fun i hi hij=>by
    rw [if_neg (fun hh=>hij (G.fInj i j hi hj (hh.2.trans e.symm)))]; grind),if_pos ⟨hj,e⟩,e]
   grind
def scaled (s:Nat) (r:Nat->Rat):Nat->Rat:=fun j=>if j=s then (r s)⁻¹ else (r s)⁻¹*r j
def elim (s:Nat) (by' r:Nat->Rat):Nat->Rat:=fun j=>(if j=s then 0 else r j)-r s*by' j
def turn {α:Type} (f:Nat->α) (s:Nat) (v:α):Nat->α:=fun j=>if j=s then v else f j
def Dict.pivot (D:Dict) (r s:Nat):Dict where
 basic:=turn D.basic r (D.free s)
 free:=turn D.free s (D.basic r)
 a:=fun i=>if i=r then scaled s (D.a r) else elim s (scaled s (D.a r)) (D.a i)
 c:=fun l=>elim s (scaled s (D.a r)) (D.c l)
theorem zCu {s:Nat} (hs:s<n) (F:Nat->Nat) (r x:Nat->Rat):val n F r x=r n-(r s*x (F s)+sumBut n s fun j=>r j*x (F j)):=by
 rw [val,zF9 hs]
theorem zDA {s:Nat} (hs:s<n) {F:Nat->Nat} {r x:Nat->Rat} (u:Nat) (h0:r s ≠ 0):x u=val n F r x ↔ x (F s)=val n (turn F s u) (scaled s r) x:=by
 rw [zCu hs,zCu hs]
 have e:sumBut n s (fun j=>scaled s r j*x (turn F s u j))=(r s)⁻¹*sumBut n s fun j=>r j*x (F j):=by
  unfold sumBut;rw [<-zBK];refine zAh fun i _=>?_
  by_cases h:i=s
  ·simp [h]
  ·simp [h,scaled,turn]; grind
 rw [e];have e1:scaled s r n=(r s)⁻¹*r n:=by unfold scaled; rw [if_neg (by omega)]
 have e2:scaled s r s=(r s)⁻¹:=by unfold scaled; rw [if_pos rfl]
 have e3:turn F s u s=u:=by unfold turn; rw [if_pos rfl]
 rw [e1,e2,e3];generalize sumBut n s (fun j=>r j*x (F j))=T;constructor
 ·intro h; rw [h]; grind
 ·intro h; rw [h]; grind
theorem zCY {s:Nat} (hs:s<n) {F:Nat->Nat} {r by' x:Nat->Rat} (u:Nat) (h:x (F s)=val n (turn F s u) by' x):val n F r x=val n (turn F s u) (elim s by' r) x:=by
 rw [zCu hs] at h;rw [zCu hs,zCu hs]
 have e:sumBut n s (fun j=>elim s by' r j*x (turn F s u j))=(sumBut n s fun j=>r j*x (F j))-r s*sumBut n s fun j=>by' j*x (turn F s u j):=by
  unfold sumBut;rw [<-zBK,<-zFD];refine zAh fun i _=>?_
  by_cases h:i=s
  ·simp [h]; grind
  ·simp [h,elim,turn]; grind
 rw [e];have e1:elim s by' r n=r n-r s*by' n:=by unfold elim; rw [if_neg (by omega)]
 have e2:elim s by' r s=- (r s*by' s):=by unfold elim; rw [if_pos rfl]; grind
 have e3:turn F s u s=u:=by unfold turn; rw [if_pos rfl]
 rw [e3] at h;rw [e1,e2,e3,h];grind
theorem zBL {α:Type} (f:Nat->α) (s:Nat) (v:α):turn f s v s=v:=by simp [turn]
theorem zBh {α:Type} (f:Nat->α) {s:Nat} (h:j ≠ s) (v:α):turn f s v j=f j:=by simp [turn,h]
theorem Good.pivot {P:Prob} {D:Dict} (G:Good P D) {s:Nat} (hr:r<P.m) (hs:s<P.n) (h0:D.a r s ≠ 0):Good P (D.pivot r s):=by
 have key:∀ x,P.Sys x ↔ ∀ i,i<P.m->x ((D.pivot r s).basic i)=val P.n (D.pivot r s).free ((D.pivot r s).a i) x:=by
  intro x;rw [G.rows x];have k0:=zDA hs (F:=D.free) (r:=D.a r) (x:=x) (D.basic r) h0;constructor
  ·intro h i hi;have k1:=k0.1 (h r hr);by_cases e:i=r
   ·subst e; simpa [Dict.pivot,turn] using k1
   ·have:=(h i hi).trans (zCY hs (D.basic r) (r:=D.a i) k1);simpa [Dict.pivot,zBh _ e,e] using this
  ·intro h i hi;have k1:=h r hr;simp only [Dict.pivot,zBL,if_true] at k1;by_cases e:i=r
   ·subst e; exact k0.2 k1
   ·rw [zCY hs (D.basic r) (r:=D.a i) k1];have:=h i hi;simpa [Dict.pivot,zBh _ e,e] using this
 refine ⟨?_,?_,?_,?_,?_,?_,key,?_⟩
 ·intro i hi;by_cases e:i=r
  ·simpa [Dict.pivot,turn,e] using G.fLt s hs
  ·simpa [Dict.pivot,turn,e] using G.bLt i hi
 ·intro j hj;by_cases e:j=s
  ·simpa [Dict.pivot,turn,e] using G.bLt r hr
  ·simpa [Dict.pivot,turn,e] using G.fLt j hj
 ·intro i j hi hj h;by_cases e:i=r <;> by_cases e':j=r <;> simp [Dict.pivot,turn,e,e'] at h
  ·omega
  ·exact absurd h.symm (G.apart j s hj hs)
  ·exact absurd h (G.apart i s hi hs)
  ·exact G.bInj i j hi hj h
 ·intro i j hi hj h;by_cases e:i=s <;> by_cases e':j=s <;> simp [Dict.pivot,turn,e,e'] at h
  ·omega
  ·exact absurd h (G.apart r j hr hj)
  ·exact absurd h.symm (G.apart r i hr hi)
  ·exact G.fInj i j hi hj h
 ·intro i j hi hj h;by_cases e:i=r <;> by_cases e':j=s <;> simp [Dict.pivot,turn,e,e'] at h
  ·exact absurd h.symm (G.apart r s hr hs)
  ·exact e' (G.fInj s j hs hj h).symm
  ·exact e (G.bInj i r hi hr h)
  ·exact G.apart i j hi hj h
 ·intro v hv;rcases G.all v hv with ⟨i,hi,e⟩ | ⟨j,hj,e⟩
  ·by_cases h:i=r
   ·exact .inr ⟨s,hs,by simp [Dict.pivot,turn,<-e,h]⟩
   ·exact .inl ⟨i,hi,by simp [Dict.pivot,turn,h,e]⟩
  ·by_cases h:j=s
   ·exact .inl ⟨r,hr,by simp [Dict.pivot,turn,<-e,h]⟩
   ·exact .inr ⟨j,hj,by simp [Dict.pivot,turn,h,e]⟩
 ·intro x hx l hl;rw [G.costs x hx l hl];have k1:=(key x).1 hx r hr;simp only [Dict.pivot,zBL,if_true] at k1;exact zCY hs (D.basic r) k1
def Dict.point (P:Prob) (D:Dict) (v:Nat):Rat:=if find D.basic v P.m<P.m then D.a (find D.basic v P.m) P.n else 0
def Dict.dir (P:Prob) (D:Dict) (s v:Nat):Rat:=if find D.basic v P.m<P.m then-D.a (find D.basic v P.m) s else if v=D.free s then 1 else 0
section
variable {P:Prob} {D:Dict} (G:Good P D)
 include G
theorem Good.point_basic (hi:i<P.m):D.point P (D.basic i)=D.a i P.n:=by
 rw [Dict.point,zIl G.bInj hi,if_pos hi]
theorem Good.point_free (hj:j<P.n):D.point P (D.free j)=0:=by
 rw [Dict.point,if_neg (zCQ fun i hi=>G.apart i j hi hj)]
theorem Good.dir_basic {s:Nat} (hi:i<P.m):D.dir P s (D.basic i)=- D.a i s:=by
 rw [Dict.dir,zIl G.bInj hi,if_pos hi]
theorem Good.dir_free {s:Nat} (hs:s<P.n) (hj:j<P.n):D.dir P s (D.free j)=if j=s then 1 else 0:=by
 rw [Dict.dir,if_neg (zCQ fun i hi=>G.apart i j hi hj)];by_cases e:j=s
 ·simp [e]
 ·rw [if_neg e,if_neg (fun h=>e (G.fInj j s hj hs h))]
theorem Good.point_sys:P.Sys (D.point P):=by
 rw [G.rows];intro i hi;rw [G.point_basic hi,val,zAC fun j hj=>by rw [G.point_free hj]; grind];grind
theorem zGM {s:Nat} (hs:s<P.n) (r x:Nat->Rat) (t:Rat):val P.n D.free r (fun v=>x v+t*D.dir P s v)=val P.n D.free r x-t*r s:=by
 unfold val
 have e:sum P.n (fun j=>r j*(x (D.free j)+t*D.dir P s (D.free j)))=sum P.n (fun j=>r j*x (D.free j))+t*r s:=by
  rw [zAh (g:=fun j=>r j*x (D.free j)+t*(r j*D.dir P s (D.free j))) (fun i _=>by grind),zCb,zBK]
  have e2:sum P.n (fun j=>r j*D.dir P s (D.free j))=r s:=by
   rw [zBu (s:=s) hs (fun i hi h=>by rw [G.dir_free hs hi,if_neg h]; grind),G.dir_free hs hs,if_pos rfl];grind
  rw [e2]
 rw [e]; grind
theorem Good.dir_sys {s:Nat} (hs:s<P.n) {x:Nat->Rat} (hx:P.Sys x) (t:Rat):P.Sys fun v=>x v+t*D.dir P s v:=by
 rw [G.rows] at hx ⊢;intro i hi;rw [zGM G hs,<-hx i hi,G.dir_basic hi]; grind
theorem Good.obj_dir {s:Nat} (hs:s<P.n) {x:Nat->Rat} (hx:P.Sys x) (t:Rat) {l:Nat} (hl:l<P.K+P.n):P.obj l (fun v=>x v+t*D.dir P s v)=P.obj l x-t*D.cost P l s:=by
 rw [G.cost_val (G.dir_sys hs hx t) hl,G.cost_val hx hl,zGM G hs]
theorem Good.obj_point {l:Nat} (hl:l<P.K+P.n):P.obj l (D.point P)=D.cost P l P.n:=by
 rw [G.cost_val G.point_sys hl,val,zAC fun j hj=>by rw [G.point_free hj]; grind];grind
theorem Good.unique {x y:Nat->Rat} (hx:P.Sys x) (hy:P.Sys y) (h:∀ j,j<P.n->x (D.free j)=y (D.free j)) {v:Nat} (hv:v<P.n+P.m):x v=y v:=by
 rcases G.all v hv with ⟨i,hi,e⟩ | ⟨j,hj,e⟩
 ·rw [<-e,(G.rows x).1 hx i hi,(G.rows y).1 hy i hi,val,val,zAh fun j hj=>by rw [h j hj]]
 ·rw [<-e]; exact h j hj
end
def Prob.start (P:Prob):Dict where
 basic:=fun i=>P.n+i
 free:=fun j=>j
 a:=fun i j=>if j<P.n then P.A i j else P.b i
 c:=fun l j=>if j<P.n then-P.O l j else 0
theorem Prob.start_good (P:Prob):Good P P.start:=by
 refine ⟨fun i hi=>by simp [Prob.start]; omega,fun j hj=>by simp [Prob.start]; omega,fun i j _ _ h=>by simpa [Prob.start] using h,fun i j _ _ h=>by simpa [Prob.start] using h,fun i j hi hj=>by simp [Prob.start]; omega,?_,?_,?_⟩
 ·intro v hv;by_cases h:v<P.n
  ·exact .inr ⟨v,h,rfl⟩
  ·exact .inl ⟨v-P.n,by omega,by simp [Prob.start]; omega⟩
 ·intro x;unfold Prob.Sys;refine forall_congr' fun i=>forall_congr' fun hi=>?_
  simp only [Prob.start,val,Nat.lt_irrefl,if_false];rw [zAh (f:=fun j=>(if j<P.n then P.A i j else P.b i)*x j) (g:=fun k=>P.A i k*x k) (fun k hk=>by rw [if_pos hk])]
 ·intro x hx l hl;simp only [Prob.start,val,Nat.lt_irrefl,if_false];rw [zAh (f:=fun j=>(if j<P.n then-P.O l j else 0)*x j) (g:=fun k=>- (P.O l k*x k)) (fun k hk=>by rw [if_pos hk]; grind),zFC];grind
end Go.Proofs.YtbpngececjihlaaGreat.Lin
namespace Go.Proofs.YtbpngececjihlaaGreat.Lin
variable {i j b r:Nat}
def Dict.bas (P:Prob) (D:Dict) (v:Nat):Bool:=decide (find D.basic v P.m<P.m)
theorem zFe {P:Prob} {D:Dict} {v:Nat} (h:D.bas P v=true):∃ i,i<P.m/\D.basic i=v:=by
 rcases zCi D.basic v P.m with ⟨h1,h2⟩ | ⟨h1,h2⟩
 ·exact ⟨_,h1,h2⟩
 ·simp [Dict.bas] at h; omega
theorem zEP {P:Prob} {D:Dict} (hi:i<P.m):D.bas P (D.basic i)=true:=by
 simp [Dict.bas,(zFk hi rfl).1]
theorem zBR {P:Prob} {D:Dict} (G:Good P D) {v:Nat} (hv:v<P.n+P.m) (h:D.bas P v=false):∃ j,j<P.n/\D.free j=v:=by
 rcases G.all v hv with ⟨i,hi,e⟩ | h1
 ·rw [<-e,zEP hi] at h; cases h
 ·exact h1
theorem zBw {P:Prob} {D:Dict} (G:Good P D) (hj:j<P.n):D.bas P (D.free j)=false:=by
 simp only [Dict.bas,decide_eq_false_iff_not];exact zCQ fun i hi=>G.apart i j hi hj
theorem zB8 {P:Prob} {D:Dict} {v:Nat} (h:D.bas P v=false):D.point P v=0:=by
 rw [Dict.point,if_neg (by simpa [Dict.bas] using h)]
section
variable {P:Prob} {D:Dict} {r s:Nat}
theorem enters {v:Nat} (h1:D.bas P v=false) (h2:(D.pivot r s).bas P v=true):v=D.free s:=by
 obtain ⟨i,hi,e⟩:=zFe h2;by_cases h:i=r
 ·simp [Dict.pivot,turn,h] at e; exact e.symm
 ·simp [Dict.pivot,turn,h] at e;rw [<-e,zEP hi] at h1; cases h1
theorem leaves (G:Good P D) (hr:r<P.m) (hs:s<P.n) (h0:D.a r s ≠ 0) {v:Nat} (hv:v<P.n+P.m) (h1:D.bas P v=true) (h2:(D.pivot r s).bas P v=false):v=D.basic r:=by
 have G':=G.pivot hr hs h0;obtain ⟨j,hj,e⟩:=zBR G' hv h2;by_cases h:j=s
 ·simp [Dict.pivot,turn,h] at e; exact e.symm
 ·simp [Dict.pivot,turn,h] at e;rw [<-e,zBw G hj] at h1; cases h1
theorem entered (hr:r<P.m):(D.pivot r s).bas P (D.free s)=true:=by
 have:=zEP (P:=P) (D:=D.pivot r s) hr;simpa [Dict.pivot,turn] using this
theorem left (G:Good P D) (hr:r<P.m) (hs:s<P.n) (h0:D.a r s ≠ 0):(D.pivot r s).bas P (D.basic r)=false:=by
 have:=zBw (G.pivot hr hs h0) hs;simpa [Dict.pivot,turn] using this
end
theorem change {q:Nat->Bool} {a:Nat} (hab:a<=b) (h1:q a=false) (h2:q b=true):∃ k,a<=k/\k<b/\q k=false/\q (k+1)=true:=by
 induction b with
 | zero=>
  obtain rfl:a=0:=by omega
  rw [h1] at h2; cases h2
 | succ b ih=>
  by_cases e:a=b+1
  ·subst e; rw [h1] at h2; cases h2
  ·cases hb:q b with
   | true=>obtain ⟨k,hk1,hk2,h3⟩:=ih (by omega) hb; exact ⟨k,hk1,by omega,h3⟩
   | false=>exact ⟨b,by omega,by omega,hb,h2⟩
theorem change' {q:Nat->Bool} {a:Nat} (hab:a<=b) (h1:q a=true) (h2:q b=false):∃ k,a<=k/\k<b/\q k=true/\q (k+1)=false:=by
 obtain ⟨k,h3,h4,h5,h6⟩:=change (q:=fun i=>! q i) hab (by simp [h1]) (by simp [h2]);exact ⟨k,h3,h4,by simpa using h5,by simpa using h6⟩
theorem greatest {p:Nat->Prop} (N:Nat) (hN:∀ v,p v->v<N) (h:∃ v,p v):∃ t,p t/\∀ v,p v->v<=t:=by
 induction N with
 | zero=>obtain ⟨v,hv⟩:=h; have:=hN v hv; omega
 | succ N ih=>
  by_cases hp:p N
  ·exact ⟨N,hp,fun v hv=>by have:=hN v hv; omega⟩
  ·(refine ih fun v hv=>?_);have:=hN v hv;have:v ≠ N:=(fun e=>hp (e ▸ hv));omega
theorem fickle {P:Prob} {f:Nat->Dict} (hij:i<j) (G:∀ k,i<=k->k<=j->Good P (f k))
  (st:∀ k,i<=k->k<j->∃ r s,r<P.m/\s<P.n/\(f k).a r s ≠ 0/\f (k+1)=(f k).pivot r s)
  (same:∀ v,v<P.n+P.m->(f i).bas P v=(f j).bas P v) :
  ∃ t,t<P.n+P.m/\(∀ v k k',v<P.n+P.m->i<=k->k<=j->i<=k'->k'<=j->(f k).bas P v ≠ (f k').bas P v->v<=t)/\
   (∃ p,i<=p/\p<j/\(f p).bas P t=false/\(f (p+1)).bas P t=true)/\(∃ q,i<=q/\q<j/\(f q).bas P t=true/\(f (q+1)).bas P t=false):=by
 have hex:∃ v,v<P.n+P.m/\∃ k,i<=k/\k<=j/\(f k).bas P v ≠ (f i).bas P v:=by
  obtain ⟨r,s,hr,hs,h0,e⟩:=st i (by omega) hij;refine ⟨(f i).free s,(G i (by omega) (by omega)).fLt s hs,i+1,by omega,by omega,?_⟩;rw [e,entered hr,zBw (G i (by omega) (by omega)) hs];simp
 obtain ⟨t,⟨ht,k,hk1,hk2,hk3⟩,hmax⟩:=greatest (P.n+P.m) (fun v hv=>hv.1) hex;refine ⟨t,ht,?_,?_⟩
 ·intro v k k' hv a b c d hne;by_cases h:(f k).bas P v=(f i).bas P v
  ·exact hmax v ⟨hv,k',c,d,fun e=>hne (h.trans e.symm)⟩
  ·exact hmax v ⟨hv,k,a,b,h⟩
 ·have hs:=same t ht
  cases hb:(f i).bas P t with
  | false=>
   have hbk:(f k).bas P t=true:=by rw [hb] at hk3; simpa using hk3
   obtain ⟨p,h1,h2,h3,h4⟩:=change (q:=fun k=>(f k).bas P t) hk1 hb hbk;obtain ⟨q,h5,h6,h7,h8⟩:=change' (q:=fun k=>(f k).bas P t) hk2 hbk (by rw [<-hs]; exact hb)
   exact ⟨⟨p,h1,by omega,h3,h4⟩,⟨q,by omega,h6,h7,h8⟩⟩
  | true=>
   have hbk:(f k).bas P t=false:=by rw [hb] at hk3; simpa using hk3
   obtain ⟨p,h1,h2,h3,h4⟩:=change' (q:=fun k=>(f k).bas P t) hk1 hb hbk;obtain ⟨q,h5,h6,h7,h8⟩:=change (q:=fun k=>(f k).bas P t) hk2 hbk (by rw [<-hs]; exact hb);exact ⟨⟨q,by omega,h6,h7,h8⟩,⟨p,h1,by omega,h3,h4⟩⟩
structure RSel (P:Prob) (D:Dict) (r s:Nat):Prop where
 hr:r<P.m
 neg:D.a r P.n<0
 least:∀ i,i<P.m->D.a i P.n<0->D.basic r<=D.basic i
 hs:s<P.n
 elt:D.a r s<0
 first:∀ j,j<P.n->D.a r j<0->D.free s<=D.free j
theorem RSel.ne {P:Prob} {D:Dict} {s:Nat} (h:RSel P D r s):D.a r s ≠ 0:=by have:=h.elt; grind
theorem zF1 {P:Prob} {f:Nat->Dict} (hij:i<j) (G:∀ k,i<=k->k<=j->Good P (f k))
  (st:∀ k,i<=k->k<j->∃ r s,RSel P (f k) r s/\f (k+1)=(f k).pivot r s)
  (same:∀ v,v<P.n+P.m->(f i).bas P v=(f j).bas P v):False:=by
 obtain ⟨t,ht,hmax,⟨p,hp1,hp2,hp3,hp4⟩,⟨q,hq1,hq2,hq3,hq4⟩⟩:=fickle hij G (fun k h1 h2=>by
  obtain ⟨r,s,h,e⟩:=st k h1 h2;exact ⟨r,s,h.hr,h.hs,h.ne,e⟩) same
 obtain ⟨r,s,hp,ep⟩:=st p hp1 hp2;obtain ⟨r',s',hq,eq⟩:=st q hq1 hq2;have Gp:=G p hp1 (by omega);have Gq:=G q hq1 (by omega);have et:t=(f p).free s:=enters hp3 (by rw [<-ep]; exact hp4);have et':t=(f q).basic r':=leaves Gq hq.hr hq.hs hq.ne ht hq3 (by rw [<-eq]; exact hq4)
 have nn:∀ v,v<t->0<=(f q).point P v:=by
  intro v hv;rcases Gq.all v (by omega) with ⟨i,hi,e⟩ | ⟨j,hj,e⟩
  ·rw [<-e,Gq.point_basic hi];rcases (by grind:(f q).a i P.n<0\/0<=(f q).a i P.n) with h | h
   ·have:=hq.least i hi h; omega
   ·exact h
  ·rw [<-e,Gq.point_free hj]; exact Rat.le_refl
 have key:=(Gp.rows _).1 Gq.point_sys r hp.hr
 have hu:(f p).basic r<t:=by
  have h1:=hmax ((f p).basic r) p (p+1) (Gp.bLt r hp.hr) hp1 (by omega) (by omega) (by omega) (by rw [zEP hp.hr,ep,left Gp hp.hr hp.hs hp.ne]; simp);have h2:=Gp.apart r s hp.hr hp.hs;omega
 have hl:=nn _ hu
 have hS:0<=sum P.n fun j=>(f p).a r j*(f q).point P ((f p).free j):=by
  refine zBt fun j hj=>?_
  by_cases hjs:j=s
  ·subst hjs;rw [<-et,et',Gq.point_basic hq.hr];have h1:=hp.elt;have h2:=hq.neg;have:=mul_pos (show 0 < - (f p).a r j by grind) (show 0 < - (f q).a r' P.n by grind);grind
  ·cases hb:(f q).bas P ((f p).free j) with
   | false=>rw [zB8 hb]; grind
   | true=>
    have h1:=hmax ((f p).free j) q p (Gp.fLt j hj) hq1 (by omega) hp1 (by omega) (by rw [hb,zBw Gp hj]; simp);have h2:(f p).free j ≠ t:=(fun e=>hjs (Gp.fInj j s hj hp.hs (by rw [e,et])));refine mul_nonneg ?_ (nn _ (by omega));rcases (by grind:(f p).a r j<0\/0<=(f p).a r j) with h | h
    ·have:=hp.first j hj h; omega
    ·exact h
 have hneg:=hp.neg;rw [val] at key;grind
def Feas (P:Prob) (D:Dict):Prop:=∀ i,i<P.m->0<=D.a i P.n
theorem zCo {P:Prob} {x y:Nat->Rat} (h:∀ v,v<P.n->x v=y v) {l:Nat} (hl:l<P.K+P.n):P.obj l x=P.obj l y:=by
 unfold Prob.obj
 split
 ·exact zAh fun k hk=>by rw [h k hk]
 ·rw [h _ (by omega)]
end Go.Proofs.YtbpngececjihlaaGreat.Lin
namespace Go.Proofs.YtbpngececjihlaaGreat.Lin
variable {N r:Nat}
def code (p:Nat->Bool):Nat->Nat
 | 0=>0
 | N+1=>code p N+if p N then 2 ^ N else 0
theorem zFg (p:Nat->Bool) (N:Nat):code p N<2 ^ N:=by
 induction N with
 | zero=>simp [code]
 | succ N ih=>simp only [code,Nat.pow_succ]; split <;> omega
theorem zGV {p q:Nat->Bool} (h:code p N=code q N):∀ v,v<N->p v=q v:=by
 induction N with
 | zero=>intro v hv; omega
 | succ N ih=>
  have h1:=zFg p N;have h2:=zFg q N;simp only [code] at h
  have h3:p N=q N:=by
   cases hp:p N <;> cases hq:q N <;> simp [hp,hq] at h ⊢ <;> omega
  rw [h3] at h;intro v hv;by_cases e:v=N
  ·rw [e]; exact h3
  ·exact ih (by omega) v (by omega)
theorem pigeon:∀ (M L:Nat) (f:Nat->Nat),(∀ i,i<L->f i<M)->(∀ i j,i<j->j<L->f i ≠ f j)->L<=M:=by
 intro M
 induction M with
 | zero=>
  intro L f h _;rcases Nat.eq_zero_or_pos L with h0 | h0
  ·omega
  ·have:=h 0 h0; omega
 | succ M ih=>
  intro L f h inj;by_cases hex:∃ i,i<L/\f i=M
  ·obtain ⟨i0,hi0,e0⟩:=hex;have:=ih (L-1) (fun i=>f (if i<i0 then i else i+1)) ?_ ?_
   ·omega
   ·intro i hi;by_cases h1:i<i0
    ·simp only [h1,if_true];have h2:=h i (by omega);have h3:=inj i i0 h1 hi0;omega
    ·simp only [h1,if_false];have h2:=h (i+1) (by omega);have h3:=inj i0 (i+1) (by omega) (by omega);omega
   ·intro i j hij hj;have:=inj (if i<i0 then i else i+1) (if j<i0 then j else j+1) (by split <;> split <;> omega) (by split <;> omega);exact this
  ·have:=ih L f (fun i hi=>by have:=h i hi; have:f i ≠ M:=fun e=>hex ⟨i,hi,e⟩; omega) inj;omega
theorem zHv (p:Nat->Prop) (h0:p 0) (M:Nat):∃ t,p t/\∀ L,L<=M->p L->L<=t:=by
 induction M with
 | zero=>exact ⟨0,h0,fun L h _=>h⟩
 | succ M ih=>
  by_cases hp:p (M+1)
  ·exact ⟨M+1,hp,fun L h _=>h⟩
  ·obtain ⟨t,h1,h2⟩:=ih;refine ⟨t,h1,fun L h h3=>?_⟩;by_cases e:L=M+1
   ·rw [e] at h3; exact absurd h3 hp
   ·exact h2 L (by omega) h3
theorem zIQ {α:Type} (good:α->Prop) (step:α->α->Prop) (M:Nat)
  (bound:∀ (f:Nat->α) (L:Nat),good (f 0)->(∀ i,i<L->step (f i) (f (i+1)))->L<=M) :
  ∃ rank:α->Nat,∀ a b,good a->step a b->rank b<rank a:=by
 have ex:∀ a,∃ t,(∃ f:Nat->α,f 0=a/\∀ i,i<t->step (f i) (f (i+1)))/\∀ L,L<=M->(∃ f:Nat->α,f 0=a/\∀ i,i<L->step (f i) (f (i+1)))->L<=t:=
  fun a=>zHv (fun L=>∃ f:Nat->α,f 0=a/\∀ i,i<L->step (f i) (f (i+1))) ⟨fun _=>a,rfl,fun i hi=>by omega⟩ M
 refine ⟨fun a=>Classical.choose (ex a),fun a b ga hs=>?_⟩;dsimp only;obtain ⟨⟨f,hf0,hf⟩,_⟩:=Classical.choose_spec (ex b);have ha:=(Classical.choose_spec (ex a)).2;generalize Classical.choose (ex b)=L at *;generalize Classical.choose (ex a)=L' at *
 have run:∃ f:Nat->α,f 0=a/\∀ i,i<L+1->step (f i) (f (i+1)):=by
  refine ⟨fun i=>match i with | 0=>a | i+1=>f i,rfl,fun i hi=>?_⟩
  cases i with
  | zero=>simpa [hf0] using hs
  | succ i=>exact hf i (by omega)
 have hle:L+1<=M:=by
  obtain ⟨g,hg0,hg⟩:=run;exact bound g (L+1) (by rw [hg0]; exact ga) hg
 have:=ha _ hle run;omega
def RStep (P:Prob) (D D':Dict):Prop:=∃ r s,RSel P D r s/\D'=D.pivot r s
theorem zF2 (P:Prob):∃ rank:Dict->Nat,∀ D r s,Good P D->RSel P D r s->rank (D.pivot r s)<rank D:=by
 obtain ⟨rank,h⟩:=zIQ (Good P) (RStep P) (2 ^ (P.n+P.m)) (fun f L h0 st=>by
  have G:∀ k,k<=L->Good P (f k):=by
   intro k
   induction k with
   | zero=>intro _; exact h0
   | succ k ih=>
    intro hk;obtain ⟨r,s,h,e⟩:=st k (by omega);rw [e]; exact (ih (by omega)).pivot h.hr h.hs h.ne
  have:=pigeon (2 ^ (P.n+P.m)) (L+1) (fun k=>code ((f k).bas P) (P.n+P.m)) (fun _ _=>zFg _ _) (fun i j hij hj e=>
   zF1 hij (fun k _ h=>G k (by omega)) (fun k _ h=>st k (by omega)) (zGV e))
  omega)
 exact ⟨rank,fun D r s G h1=>h D _ G ⟨r,s,h1,rfl⟩⟩
def Prob.Feasible (P:Prob) (x:Nat->Rat):Prop:=(∀ k,k<P.n->0<=x k)/\∀ i,i<P.m->sum P.n (fun k=>P.A i k*x k)<=P.b i
def Prob.full (P:Prob) (x:Nat->Rat) (v:Nat):Rat:=if v<P.n then x v else P.b (v-P.n)-sum P.n fun k=>P.A (v-P.n) k*x k
theorem zJe (P:Prob) (x:Nat->Rat):P.Sys (P.full x):=by
 intro i hi;simp only [Prob.full,if_neg (show ¬ P.n+i<P.n by omega),show P.n+i-P.n=i by omega];rw [zAh (f:=fun k=>P.A i k*if k<P.n then x k else P.b (k-P.n)-sum P.n fun k_1=>P.A (k-P.n) k_1*x k_1) (g:=fun k=>P.A i k*x k) (fun k hk=>by rw [if_pos hk])]
theorem zEg {P:Prob} {x:Nat->Rat} (h:P.Feasible x) {v:Nat} (hv:v<P.n+P.m):0<=P.full x v:=by
 unfold Prob.full
 split
 ·rename_i h1; exact h.1 v h1
 ·have:=h.2 (v-P.n) (by omega); grind
theorem zGu {P:Prob} {x:Nat->Rat} (hx:P.Sys x) (h:∀ v,v<P.n+P.m->0<=x v):P.Feasible x:=
 ⟨fun k hk=>h k (by omega),fun i hi=>by have h1:=hx i hi; have h2:=h (P.n+i) (by omega); grind⟩
theorem Good.point_nonneg {P:Prob} {D:Dict} (G:Good P D) (F:Feas P D) {v:Nat} (hv:v<P.n+P.m):0<=D.point P v:=by
 rcases G.all v hv with ⟨i,hi,e⟩ | ⟨j,hj,e⟩
 ·rw [<-e,G.point_basic hi]; exact F i hi
 ·rw [<-e,G.point_free hj]; exact Rat.le_refl
theorem zB6 {P:Prob} {D:Dict} (G:Good P D) (hr:r<P.m) (h0:D.a r P.n<0) (h:∀ j,j<P.n->0<=D.a r j) (x:Nat->Rat):¬ P.Feasible x:=by
 intro hx;have h1:=(G.rows _).1 (zJe P x) r hr;have h2:=zEg hx (G.bLt r hr);have h3:0<=sum P.n fun j=>D.a r j*P.full x (D.free j):=zBt fun j hj=>mul_nonneg (h j hj) (zEg hx (G.fLt j hj))
 rw [val] at h1;grind
end Go.Proofs.YtbpngececjihlaaGreat.Lin
namespace Go.Proofs.YtbpngececjihlaaGreat.Lin
variable {q:Rat} {d k r N n:Nat}
def Fits (k:Nat) (q:Rat):Prop:=q.num.natAbs<=2 ^ k/\q.den<=2 ^ k
theorem zGx {n:Int} (hd:d ≠ 0) (e:q=mkRat n d) (hn:n.natAbs<=2 ^ k) (hk:d<=2 ^ k):Fits k q:=by
 obtain ⟨m,hm,h1,h2⟩:=Rat.mkRat_num_den hd (show mkRat n d=⟨q.num,q.den,q.den_nz,q.reduced⟩ from e.symm);constructor
 ·rw [h1,Int.natAbs_mul] at hn;have:q.num.natAbs*1<=q.num.natAbs*(m:Int).natAbs:=Nat.mul_le_mul_left _ (by omega);omega
 ·rw [h2] at hk;have:q.den*1<=q.den*m:=Nat.mul_le_mul_left _ (by omega);omega
theorem Fits.mono {l:Nat} (h:Fits k q) (hl:k<=l):Fits l q:=
 have:2 ^ k<=2 ^ l:=Nat.pow_le_pow_right (by omega) hl
 ⟨nlt h.1 this,nlt h.2 this⟩
theorem Fits.mul {l:Nat} {p:Rat} (h:Fits k p) (h':Fits l q):Fits (k+l) (p*q):=by
 refine zGx (n:=p.num*q.num) (d:=p.den*q.den) (by have:=p.den_nz; have:=q.den_nz; exact Nat.mul_ne_zero ‹_› ‹_›) ?_ ?_ ?_
 ·rw [<-Rat.mkRat_mul_mkRat,Rat.mkRat_self,Rat.mkRat_self]
 ·rw [Int.natAbs_mul,Nat.pow_add]; exact Nat.mul_le_mul h.1 h'.1
 ·rw [Nat.pow_add]; exact Nat.mul_le_mul h.2 h'.2
theorem Fits.add {l:Nat} {p:Rat} (h:Fits k p) (h':Fits l q):Fits (k+l+1) (p+q):=by
 refine zGx (n:=p.num*q.den+q.num*p.den) (d:=p.den*q.den) (by have:=p.den_nz; have:=q.den_nz; exact Nat.mul_ne_zero ‹_› ‹_›) ?_ ?_ ?_
 ·rw [<-Rat.mkRat_add_mkRat _ _ p.den_nz q.den_nz,Rat.mkRat_self,Rat.mkRat_self]
 ·have h1:(p.num*q.den).natAbs<=2 ^ k*2 ^ l:=by rw [Int.natAbs_mul]; exact Nat.mul_le_mul h.1 h'.2
  have h2:(q.num*p.den).natAbs<=2 ^ k*2 ^ l:=by rw [Int.natAbs_mul,Nat.mul_comm]; exact Nat.mul_le_mul h.2 h'.1
  have h3:=Int.natAbs_add_le (p.num*q.den) (q.num*p.den);rw [Nat.pow_succ,Nat.pow_add]; omega
 ·have:p.den*q.den<=2 ^ k*2 ^ l:=Nat.mul_le_mul h.2 h'.2;rw [Nat.pow_succ,Nat.pow_add]; omega
theorem Fits.neg {p:Rat} (h:Fits k p):Fits k (- p):=⟨by show (- p.num).natAbs<=_; rw [Int.natAbs_neg]; exact h.1,h.2⟩
theorem Fits.sub {l:Nat} {p:Rat} (h:Fits k p) (h':Fits l q):Fits (k+l+1) (p-q):=by rw [Rat.sub_eq_add_neg]; exact h.add h'.neg
theorem Fits.zero (k:Nat):Fits k 0:=⟨by show 0<=_; exact nzl _,by show 1<=_; exact Nat.pow_pos (by omega)⟩
theorem Fits.one (k:Nat):Fits k 1:=⟨by show 1<=_; exact Nat.pow_pos (by omega),by show 1<=_; exact Nat.pow_pos (by omega)⟩
theorem Fits.inv {p:Rat} (h:Fits k p):Fits k p⁻¹:=by
 rcases Decidable.em (p=0) with h0 | h0
 ·rw [h0,Rat.inv_zero]; exact Fits.zero k
 ·have hn:p.num ≠ 0:=fun e=>h0 (Rat.num_eq_zero.1 e)
  refine zGx (n:=p.num.sign*p.den) (d:=p.num.natAbs) (by omega) ?_ ?_ h.1
  ·rw [Rat.inv_def,Rat.divInt_eq_div,Rat.mkRat_eq_div]
   have e1:(p.num:Rat)=(p.num.sign:Rat)*(p.num.natAbs:Rat):=by
    have:=Int.sign_mul_natAbs p.num;exact_mod_cast this.symm
   have hs:(p.num.sign:Rat)*(p.num.sign:Rat)=1:=by
    have:p.num.sign*p.num.sign=1:=by
     rcases Int.lt_trichotomy p.num 0 with h | h | h
     ·rw [Int.sign_eq_neg_one_of_neg h]; rfl
     ·exact absurd h hn
     ·rw [Int.sign_eq_one_of_pos h]; rfl
    exact_mod_cast this
   have hs0:(p.num.sign:Rat) ≠ 0:=by intro e; rw [e] at hs; grind
   have hn0:(p.num.natAbs:Rat) ≠ 0:=by
    have:p.num.natAbs ≠ 0:=(by omega);exact_mod_cast this
   rw [e1];push_cast;grind
  ·rw [Int.natAbs_mul,Int.natAbs_sign_of_ne_zero hn]; simpa using h.2
def Dict.Fits (P:Prob) (D:Dict) (k:Nat):Prop:=(∀ i j,i<P.m->j<=P.n->Lin.Fits k (D.a i j))/\∀ l j,l<P.K->j<=P.n->Lin.Fits k (D.c l j)
theorem zHF {P:Prob} {D:Dict} {s:Nat} (h:D.Fits P k) (hr:r<P.m) (hs:s<P.n):(D.pivot r s).Fits P (4*k+1):=by
 have hb:∀ j,j<=P.n->Lin.Fits (2*k) (scaled s (D.a r) j):=by
  intro j hj;unfold scaled
  split
  ·exact (h.1 r s hr (by omega)).inv.mono (by omega)
  ·exact ((h.1 r s hr (by omega)).inv.mul (h.1 r j hr hj)).mono (by omega)
 have he:∀ R:Nat->Rat,(∀ j,j<=P.n->Lin.Fits k (R j))->∀ j,j<=P.n->Lin.Fits (4*k+1) (elim s (scaled s (D.a r)) R j):=by
  intro R hR j hj;unfold elim;have h1:=(hR s (by omega)).mul (hb j hj)
  split
  ·exact ((Fits.zero k).sub h1).mono (by omega)
  ·exact ((hR j hj).sub h1).mono (by omega)
 constructor
 ·intro i j hi hj;simp only [Dict.pivot]
  split
  ·exact (hb j hj).mono (by omega)
  ·exact he _ (fun j hj=>h.1 i j hi hj) j hj
 ·intro l j hl hj;exact he _ (fun j hj=>h.2 l j hl hj) j hj
def count (p:Nat->Bool):Nat->Nat
 | 0=>0
 | N+1=>count p N+if p N then 1 else 0
theorem zFj {p q:Nat->Bool} (N:Nat) (h:∀ v,v<N->p v=true->q v=true):count p N<=count q N:=by
 induction N with
 | zero=>exact nlr _
 | succ N ih=>
  have:=ih fun v hv=>h v (by omega)
  have h1:=h N (by omega);simp only [count];cases hp:p N <;> cases hq:q N <;> simp_all <;> omega
theorem zI8 {p q:Nat->Bool} {u:Nat} (h:∀ v,v<N->p v=true->q v=true) (hu:u<N) (h1:p u=false) (h2:q u=true):count p N<count q N:=by
 induction N with
 | zero=>omega
 | succ N ih=>
  simp only [count];by_cases e:u=N
  ·subst e;have:=zFj u fun v hv=>h v (by omega)
   simp [h1,h2]; omega
  ·have:=ih (fun v hv=>h v (by omega)) (by omega);have h1:=h N (by omega);cases hp:p N <;> cases hq:q N <;> simp_all <;> omega
theorem zHs {p:Nat->Bool} (h:count p N=0):∀ v,v<N->p v=false:=by
 induction N with
 | zero=>intro v hv; omega
 | succ N ih=>
  simp only [count] at h;intro v hv;by_cases e:v=N
  ·subst e; cases hp:p v with
   | false=>rfl
   | true=>simp [hp] at h
  ·exact ih (by omega) v (by omega)
theorem zGo {p:Nat->Bool} :∀ N,(∀ v,n<=v->p v=false)->count p N<=n:=by
 intro N
 induction N with
 | zero=>intro _; simp [count]
 | succ N ih=>
  intro h;have h1:=ih h;simp only [count];by_cases e:n<=N
  ·simp [h N e]; exact h1
  ·have h2:∀ N,count p N<=N:=fun N=>by
    induction N with
    | zero=>exact nlr _
    | succ N ih=>simp only [count]; split <;> omega
   have:=h2 N
   split <;> omega
theorem zJw {P:Prob} {C D:Dict} (GC:Good P C) (GD:Good P D) (h:∀ v,v<P.n+P.m->D.bas P v=true->C.bas P v=true):∀ v,v<P.n+P.m->C.bas P v=D.bas P v:=by
 intro v hv
 cases hd:D.bas P v with
 | true=>exact h v hv hd
 | false=>
  cases hc:C.bas P v with
  | false=>rfl
  | true=>
   exfalso;obtain ⟨s,hs,e⟩:=zBR GD hv hd
   have h1:=GC.unique (GD.dir_sys hs GD.point_sys 1) GD.point_sys (fun j hj=>by
    have h2:D.bas P (C.free j)=false:=by
     cases h3:D.bas P (C.free j) with
     | false=>rfl
     | true=>have:=h _ (GC.fLt j hj) h3; rw [zBw GC hj] at this; cases this
    obtain ⟨k,hk,e2⟩:=zBR GD (GC.fLt j hj) h2;rw [<-e2,GD.dir_free hs hk,if_neg]
    ·grind
    ·rintro rfl;have:C.free j=v:=by rw [<-e2]; exact e
     rw [<-this,zBw GC hj] at hc; cases hc) hv
   rw [<-e,GD.dir_free hs hs,if_pos rfl] at h1;grind
theorem path {P:Prob} {D:Dict} (GD:Good P D):∀ (N:Nat) (C:Dict) (k:Nat),Good P C->C.Fits P k->1<=k->count (fun v=>D.bas P v && ! C.bas P v) (P.n+P.m)<=N->
  ∃ C',Good P C'/\C'.Fits P (5 ^ N*k)/\∀ v,v<P.n+P.m->C'.bas P v=D.bas P v:=by
 intro N
 induction N with
 | zero=>
  intro C k GC hF _ hN;refine ⟨C,GC,by simpa using hF,zJw GC GD fun v hv hb=>?_⟩;have:=zHs (Nat.le_zero.1 hN) v hv
  simpa [hb] using this
 | succ N ih=>
  intro C k GC hF hk hN;by_cases hex:∃ u,u<P.n+P.m/\D.bas P u=true/\C.bas P u=false
  ·obtain ⟨u,hu,hub,huc⟩:=hex;obtain ⟨s,hs,es⟩:=zBR GC hu huc
   have hr:∃ r,r<P.m/\D.bas P (C.basic r)=false/\C.a r s ≠ 0:=by
    apply Classical.byContradiction;intro hno
    have h1:=GD.unique (GC.dir_sys hs GC.point_sys 1) GC.point_sys (fun j hj=>by
     have hj1:D.bas P (D.free j)=false:=zBw GD hj
     cases hc:C.bas P (D.free j) with
     | true=>
      obtain ⟨i,hi,e⟩:=zFe hc;rw [<-e,GC.dir_basic hi];have:C.a i s=0:=Classical.byContradiction fun h0=>hno ⟨i,hi,by rw [e]; exact hj1,h0⟩
      rw [this]; grind
     | false=>
      obtain ⟨i,hi,e⟩:=zBR GC (GD.fLt j hj) hc;rw [<-e,GC.dir_free hs hi,if_neg]
      ·grind
      ·rintro rfl;rw [<-e,es,hub] at hj1; cases hj1) hu
    rw [<-es,GC.dir_free hs hs,if_pos rfl] at h1;grind
   obtain ⟨r,hr,hrd,h0⟩:=hr;have GC':=GC.pivot hr hs h0;have hF':=(zHF (r:=r) (s:=s) hF hr hs)
   obtain ⟨C',g1,g2,g3⟩:=ih (C.pivot r s) (5*k) GC' ⟨fun i j hi hj=>(hF'.1 i j hi hj).mono (by omega),fun l j hl hj=>(hF'.2 l j hl hj).mono (by omega)⟩ (by omega) (by
    refine Nat.le_of_lt_succ (ltl (zI8 (u:=u) (fun v hv hp=>?_) hu ?_ ?_) hN)
    ·simp only [Bool.and_eq_true,Bool.not_eq_true'] at hp ⊢;refine ⟨hp.1,?_⟩
     cases hc:C.bas P v with
     | false=>rfl
     | true=>
      have:=leaves GC hr hs h0 hv hc hp.2;rw [this,hrd] at hp; cases hp.1
    ·rw [<-es,entered hr]; simp
    ·simp [hub,huc])
   refine ⟨C',g1,?_,g3⟩;rw [Nat.pow_succ,Nat.mul_assoc]; exact g2
  ·obtain ⟨C',g1,g2,g3⟩:=ih C k GC hF hk (by
    have:count (fun v=>D.bas P v && ! C.bas P v) (P.n+P.m)<=count (fun _=>false) (P.n+P.m):=zFj _ fun v hv hp=>by
     simp only [Bool.and_eq_true,Bool.not_eq_true'] at hp;exact absurd ⟨v,hv,hp.1,hp.2⟩ hex
    have h0:∀ N,count (fun _=>false) N=0:=fun N=>by induction N <;> simp_all [count]
    rw [h0] at this; omega)
   have h5:5 ^ N*k<=5 ^ (N+1)*k:=Nat.mul_le_mul_right _ (Nat.pow_le_pow_right (by omega) (by omega));exact ⟨C',g1,⟨fun i j hi hj=>(g2.1 i j hi hj).mono h5,fun l j hl hj=>(g2.2 l j hl hj).mono h5⟩,g3⟩
theorem zIT (P:Prob) {v:Nat} (h1:P.n<=v) (hv:v<P.n+P.m):P.start.bas P v=true:=by
 have:=zEP (P:=P) (D:=P.start) (i:=v-P.n) (by omega);simpa [Prob.start,show P.n+(v-P.n)=v by omega] using this
theorem Good.fits {P:Prob} {D:Dict} (G:Good P D) (hk:1<=k) (h0:P.start.Fits P k):D.Fits P (5 ^ P.n*k):=by
 obtain ⟨C,GC,hF,hb⟩:=path G P.n P.start k P.start_good h0 hk (by
  refine nlt (zFj (q:=fun v=>decide (v<P.n)) _ fun v hv hp=>?_) (zGo _ (fun v hv=>by simp; omega));simp only [Bool.and_eq_true,Bool.not_eq_true'] at hp;rcases Nat.lt_or_ge v P.n with h | h
  ·simpa using h
  ·rw [zIT P h hv] at hp; cases hp.2)
 have hfree:∀ j,j<P.n->∃ j',j'<P.n/\C.free j'=D.free j:=fun j hj=>
  zBR GC (G.fLt j hj) (by rw [hb _ (G.fLt j hj)]; exact zBw G hj)
 have hpt:∀ v,v<P.n+P.m->D.point P v=C.point P v:=fun v hv=>G.unique G.point_sys GC.point_sys (fun j hj=>by
  rw [G.point_free hj,zB8 (by rw [hb _ (G.fLt j hj)]; exact zBw G hj)]) hv
 have hdir:∀ j j',j<P.n->j'<P.n->C.free j'=D.free j->∀ v,v<P.n+P.m->D.dir P j v=C.dir P j' v:=by
  intro j j' hj hj' e v hv
  have h1:=G.unique (G.dir_sys hj G.point_sys 1) (GC.dir_sys hj' GC.point_sys 1) (fun i hi=>by
   rw [hpt _ (G.fLt i hi),G.dir_free hj hi];obtain ⟨i',hi',e'⟩:=hfree i hi;rw [<-e',GC.dir_free hj' hi'];by_cases h:i=j
   ·have:i'=j':=GC.fInj _ _ hi' hj' (by rw [e',h,e]);rw [if_pos h,if_pos this]
   ·have:i' ≠ j':=(fun h'=>h (G.fInj _ _ hi hj (by rw [<-e',h',e])));rw [if_neg h,if_neg this]) hv
  have:=hpt v hv;grind
 constructor
 ·intro i j hi hj;obtain ⟨i',hi',ei⟩:∃ i',i'<P.m/\C.basic i'=D.basic i:=zFe (by rw [hb _ (G.bLt i hi)]; exact zEP hi);by_cases hjn:j=P.n
  ·have h1:=hpt _ (G.bLt i hi);rw [G.point_basic hi,<-ei,GC.point_basic hi'] at h1;rw [hjn,h1]; exact hF.1 _ _ hi' (by omega)
  ·obtain ⟨j',hj',ej⟩:=hfree j (by omega);have h1:=hdir j j' (by omega) hj' ej _ (G.bLt i hi);rw [G.dir_basic hi,<-ei,GC.dir_basic hi'] at h1;have:D.a i j=C.a i' j':=(by grind);rw [this]; exact hF.1 _ _ hi' (by omega)
 ·intro l j hl hj;have hc:∀ j,D.cost P l j=D.c l j:=fun j=>by simp [Dict.cost,hl]
  have hc':∀ j,C.cost P l j=C.c l j:=fun j=>by simp [Dict.cost,hl]
  by_cases hjn:j=P.n
  ·have h1:=G.obj_point (l:=l) (by omega);rw [zCo (fun v hv=>hpt v (by omega)) (by omega),GC.obj_point (by omega),hc,hc'] at h1;rw [hjn,<-h1]; exact hF.2 _ _ hl (by omega)
  ·obtain ⟨j',hj',ej⟩:=hfree j (by omega);have h1:=G.obj_dir (s:=j) (by omega) G.point_sys 1 (l:=l) (by omega);have h2:=GC.obj_dir (s:=j') hj' GC.point_sys 1 (l:=l) (by omega);rw [zCo (y:=fun v=>C.point P v+1*C.dir P j' v) (fun v hv=>by rw [hpt v (by omega),hdir j j' (by omega) hj' ej v (by omega)]) (by omega),h2,zCo (x:=D.point P) (y:=C.point P) (fun v hv=>hpt v (by omega)) (by omega),hc,hc'] at h1;have:D.c l j=C.c l j':=(by grind);rw [this]; exact hF.2 _ _ hl (by omega)
end Go.Proofs.YtbpngececjihlaaGreat.Lin
namespace Go.Proofs.YtbpngececjihlaaGreat
open Go.RowKit
variable {B b k V g n:Nat} {f:Nat->Rat} {cs:Array Value} {T:TypeId} {s:SV}
structure Fr (G:Nat->Prop) (w w':World):Prop where
 os:w'.os=w.os
 tape:w'.tape=w.tape
 output:w'.output=w.output
 size:w.heap.size<=w'.heap.size
 block:∀ b,b<w.heap.size->¬ G b->w'.heap[b]?=w.heap[b]?
section
variable {G H:Nat->Prop} {w w' w'':World}
theorem Fr.refl (G:Nat->Prop) (w:World):Fr G w w:=⟨rfl,rfl,rfl,nlr _,fun _ _ _=>rfl⟩
theorem Fr.trans (h:Fr G w w') (k:Fr G w' w''):Fr G w w'':=
 ⟨k.os.trans h.os,k.tape.trans h.tape,k.output.trans h.output,nlt h.size k.size,fun b hb hg=>(k.block b (ltl hb h.size) hg).trans (h.block b hb hg)⟩
theorem Fr.mono (h:Fr G w w') (hG:∀ b,G b->H b):Fr H w w':=⟨h.os,h.tape,h.output,h.size,fun b hb hg=>h.block b hb fun x=>hg (hG b x)⟩
theorem Fr.of_below (h:Below w w w'):Fr G w w':=⟨h.os,h.tape,h.output,h.size,fun b hb _=>h.block b hb⟩
theorem Fr.below (h:Fr G w w') (hB:B<=w.heap.size) (hG:∀ b,G b->B<=b):Below B w w':=
 ⟨h.os,h.tape,h.output,h.size,fun b hb=>h.block b (by omega) fun x=>by have:=hG b x; omega⟩
theorem Fr.call (h:Fr G w w') (k:Below w' w' w''):Fr G w w'':=h.trans (Fr.of_below k)
theorem Fr.set (h:Fr G w w') {p:Addr} (hp:G p.block) (v:Value):Fr G w (w'.setCell p v):=
 ⟨h.os,h.tape,h.output,by simpa [World.setCell] using h.size,fun b hb hg=>(bhs _ _ _ _ (fun e=>hg (by rw [e]; exact hp))).trans (h.block b hb hg)⟩
theorem Fr.put4 (h:Fr G w w') (hb:G b) (k:Nat) (v:QV):Fr G w (put4 w' b k v):=
 (((h.set (p:=⟨b,k*4,none⟩) hb _).set (p:=⟨b,k*4+1,none⟩) hb _).set (p:=⟨b,k*4+2,none⟩) hb _).set (p:=⟨b,k*4+3,none⟩) hb _
theorem Fr.cell (h:Fr G w w') {p:Addr} (hp:p.block<w) (hg:¬ G p.block):w'.cell? p=w.cell? p:=cob (h.block _ hp hg)
theorem Fr.drew (h:Fr G w w'):Fr G w w'.drew:=h.trans (Fr.of_below (brf _ _).drew)
end
def rowL (V:Nat) (f:Nat->Rat):List Rat:=(List.range (V+1)).map f
theorem zAm (V:Nat) (f:Nat->Rat):(rowL V f).length=V+1:=by simp [rowL]
theorem zAL (f:Nat->Rat) (hk:k<=V):(rowL V f).getD k 0=f k:=by
 simp [rowL,List.getElem?_map,List.getElem?_range (show k<V+1 by omega)]
theorem zBs {g:Nat->Rat} (h:∀ k,k<=V->f k=g k):rowL V f=rowL V g:=by
 unfold rowL;apply List.map_congr_left;intro k hk;rw [List.mem_range] at hk;exact h k (by omega)
theorem zD1 (f:Nat->Rat) (q:Rat):(rowL V f).set k q=rowL V (Lin.turn f k q):=by
 apply List.ext_getElem
 ·simp [rowL]
 ·intro i h1 h2;simp only [rowL,List.getElem_set,List.getElem_map,List.getElem_range,Lin.turn];by_cases e:k=i
  ·subst e; simp
  ·rw [if_neg e,if_neg (Ne.symm e)]
structure Arr (W:World) (s:SV) (n:Nat) (T:TypeId) (f:Nat->Value):Prop where
 len:s.n=n
 le:s.n<=s.c
 cap:s.c<=9223372036854775807
 blk:(s.A=none/\n=0)\/∃ g cs,s.A=some ⟨g,0,none⟩/\W.heap[g]?=some (.cells cs T (0,0))/\∀ k,k<n->cs[k]?=some (f k)
section
variable {W W':World} {s:SV} {n:Nat} {T:TypeId} {f:Nat->Value}
theorem Arr.elem (h:Arr W s n T f) (hk:k<n):∃ g,s.A=some ⟨g,0,none⟩/\W.cell? ⟨g,k,none⟩=some (f k)/\(∀ o,W.frozen? ⟨g,o,none⟩=false)/\g<W.heap.size:=by
 rcases h.blk with ⟨_,h0⟩ | ⟨g,cs,e,hb,hc⟩
 ·omega
 ·exact ⟨g,e,by simp [World.cell?,hb,hc k hk],fun o=>by simp [World.frozen?,hb],zAa hb⟩
theorem Arr.keep (h:Arr W s n T f) (hk:∀ g,s.A=some ⟨g,0,none⟩->g<W.heap.size->W'.heap[g]?=W.heap[g]?):Arr W' s n T f:=
 ⟨h.len,h.le,h.cap,by
  rcases h.blk with h0 | ⟨g,cs,e,hb,hc⟩
  ·exact .inl h0
  ·exact .inr ⟨g,cs,e,(hk g e (zAa hb)).trans hb,hc⟩⟩
theorem Arr.below (h:Arr W s n T f) (hb:Below W W W'):Arr W' s n T f:=h.keep fun g _ hl=>hb.block g hl
theorem Arr.set (h:Arr W s n T f) (e:s.A=some ⟨g,0,none⟩) (v:Value):Arr (W.setCell ⟨g,k,none⟩ v) s n T (fun j=>if j=k then v else f j):=
 ⟨h.len,h.le,h.cap,by
  rcases h.blk with ⟨h0,_⟩ | ⟨g',cs,e',hb,hc⟩
  ·rw [h0] at e; cases e
  ·rw [e] at e'; cases e'
   refine .inr ⟨g,_,e,zAe v hb,fun j hj=>?_⟩;have hs:j<cs.size:=(Array.getElem?_eq_some_iff.1 (hc j hj)).1;rw [Array.getElem?_setIfInBounds];by_cases ejk:k=j
   ·subst ejk; rw [if_pos rfl,if_pos hs,if_pos rfl]
   ·rw [if_neg ejk,if_neg (Ne.symm ejk)]; exact hc j hj⟩
theorem Arr.congr {f':Nat->Value} (h:Arr W s n T f) (e:∀ k,k<n->f k=f' k):Arr W s n T f':=
 ⟨h.len,h.le,h.cap,by
  rcases h.blk with h0 | ⟨g,cs,e',hb,hc⟩
  ·exact .inl h0
  ·exact .inr ⟨g,cs,e',hb,fun k hk=>(hc k hk).trans (by rw [e k hk])⟩⟩
end
structure DV where
 d:Nat
 bas:SV
 fre:SV
 row:SV
 cst:SV
 rb:Nat->Nat
 cb:Nat->Nat
section
variable {W W':World} {G:Nat->Prop} {x:DV} {V M K:Nat} {D D':Lin.Dict} {pv rw cl:Int}
theorem zDD {T':TypeId} {f:Nat->Value} (h:Arr W s n T f) (hb:W.heap[b]?=some (.cells cs T' (0,0))) (hT:T' ≠ T) (e:s.A=some ⟨g,0,none⟩):g ≠ b:=by
 rintro rfl;rcases h.blk with ⟨h0,_⟩ | ⟨g',cs',e',hb',_⟩
 ·rw [h0] at e; cases e
 ·rw [e] at e'; cases e'
  rw [hb] at hb';simp only [Option.some.injEq,Obj.cells.injEq] at hb';exact hT hb'.2.1
end
open Go.RowKit Go.Shelf
end Go.Proofs.YtbpngececjihlaaGreat
