/- Texts Lin Simplex1 Simplex2 Simplex3 Simplex4 of this claim. -/
import Derived.Test.YtjancagcmghfjaaGreatXA0
set_option maxHeartbeats 4000000
namespace Go.Proofs.YtjancagcmghfjaaGreat.Lin
variable {n:Nat}
def sum:Nat->(Nat->Rat)->Rat
 | 0,_=>0
 | n+1,f=>sum n f+f n
theorem zAh {f g:Nat->Rat} (h:∀ i,i<n->f i=g i):sum n f=sum n g:=by
 induction n with
 | zero=>rfl
 | succ n ih=>rw [sum,sum,ih fun i hi=>h i (by omega),h n (by omega)]
theorem zCb (n:Nat) (f g:Nat->Rat):sum n (fun i=>f i+g i)=sum n f+sum n g:=by
 induction n with
 | zero=>simp only [sum]; grind
 | succ n ih=>simp only [sum,ih]; grind
theorem zFD (n:Nat) (f g:Nat->Rat):sum n (fun i=>f i-g i)=sum n f-sum n g:=by
 induction n with
 | zero=>simp only [sum]; grind
 | succ n ih=>simp only [sum,ih]; grind
theorem zBK (n:Nat) (k:Rat) (f:Nat->Rat):sum n (fun i=>k*f i)=k*sum n f:=by
 induction n with
 | zero=>simp only [sum]; grind
 | succ n ih=>simp only [sum,ih]; grind
theorem zFC (n:Nat) (f:Nat->Rat):sum n (fun i=>- f i)=- sum n f:=by
 induction n with
 | zero=>simp only [sum]; grind
 | succ n ih=>simp only [sum,ih]; grind
theorem zAC {f:Nat->Rat} (h:∀ i,i<n->f i=0):sum n f=0:=by
 induction n with
 | zero=>rfl
 | succ n ih=>rw [sum,ih fun i hi=>h i (by omega),h n (by omega)]; grind
def sumBut (n s:Nat) (f:Nat->Rat):Rat:=sum n fun i=>if i=s then 0 else f i
theorem zF9 {s:Nat} (h:s<n) (f:Nat->Rat):sum n f=f s+sumBut n s f:=by
 unfold sumBut
 induction n with
 | zero=>omega
 | succ n ih=>
  by_cases hs:s=n
  ·subst hs;simp only [sum,if_true];rw [show sum s (fun i=>if i=s then 0 else f i)=sum s f from zAh fun i hi=>if_neg (by omega)];grind
  ·simp only [sum];rw [ih (by omega),if_neg (by omega)];grind
theorem zBu {s:Nat} (h:s<n) {f:Nat->Rat} (h0:∀ i,i<n->i ≠ s->f i=0):sum n f=f s:=by
 rw [zF9 h,sumBut,zAC (fun i hi=>by by_cases e:i=s <;> simp [e]; exact h0 i hi e)];grind
end Go.Proofs.YtjancagcmghfjaaGreat.Lin
namespace Go.Proofs.YtjancagcmghfjaaGreat.Lin
structure Prob where
 n:Nat
 m:Nat
 K:Nat
 A:Nat->Nat->Rat
 b:Nat->Rat
 O:Nat->Nat->Rat
def Prob.Sys (P:Prob) (x:Nat->Rat):Prop:=∀ i,i<P.m->x (P.n+i)=P.b i-sum P.n fun k=>P.A i k*x k
structure Dict where
 basic:Nat->Nat
 free:Nat->Nat
 a:Nat->Nat->Rat
 c:Nat->Nat->Rat
def val (n:Nat) (F:Nat->Nat) (r:Nat->Rat) (x:Nat->Rat):Rat:=r n-sum n fun j=>r j*x (F j)
structure Good (P:Prob) (D:Dict):Prop where
 bLt:∀ i,i<P.m->D.basic i<P.n+P.m
 fLt:∀ j,j<P.n->D.free j<P.n+P.m
 bInj:∀ i j,i<P.m->j<P.m->D.basic i=D.basic j->i=j
 fInj:∀ i j,i<P.n->j<P.n->D.free i=D.free j->i=j
 apart:∀ i j,i<P.m->j<P.n->D.basic i ≠ D.free j
 all:∀ v,v<P.n+P.m->(∃ i,i<P.m/\D.basic i=v)\/(∃ j,j<P.n/\D.free j=v)
 rows:∀ x,P.Sys x ↔ ∀ i,i<P.m->x (D.basic i)=val P.n D.free (D.a i) x
 costs:∀ x,P.Sys x->∀ l,l<P.K->sum P.n (fun k=>P.O l k*x k)=val P.n D.free (D.c l) x
section
variable {P:Prob} {D:Dict} (G:Good P D)
 include G
end
end Go.Proofs.YtjancagcmghfjaaGreat.Lin
namespace Go.Proofs.YtjancagcmghfjaaGreat.Lin
section
variable {P:Prob} {D:Dict} {r s:Nat}
end
end Go.Proofs.YtjancagcmghfjaaGreat.Lin
namespace Go.Proofs.YtjancagcmghfjaaGreat.Lin
end Go.Proofs.YtjancagcmghfjaaGreat.Lin
namespace Go.Proofs.YtjancagcmghfjaaGreat.Lin
variable {q p:Rat} {d k:Nat} {z:Int}
def Fits (k:Nat) (q:Rat):Prop:=q.num.natAbs<=2 ^ k/\q.den<=2 ^ k
theorem zGx {n:Int} (hd:d ≠ 0) (e:q=mkRat n d) (hn:n.natAbs<=2 ^ k) (hk:d<=2 ^ k):Fits k q:=by
 obtain ⟨m,hm,h1,h2⟩:=Rat.mkRat_num_den hd (show mkRat n d=⟨q.num,q.den,q.den_nz,q.reduced⟩ from e.symm);constructor
 ·rw [h1,Int.natAbs_mul] at hn;have:q.num.natAbs*1<=q.num.natAbs*(m:Int).natAbs:=Nat.mul_le_mul_left _ (by omega);omega
 ·rw [h2] at hk;have:q.den*1<=q.den*m:=Nat.mul_le_mul_left _ (by omega);omega
theorem Fits.mono {l:Nat} (h:Fits k q) (hl:k<=l):Fits l q:=
 have:2 ^ k<=2 ^ l:=Nat.pow_le_pow_right (by omega) hl
 ⟨nlt h.1 this,nlt h.2 this⟩
theorem Fits.mul {l:Nat} (h:Fits k p) (h':Fits l q):Fits (k+l) (p*q):=by
 refine zGx (n:=p.num*q.num) (d:=p.den*q.den) (by have:=p.den_nz; have:=q.den_nz; exact Nat.mul_ne_zero ‹_› ‹_›) ?_ ?_ ?_
 ·rw [<-Rat.mkRat_mul_mkRat,Rat.mkRat_self,Rat.mkRat_self]
 ·rw [Int.natAbs_mul,Nat.pow_add]; exact Nat.mul_le_mul h.1 h'.1
 ·rw [Nat.pow_add]; exact Nat.mul_le_mul h.2 h'.2
theorem Fits.add {l:Nat} (h:Fits k p) (h':Fits l q):Fits (k+l+1) (p+q):=by
 refine zGx (n:=p.num*q.den+q.num*p.den) (d:=p.den*q.den) (by have:=p.den_nz; have:=q.den_nz; exact Nat.mul_ne_zero ‹_› ‹_›) ?_ ?_ ?_
 ·rw [<-Rat.mkRat_add_mkRat _ _ p.den_nz q.den_nz,Rat.mkRat_self,Rat.mkRat_self]
 ·have h1:(p.num*q.den).natAbs<=2 ^ k*2 ^ l:=by rw [Int.natAbs_mul]; exact Nat.mul_le_mul h.1 h'.2
  have h2:(q.num*p.den).natAbs<=2 ^ k*2 ^ l:=by rw [Int.natAbs_mul,Nat.mul_comm]; exact Nat.mul_le_mul h.2 h'.1
  have h3:=Int.natAbs_add_le (p.num*q.den) (q.num*p.den);rw [Nat.pow_succ,Nat.pow_add]; omega
 ·have:p.den*q.den<=2 ^ k*2 ^ l:=Nat.mul_le_mul h.2 h'.2;rw [Nat.pow_succ,Nat.pow_add]; omega
theorem Fits.neg (h:Fits k p):Fits k (- p):=⟨by show (- p.num).natAbs<=_; rw [Int.natAbs_neg]; exact h.1,h.2⟩
theorem Fits.sub {l:Nat} (h:Fits k p) (h':Fits l q):Fits (k+l+1) (p-q):=by rw [Rat.sub_eq_add_neg]; exact h.add h'.neg
theorem Fits.zero (k:Nat):Fits k 0:=⟨by show 0<=_; exact nzl _,by show 1<=_; exact Nat.pow_pos (by omega)⟩
theorem Fits.one (k:Nat):Fits k 1:=⟨by show 1<=_; exact Nat.pow_pos (by omega),by show 1<=_; exact Nat.pow_pos (by omega)⟩
theorem Fits.inv (h:Fits k p):Fits k p⁻¹:=by
 rcases Decidable.em (p=0) with h0 | h0
 ·rw [h0,Rat.inv_zero]; exact Fits.zero k
 ·have hn:p.num ≠ 0:=fun e=>h0 (Rat.num_eq_zero.1 e)
  refine zGx (n:=p.num.sign*p.den) (d:=p.num.natAbs) (by omega) ?_ ?_ h.1
  ·rw [Rat.inv_def,Rat.divInt_eq_div,Rat.mkRat_eq_div]
   have e1:(p.num:Rat)=(p.num.sign:Rat)*(p.num.natAbs:Rat):=by
    have:=Int.sign_mul_natAbs p.num;exact_mod_cast this.symm
   have hs:(p.num.sign:Rat)*(p.num.sign:Rat)=1:=by
    have:p.num.sign*p.num.sign=1:=by
     rcases Int.lt_trichotomy p.num 0 with h | h | h
     ·rw [Int.sign_eq_neg_one_of_neg h]; rfl
     ·exact absurd h hn
     ·rw [Int.sign_eq_one_of_pos h]; rfl
    exact_mod_cast this
   have hs0:(p.num.sign:Rat) ≠ 0:=by intro e; rw [e] at hs; grind
   have hn0:(p.num.natAbs:Rat) ≠ 0:=by
    have:p.num.natAbs ≠ 0:=(by omega);exact_mod_cast this
   rw [e1];push_cast;grind
  ·rw [Int.natAbs_mul,Int.natAbs_sign_of_ne_zero hn]; simpa using h.2
theorem Fits.ofInt (h:z.natAbs<=2 ^ k):Fits k (z:Rat):=⟨by simpa using h,by simp; exact Nat.pow_pos (by omega)⟩
end Go.Proofs.YtjancagcmghfjaaGreat.Lin
