/- Texts Num MulMath DivMath DivMath2 of this claim. -/
import Derived.Test.YtjancagcmghfjaaGreatXA0
set_option maxHeartbeats 4000000
namespace Go.Proofs.YtjancagcmghfjaaGreat.Num
variable {l a:List Nat} {n k:Nat}
def base:Nat:=4294967296
def nat:List Nat->Nat
 | []=>0
 | x :: l=>x+base*nat l
def Ok (l:List Nat):Prop:=∀ x ∈ l,x<base
def trim (l:List Nat):List Nat:=(l.reverse.dropWhile (· == 0)).reverse
def Can (l:List Nat):Prop:=∀ h:l ≠ [],l.getLast h ≠ 0
theorem nat_append (a b:List Nat):nat (a++b)=nat a+base ^ a.length*nat b:=by
 induction a with
 | nil=>simp [nat]
 | cons x a ih=>simp only [List.cons_append,nat,ih,List.length_cons,Nat.pow_succ]; grind
theorem nat_snoc (a:List Nat) (x:Nat):nat (a++[x])=nat a+base ^ a.length*x:=by
 rw [nat_append]; simp [nat]
theorem nat_lt (h:Ok l):nat l<base ^ l.length:=by
 induction l with
 | nil=>simp [nat]
 | cons x l ih=>
  have hx:=h x (by simp);have:=ih fun y hy=>h y (by simp [hy])
  simp only [nat,List.length_cons,Nat.pow_succ];have h1:base*(nat l+1)<=base*base ^ l.length:=Nat.mul_le_mul_left _ this;rw [Nat.mul_add,Nat.mul_one] at h1;rw [Nat.mul_comm (base ^ l.length) base];omega
theorem Ok.take (h:Ok l) (k:Nat):Ok (l.take k):=fun x hx=>h x (List.mem_of_mem_take hx)
theorem Ok.drop (h:Ok l) (k:Nat):Ok (l.drop k):=fun x hx=>h x (List.mem_of_mem_drop hx)
theorem Ok.nil:Ok []:=fun _ h=>by cases h
theorem Ok.cons {x:Nat} (hx:x<base) (h:Ok l):Ok (x :: l):=by
 intro y hy; rcases List.mem_cons.1 hy with rfl | hy
 ·exact hx
 ·exact h y hy
theorem Ok.append {b:List Nat} (h:Ok a) (k:Ok b):Ok (a++b):=by
 intro x hx; rcases List.mem_append.1 hx with hx | hx
 ·exact h x hx
 ·exact k x hx
theorem trim_snoc_zero (l:List Nat):trim (l++[0])=trim l:=by simp [trim]
theorem trim_snoc (l:List Nat) {x:Nat} (h:x ≠ 0):trim (l++[x])=l++[x]:=by
 simp [trim,h]
theorem trim_nil:trim []=[]:=rfl
theorem snoc_cases (l:List Nat):l=[]\/∃ a x,l=a++[x]:=by
 rcases List.eq_nil_or_concat l with h | ⟨a,x,h⟩
 ·exact .inl h
 ·exact .inr ⟨a,x,by simpa using h⟩
theorem zNG {p:List Nat->Prop} (h0:p []) (h1:∀ a x,p a->p (a++[x])) (l:List Nat):p l:=by
 have:∀ n (l:List Nat),l.length=n->p l:=by
  intro n
  induction n with
  | zero=>intro l hl; rw [List.eq_nil_of_length_eq_zero hl]; exact h0
  | succ n ih=>
   intro l hl;rcases snoc_cases l with rfl | ⟨a,x,rfl⟩
   ·exact h0
   ·exact h1 a x (ih a (by simpa using hl))
 exact this _ l rfl
theorem nat_trim (l:List Nat):nat (trim l)=nat l:=by
 refine zNG (p:=fun l=>nat (trim l)=nat l) rfl (fun a x ih=>?_) l;by_cases hx:x=0
 ·subst hx; rw [trim_snoc_zero,ih,nat_snoc]; simp
 ·rw [trim_snoc _ hx]
theorem Can.trim (l:List Nat):Can (trim l):=by
 refine zNG (p:=fun l=>Can (Num.trim l)) (fun h=>absurd rfl h) (fun a x ih=>?_) l;by_cases hx:x=0
 ·subst hx; rw [trim_snoc_zero]; exact ih
 ·rw [trim_snoc _ hx]; intro _; simpa using hx
theorem Ok.trim (h:Ok l):Ok (trim l):=by
 intro x hx;refine h x ?_;have:=List.mem_reverse.1 hx;exact List.mem_reverse.1 ((List.dropWhile_sublist _).mem this)
theorem zNy (l:List Nat):∃ k,k<=l.length/\trim l=l.take k:=by
 refine zNG (p:=fun l=>∃ k,k<=l.length/\trim l=l.take k) ⟨0,by simp,rfl⟩ (fun a x ih=>?_) l;by_cases hx:x=0
 ·obtain ⟨k,hk,h⟩:=ih;exact ⟨k,by simp; omega,by rw [hx,trim_snoc_zero,h,List.take_append_of_le_length hk]⟩
 ·exact ⟨(a++[x]).length,nlr _,by rw [trim_snoc _ hx,List.take_length]⟩
theorem trim_length_le (l:List Nat):(trim l).length<=l.length:=by
 obtain ⟨k,hk,h⟩:=zNy l;rw [h,List.length_take]; omega
theorem trim_take (l:List Nat):trim l=l.take (trim l).length:=by
 obtain ⟨k,hk,h⟩:=zNy l;rw [h,List.length_take,Nat.min_eq_left hk]
theorem zNS (h:Can l):trim l=l:=by
 rcases snoc_cases l with rfl | ⟨a,x,rfl⟩
 ·rfl
 ·have:=h (by simp); rw [List.getLast_concat] at this; exact trim_snoc a this
theorem Can.left_pos {x:Nat} (h:Can (a++[x])):x ≠ 0:=by
 have:=h (by simp); rwa [List.getLast_concat] at this
theorem nat_pos_of_can (hc:Can l) (hl:l ≠ []):base ^ (l.length-1)<=nat l:=by
 rcases snoc_cases l with rfl | ⟨a,x,rfl⟩
 ·exact absurd rfl hl
 ·have:=hc.left_pos;rw [nat_snoc];simp only [List.length_append,List.length_cons,List.length_nil,Nat.zero_add,Nat.add_sub_cancel];have:base ^ a.length*1<=base ^ a.length*x:=Nat.mul_le_mul_left _ (by omega);omega
theorem base_pos:0<base:=by decide
theorem pow_pos' (k:Nat):0<base ^ k:=Nat.pow_pos base_pos
theorem nat_eq_zero_of_can (hc:Can l):nat l=0 ↔ l=[]:=by
 constructor
 ·intro h;rcases Decidable.em (l=[]) with h' | h'
  ·exact h'
  ·have:=nat_pos_of_can hc h'; have:=pow_pos' (l.length-1); omega
 ·rintro rfl; rfl
theorem trim_eq_nil (l:List Nat):trim l=[] ↔ nat l=0:=by
 rw [<-nat_trim l,nat_eq_zero_of_can (Can.trim l)]
def words (n:Nat):List Nat:=if _h:n=0 then [] else (n % base) :: words (n / base)
 termination_by n
 decreasing_by exact Nat.div_lt_self (by omega) (by decide)
theorem zNs:words 0=[]:=by rw [words]; simp
theorem zNw (h:n ≠ 0):words n=(n % base) :: words (n / base):=by rw [words]; simp [h]
theorem nat_words (n:Nat):nat (words n)=n:=by
 induction n using Nat.strongRecOn with
 | _ n ih=>
  by_cases h:n=0
  ·subst h; rw [zNs]; rfl
  ·rw [zNw h,nat,ih _ (Nat.div_lt_self (by omega) (by decide))];have:=Nat.div_add_mod n base; omega
theorem Ok.words (n:Nat):Ok (words n):=by
 induction n using Nat.strongRecOn with
 | _ n ih=>
  by_cases h:n=0
  ·subst h; rw [zNs]; exact Ok.nil
  ·rw [zNw h]; exact Ok.cons (Nat.mod_lt _ base_pos) (ih _ (Nat.div_lt_self (by omega) (by decide)))
theorem Can.words (n:Nat):Can (words n):=by
 induction n using Nat.strongRecOn with
 | _ n ih=>
  by_cases h:n=0
  ·subst h; rw [zNs]; intro h; exact absurd rfl h
  ·rw [zNw h];intro hne;have hi:=ih _ (Nat.div_lt_self (n:=n) (by omega) (by decide:1<base));by_cases h2:n / base=0
   ·simp only [h2,zNs,List.getLast_singleton];have:=Nat.div_add_mod n base; rw [h2] at this; omega
   ·have hw:Num.words (n / base) ≠ []:=by rw [zNw h2]; simp
    rw [List.getLast_cons hw]; exact hi hw
theorem zOf {b:List Nat} (oa:Ok a) (ob:Ok b) (ca:Can a) (cb:Can b) (h:nat a=nat b):a=b:=by
 induction a generalizing b with
 | nil=>exact ((nat_eq_zero_of_can cb).1 h.symm).symm
 | cons x a ih=>
  cases b with
  | nil=>have:=(nat_eq_zero_of_can ca).1 (by rw [h]; rfl); exact this
  | cons y b=>
   have hx:=oa x (by simp);have hy:=ob y (by simp);simp only [nat] at h
   have h1:x=y:=by
    have e1:(x+base*nat a) % base=x:=by rw [Nat.add_mul_mod_self_left]; exact Nat.mod_eq_of_lt hx
    have e2:(y+base*nat b) % base=y:=by rw [Nat.add_mul_mod_self_left]; exact Nat.mod_eq_of_lt hy
    rw [<-e1,<-e2,h]
   subst h1;have h2:nat a=nat b:=Nat.eq_of_mul_eq_mul_left base_pos (by omega);have ca':Can a:=by intro hn; have:=ca (by simp); rwa [List.getLast_cons hn] at this
   have cb':Can b:=by intro hn; have:=cb (by simp); rwa [List.getLast_cons hn] at this
   rw [ih (fun z hz=>oa z (by simp [hz])) (fun z hz=>ob z (by simp [hz])) ca' cb' h2]
theorem zNH (h:Ok l):trim l=words (nat l):=
 zOf h.trim (Ok.words _) (Can.trim l) (Can.words _) (by rw [nat_trim,nat_words])
theorem words_nat (h:Ok l) (c:Can l):words (nat l)=l:=by rw [<-zNH h,zNS c]
theorem words_length_le (h:n<base ^ k):(words n).length<=k:=by
 rcases Decidable.em (words n=[]) with h0 | h0
 ·simp [h0]
 ·have:=nat_pos_of_can (Can.words n) h0;rw [nat_words] at this;rcases Nat.lt_or_ge k (words n).length with hlt | hge
  ·have:base ^ k<=base ^ ((words n).length-1):=Nat.pow_le_pow_right base_pos (by omega);omega
  ·exact hge
end Go.Proofs.YtjancagcmghfjaaGreat.Num
namespace Go.Proofs.YtjancagcmghfjaaGreat.Num
variable {l a:List Nat} {k i c n:Nat}
theorem zGB (l:List Nat) (k v:Nat) (h:k<l.length):nat (l.set k v)+base ^ k*l.getD k 0=nat l+base ^ k*v:=by
 induction l generalizing k with
 | nil=>simp at h
 | cons x l ih=>
  cases k with
  | zero=>simp [nat]; omega
  | succ k=>
   have:=ih k (by simpa using h);simp only [List.set_cons_succ,nat,List.getD_cons_succ,Nat.pow_succ];grind
theorem nat_take_succ (l:List Nat) (k:Nat) (h:k<l.length):nat (l.take (k+1))=nat (l.take k)+base ^ k*l.getD k 0:=by
 rw [List.take_succ_eq_append_getElem h,nat_snoc,List.length_take,Nat.min_eq_left (by omega),gdd,gge h]; rfl
theorem zFo (n:Nat):nat (List.replicate n 0)=0:=by
 induction n with
 | zero=>rfl
 | succ n ih=>simp [List.replicate_succ,nat,ih]
theorem Ok.replicate (n:Nat):Ok (List.replicate n 0):=by
 intro x hx; rw [List.eq_of_mem_replicate hx]; exact base_pos
theorem Ok.getD (h:Ok l) (k:Nat):l.getD k 0<base:=by
 rw [gdd];rcases Nat.lt_or_ge k l.length with hk | hk
 ·rw [gge hk]; exact h _ (List.getElem_mem _)
 ·rw [List.getElem?_eq_none hk]; exact base_pos
theorem Ok.set (h:Ok l) {v:Nat} (hv:v<base):Ok (l.set k v):=by
 intro y hy;rcases List.mem_or_eq_of_mem_set hy with hy | rfl
 ·exact h y hy
 ·exact hv
theorem getD_of_drop {l':List Nat} (h:l.drop k=l'.drop k) (j:Nat) (hj:k<=j):l.getD j 0=l'.getD j 0:=by
 have e:(l.drop k)[j-k]?=(l'.drop k)[j-k]?:=by rw [h]
 rw [List.getElem?_drop,List.getElem?_drop,Nat.add_sub_cancel' hj] at e;rw [gdd,gdd,e]
structure MulIn (p0 b:List Nat) (x i k c:Nat) (p:List Nat):Prop where
 len:p.length=p0.length
 same:p.drop (i+k)=p0.drop (i+k)
 val:nat p+c*base ^ (i+k)=nat p0+x*nat (b.take k)*base ^ i
 lt:c<base
theorem MulIn.start (p0 b:List Nat) (x i:Nat):MulIn p0 b x i 0 0 p0:=⟨rfl,rfl,by simp [nat],base_pos⟩
theorem MulIn.step {p0 b:List Nat} {x:Nat} {p:List Nat} (h:MulIn p0 b x i k c p) (hk:k<b.length) (hp:i+k<p.length) (hx:x<base) (ob:Ok b) (op:Ok p) :
  p.getD (i+k) 0+x*b.getD k 0+c<18446744073709551616/\
  MulIn p0 b x i (k+1) ((p.getD (i+k) 0+x*b.getD k 0+c) / base) (p.set (i+k) ((p.getD (i+k) 0+x*b.getD k 0+c) % base)):=by
 have hy:=ob.getD k;have ht:=op.getD (i+k);have hc:=h.lt;have hs:=zGB p (i+k) ((p.getD (i+k) 0+x*b.getD k 0+c) % base) hp;have hb:=nat_take_succ b k hk;have hv:=h.val;have hm:=Nat.div_add_mod (p.getD (i+k) 0+x*b.getD k 0+c) base;have hxy:x*b.getD k 0<=(base-1)*(base-1):=Nat.mul_le_mul (by omega) (by omega);have e:(base-1)*(base-1)=18446744065119617025:=by decide
 have e2:base=4294967296:=rfl;refine ⟨by omega,⟨by rw [List.length_set]; exact h.len,?_,?_,?_⟩⟩
 ·rw [List.drop_set_of_lt (by omega)];have:=congrArg (List.drop 1) h.same;rw [List.drop_drop,List.drop_drop] at this;simpa [Nat.add_assoc] using this
 ·rw [hb];generalize p.getD (i+k) 0=t at *;generalize b.getD k 0=y at *;generalize hq:(t+x*y+c) / base=q at *;generalize hr:(t+x*y+c) % base=r at *;generalize nat (p.set (i+k) r)=n1 at *;generalize nat p=n2 at *;have e3:base ^ (i+(k+1))=base ^ (i+k)*base:=by rw [<-Nat.add_assoc,Nat.pow_succ]
  have e4:base ^ (i+k)=base ^ i*base ^ k:=Nat.pow_add _ _ _;rw [e3];generalize base ^ (i+k)=P at *;generalize base ^ i=I at *;generalize base ^ k=K at *;clear e2 e
  have key:n1+P*t+P*(x*y+c)=n1+P*t+P*(base*q+r-t):=by
   have:x*y+c=base*q+r-t:=(by omega);rw [this]
  have hle:t<=base*q+r:=by omega
  obtain ⟨s,hs'⟩:∃ s,base*q+r=t+s:=⟨base*q+r-t,by omega⟩;have hs2:s=x*y+c:=by omega
  grind
 ·rw [Nat.div_lt_iff_lt_mul base_pos];have e5:base*base=18446744073709551616:=by decide
  rw [e5]; omega
structure MulOut (a b:List Nat) (i:Nat) (p:List Nat):Prop where
 len:p.length=a.length+b.length
 zeros:p.drop (i+b.length)=List.replicate (a.length-i) 0
 val:nat p=nat (a.take i)*nat b
 ok:Ok p
theorem MulOut.start (a b:List Nat):MulOut a b 0 (List.replicate (a.length+b.length) 0):=
 ⟨by simp,by rw [List.drop_replicate]; congr 1; omega,by rw [zFo]; simp [nat],Ok.replicate _⟩
theorem MulOut.step {b p0 p:List Nat} (h:MulOut a b i p0) (hi:i<a.length) (hin:MulIn p0 b (a.getD i 0) i b.length c p) (op:Ok p):MulOut a b (i+1) (p.set (i+b.length) c):=by
 have hlen:=h.len;have hl2:=hin.len;have hz:p.drop (i+b.length)=List.replicate (a.length-i) 0:=hin.same.trans h.zeros
 have h0:p.getD (i+b.length) 0=0:=by
  have e:(p.drop (i+b.length))[0]?=(List.replicate (a.length-i) 0)[0]?:=by rw [hz]
  rw [List.getElem?_drop] at e;rw [gdd];simp only [Nat.add_zero] at e;rw [e,List.getElem?_replicate]; split <;> rfl
 have hs:=zGB p (i+b.length) c (by omega);rw [h0] at hs;have hv:=hin.val;rw [List.take_length] at hv;have ht:=nat_take_succ a i hi;refine ⟨by rw [List.length_set,hl2,hlen],?_,?_,op.set hin.lt⟩
 ·rw [List.drop_set_of_lt (by omega)];have:=congrArg (List.drop 1) hz;rw [List.drop_drop,List.drop_replicate] at this;rw [show i+1+b.length=i+b.length+1 by omega,show a.length-(i+1)=a.length-i-1 by omega];simpa using this
 ·rw [ht,Nat.add_mul,<-h.val];grind
theorem MulOut.done {b p:List Nat} (h:MulOut a b a.length p):nat p=nat a*nat b:=by have:=h.val; rwa [List.take_length] at this
theorem MulOut.done' {b p:List Nat} (h:MulOut a b n p) (hn:a.length=n):nat p=nat a*nat b:=by subst hn; exact h.done
end Go.Proofs.YtjancagcmghfjaaGreat.Num
namespace Go.Proofs.YtjancagcmghfjaaGreat.Num
variable {g N V U r n f i c b d:Nat} {u:List Nat}
theorem zIj {V2 U3:Nat} (hV:V2*N<=V) (hU:U<(U3+1)*N) (h:U3<g*V2):U<g*V:=by
 have h1:(U3+1)*N<=g*V2*N:=Nat.mul_le_mul_right _ h;have h2:g*V2*N<=g*V:=by rw [Nat.mul_assoc]; exact Nat.mul_le_mul_left _ hV
 omega
theorem zIk {V2 U3:Nat} (hV:V<(V2+1)*N) (hU:U3*N<=U) (h:g*V2<=U3) (hg:g<=V2):g=0\/(g-1)*V<=U:=by
 rcases Nat.eq_zero_or_pos g with h0 | h0
 ·exact .inl h0
 ·right;obtain ⟨k,rfl⟩:∃ k,g=k+1:=⟨g-1,by omega⟩;simp only [Nat.add_sub_cancel];have h1:k*V<=k*((V2+1)*N):=Nat.mul_le_mul_left _ (by omega)
  have h2:k*(V2+1)<=U3:=by
   have:k*(V2+1)=k*V2+k:=(by rw [Nat.mul_add,Nat.mul_one]);have h3:(k+1)*V2=k*V2+V2:=(by rw [Nat.add_mul,Nat.one_mul]);omega
  have h3:k*(V2+1)*N<=U3*N:=Nat.mul_le_mul_right _ h2;rw [<-Nat.mul_assoc] at h1;omega
structure Est (top v1 V2 N V U g r:Nat):Prop where
 sum:g*v1+r=top
 up:U<(g+1)*V
 le:g<=4294967297
theorem Est.dec_big {top v1 V2:Nat} (h:Est top v1 V2 N V U g r) (hg:4294967296<=g) (hU:U<4294967296*V):Est top v1 V2 N V U (g-1) (r+v1):=by
 obtain ⟨k,rfl⟩:∃ k,g=k+1:=⟨g-1,by omega⟩;refine ⟨?_,?_,by have:=h.le; omega⟩
 ·have:=h.sum; simp only [Nat.add_sub_cancel]; rw [Nat.add_mul] at this; omega
 ·simp only [Nat.add_sub_cancel];exact ltl hU (Nat.mul_le_mul_right _ hg)
theorem Est.dec_two {top v1 v2 u2:Nat} (h:Est top v1 (v1*4294967296+v2) N V U g r) (hV:(v1*4294967296+v2)*N<=V) (hU:U<(top*4294967296+u2+1)*N)
  (hgt:r*4294967296+u2<g*v2):Est top v1 (v1*4294967296+v2) N V U (g-1) (r+v1):=by
 have h0:g ≠ 0:=by intro e; subst e; simp at hgt
 obtain ⟨k,rfl⟩:∃ k,g=k+1:=⟨g-1,by omega⟩;have hs:=h.sum
 have key:top*4294967296+u2<(k+1)*(v1*4294967296+v2):=by
  rw [Nat.mul_add,<-Nat.mul_assoc,<-hs,Nat.add_mul,Nat.add_assoc];exact Nat.add_lt_add_left hgt _
 refine ⟨?_,?_,by have:=h.le; omega⟩
 ·simp only [Nat.add_sub_cancel]; rw [Nat.add_mul] at hs; omega
 ·simp only [Nat.add_sub_cancel]; exact zIj hV hU key
theorem Est.done {top v1 v2 u2:Nat} (h:Est top v1 (v1*4294967296+v2) N V U g r) (hV:V<(v1*4294967296+v2+1)*N) (hU:(top*4294967296+u2)*N<=U)
  (hv1:1<=v1) (hg:g<=4294967296) (hle:g*v2<=r*4294967296+u2):g=0\/(g-1)*V<=U:=by
 refine zIk hV hU ?_ (by omega);have hs:=h.sum;rw [Nat.mul_add,<-Nat.mul_assoc,<-hs,Nat.add_mul,Nat.add_assoc];exact Nat.add_le_add_left hle _
theorem nat_top2 (v:List Nat) (n:Nat) (hl:v.length=n+2):nat v=nat (v.take n)+base ^ n*(v.getD n 0+base*v.getD (n+1) 0):=by
 have h1:=nat_take_succ v (n+1) (by omega);have h2:=nat_take_succ v n (by omega);rw [show n+1+1=v.length by omega,List.take_length] at h1;rw [h1,h2,Nat.pow_succ]; grind
theorem nat_top3 (v:List Nat) (n:Nat) (hl:v.length=n+3):nat v=nat (v.take n)+base ^ n*(v.getD n 0+base*(v.getD (n+1) 0+base*v.getD (n+2) 0)):=by
 have h1:=nat_take_succ v (n+2) (by omega);have h2:=nat_take_succ v (n+1) (by omega);have h3:=nat_take_succ v n (by omega);rw [show n+2+1=v.length by omega,List.take_length] at h1;rw [h1,h2,h3,Nat.pow_succ,Nat.pow_succ]; grind
theorem nat_take_lt {v:List Nat} (ho:Ok v) (n:Nat) (h:n<=v.length):nat (v.take n)<base ^ n:=by
 have:=nat_lt (ho.take n); rwa [List.length_take,Nat.min_eq_left h] at this
theorem Est.start {v:List Nat} (hu:u.length=n+3) (hv:v.length=n+2) (ou:Ok u) (ov:Ok v) (hv1:2147483648<=v.getD (n+1) 0) (hU:nat u<nat v*4294967296) :
  Est (u.getD (n+2) 0*4294967296+u.getD (n+1) 0) (v.getD (n+1) 0) (v.getD (n+1) 0*4294967296+v.getD n 0) (base ^ n) (nat v) (nat u)
   ((u.getD (n+2) 0*4294967296+u.getD (n+1) 0) / v.getD (n+1) 0) ((u.getD (n+2) 0*4294967296+u.getD (n+1) 0) % v.getD (n+1) 0):=by
 have e1:=nat_top2 v n hv;have e2:=nat_top3 u n hu;have l1:=nat_take_lt ov n (by omega);have l2:=nat_take_lt ou n (by omega);have b0:u.getD n 0<4294967296:=ou.getD n;have b1:u.getD (n+1) 0<4294967296:=ou.getD (n+1);have b2:v.getD n 0<4294967296:=ov.getD n;have eb:base=4294967296:=rfl;rw [eb] at e1 e2 l1 l2;rw [eb];generalize u.getD (n+2) 0=u3 at *;generalize u.getD (n+1) 0=u2 at *;generalize u.getD n 0=u1 at *;generalize v.getD (n+1) 0=v1 at *;generalize v.getD n 0=v2 at *;generalize nat (u.take n)=x at *;generalize nat (v.take n)=y at *;generalize nat u=U at *;generalize nat v=V at *;generalize 4294967296 ^ n=P at *;have hdm:=Nat.div_add_mod (u3*4294967296+u2) v1;have hml:=Nat.mod_lt (u3*4294967296+u2) (show 0<v1 by omega);generalize hq:(u3*4294967296+u2) / v1=q at *;generalize (u3*4294967296+u2) % v1=r at *;have hP:0<P:=by omega
 have k1:u3<=v1:=by
  rcases Nat.lt_or_ge v1 u3 with hlt | hge
  ·exfalso
   have:P*(v2+4294967296*v1)+P<=P*(4294967296*u3):=by
    rw [<-Nat.mul_succ]; exact Nat.mul_le_mul_left _ (by omega)
   have h2:P*(4294967296*u3)*4294967296<=U:=by
    rw [e2,Nat.mul_assoc];have:P*(4294967296*u3*4294967296)<=P*(u1+4294967296*(u2+4294967296*u3)):=Nat.mul_le_mul_left _ (by omega);omega
   have h3:V<=P*(4294967296*u3):=(by omega);have h4:V*4294967296<=P*(4294967296*u3)*4294967296:=Nat.mul_le_mul_right _ h3;omega
  ·exact hge
 refine ⟨by rw [Nat.mul_comm]; exact hdm,?_,?_⟩
 ·have h1:u3*4294967296+u2<(q+1)*v1:=by rw [Nat.add_mul,Nat.one_mul,Nat.mul_comm q]; omega
  have h2:U<P*(4294967296*((q+1)*v1)):=by
   have:P*(u1+4294967296*(u2+4294967296*u3))+P<=P*(4294967296*((q+1)*v1)):=by
    rw [<-Nat.mul_succ]; exact Nat.mul_le_mul_left _ (by omega)
   omega
  have h3:P*(4294967296*((q+1)*v1))<=(q+1)*V:=by
   have:P*(4294967296*((q+1)*v1))=(q+1)*(P*(4294967296*v1)):=(by grind);rw [this];refine Nat.mul_le_mul_left _ ?_;have:P*(4294967296*v1)<=P*(v2+4294967296*v1):=Nat.mul_le_mul_left _ (by omega);omega
  omega
 ·have h1:u3*4294967296+u2<4294967298*v1:=by omega
  have h2:q<4294967298:=by rw [<-hq]; exact (Nat.div_lt_iff_lt_mul (by omega)).2 h1
  omega
structure SubRel (u v:List Nat) (f i c b:Nat) (u':List Nat):Prop where
 len:u'.length=u.length
 same:u'.drop i=u.drop i
 val:nat (u.take i)+b*base ^ i+c*base ^ i=nat (u'.take i)+f*nat (v.take i)
 cy:c<base
 bo:b<=1
theorem SubRel.start (u v:List Nat) (f:Nat):SubRel u v f 0 0 0 u:=⟨rfl,rfl,by simp [nat],base_pos,by omega⟩
theorem SubRel.step {v u':List Nat} {p b':Nat} (h:SubRel u v f i c b u') (hi:i<u.length) (hp:nat (v.take (i+1))*f=nat (v.take i)*f+base ^ i*p)
  (hd:u.getD i 0+b'*base=d+(p+c) % base+b) (hb:b'<=1) (hc:(p+c) / base<base) :
  SubRel u v f (i+1) ((p+c) / base) b' (u'.set i d):=by
 have hl:=h.len;refine ⟨by rw [List.length_set]; exact hl,?_,?_,hc,hb⟩
 ·rw [List.drop_set_of_lt (by omega)];have:=congrArg (List.drop 1) h.same;rw [List.drop_drop,List.drop_drop] at this;simpa [Nat.add_comm] using this
 ·have e1:=nat_take_succ u i hi;have e2:=nat_take_succ (u'.set i d) i (by simp; omega);have e3:(u'.set i d).take i=u'.take i:=by rw [List.take_set_of_le (nlr i)]
  have e4:(u'.set i d).getD i 0=d:=by
   rw [gdd,List.getElem?_set_self (by omega)]; rfl
  rw [e3,e4] at e2;have hv:=h.val;have hm:=Nat.div_add_mod (p+c) base;rw [e1,e2,Nat.pow_succ];rw [Nat.mul_comm f,hp];rw [Nat.mul_comm f] at hv;generalize nat (v.take i)*f=F at *;generalize nat (u.take i)=x at *;generalize nat (u'.take i)=y at *;generalize base ^ i=P at *;generalize u.getD i 0=t at *;generalize (p+c) / base=q at *;generalize (p+c) % base=r at *;have k1:P*(t+b'*base)=P*(d+r+b):=by rw [hd]
  have k2:P*(base*q+r)=P*(p+c):=by rw [hm]
  grind
def shr (s:Nat):List Nat->List Nat
 | []=>[]
 | [_]=>[]
 | x :: y :: l=>((x+base*y) / 2 ^ s) % base :: shr s (y :: l)
theorem shr_length (s:Nat):∀ l:List Nat,(shr s l).length=l.length-1
 | []=>rfl
 | [_]=>rfl
 | x :: y :: l=>by simp [shr,shr_length s (y :: l)]
theorem zD9 (a b c:Nat) (_h:0<b):(a / b) % c=(a % (b*c)) / b:=by
 rw [Nat.mod_mul_right_div_self]
theorem zIu (s:Nat) (hs:s<=32):∀ l:List Nat,Ok l->nat (shr s l)=(nat l / 2 ^ s) % base ^ (l.length-1)
 | [],_=>by simp [shr,nat]
 | [x],_=>by simp [shr,nat,Nat.mod_one]
 | x :: y :: l,ho=>by
  have ih:=zIu s hs (y :: l) (fun z hz=>ho z (by simp [hz]));have hx:x<base:=ho x (by simp);have h2:0<2 ^ s:=Nat.pow_pos (by omega);have hd:base=2 ^ s*2 ^ (32-s):=by rw [<-Nat.pow_add,show s+(32-s)=32 by omega]; rfl
  simp only [shr,nat,List.length_cons] at ih ⊢;rw [ih];simp only [Nat.add_sub_cancel,Nat.pow_succ];generalize hX:y+base*nat l=z at *
  have e2:(x+base*z) / 2 ^ s % base=(x+base*y) / 2 ^ s % base:=by
   rw [zD9 _ _ _ h2,zD9 _ _ _ h2];congr 1;rw [<-hX,hd];have:x+2 ^ s*2 ^ (32-s)*(y+2 ^ s*2 ^ (32-s)*nat l)=x+2 ^ s*2 ^ (32-s)*y+2 ^ s*(2 ^ s*2 ^ (32-s))*(2 ^ (32-s)*nat l):=(by grind);rw [this,Nat.add_mul_mod_self_left]
  have e3:(x+base*z) / 2 ^ s / base=z / 2 ^ s:=by
   rw [Nat.div_div_eq_div_mul,Nat.mul_comm (2 ^ s) base,<-Nat.div_div_eq_div_mul,Nat.add_mul_div_left _ _ base_pos,Nat.div_eq_of_lt hx,Nat.zero_add]
  rw [<-e2,<-e3];generalize (x+base*z) / 2 ^ s=t;rw [Nat.mul_comm (base ^ l.length) base,Nat.mod_mul]
end Go.Proofs.YtjancagcmghfjaaGreat.Num
namespace Go.Proofs.YtjancagcmghfjaaGreat.Num
variable {l u:List Nat} {V j n g m b U k i c:Nat}
theorem zA0 (l:List Nat) (k:Nat) (h:k<=l.length):nat l=nat (l.take k)+base ^ k*nat (l.drop k):=by
 have e:=nat_append (l.take k) (l.drop k);rw [List.take_append_drop,List.length_take,Nat.min_eq_left h] at e;exact e
theorem zDH (ho:Ok l) (k:Nat) (h:k<=l.length):nat (l.take k)=nat l % base ^ k:=by
 rw [zA0 l k h,Nat.add_mul_mod_self_left,Nat.mod_eq_of_lt (nat_take_lt ho k h)]
structure DivRel (A V k:Nat) (u q:List Nat):Prop where
 val:A=V*(nat (q.drop k)*base ^ k)+nat u
 lt:nat (u.drop k)<V
theorem DivRel.upper {A:Nat} {q:List Nat} (h:DivRel A V (j+1) u q) (hn:j+n+1<=u.length) (hV:V<base ^ n):nat (u.drop (j+n+1))=0:=by
 have h1:=h.lt;rw [zA0 (u.drop (j+1)) n (by simp; omega),List.drop_drop] at h1;rw [show j+1+n=j+n+1 by omega] at h1;rcases Nat.eq_zero_or_pos (nat (u.drop (j+n+1))) with h0 | h0
 ·exact h0
 ·have:base ^ n*1<=base ^ n*nat (u.drop (j+n+1)):=Nat.mul_le_mul_left _ h0;omega
theorem DivRel.part_lt {A:Nat} {q:List Nat} (h:DivRel A V (j+1) u q) (ou:Ok u) (hn:j+n+1<=u.length) (hV:V<base ^ n):nat ((u.drop j).take (n+1))<V*4294967296:=by
 have hz:=h.upper hn hV;have h1:=h.lt;have e1:=zA0 (u.drop j) (n+1) (by simp; omega);rw [List.drop_drop,show j+(n+1)=j+n+1 by omega,hz] at e1
 have e2:u.drop j=u.getD j 0 :: u.drop (j+1):=by
  rw [List.drop_eq_getElem_cons (by omega),gdd,gge (by omega)]; rfl
 have e3:nat (u.drop j)=u.getD j 0+4294967296*nat (u.drop (j+1)):=by rw [e2]; rfl
 have hw:u.getD j 0<4294967296:=ou.getD j;omega
theorem DivRel.step {A:Nat} {u' q:List Nat} (h:DivRel A V (j+1) u q) (hn:j+n+1<=u.length) (hV:V<base ^ n) (hl:u'.length=u.length)
  (ht:u'.take j=u.take j) (hd:u'.drop (j+n+1)=u.drop (j+n+1)) (hg:nat ((u.drop j).take (n+1))=nat ((u'.drop j).take (n+1))+g*V) (hlt:nat ((u'.drop j).take (n+1))<V)
  (hq:j<q.length):DivRel A V j u' (q.set j g):=by
 have hz:=h.upper hn hV;have e1:=zA0 (u.drop j) (n+1) (by simp; omega);have e2:=zA0 (u'.drop j) (n+1) (by simp; omega);rw [List.drop_drop,show j+(n+1)=j+n+1 by omega,hz,Nat.mul_zero,Nat.add_zero] at e1;rw [List.drop_drop,show j+(n+1)=j+n+1 by omega,hd,hz,Nat.mul_zero,Nat.add_zero] at e2;have e3:=zA0 u j (by omega);have e4:=zA0 u' j (by omega);rw [ht] at e4
 have e5:(q.set j g).drop j=g :: q.drop (j+1):=by
  rw [List.drop_eq_getElem_cons (by simp; omega)];simp [List.drop_set]
 have hv:=h.val;refine ⟨?_,by rw [e2]; exact hlt⟩;rw [hv,e3,e4,e1,e2,hg,e5,nat,Nat.pow_succ];generalize nat (List.take j u)=a at *;generalize nat (List.take (n+1) (List.drop j u'))=b at *;generalize nat (List.drop (j+1) q)=c at *;generalize base ^ j=P at *;grind
theorem DivRel.start {a s:Nat} {v:List Nat} (hu:nat u=a*2 ^ s) (hs:s<=31) (ha:a<base ^ (m+n)) (hl:u.length=m+n+1) (hv:v.length=n) (hn:1<=n) (hv1:2147483648<=v.getD (n-1) 0) :
  DivRel (nat u) (nat v) (m+1) u (List.replicate (m+1) 0):=by
 refine ⟨by simp [nat],?_⟩;have e:=zA0 u (m+1) (by omega)
 have hV:base ^ (n-1)*2147483648<=nat v:=by
  have h1:=nat_take_succ v (n-1) (by omega);rw [show n-1+1=v.length by omega,List.take_length] at h1;have:base ^ (n-1)*2147483648<=base ^ (n-1)*v.getD (n-1) 0:=Nat.mul_le_mul_left _ hv1;omega
 have hp:2 ^ s<=2147483648:=by
  have:2 ^ s<=2 ^ 31:=Nat.pow_le_pow_right (by omega) hs;simpa using this
 have h2:nat u<base ^ (m+1)*(base ^ (n-1)*2147483648):=by
  rw [hu,<-Nat.mul_assoc,<-Nat.pow_add,show m+1+(n-1)=m+n by omega];exact ltl (Nat.mul_lt_mul_of_pos_right ha (Nat.pow_pos (by omega))) (Nat.mul_le_mul_left _ hp)
 have h3:base ^ (m+1)*nat (u.drop (m+1))<base ^ (m+1)*(base ^ (n-1)*2147483648):=by omega
 have h4:=Nat.lt_of_mul_lt_mul_left h3;omega
theorem div_final {a s Q:Nat} (h:a*2 ^ s=b*2 ^ s*Q+U) (hU:U<b*2 ^ s):Q=a / b/\U / 2 ^ s=a % b:=by
 have hp:0<2 ^ s:=Nat.pow_pos (by omega);have h1:a*2 ^ s / (b*2 ^ s)=Q:=by rw [h,Nat.mul_add_div (by omega),Nat.div_eq_of_lt hU]; rfl
 have h2:a*2 ^ s % (b*2 ^ s)=U:=by rw [h,Nat.mul_add_mod,Nat.mod_eq_of_lt hU]
 rw [Nat.mul_div_mul_right _ _ hp] at h1;rw [Nat.mul_mod_mul_right] at h2;refine ⟨h1.symm,?_⟩;rw [<-h2,Nat.mul_div_cancel _ hp]
structure AddRel (u1 v:List Nat) (k i c:Nat) (u2:List Nat):Prop where
 len:u2.length=u1.length
 low:u2.take k=u1.take k
 same:u2.drop (k+i)=u1.drop (k+i)
 val:nat u2+c*base ^ (k+i)=nat u1+nat (v.take i)*base ^ k
 cy:c<=1
theorem AddRel.start (u1 v:List Nat) (k:Nat):AddRel u1 v k 0 0 u1:=⟨rfl,rfl,rfl,by simp [nat],by omega⟩
theorem AddRel.step {u1 v u2:List Nat} {y:Nat} (h:AddRel u1 v k i c u2) (hk:k+i<u2.length) (ou:Ok u2) (hy:y<base) (hval:nat (v.take (i+1))=nat (v.take i)+base ^ i*y) :
  AddRel u1 v k (i+1) ((u2.getD (k+i) 0+y+c) / base) (u2.set (k+i) ((u2.getD (k+i) 0+y+c) % base)):=by
 have ht:=ou.getD (k+i);have hc:=h.cy;have hs:=zGB u2 (k+i) ((u2.getD (k+i) 0+y+c) % base) hk;have hv:=h.val;have hm:=Nat.div_add_mod (u2.getD (k+i) 0+y+c) base;refine ⟨by rw [List.length_set]; exact h.len,?_,?_,?_,?_⟩
 ·rw [List.take_set_of_le (by omega)]; exact h.low
 ·rw [List.drop_set_of_lt (by omega)];have:=congrArg (List.drop 1) h.same;rw [List.drop_drop,List.drop_drop] at this;simpa [Nat.add_assoc] using this
 ·rw [hval];have e3:base ^ (k+(i+1))=base ^ (k+i)*base:=by rw [<-Nat.add_assoc,Nat.pow_succ]
  have e4:base ^ (k+i)=base ^ k*base ^ i:=Nat.pow_add _ _ _;rw [e3];generalize u2.getD (k+i) 0=t at *;generalize hq:(t+y+c) / base=q at *;generalize hr:(t+y+c) % base=r at *;generalize nat (u2.set (k+i) r)=n1 at *;generalize nat u2=n2 at *;generalize base ^ (k+i)=P at *;generalize base ^ i=I at *;generalize base ^ k=K at *;have k2:P*(base*q+r)=P*(t+y+c):=by rw [hm]
  grind
 ·have:(u2.getD (k+i) 0+y+c) / base<2:=by
   rw [Nat.div_lt_iff_lt_mul base_pos]; omega
  omega
theorem AddRel.part {u1 v u2:List Nat} (h:AddRel u1 v k (n+1) c u2) (hn:k+n+1<=u1.length) :
  nat ((u2.drop k).take (n+1))+c*base ^ (n+1)=nat ((u1.drop k).take (n+1))+nat (v.take (n+1)):=by
 have hl:=h.len;have e1:=zA0 u1 k (by omega);have e2:=zA0 u2 k (by omega);have e3:=zA0 (u1.drop k) (n+1) (by simp; omega);have e4:=zA0 (u2.drop k) (n+1) (by simp; omega);rw [List.drop_drop] at e3 e4;rw [h.low] at e2;rw [h.same] at e4;have hv:=h.val;have e5:base ^ (k+(n+1))=base ^ k*base ^ (n+1):=Nat.pow_add _ _ _;rw [e1,e2,e3,e4,e5] at hv;clear e1 e2 e3 e4 e5;generalize nat (List.take k u1)=a at *;generalize nat (List.take (n+1) (List.drop k u1))=x at *;generalize nat (List.take (n+1) (List.drop k u2))=y at *;generalize nat (List.drop (k+(n+1)) u1)=z at *;generalize nat (v.take (n+1))=t at *;generalize base ^ (n+1)=N at *;have hP:0<base ^ k:=pow_pos' k;generalize base ^ k=K at *;have:K*(y+c*N)=K*(x+t):=by grind
 exact Nat.eq_of_mul_eq_mul_left hP this
theorem round_ok {U':Nat} (h1:U<(g+1)*V) (h2:U=U'+g*V):U'<V:=by
 rw [Nat.add_mul,Nat.one_mul] at h1; omega
theorem round_back {P U' U'' co:Nat} (h1:U<(g+1)*V) (hlo:g=0\/(g-1)*V<=U) (hs:U+P=U'+g*V) (hU':U'<P) (ha:U''+co*P=U'+V) (hU'':U''<P) (_hV:V<=P) (hco:co<=1) :
  1<=g/\U=U''+(g-1)*V/\U''<V:=by
 have hg:g ≠ 0:=by intro e; subst e; simp at hs; omega
 obtain ⟨k,rfl⟩:∃ k,g=k+1:=⟨g-1,by omega⟩;rcases hlo with h0 | hlo
 ·omega
 ·simp only [Nat.add_sub_cancel] at hlo ⊢;have e1:(k+1)*V=k*V+V:=by rw [Nat.add_mul,Nat.one_mul]
  have e2:(k+1+1)*V=k*V+V+V:=by rw [Nat.add_mul,e1,Nat.one_mul]
  rw [e1] at hs;rw [e2] at h1
  have hc:co=1:=by
   rcases Nat.eq_zero_or_pos co with h0 | h0
   ·subst h0; simp at ha; omega
   ·omega
  subst hc;simp at ha;exact ⟨by omega,by omega,by omega⟩
theorem shr_get (s:Nat):∀ (l:List Nat) (i:Nat),i+1<l.length->(shr s l).getD i 0=((l.getD i 0+base*l.getD (i+1) 0) / 2 ^ s) % base
 | [],i,h=>by simp at h
 | [_],i,h=>by simp at h
 | x :: y :: l,0,_=>rfl
 | x :: y :: l,i+1,h=>by
  have:=shr_get s (y :: l) i (by simpa using h);simpa [shr] using this
theorem Ok.shr (s:Nat):∀ l:List Nat,Ok (Num.shr s l)
 | []=>Ok.nil
 | [_]=>Ok.nil
 | _x :: y :: l=>Ok.cons (Nat.mod_lt _ base_pos) (Ok.shr s (y :: l))
theorem shr_take {s:Nat} (hs:s<=32) (ho:Ok u) (hn:n+1<=u.length) (hu:nat u<base ^ n):nat ((shr s u).take n)=nat u / 2 ^ s:=by
 have hl:=shr_length s u;rw [zDH (Ok.shr s u) n (by omega),zIu s hs u ho];have h1:nat u / 2 ^ s<=nat u:=Nat.div_le_self _ _;have h2:base ^ n<=base ^ (u.length-1):=Nat.pow_le_pow_right base_pos (by omega);rw [Nat.mod_eq_of_lt (a:=nat u / 2 ^ s) (by omega),Nat.mod_eq_of_lt (by omega)]
theorem norm_div {s top N1:Nat} {v0:List Nat} (hb1:base ^ N1*top<=b) (hb2:b<base ^ N1*(top+1)) (hs:s<=31) (h1:2147483648<=top*2 ^ s) (h2:top*2 ^ s<4294967296) (hv:nat v0=b*2 ^ s) (ov:Ok v0)
  (hl:v0.length=N1+2):nat (v0.take (N1+1))=b*2 ^ s/\2147483648<=(v0.take (N1+1)).getD N1 0/\nat (v0.take (N1+1))<base ^ (N1+1):=by
 have hp:0<2 ^ s:=Nat.pow_pos (by omega)
 have h3:(top+1)*2 ^ s<=4294967296:=by
  have e:4294967296=2 ^ (32-s)*2 ^ s:=by rw [<-Nat.pow_add,show 32-s+s=32 by omega]
  rw [e] at h2 ⊢;have:=Nat.lt_of_mul_lt_mul_right h2;exact Nat.mul_le_mul_right _ this
 have h4:nat v0<base ^ (N1+1):=by
  rw [hv,Nat.pow_succ];have k1:b*2 ^ s<base ^ N1*(top+1)*2 ^ s:=Nat.mul_lt_mul_of_pos_right hb2 hp;have k2:base ^ N1*((top+1)*2 ^ s)<=base ^ N1*base:=Nat.mul_le_mul_left _ h3;rw [Nat.mul_assoc] at k1;omega
 have h5:nat (v0.take (N1+1))=nat v0:=by rw [zDH ov _ (by omega),Nat.mod_eq_of_lt h4]
 refine ⟨by rw [h5,hv],?_,by rw [h5]; exact h4⟩;have h6:=nat_take_succ v0 N1 (by omega);have h7:=nat_take_lt ov N1 (by omega)
 have h8:(v0.take (N1+1)).getD N1 0=v0.getD N1 0:=by
  rw [gdd,gdd,List.getElem?_take_of_lt (by omega)]
 rw [h8]
 have h9:base ^ N1*2147483648<=nat v0:=by
  rw [hv];have k1:base ^ N1*2147483648<=base ^ N1*(top*2 ^ s):=Nat.mul_le_mul_left _ h1;have k2:base ^ N1*top*2 ^ s<=b*2 ^ s:=Nat.mul_le_mul_right _ hb1;rw [Nat.mul_assoc] at k2;omega
 rw [<-h5,h6] at h9;rcases Nat.lt_or_ge (v0.getD N1 0) 2147483648 with hlt | hge
 ·have:base ^ N1*(v0.getD N1 0+1)<=base ^ N1*2147483648:=Nat.mul_le_mul_left _ hlt;rw [Nat.mul_add,Nat.mul_one] at this;omega
 ·exact hge
theorem join_facts {p:List Nat} (hp:p.length=n+1) (hn:j+n+1<=u.length) :
  (u.take j++(p++u.drop (j+(n+1)))).length=u.length/\(u.take j++(p++u.drop (j+(n+1)))).take j=u.take j/\
  (u.take j++(p++u.drop (j+(n+1)))).drop (j+n+1)=u.drop (j+n+1)/\((u.take j++(p++u.drop (j+(n+1)))).drop j).take (n+1)=p:=by
 have hl:(u.take j).length=j:=by rw [List.length_take]; omega
 refine ⟨by simp; omega,?_,?_,?_⟩
 ·rw [List.take_append_of_le_length (by omega),List.take_of_length_le (by omega)]
 ·rw [List.drop_append,List.drop_of_length_le (by omega),hl,List.nil_append,List.drop_append,List.drop_of_length_le (by omega),hp];simp [Nat.add_assoc]
 ·rw [List.drop_append,List.drop_of_length_le (by omega),hl,List.nil_append,Nat.sub_self,List.drop_zero,List.take_append_of_le_length (by omega),List.take_of_length_le (by omega)]
end Go.Proofs.YtjancagcmghfjaaGreat.Num
