/- Texts Hal Ra1 Ra2 Ra3 Ra4 Ra5 Ra6 Ra7 of this claim. -/
import Derived.Test.YtpjaodcimomaiaaGreatEA0
import Derived.Test.YtpjaodcimomaiaaGreatE06
import Derived.Test.YtpjaodcimomaiaaGreatE07
import Derived.Test.YtpjaodcimomaiaaGreatE09
import Derived.Test.YtpjaodcimomaiaaGreatE11
set_option maxHeartbeats 4000000
namespace Go.Proofs.YtpjaodcimomaiaaGreat.Hal
def base:Nat:=65536
def nat:List Nat->Nat
 | []=>0
 | x :: l=>x+base*nat l
def Ok (l:List Nat):Prop:=∀ x ∈ l,x<base
def trim (l:List Nat):List Nat:=(l.reverse.dropWhile (· == 0)).reverse
def Can (l:List Nat):Prop:=∀ h:l ≠ [],l.getLast h ≠ 0
theorem nat_append (a b:List Nat):nat (a++b)=nat a+base ^ a.length*nat b:=by
 induction a with
 | nil=>simp [nat]
 | cons x a ih=>simp only [List.cons_append,nat,ih,List.length_cons,Nat.pow_succ]; grind
theorem nat_snoc (a:List Nat) (x:Nat):nat (a++[x])=nat a+base ^ a.length*x:=by
 rw [nat_append]; simp [nat]
theorem nat_lt {l:List Nat} (h:Ok l):nat l<base ^ l.length:=by
 induction l with
 | nil=>simp [nat]
 | cons x l ih=>
  have hx:=h x (by simp);have:=ih fun y hy=>h y (by simp [hy])
  simp only [nat,List.length_cons,Nat.pow_succ];have h1:base*(nat l+1)<=base*base ^ l.length:=Nat.mul_le_mul_left _ this;rw [Nat.mul_add,Nat.mul_one] at h1;rw [Nat.mul_comm (base ^ l.length) base];omega
theorem Ok.left {a b:List Nat} (h:Ok (a++b)):Ok a:=fun x hx=>h x (by simp [hx])
theorem Ok.right {a b:List Nat} (h:Ok (a++b)):Ok b:=fun x hx=>h x (by simp [hx])
theorem Ok.take {l:List Nat} (h:Ok l) (k:Nat):Ok (l.take k):=fun x hx=>h x (List.mem_of_mem_take hx)
theorem Ok.drop {l:List Nat} (h:Ok l) (k:Nat):Ok (l.drop k):=fun x hx=>h x (List.mem_of_mem_drop hx)
theorem Ok.nil:Ok []:=fun _ h=>by cases h
theorem Ok.cons {x:Nat} {l:List Nat} (hx:x<base) (h:Ok l):Ok (x :: l):=by
 intro y hy; rcases List.mem_cons.1 hy with rfl | hy
 ·exact hx
 ·exact h y hy
theorem Ok.append {a b:List Nat} (h:Ok a) (k:Ok b):Ok (a++b):=by
 intro x hx; rcases List.mem_append.1 hx with hx | hx
 ·exact h x hx
 ·exact k x hx
theorem trim_snoc_zero (l:List Nat):trim (l++[0])=trim l:=by simp [trim]
theorem trim_snoc (l:List Nat) {x:Nat} (h:x ≠ 0):trim (l++[x])=l++[x]:=by
 simp [trim,h]
theorem trim_nil:trim []=[]:=rfl
theorem snoc_cases (l:List Nat):l=[]\/∃ a x,l=a++[x]:=by
 rcases List.eq_nil_or_concat l with h | ⟨a,x,h⟩
 ·exact .inl h
 ·exact .inr ⟨a,x,by simpa using h⟩
theorem snoc_ind {p:List Nat->Prop} (h0:p []) (h1:∀ a x,p a->p (a++[x])) (l:List Nat):p l:=by
 have:∀ n (l:List Nat),l.length=n->p l:=by
  intro n
  induction n with
  | zero=>intro l hl; rw [List.eq_nil_of_length_eq_zero hl]; exact h0
  | succ n ih=>
   intro l hl;rcases snoc_cases l with rfl | ⟨a,x,rfl⟩
   ·exact h0
   ·exact h1 a x (ih a (by simpa using hl))
 exact this _ l rfl
theorem nat_trim (l:List Nat):nat (trim l)=nat l:=by
 refine snoc_ind (p:=fun l=>nat (trim l)=nat l) rfl (fun a x ih=>?_) l;by_cases hx:x=0
 ·subst hx; rw [trim_snoc_zero,ih,nat_snoc]; simp
 ·rw [trim_snoc _ hx]
theorem Can.trim (l:List Nat):Can (trim l):=by
 refine snoc_ind (p:=fun l=>Can (Hal.trim l)) (fun h=>absurd rfl h) (fun a x ih=>?_) l;by_cases hx:x=0
 ·subst hx; rw [trim_snoc_zero]; exact ih
 ·rw [trim_snoc _ hx]; intro _; simpa using hx
theorem Ok.trim {l:List Nat} (h:Ok l):Ok (trim l):=by
 intro x hx;refine h x ?_;have:=List.mem_reverse.1 hx;exact List.mem_reverse.1 ((List.dropWhile_sublist _).mem this)
theorem trim_eq_take (l:List Nat):∃ k,k<=l.length/\trim l=l.take k:=by
 refine snoc_ind (p:=fun l=>∃ k,k<=l.length/\trim l=l.take k) ⟨0,by simp,rfl⟩ (fun a x ih=>?_) l;by_cases hx:x=0
 ·obtain ⟨k,hk,h⟩:=ih;exact ⟨k,by simp; omega,by rw [hx,trim_snoc_zero,h,List.take_append_of_le_length hk]⟩
 ·exact ⟨(a++[x]).length,nlr _,by rw [trim_snoc _ hx,List.take_length]⟩
theorem trim_length_le (l:List Nat):(trim l).length<=l.length:=by
 obtain ⟨k,hk,h⟩:=trim_eq_take l;rw [h,List.length_take]; omega
theorem trim_take (l:List Nat):trim l=l.take (trim l).length:=by
 obtain ⟨k,hk,h⟩:=trim_eq_take l;rw [h,List.length_take,Nat.min_eq_left hk]
theorem trim_of_can {l:List Nat} (h:Can l):trim l=l:=by
 rcases snoc_cases l with rfl | ⟨a,x,rfl⟩
 ·rfl
 ·have:=h (by simp); rw [List.getLast_concat] at this; exact trim_snoc a this
theorem Can.left_pos {a:List Nat} {x:Nat} (h:Can (a++[x])):x ≠ 0:=by
 have:=h (by simp); rwa [List.getLast_concat] at this
theorem nat_pos_of_can {l:List Nat} (hc:Can l) (hl:l ≠ []):base ^ (l.length-1)<=nat l:=by
 rcases snoc_cases l with rfl | ⟨a,x,rfl⟩
 ·exact absurd rfl hl
 ·have:=hc.left_pos;rw [nat_snoc];simp only [List.length_append,List.length_cons,List.length_nil,Nat.zero_add,Nat.add_sub_cancel];have:base ^ a.length*1<=base ^ a.length*x:=Nat.mul_le_mul_left _ (by omega);omega
theorem base_pos:0<base:=by decide
theorem pow_pos' (k:Nat):0<base ^ k:=Nat.pow_pos base_pos
theorem nat_eq_zero_of_can {l:List Nat} (hc:Can l):nat l=0 ↔ l=[]:=by
 constructor
 ·intro h;rcases Decidable.em (l=[]) with h' | h'
  ·exact h'
  ·have:=nat_pos_of_can hc h'; have:=pow_pos' (l.length-1); omega
 ·rintro rfl; rfl
theorem trim_eq_nil (l:List Nat):trim l=[] ↔ nat l=0:=by
 rw [<-nat_trim l,nat_eq_zero_of_can (Can.trim l)]
def words (n:Nat):List Nat:=if _h:n=0 then [] else (n % base) :: words (n / base)
 termination_by n
 decreasing_by exact Nat.div_lt_self (by omega) (by decide)
theorem words_zero:words 0=[]:=by rw [words]; simp
theorem words_pos {n:Nat} (h:n ≠ 0):words n=(n % base) :: words (n / base):=by rw [words]; simp [h]
theorem nat_words (n:Nat):nat (words n)=n:=by
 induction n using Nat.strongRecOn with
 | _ n ih=>
  by_cases h:n=0
  ·subst h; rw [words_zero]; rfl
  ·rw [words_pos h,nat,ih _ (Nat.div_lt_self (by omega) (by decide))];have:=Nat.div_add_mod n base; omega
theorem Ok.words (n:Nat):Ok (words n):=by
 induction n using Nat.strongRecOn with
 | _ n ih=>
  by_cases h:n=0
  ·subst h; rw [words_zero]; exact Ok.nil
  ·rw [words_pos h]; exact Ok.cons (Nat.mod_lt _ base_pos) (ih _ (Nat.div_lt_self (by omega) (by decide)))
theorem Can.words (n:Nat):Can (words n):=by
 induction n using Nat.strongRecOn with
 | _ n ih=>
  by_cases h:n=0
  ·subst h; rw [words_zero]; intro h; exact absurd rfl h
  ·rw [words_pos h];intro hne;have hi:=ih _ (Nat.div_lt_self (n:=n) (by omega) (by decide:1<base));by_cases h2:n / base=0
   ·simp only [h2,words_zero,List.getLast_singleton];have:=Nat.div_add_mod n base; rw [h2] at this; omega
   ·have hw:Hal.words (n / base) ≠ []:=by rw [words_pos h2]; simp
    rw [List.getLast_cons hw]; exact hi hw
theorem nat_inj {a b:List Nat} (oa:Ok a) (ob:Ok b) (ca:Can a) (cb:Can b) (h:nat a=nat b):a=b:=by
 induction a generalizing b with
 | nil=>exact ((nat_eq_zero_of_can cb).1 h.symm).symm
 | cons x a ih=>
  cases b with
  | nil=>have:=(nat_eq_zero_of_can ca).1 (by rw [h]; rfl); exact this
  | cons y b=>
   have hx:=oa x (by simp);have hy:=ob y (by simp);simp only [nat] at h
   have h1:x=y:=by
    have e1:(x+base*nat a) % base=x:=by rw [Nat.add_mul_mod_self_left]; exact Nat.mod_eq_of_lt hx
    have e2:(y+base*nat b) % base=y:=by rw [Nat.add_mul_mod_self_left]; exact Nat.mod_eq_of_lt hy
    rw [<-e1,<-e2,h]
   subst h1;have h2:nat a=nat b:=Nat.eq_of_mul_eq_mul_left base_pos (by omega);have ca':Can a:=by intro hn; have:=ca (by simp); rwa [List.getLast_cons hn] at this
   have cb':Can b:=by intro hn; have:=cb (by simp); rwa [List.getLast_cons hn] at this
   rw [ih (fun z hz=>oa z (by simp [hz])) (fun z hz=>ob z (by simp [hz])) ca' cb' h2]
theorem trim_eq_words {l:List Nat} (h:Ok l):trim l=words (nat l):=
 nat_inj h.trim (Ok.words _) (Can.trim l) (Can.words _) (by rw [nat_trim,nat_words])
theorem words_nat {l:List Nat} (h:Ok l) (c:Can l):words (nat l)=l:=by rw [<-trim_eq_words h,trim_of_can c]
theorem words_length_le {n k:Nat} (h:n<base ^ k):(words n).length<=k:=by
 rcases Decidable.em (words n=[]) with h0 | h0
 ·simp [h0]
 ·have:=nat_pos_of_can (Can.words n) h0;rw [nat_words] at this;rcases Nat.lt_or_ge k (words n).length with hlt | hge
  ·have:base ^ k<=base ^ ((words n).length-1):=Nat.pow_le_pow_right base_pos (by omega);omega
  ·exact hge
end Go.Proofs.YtpjaodcimomaiaaGreat.Hal
namespace Go.Proofs.YtpjaodcimomaiaaGreat
open Go.RowKit
structure HAt (w:World) (X:Nat->Prop) (A:Option Addr) (n c:Nat) (l:List Nat):Prop where
 len:l.length=n
 le:n<=c
 cap:c<=9223372036854775807
 ok:Hal.Ok l
 cell:∀ k,k<n->∃ ad,A=some ad/\X ad.block/\w.cell? (ad.add k)=some (.int .i64 ((l.getD k 0:Nat):Int))
section
variable {w w':World} {X Y:Nat->Prop} {A:Option Addr} {n c:Nat} {l:List Nat}
theorem HAt.keep (h:HAt w X A n c l) (hk:∀ p:Addr,X p.block->p.block<w.heap.size->w'.cell? p=w.cell? p):HAt w' X A n c l:=
 ⟨h.len,h.le,h.cap,h.ok,fun k hkn=>by
  obtain ⟨ad,e,hx,hc⟩:=h.cell k hkn;exact ⟨ad,e,hx,by rw [hk _ (by rw [zAj]; exact hx) (zAb hc)]; exact hc⟩⟩
theorem HAt.below (h:HAt w X A n c l) (hb:Below w.heap.size w w'):HAt w' X A n c l:=h.keep fun _ _ hp=>hb.cell hp
theorem HAt.imp (h:HAt w X A n c l) (hx:∀ b,b<w.heap.size->X b->Y b):HAt w Y A n c l:=
 ⟨h.len,h.le,h.cap,h.ok,fun k hk=>by
  obtain ⟨ad,e,hX,hc⟩:=h.cell k hk;exact ⟨ad,e,hx _ (by have:=zAb hc; rwa [zAj] at this) hX,hc⟩⟩
theorem HAt.old (h:HAt w X A n c l):HAt w (Old w.heap.size) A n c l:=h.imp fun _ hb _=>hb
theorem HAt.take (h:HAt w X A n c l) {k:Nat} (hk:k<=n):HAt w X A k c (l.take k):=
 ⟨by rw [List.length_take,h.len]; omega,by have:=h.le; omega,h.cap,h.ok.take k,fun j hj=>by
  obtain ⟨ad,e,hx,hc⟩:=h.cell j (by omega);exact ⟨ad,e,hx,by rw [hc]; simp [hj]⟩⟩
theorem HAt.trim (h:HAt w X A n c l):HAt w X A (Hal.trim l).length c (Hal.trim l):=by
 have:=h.take (k:=(Hal.trim l).length) (by have:=Hal.trim_length_le l; have:=h.len; omega)
 rwa [<-Hal.trim_take] at this
theorem HAt.nil (w:World) (X:Nat->Prop) (A:Option Addr) (c:Nat) (hc:c<=9223372036854775807):HAt w X A 0 c []:=
 ⟨rfl,nzl _,hc,Hal.Ok.nil,fun _ h=>absurd h (by omega)⟩
theorem HAt.kept {B:Nat} {gs:List Nat} (h:HAt w X A n c l) (k:Kept B gs w w') (hx:∀ g ∈ gs,¬ X g):HAt w' X A n c l:=
 h.keep fun p hX hp=>cob (k.block p.block hp fun hg=>hx _ hg hX)
end
def hv (l:List Nat):List Value:=l.map fun (x:Nat)=>Value.int .i64 (x:Int)
theorem HAt.block3 {w:World} {B b:Nat} {t:TypeId} {f:Nat × Nat} {l:List Nat} (hb:B<=b) (ho:Hal.Ok l) (hl:l.length<=9223372036854775807)
  (h:w.heap[b]?=some (.cells (hv l).toArray t f)):HAt w (New B) (some ⟨b,0,none⟩) l.length l.length l:=
 ⟨rfl,nlr _,hl,ho,fun k hk=>⟨_,rfl,hb,by
  have:(⟨b,0,none⟩:Addr).add k=⟨b,k,none⟩:=by unfold Addr.add; split <;> simp_all
  rw [this];simp [World.cell?,h,hv,hk]⟩⟩
def hpre (l:List Nat) (k:Nat):List Nat:=(List.range k).map fun i=>l.getD i 0
theorem HAt.low {w:World} {B B':Nat} {A:Option Addr} {n c:Nat} {l:List Nat} (h:HAt w (New B) A n c l) (hB:B'<=B):HAt w (New B') A n c l:=h.imp fun _ _ hb=>nlt hB hb
structure HArr (W:World) (g n:Nat) (ql:List Nat):Prop where
 len:ql.length=n
 ok:Hal.Ok ql
 blk:W.heap[g]?=some (.cells (hv ql).toArray 3 (0,0))
theorem HArr.cells {W:World} {g n:Nat} {ql:List Nat} (h:HArr W g n ql):(∀ j,j<n->W.cell? ⟨g,j,none⟩=some (.int .i64 ((ql.getD j 0:Nat):Int)))/\∀ o,W.frozen? ⟨g,o,none⟩=false:=
 ⟨fun j hj=>by simp [World.cell?,h.blk,hv,h.len,hj],fun o=>by simp [World.frozen?,h.blk]⟩
theorem HArr.keep {W W':World} {g n:Nat} {ql:List Nat} (h:HArr W g n ql) (hk:W'.heap[g]?=W.heap[g]?):HArr W' g n ql:=⟨h.len,h.ok,hk.trans h.blk⟩
theorem zKe (l:List Nat) (j x:Nat):(hv l).set j (.int .i64 ((x:Nat):Int))=hv (l.set j x):=by simp [hv,List.map_set]
theorem HArr.set {W:World} {g n j x:Nat} {ql:List Nat} (h:HArr W g n ql) (hx:x<65536):HArr (W.setCell ⟨g,j,none⟩ (.int .i64 ((x:Nat):Int))) g n (ql.set j x):=
 ⟨by rw [List.length_set]; exact h.len,fun y hy=>by
  rcases List.mem_or_eq_of_mem_set hy with h1 | rfl
  ·exact h.ok y h1
  ·exact hx,by
  rw [zAe _ h.blk,<-zKe]; simp⟩
theorem HArr.hat {W:World} {B g n:Nat} {ql:List Nat} (h:HArr W g n ql) (hB:B<=g) (hn:n<=9223372036854775807):HAt W (New B) (some ⟨g,0,none⟩) n n ql:=by
 have:=HAt.block3 hB h.ok (by rw [h.len]; exact hn) h.blk
 rwa [h.len] at this
end Go.Proofs.YtpjaodcimomaiaaGreat
