/- Texts Hal Ra1 Ra2 Ra3 Ra4 Ra5 Ra6 Ra7 of this claim. -/
import Derived.Test.YtbpngececjihlaaGreatY08
import Derived.Test.YtbpngececjihlaaGreatY10
set_option maxHeartbeats 4000000
set_option maxRecDepth 100000
namespace Go.Proofs.YtbpngececjihlaaGreat.Hal
variable {l a:List Nat} {x n k:Nat}
def base:Nat:=65536
def nat:List Nat->Nat
 | []=>0
 | x :: l=>x+base*nat l
def Ok (l:List Nat):Prop:=∀ x ∈ l,x<base
def trim (l:List Nat):List Nat:=(l.reverse.dropWhile (· == 0)).reverse
def Can (l:List Nat):Prop:=∀ h:l ≠ [],l.getLast h ≠ 0
theorem nat_append (a b:List Nat):nat (a++b)=nat a+base ^ a.length*nat b:=by
 induction a with
 | nil=>simp [nat]
 | cons x a ih=>simp only [List.cons_append,nat,ih,List.length_cons,Nat.pow_succ]; grind
theorem nat_snoc (a:List Nat) (x:Nat):nat (a++[x])=nat a+base ^ a.length*x:=by
 rw [nat_append]; simp [nat]
theorem nat_lt (h:Ok l):nat l<base ^ l.length:=by
 induction l with
 | nil=>simp [nat]
 | cons x l ih=>
  have hx:=h x (by simp);have:=ih fun y hy=>h y (by simp [hy])
  simp only [nat,List.length_cons,Nat.pow_succ];have h1:base*(nat l+1)<=base*base ^ l.length:=Nat.mul_le_mul_left _ this;rw [Nat.mul_add,Nat.mul_one] at h1;rw [Nat.mul_comm (base ^ l.length) base];omega
theorem Ok.take (h:Ok l) (k:Nat):Ok (l.take k):=fun x hx=>h x (List.mem_of_mem_take hx)
theorem Ok.drop (h:Ok l) (k:Nat):Ok (l.drop k):=fun x hx=>h x (List.mem_of_mem_drop hx)
theorem Ok.nil:Ok []:=fun _ h=>by cases h
theorem Ok.cons (hx:x<base) (h:Ok l):Ok (x :: l):=by
 intro y hy; rcases List.mem_cons.1 hy with rfl | hy
 ·exact hx
 ·exact h y hy
theorem Ok.append {b:List Nat} (h:Ok a) (k:Ok b):Ok (a++b):=by
 intro x hx; rcases List.mem_append.1 hx with hx | hx
 ·exact h x hx
 ·exact k x hx
theorem trim_snoc_zero (l:List Nat):trim (l++[0])=trim l:=by simp [trim]
theorem trim_snoc (l:List Nat) (h:x ≠ 0):trim (l++[x])=l++[x]:=by
 simp [trim,h]
theorem trim_nil:trim []=[]:=rfl
theorem snoc_cases (l:List Nat):l=[]\/∃ a x,l=a++[x]:=by
 rcases List.eq_nil_or_concat l with h | ⟨a,x,h⟩
 ·exact .inl h
 ·exact .inr ⟨a,x,by simpa using h⟩
theorem snoc_ind {p:List Nat->Prop} (h0:p []) (h1:∀ a x,p a->p (a++[x])) (l:List Nat):p l:=by
 have:∀ n (l:List Nat),l.length=n->p l:=by
  intro n
  induction n with
  | zero=>intro l hl; rw [List.eq_nil_of_length_eq_zero hl]; exact h0
  | succ n ih=>
   intro l hl;rcases snoc_cases l with rfl | ⟨a,x,rfl⟩
   ·exact h0
   ·exact h1 a x (ih a (by simpa using hl))
 exact this _ l rfl
theorem nat_trim (l:List Nat):nat (trim l)=nat l:=by
 refine snoc_ind (p:=fun l=>nat (trim l)=nat l) rfl (fun a x ih=>?_) l;by_cases hx:x=0
 ·subst hx; rw [trim_snoc_zero,ih,nat_snoc]; simp
 ·rw [trim_snoc _ hx]
theorem Can.trim (l:List Nat):Can (trim l):=by
 refine snoc_ind (p:=fun l=>Can (Hal.trim l)) (fun h=>absurd rfl h) (fun a x ih=>?_) l;by_cases hx:x=0
 ·subst hx; rw [trim_snoc_zero]; exact ih
 ·rw [trim_snoc _ hx]; intro _; simpa using hx
theorem Ok.trim (h:Ok l):Ok (trim l):=by
 intro x hx;refine h x ?_;have:=List.mem_reverse.1 hx;exact List.mem_reverse.1 ((List.dropWhile_sublist _).mem this)
theorem trim_eq_take (l:List Nat):∃ k,k<=l.length/\trim l=l.take k:=by
 refine snoc_ind (p:=fun l=>∃ k,k<=l.length/\trim l=l.take k) ⟨0,by simp,rfl⟩ (fun a x ih=>?_) l;by_cases hx:x=0
 ·obtain ⟨k,hk,h⟩:=ih;exact ⟨k,by simp; omega,by rw [hx,trim_snoc_zero,h,List.take_append_of_le_length hk]⟩
 ·exact ⟨(a++[x]).length,nlr _,by rw [trim_snoc _ hx,List.take_length]⟩
theorem trim_length_le (l:List Nat):(trim l).length<=l.length:=by
 obtain ⟨k,hk,h⟩:=trim_eq_take l;rw [h,List.length_take]; omega
theorem trim_take (l:List Nat):trim l=l.take (trim l).length:=by
 obtain ⟨k,hk,h⟩:=trim_eq_take l;rw [h,List.length_take,Nat.min_eq_left hk]
theorem Can.left_pos (h:Can (a++[x])):x ≠ 0:=by
 have:=h (by simp); rwa [List.getLast_concat] at this
theorem nat_pos_of_can (hc:Can l) (hl:l ≠ []):base ^ (l.length-1)<=nat l:=by
 rcases snoc_cases l with rfl | ⟨a,x,rfl⟩
 ·exact absurd rfl hl
 ·have:=hc.left_pos;rw [nat_snoc];simp only [List.length_append,List.length_cons,List.length_nil,Nat.zero_add,Nat.add_sub_cancel];have:base ^ a.length*1<=base ^ a.length*x:=Nat.mul_le_mul_left _ (by omega);omega
theorem base_pos:0<base:=by decide
theorem pow_pos' (k:Nat):0<base ^ k:=Nat.pow_pos base_pos
theorem nat_eq_zero_of_can (hc:Can l):nat l=0 ↔ l=[]:=by
 constructor
 ·intro h;rcases Decidable.em (l=[]) with h' | h'
  ·exact h'
  ·have:=nat_pos_of_can hc h'; have:=pow_pos' (l.length-1); omega
 ·rintro rfl; rfl
def words (n:Nat):List Nat:=if _h:n=0 then [] else (n % base) :: words (n / base)
 termination_by n
 decreasing_by exact Nat.div_lt_self (by omega) (by decide)
theorem words_zero:words 0=[]:=by rw [words]; simp
theorem words_pos (h:n ≠ 0):words n=(n % base) :: words (n / base):=by rw [words]; simp [h]
theorem nat_words (n:Nat):nat (words n)=n:=by
 induction n using Nat.strongRecOn with
 | _ n ih=>
  by_cases h:n=0
  ·subst h; rw [words_zero]; rfl
  ·rw [words_pos h,nat,ih _ (Nat.div_lt_self (by omega) (by decide))];have:=Nat.div_add_mod n base; omega
theorem Ok.words (n:Nat):Ok (words n):=by
 induction n using Nat.strongRecOn with
 | _ n ih=>
  by_cases h:n=0
  ·subst h; rw [words_zero]; exact Ok.nil
  ·rw [words_pos h]; exact Ok.cons (Nat.mod_lt _ base_pos) (ih _ (Nat.div_lt_self (by omega) (by decide)))
theorem Can.words (n:Nat):Can (words n):=by
 induction n using Nat.strongRecOn with
 | _ n ih=>
  by_cases h:n=0
  ·subst h; rw [words_zero]; intro h; exact absurd rfl h
  ·rw [words_pos h];intro hne;have hi:=ih _ (Nat.div_lt_self (n:=n) (by omega) (by decide:1<base));by_cases h2:n / base=0
   ·simp only [h2,words_zero,List.getLast_singleton];have:=Nat.div_add_mod n base; rw [h2] at this; omega
   ·have hw:Hal.words (n / base) ≠ []:=by rw [words_pos h2]; simp
    rw [List.getLast_cons hw]; exact hi hw
theorem nat_inj {b:List Nat} (oa:Ok a) (ob:Ok b) (ca:Can a) (cb:Can b) (h:nat a=nat b):a=b:=by
 induction a generalizing b with
 | nil=>exact ((nat_eq_zero_of_can cb).1 h.symm).symm
 | cons x a ih=>
  cases b with
  | nil=>have:=(nat_eq_zero_of_can ca).1 (by rw [h]; rfl); exact this
  | cons y b=>
   have hx:=oa x (by simp);have hy:=ob y (by simp);simp only [nat] at h
   have h1:x=y:=by
    have e1:(x+base*nat a) % base=x:=by rw [Nat.add_mul_mod_self_left]; exact Nat.mod_eq_of_lt hx
    have e2:(y+base*nat b) % base=y:=by rw [Nat.add_mul_mod_self_left]; exact Nat.mod_eq_of_lt hy
    rw [<-e1,<-e2,h]
   subst h1;have h2:nat a=nat b:=Nat.eq_of_mul_eq_mul_left base_pos (by omega);have ca':Can a:=by intro hn; have:=ca (by simp); rwa [List.getLast_cons hn] at this
   have cb':Can b:=by intro hn; have:=cb (by simp); rwa [List.getLast_cons hn] at this
   rw [ih (fun z hz=>oa z (by simp [hz])) (fun z hz=>ob z (by simp [hz])) ca' cb' h2]
theorem trim_eq_words (h:Ok l):trim l=words (nat l):=
 nat_inj h.trim (Ok.words _) (Can.trim l) (Can.words _) (by rw [nat_trim,nat_words])
theorem words_length_le (h:n<base ^ k):(words n).length<=k:=by
 rcases Decidable.em (words n=[]) with h0 | h0
 ·simp [h0]
 ·have:=nat_pos_of_can (Can.words n) h0;rw [nat_words] at this;rcases Nat.lt_or_ge k (words n).length with hlt | hge
  ·have:base ^ k<=base ^ ((words n).length-1):=Nat.pow_le_pow_right base_pos (by omega);omega
  ·exact hge
theorem lt_words_length (n:Nat):n<base ^ (words n).length:=by
 have:=nat_lt (Ok.words n); rwa [nat_words] at this
end Go.Proofs.YtbpngececjihlaaGreat.Hal
namespace Go.Proofs.YtbpngececjihlaaGreat
open Go.RowKit
variable {k n c i base B b N m d x c2 B' g j:Nat} {l a ql:List Nat} {A:Option Addr} {X Y:Nat->Prop} {w W W':World} {v:Value} {e t:TypeId}
structure HAt (w:World) (X:Nat->Prop) (A:Option Addr) (n c:Nat) (l:List Nat):Prop where
 len:l.length=n
 le:n<=c
 cap:c<=9223372036854775807
 ok:Hal.Ok l
 cell:∀ k,k<n->∃ ad,A=some ad/\X ad.block/\w.cell? (ad.add k)=some (.int .i64 ((l.getD k 0:Nat):Int))
section
variable {w w':World} {X Y:Nat->Prop} {A:Option Addr} {n c:Nat} {l:List Nat}
theorem HAt.keep (h:HAt w X A n c l) (hk:∀ p:Addr,X p.block->p.block<w->w'.cell? p=w.cell? p):HAt w' X A n c l:=
 ⟨h.len,h.le,h.cap,h.ok,fun k hkn=>by
  obtain ⟨ad,e,hx,hc⟩:=h.cell k hkn;exact ⟨ad,e,hx,by rw [hk _ (by rw [zAj]; exact hx) (zAb hc)]; exact hc⟩⟩
theorem HAt.below (h:HAt w X A n c l) (hb:Below w w w'):HAt w' X A n c l:=h.keep fun _ _ hp=>hb.cell hp
theorem HAt.imp (h:HAt w X A n c l) (hx:∀ b,b<w.heap.size->X b->Y b):HAt w Y A n c l:=
 ⟨h.len,h.le,h.cap,h.ok,fun k hk=>by
  obtain ⟨ad,e,hX,hc⟩:=h.cell k hk;exact ⟨ad,e,hx _ (by have:=zAb hc; rwa [zAj] at this) hX,hc⟩⟩
theorem HAt.take (h:HAt w X A n c l) (hk:k<=n):HAt w X A k c (l.take k):=
 ⟨by rw [List.length_take,h.len]; omega,by have:=h.le; omega,h.cap,h.ok.take k,fun j hj=>by
  obtain ⟨ad,e,hx,hc⟩:=h.cell j (by omega);exact ⟨ad,e,hx,by rw [hc]; simp [hj]⟩⟩
theorem HAt.trim (h:HAt w X A n c l):HAt w X A (Hal.trim l).length c (Hal.trim l):=by
 have:=h.take (k:=(Hal.trim l).length) (by have:=Hal.trim_length_le l; have:=h.len; omega)
 rwa [<-Hal.trim_take] at this
theorem HAt.nil (w:World) (X:Nat->Prop) (A:Option Addr) (c:Nat) (hc:c<=9223372036854775807):HAt w X A 0 c []:=
 ⟨rfl,nzl _,hc,Hal.Ok.nil,fun _ h=>absurd h (by omega)⟩
end
theorem zAK (h:HAt w X A n c l) :
  Calls Tryz.prog 226 #[.slice A n c] w fun e w'=>e = .returned (.slice A (Hal.trim l).length c)/\w=w':=by
 have hn:=h.le;have hc:=h.cap;have H:=hdq h.cell;have HL:=hdq h.len;clear h;go_enter Tryz.func226,Tryz.ntmps226
 go_wp2;go_loop [3] (fun s=>∃ k:Nat,k<=n/\Hid (Hal.trim (l.take k)=Hal.trim l)/\s = .int .i64 k) (fun s=>(intOf s).toNat)
 case atStart=>exact ⟨n,nlr _,by rw [<-HL.out,List.take_length]; exact rfl,rfl⟩
 case round=>
  obtain ⟨k,hk,hT,rfl⟩:=hrel;by_cases h0:0<k
  ·obtain ⟨ad,rfl,-,hcell⟩:=H.out (k-1) (by omega);have e1:((k:Int)-1)=((k-1:Nat):Int):=(by omega);have e2:(k:Int)-1<n:=(by omega);have e3:(0:Int)<=(k:Int)-1:=by omega
   have hl:Hid (l.take k=l.take (k-1)++[l.getD (k-1) 0]):=by
    show _=_;have:=HL.out
    conv=>lhs; rw [show k=(k-1)+1 by omega]
    rw [List.take_succ_eq_append_getElem (by omega)];simp [gge (show k-1<l.length by omega)]
   generalize l.getD (k-1) 0=x at *;by_cases hx:x=0
   ·subst hx;go_wp2;exact ⟨⟨k-1,by omega,by have:=hT.out; rw [hl.out,Hal.trim_snoc_zero] at this; exact this,rfl⟩,by simp [intOf]; omega⟩
   ·have hxb:((x:Int) == 0)=false:=(by simpa using hx);go_wp2;go_ret;refine ⟨?_,rfl⟩;have h1:=hT.out;rw [hl.out,Hal.trim_snoc _ hx,<-hl.out] at h1;have h2:=HL.out;rw [<-h1]; simp; omega
  ·(obtain rfl:k=0:=by omega);go_wp2;go_ret;refine ⟨?_,rfl⟩;have h1:=hT.out;simp only [List.take_zero,Hal.trim_nil] at h1;rw [<-h1]; rfl
theorem zBY (h:HAt w X A n c l) :
  Calls Tryz.prog 227 #[.slice A n c,.int .i64 (i:Int)] w fun e w'=>e = .returned (.int .i64 ((l.getD i 0:Nat):Int))/\w=w':=by
 have hn:=h.le;have hc:=h.cap;by_cases hi:i<n
 ·obtain ⟨ad,rfl,-,hcell⟩:=h.cell i hi;have hii:(i:Int)<n:=by omega
  clear h;generalize l.getD i 0=x at *;go_enter Tryz.func227,Tryz.ntmps227
  go_wp2;go_ret;exact ⟨rfl,rfl⟩
 ·have hii:¬ (i:Int)<n:=by omega
  have e:l.getD i 0=0:=by rw [gdd,List.getElem?_eq_none (by rw [h.len]; omega)]; rfl
  rw [e];clear h e;go_enter Tryz.func227,Tryz.ntmps227
  go_wp2;go_ret;exact ⟨rfl,rfl⟩
theorem zCk:(Tryz.prog.info? 3).map (fun i=>(i.zero,i.size,i.bytes))=some (some (.int .i64 0),1,8):=by kernel_rfl
def hv (l:List Nat):List Value:=l.map fun (x:Nat)=>Value.int .i64 (x:Int)
theorem zC0 (a b:List Nat):hv (a++b)=hv a++hv b:=by simp [hv]
theorem zFL (a:List Nat):(hv a).length=a.length:=by simp [hv]
theorem zKc (a:List Nat) (j:Nat) (u:Value) (h:(hv a)[j]?=some u):j<a.length/\u = .int .i64 (a.getD j 0:Nat):=by
 simp only [hv,List.getElem?_map,Option.map_eq_some_iff] at h;obtain ⟨x,hx,rfl⟩:=h;obtain ⟨hj,rfl⟩:=List.getElem?_eq_some_iff.1 hx;exact ⟨hj,by simp [hj]⟩
theorem zKd (a:List Nat):∀ u ∈ hv a,u.oneCell'=true:=by
 intro u hu;obtain ⟨x,_,rfl⟩:=List.mem_map.1 hu;rfl
theorem zCB (h:w.ownsRow base e 1 v n (hv l)) (ho:Hal.Ok l):∃ A c,v = .slice A n c/\(A=none->c=0)/\HAt w (New base) A n c l:=by
 obtain ⟨h1,h2⟩:=h;rw [zFL,Nat.mul_one] at h1;rcases h2 with ⟨rfl,rfl⟩ | ⟨g,cap,cur,rfl,hg,hh,hnc,hcap,hcur,ht⟩
 ·refine ⟨none,0,rfl,fun _=>rfl,?_⟩;rw [List.eq_nil_of_length_eq_zero h1];exact HAt.nil _ _ _ _ (by omega)
 ·refine ⟨_,_,rfl,(fun h=>by cases h),⟨h1,hnc,nlt hcap (show maxLen<=9223372036854775807 by decide),ho,fun k hk=>⟨_,rfl,hg,?_⟩⟩⟩;have e1:(⟨g,0,none⟩:Addr).add k=⟨g,k,none⟩:=by unfold Addr.add; split <;> simp_all
  rw [e1];have e2:(cur.toList.take (n*1))[k]?=(hv l)[k]?:=by rw [ht]
  rw [Nat.mul_one,List.getElem?_take_of_lt hk] at e2
  have e3:(hv l)[k]?=some (.int .i64 (l.getD k 0:Nat)):=by
   simp [hv,List.getElem?_map,gge (show k<l.length by omega)]
  rw [e3] at e2;simp only [World.cell?,hh];simpa using e2
def halv (ws:List Nat):List Nat:=ws.flatMap fun x=>[x % 65536,x / 65536]
theorem zFK (ws:List Nat) (x:Nat):halv (ws++[x])=halv ws++[x % 65536,x / 65536]:=by simp [halv]
theorem zIq {ws:List Nat} (h:Num.Ok ws):Hal.Ok (halv ws):=by
 intro d hd;obtain ⟨x,hx,hd⟩:=List.mem_flatMap.1 hd;have hb:=h x hx;simp only [Num.base] at hb;simp only [Hal.base];simp at hd;omega
theorem zG0 (ws:List Nat):Hal.nat (halv ws)=Num.nat ws:=by
 induction ws with
 | nil=>rfl
 | cons x ws ih=>
  show (x % 65536)+Hal.base*((x / 65536)+Hal.base*Hal.nat (halv ws))=x+Num.base*Num.nat ws;rw [ih];have e1:x % 65536+65536*(x / 65536)=x:=Nat.mod_add_div x 65536;have e2:Hal.base*(Hal.base*Num.nat ws)=Num.base*Num.nat ws:=by rw [<-Nat.mul_assoc]; rfl
  rw [Nat.mul_add,e2,<-Nat.add_assoc];show x % 65536+65536*(x / 65536)+_=_;rw [e1]
theorem zFG (w:World) (T:TypeId) (u v:Value):∀ j x,[u,v][j]?=some x->(w.alloc (.cells #[u,v] T)).cell? (Addr.add ⟨w,0,none⟩ j)=some x:=by
 intro j x hx
 match j,hx with
 | 0,hx=>simp [Addr.add] at hx ⊢; exact hx
 | 1,hx=>simp [Addr.add] at hx ⊢; exact hx
 | j+2,hx=>simp at hx
def HalS (B:Nat) (W:World) (a:Addr) (v:Value) (f:Bool) (w':World):Prop:=(f=false->Sees B [] W w')/\w'.cell? a=some v
def HRet (w:World) (z:Nat) (e:Ending) (w':World):Prop:=∃ A n c,e = .returned (.slice A n c)/\(A=none->c=0)/\HAt w' (New w) A n c (Hal.words z)
theorem zAH (h:WordsAt w X A n c l) (hn:n<=1000000000000) :
  Calls Tryz.prog 200 #[.slice A n c] w fun e w'=>HRet w (Num.nat l) e w'/\Below w w w':=by
 obtain ⟨i0,hi,hz0,hz1,hz2⟩:=info_parts zCk;have hle:=h.le;have hcap:=h.cap;have H:=hdq h;have HL:=hdq h.len;clear h;go_enter Tryz.func200,Tryz.ntmps200
 go_wp2;go_loopw [3,4] (fun v i W=>∃ k:Nat,k<=n/\i = .int .i64 k/\W.ownsRow w 3 1 v (2*k) (hv (halv (l.take k)))/\Below w w W) (fun _ i _=>n-(intOf i).toNat)
 case atStart=>exact ⟨0,nzl _,rfl,⟨rfl,.inl ⟨rfl,rfl⟩⟩,brf _ _⟩
 case round=>
  obtain ⟨k,hk,rfl,hown,hB⟩:=hrel;by_cases hlt:k<n
  ·obtain ⟨ad,e,-,hcell0⟩:=H.out.cell k hlt;subst e;have hcell:=(hB.cell (p:=ad.add k) (zAb hcell0)).trans hcell0;have hki:(k:Int)<n:=by omega
   have hsn:Hid (hv (halv (l.take (k+1)))=hv (halv (l.take k))++[.int .i64 ((l.getD k 0 % 65536:Nat):Int),.int .i64 ((l.getD k 0 / 65536:Nat):Int)]):=by
    show _=_;have:=HL.out;rw [List.take_succ_eq_append_getElem (by omega),zFK,zC0];simp [hv,gge (show k<l.length by omega)]
   have hx:l.getD k 0<4294967296:=by
    have:=HL.out;have h2:=H.out.ok (l.getD k 0) (by rw [gdd,gge (by omega)]; exact List.getElem_mem _);exact h2
   generalize l.getD k 0=x at *;have tq:(ad.add k).block<wr:=zAb hcell;have tc0:w.cell? (ad.add k)=some (.int .u32 (x:Int)):=hcell0;have tq0:(ad.add k).block<w:=zAb tc0;clear hcell0;have HO:=hdq hown;have HBs:=hB.size;have hdr:Below wr wr wr.drew:=(brf _ _).drew;clear hown;go_wp2;have hc0:wr.drew.cell? (ad.add k)=some (.int .u32 (x:Int)):=hcell;refine zAp 14 (HalS w wr (ad.add k) (.int .u32 (x:Int))) (by kernel_rfl) ?_;have hS0:Sees w [] wr wr.drew:=Sees.st (by simp) HBs;refine tx4 0 1 2 3 (⟨fun _=>hS0,hc0⟩) ?_;refine tx1 7 (⟨fun _=>hS0,hc0⟩) ?_;refine tx1 8 (⟨fun _=>hS0,hc0⟩) ?_;refine tx1 9 (⟨fun _=>hS0,hc0⟩) ?_;refine tkE 4 (.int .u32 x) (fun w' hSw=>?_) (⟨fun _=>hS0,hc0⟩) ?_
   ·(obtain ⟨_,-,hc2⟩:=hSw; go_simp; try with_reducible rfl)
   simp only [zz];refine tkE 10 (.int .u32 x) (fun w' hSw=>?_) (⟨fun _=>hS0,hc0⟩) ?_
   ·(obtain ⟨_,-,hc2⟩:=hSw; go_simp; try with_reducible rfl)
   simp only [zz];refine tx4 5 6 11 12 (⟨fun _=>hS0,hc0⟩) ?_
   have hr1:IntKind.i64.wrap ((x:Int).tmod 65536)=((x % 65536:Nat):Int):=by
    rw [show (x:Int).tmod 65536=((x % 65536:Nat):Int) by rw [Int.tmod_eq_emod_of_nonneg (by omega)]; omega];exact IntWalk.i64_in _ (by omega)
   have hr2:IntKind.i64.wrap (IntKind.u32.wrap ((x:Int) / 65536))=((x / 65536:Nat):Int):=by
    rw [show (x:Int) / 65536=((x / 65536:Nat):Int) by omega];rw [show IntKind.u32.wrap ((x / 65536:Nat):Int)=((x / 65536:Nat):Int) from IntWalk.u32_in _ (by omega)];exact IntWalk.i64_in _ (by omega)
   rw [hr1,hr2];clear hr1 hr2;refine tk1 13 ?_;intro K hK;go_simp;refine hK.out _ _ ⟨fun _=>Sees.al hS0,(World.cell?_alloc_lt _ _ _ tq).trans hc0⟩ ?_;clear hK K;have hown:=zAr (W':=wr.drew) HO.out fun j _=>rfl
   refine tk1 14 ?_;intro K hK;refine zAq _ _ 48 rfl w 3 i0 (.int .i64 0) 1 8 Tryz.underlying48 hi hz0 hz1 hz2 rfl (by decide) u3 (2*k) (hv (halv (l.take k))) rfl (hown.alloc _) ⟨wr.drew.heap.size,0,none⟩ 2 2 [.int .i64 ((x % 65536:Nat):Int),.int .i64 ((x / 65536:Nat):Int)] rfl rfl ?cc (by intro u hu; simp at hu; rcases hu with rfl | rfl <;> rfl) (by simp [maxLen]; omega) (by omega) (by simp; omega) ?_
   case cc=>
    exact zFG _ _ _ _
   intro v' W5 hown5 hg5 hnil5 hat5;have hB5:Below w w W5:=(hB.drew.alloc (by simpa using HBs) _).grown hg5 (by simp; omega) fun j hj=>(zAc HO.out hj).1
   have hc5:W5.cell? (ad.add k)=some (.int .u32 (x:Int)):=(hB5.cell (p:=ad.add k) tq0).trans tc0;refine hK.out _ _ ⟨fun h=>absurd h (by decide),hc5⟩ ?_;clear hK K;refine tx1 15 (⟨fun h=>absurd h (by decide),hc5⟩) ?_;refine zAf (by kernel_rfl) ?_ _;have Hfin:Hid (W5.ownsRow w 3 1 v' (2*(k+1)) (hv (halv (l.take (k+1))))/\Below w w W5):=⟨by rw [hsn.out]; exact hown5,hB5⟩;clear hown5 hg5 hnil5 hat5 hB5 hc5 hS0 hc0 hown hdr hB;go_wp2;go_roundw;case rel=>exact ⟨k+1,by omega,by go_num,Hfin.out.1,Hfin.out.2⟩
   case measure=>simp [intOf]; omega
  ·(obtain rfl:k=n:=by omega);rw [<-HL.out,List.take_length] at hown;obtain ⟨A',c',rfl,hnn,hd⟩:=zCB hown (zIq H.out.ok);have Hd:=hdq hd;have ht:=hd.trim;have e1:=Hal.trim_eq_words (zIq H.out.ok);rw [zG0] at e1;rw [e1] at ht;have Ht:=hdq ht;have E1:=hdq e1;clear hd hown ht e1;(go_wp2_with fail);refine (zAK Hd.out).mono ?_;rintro e w1 ⟨rfl,rfl⟩;rw [E1.out];go_wp2;go_ret;exact ⟨⟨_,_,_,rfl,hnn,Ht.out⟩,hB⟩
def wpair (l:List Nat) (k:Nat):List Nat:=(List.range k).map fun j=>l.getD (2*j) 0+l.getD (2*j+1) 0*65536
theorem zDR (l:List Nat) (k:Nat):(wpair l k).length=k:=by simp [wpair]
theorem zDC (l:List Nat) (k:Nat):wpair l (k+1)=wpair l k++[l.getD (2*k) 0+l.getD (2*k+1) 0*65536]:=by simp [wpair,List.range_succ]
theorem zBC (h:Hal.Ok l) (i:Nat):l.getD i 0<65536:=by
 by_cases hi:i<l.length
 ·rw [gdd,gge hi];exact h _ (List.getElem_mem _)
 ·rw [gdd,List.getElem?_eq_none (by omega)]; decide
theorem zJB (h:Hal.Ok l) (k:Nat):Num.Ok (wpair l k):=by
 intro x hx;obtain ⟨j,_,rfl⟩:=List.mem_map.1 hx;have:=zBC h (2*j);have:=zBC h (2*j+1);simp only [Num.base]; omega
theorem zHx (h:Hal.Ok l) (k:Nat):halv (wpair l k)=(List.range (2*k)).map fun i=>l.getD i 0:=by
 induction k with
 | zero=>rfl
 | succ k ih=>
  rw [zDC,zFK,ih,show 2*(k+1)=2*k+1+1 by omega,List.range_succ,List.range_succ];have h1:=zBC h (2*k);have e1:(l.getD (2*k) 0+l.getD (2*k+1) 0*65536) % 65536=l.getD (2*k) 0:=by omega
  have e2:(l.getD (2*k) 0+l.getD (2*k+1) 0*65536) / 65536=l.getD (2*k+1) 0:=by omega
  rw [e1,e2];simp
theorem zGy (l:List Nat):∀ d,Hal.nat ((List.range (l.length+d)).map fun i=>l.getD i 0)=Hal.nat l
 | 0=>by
  congr 1;apply List.ext_getElem
  ·simp
  ·intro i h1 h2; simp [h2]
 | d+1=>by
  rw [show l.length+(d+1)=(l.length+d)+1 by omega,List.range_succ,List.map_append,Hal.nat_append,zGy l d];have:l.getD (l.length+d) 0=0:=by rw [gdd,List.getElem?_eq_none (by omega)]; rfl
  simp [Hal.nat]
theorem zI2 (h:Hal.Ok l) (hk:l.length<=2*k):Num.nat (wpair l k)=Hal.nat l:=by
 rw [<-zG0,zHx h,show 2*k=l.length+(2*k-l.length) by omega,zGy]
theorem zI1 (hc:Hal.Can l) (h0:l.length<=2*k) (h1:2*k<l.length+2):Num.Can (wpair l k):=by
 cases k with
 | zero=>intro h; exact absurd rfl h
 | succ k=>
  rw [zDC];intro _;rw [List.getLast_concat];rcases Hal.snoc_cases l with rfl | ⟨a,x,rfl⟩
  ·simp only [List.length_nil] at h1; omega
  ·have hx:=hc.left_pos;simp only [List.length_append,List.length_cons,List.length_nil] at h0 h1;have hl:∀ i,i=a.length->(a++[x]).getD i 0=x:=fun i hi=>by subst hi; simp
   by_cases e:2*k=a.length
   ·rw [hl _ e]; omega
   ·by_cases e2:2*k+1=a.length
    ·rw [hl _ e2]; omega
    ·exfalso;omega
theorem zGQ (ho:Hal.Ok l) (hc:Hal.Can l) (h0:l.length<=2*k) (h1:2*k<l.length+2):wpair l k=Num.words (Hal.nat l):=
 Num.nat_inj (zJB ho k) (Num.Ok.words _) (zI1 hc h0 h1) (Num.Can.words _) (by rw [zI2 ho h0,Num.nat_words])
theorem zJz:(Tryz.prog.info? 178).map (fun i=>(i.zero,i.size,i.bytes))=some (some (.int .u32 0),1,4):=by kernel_rfl
theorem cell_one_new' (w:World) (T:TypeId) (v:Value):∀ j x,[v][j]?=some x->(w.alloc (.cells #[v] T)).cell? (Addr.add ⟨w,0,none⟩ j)=some x:=by
 intro j x hx
 match j,hx with
 | 0,hx=>simp [Addr.add] at hx ⊢; exact hx
 | j+1,hx=>simp at hx
theorem zE0 (i:Nat) {z:Int} (hz:z=(i:Int)) (h:HAt w X A n c l) :
  Calls Tryz.prog 227 #[.slice A n c,.int .i64 z] w fun e w'=>e = .returned (.int .i64 ((l.getD i 0:Nat):Int))/\w=w':=by
 subst hz; exact zBY h
def ZRet1 (w:World) (z:Int) (e:Ending) (w':World):Prop:=∃ ng A n c,e = .returned (.agg #[.bool ng,.slice A n c])/\ZAt w' (New w) ng A n c z
def OfLoop (w:World) (l:List Nat) (v i:Value) (W:World):Prop:=
 ∃ k:Nat,2*k<l.length+2/\i = .int .i64 (2*(k:Int))/\W.ownsRow (w+1) 178 1 v k (wv (wpair l k))/\Below w w W/\Box2 W w (.bool false) (.slice none 0 0)/\w.heap.size<W.heap.size
theorem zCA (neg:Bool) (h:HAt w X A n c l) (hn:n<=1000000000000) :
  Calls Tryz.prog 199 #[.bool neg,.slice A n c] w fun e w'=>ZRet1 w (zval neg (Hal.nat l)) e w'/\Below w w w':=by
 obtain ⟨i0,hi,hz0,hz1,hz2⟩:=info_parts zJz;have hcap:=h.cap;have H:=hdq h;have HT:=hdq h.trim;have hnt:(Hal.trim l).length<=n:=by have:=Hal.trim_length_le l; have:=h.len; omega
 rw [<-Hal.nat_trim l];have HC:=hdq (Hal.Can.trim l);have HTr:=hdq (zAK h);have HTe:Hid (∀ w',Below w w w'->Calls Tryz.prog 226 #[.slice A n c] w' fun e w''=>e = .returned (.slice A (Hal.trim l).length c)/\w'=w''):=fun w' hb=>zAK (h.below hb)
 clear h H HTr;generalize Hal.trim l=t at *;have al:Below w w (w.alloc (.cells #[.bool false,.slice none 0 0] 28)):=bal;go_enter Tryz.func199,Tryz.ntmps199
 go_wp2_with fail
 refine (HTe.out _ al).mono ?_;rintro e w1 ⟨rfl,rfl⟩;have H0:Hid (OfLoop w t (.slice none 0 0) (.int .i64 0) (w.alloc (.cells #[.bool false,.slice none 0 0] 28))):=⟨0,by omega,rfl,⟨rfl,.inl ⟨rfl,rfl⟩⟩,al,bx2,by simp⟩;clear al;go_wp2;go_loopw [5,6] (fun v i W=>OfLoop w t v i W) (fun _ i _=>t.length+2-(intOf i).toNat)
 case atStart=>exact H0.out
 case round=>
  clear H0;obtain ⟨k,hk,rfl,hown,hB,bR,sR⟩:=hrel;by_cases hlt:2*k<t.length
  ·have hki:2*(k:Int)<(t.length:Int):=(by omega);have hsn:=hdq (zDC t k);have hd1:=zBC HT.out.ok (2*k);have hd2:=zBC HT.out.ok (2*k+1);obtain ⟨d1,e1⟩:∃ d,t.getD (2*k) 0=d:=⟨_,rfl⟩;obtain ⟨d2,e2⟩:∃ d,t.getD (2*k+1) 0=d:=⟨_,rfl⟩;rw [e1,e2] at hsn;rw [e1] at hd1;rw [e2] at hd2;have E1:=hdq e1;have E2:=hdq e2;have HO:=hdq hown;clear e1 e2 hown;(go_wp2_with fail);refine (zE0 (2*k) (by omega) (HT.out.below hB)).mono ?_;rw [E1.out];rintro e w1 ⟨rfl,rfl⟩;(go_wp2_with fail);refine (zE0 (2*k+1) (by omega) (HT.out.below hB)).mono ?_;rw [E2.out];rintro e w1 ⟨rfl,rfl⟩;have hsz:Hid ((wpair t k).length=k):=zDR t k;(go_wp2_with (at_builtin; refine wpList_append_own _ rfl _ _ 26 rfl (w+1) 178 i0 (.int .u32 0) 1 4 Tryz.underlying26 hi hz0 hz1 hz2 rfl (by decide) _ k (wv (wpair t k)) rfl (HO.out.alloc _) ⟨wr,0,none⟩ 1 1 [.int .u32 ((d1:Int)+(d2:Int)*65536)] rfl rfl ?cells ?one ?b1 ?b2 ?b3 ?_));case cells=>exact cell_one_new' _ _ _
   case one=>intro u hu; simp at hu; subst hu; rfl
   case b1=>simp [maxLen]; omega
   case b2=>omega
   case b3=>simp; omega
   intro v' W5 hown5 hg5 hnil5;have hrow:∀ j,Value.ownBlock u5=some j->w.heap.size+1<=j:=(fun j hj=>(zAc HO.out hj).1);have hB5:Below (w+1) wr W5:=((brf _ _).alloc (by omega) _).grown hg5 (by simp; omega) hrow;have bR5:Box2 W5 w (.bool false) (.slice none 0 0):=⟨(hB5.cell (p:=w) (by show w.heap.size<_; omega)).trans bR.1,(hB5.cell (p:=⟨w.heap.size,1,none⟩) (by show w.heap.size<_; omega)).trans bR.2.1,fun o=>(hB5.frozen (p:=⟨w.heap.size,o,none⟩) (by show w.heap.size<_; omega)).trans (bR.2.2 o)⟩;have hB6:Below w w W5:=hB.trans (hB5.mono (by omega))
   have Hfin:Hid (OfLoop w t v' (.int .i64 (2*(k:Int)+2)) W5):=⟨k+1,by omega,by simp; omega,by
    rw [hsn.out,zB2];have e:wv [d1+d2*65536]=[.int .u32 ((d1:Int)+(d2:Int)*65536)]:=(by simp [wv]);rw [e]; exact hown5,hB6,bR5,by have:=hB5.size; omega⟩
   clear hown5 hg5 hnil5 hB5 hB6 bR5 bR hB hrow;go_wp2;go_roundw;case rel=>exact fn_ Hfin.out
   case measure=>simp [intOf]; omega
  ·have hkk:Hid (wpair t k=Num.words (Hal.nat t)):=zGQ HT.out.ok HC.out (by omega) hk;rw [hkk.out] at hown;obtain ⟨A',c',rfl,hw⟩:=zC7 hown (Num.Ok.words _);have hkl:k=(Num.words (Hal.nat t)).length:=(by rw [<-hkk.out,zDR]);have hlt':¬ (2*(k:Int)<(t.length:Int)):=(by omega);obtain ⟨r0,r1,rf⟩:=id bR
   have hz0':k=0 ↔ Hal.nat t=0:=by
    rw [hkl];constructor
    ·intro h; rw [<-Num.nat_words (Hal.nat t),List.eq_nil_of_length_eq_zero h]; rfl
    ·intro h; rw [h,Num.words_zero]; rfl
   have HW:=hdq hw;have hkk2:k<=1000000000000:=(by omega);have HZ:=hdq hz0';clear hw hz0' hkl hkk HT HC;have hsz:w.heap.size<wr.heap.size:=sR;by_cases hk0:k=0
   ·subst hk0;have hz:Hid (Hal.nat t=0):=HZ.out.1 rfl;cases neg
    all_goals
     go_wp2;obtain ⟨v0,v1⟩:=bR.stored (.bool false) (.slice A' 0 c');refine bodyPost_ret (v:=.agg #[.bool false,.slice A' 0 c']) (by simp [results,Tryz.results199,go_sem,v0,v1]) rfl ⟨⟨_,_,_,_,rfl,?_⟩,(hB.setCell (by simp) _).setCell (by simp) _⟩;rw [hz.out];refine ⟨rfl,?_⟩;(first | rw [show (zval false 0).natAbs=0 from rfl,Num.words_zero] | rw [show (zval true 0).natAbs=0 from rfl,Num.words_zero]);exact WordsAt.nil _ _ _ _ HW.out.cap
   ·have hk1:0<k:=(by omega);have hk1i:(0:Int)<(k:Int):=(by omega);have hz:Hid (¬ Hal.nat t=0):=(fun h=>hk0 (HZ.out.2 h));cases neg
    ·go_wp2;obtain ⟨v0,v1⟩:=bR.stored (.bool false) (.slice A' k c');refine bodyPost_ret (v:=.agg #[.bool false,.slice A' k c']) (by simp [results,Tryz.results199,go_sem,v0,v1]) rfl ⟨⟨_,_,_,_,rfl,?_⟩,(hB.setCell (by simp) _).setCell (by simp) _⟩;refine ⟨by simp [zval],?_⟩;have:=HW.out.keep (w':=(wr.setCell w (.bool false)).setCell ⟨w.heap.size,1,none⟩ (.slice A' k c')) fun p hp _=>cob ((bhs _ _ _ _ (by simp only [New] at hp; show p.block ≠ w.heap.size; omega)).trans (bhs _ _ _ _ (by simp only [New] at hp; show p.block ≠ w.heap.size; omega)))
     simpa [zval] using this.imp (Y:=New w) fun b _ hb=>by simp only [New] at hb ⊢; omega
    ·go_wp2;obtain ⟨v0,v1⟩:=bR.stored (.bool true) (.slice A' k c');refine bodyPost_ret (v:=.agg #[.bool true,.slice A' k c']) (by simp [results,Tryz.results199,go_sem,v0,v1]) rfl ⟨⟨_,_,_,_,rfl,?_⟩,(hB.setCell (by simp) _).setCell (by simp) _⟩;have hz':=hz.out;refine ⟨by simp [zval]; omega,?_⟩;have:=HW.out.keep (w':=(wr.setCell w (.bool true)).setCell ⟨w.heap.size,1,none⟩ (.slice A' k c')) fun p hp _=>cob ((bhs _ _ _ _ (by simp only [New] at hp; show p.block ≠ w.heap.size; omega)).trans (bhs _ _ _ _ (by simp only [New] at hp; show p.block ≠ w.heap.size; omega)))
     simpa [zval] using this.imp (Y:=New w) fun b _ hb=>by simp only [New] at hb ⊢; omega
theorem zDY (hk:k<l.length):Hal.nat (l.drop k)=l.getD k 0+65536*Hal.nat (l.drop (k+1)):=by
 rw [List.drop_eq_getElem_cons hk];simp [Hal.nat,Hal.base,hk]
theorem zIo (h:Hal.Ok l) (hl:l.length<=3) (k:Nat):Hal.nat (l.drop k)<281474976710656:=by
 have h1:=Hal.nat_lt (h.drop k);have h2:Hal.base ^ (l.drop k).length<=Hal.base ^ 3:=Nat.pow_le_pow_right Hal.base_pos (by rw [List.length_drop]; omega);have h3:Hal.base ^ 3=281474976710656:=by decide
 omega
theorem zDM (h:HAt w X A n c l) (hn:n<=3) :
  Calls Tryz.prog 235 #[.slice A n c] w fun e w'=>e = .returned (.int .i64 ((Hal.nat l:Nat):Int))/\w=w':=by
 have hle:=h.le;have hc:=h.cap;have H:=hdq h.cell;have HL:=hdq h.len;have HB:Hid (∀ k,Hal.nat (l.drop k)<281474976710656):=zIo h.ok (by rw [h.len]; exact hn);have HG:Hid (∀ k,l.getD k 0<65536):=zBC h.ok;have HD:Hid (∀ k,k<n->Hal.nat (l.drop k)=l.getD k 0+65536*Hal.nat (l.drop (k+1))):=fun k hk=>zDY (by rw [h.len]; exact hk)
 have H0:Hid (Hal.nat (l.drop n)=0):=by show _=_; rw [List.drop_of_length_le (by rw [h.len]; omega)]; rfl
 have HE:Hid (Hal.nat (l.drop 0)=Hal.nat l):=by show _=_; rw [List.drop_zero]
 clear h;go_enter Tryz.func235,Tryz.ntmps235
 go_wp2;go_loop [3,4] (fun v i=>∃ k:Nat,k<=n/\i = .int .i64 ((k:Int)-1)/\v = .int .i64 ((Hal.nat (l.drop k):Nat):Int)) (fun _ i=>(intOf i+1).toNat)
 case atStart=>exact ⟨n,nlr _,rfl,by rw [H0.out]; rfl⟩
 case round=>
  obtain ⟨k,hk,rfl,rfl⟩:=hrel;by_cases h0:0<k
  ·obtain ⟨j,rfl⟩:∃ j,k=j+1:=⟨k-1,by omega⟩;rw [show (((j+1:Nat):Int)-1)=(j:Int) by omega];obtain ⟨ad,rfl,-,hcell⟩:=H.out j (by omega);have hd:=HD.out j (by omega);have hb:=HB.out j;have hb2:=HB.out (j+1);have hg:=HG.out j;generalize l.getD j 0=x at *;obtain ⟨y,hy⟩:∃ y,Hal.nat (l.drop (j+1))=y:=⟨_,rfl⟩;rw [hy] at hd hb2 ⊢;rw [hd] at hb;have HD2:=hdq hd;have hj:(j:Int)<n:=(by omega);have hj0:(0:Int)<=j:=(by omega);clear hd hy;go_wp2;go_round;case rel=>exact ⟨j,by omega,rfl,by rw [HD2.out]; exact congrArg _ (by omega)⟩
   case measure=>simp [intOf]
  ·(obtain rfl:k=0:=by omega);rw [HE.out];go_wp2;go_ret;exact ⟨rfl,rfl⟩
theorem zId {v:Nat} (hv:v<281474976710656):Hal.Ok [v % 65536,v / 65536 % 65536,v / 65536 / 65536]/\Hal.nat [v % 65536,v / 65536 % 65536,v / 65536 / 65536]=v:=by
 constructor
 ·intro d hd;simp at hd;simp only [Hal.base];omega
 ·simp only [Hal.nat,Hal.base]; omega
theorem HAt.block3 {f:Nat × Nat} (hb:B<=b) (ho:Hal.Ok l) (hl:l.length<=9223372036854775807)
  (h:w.heap[b]?=some (.cells (hv l).toArray t f)):HAt w (New B) (some ⟨b,0,none⟩) l.length l.length l:=
 ⟨rfl,nlr _,hl,ho,fun k hk=>⟨_,rfl,hb,by
  have:(⟨b,0,none⟩:Addr).add k=⟨b,k,none⟩:=by unfold Addr.add; split <;> simp_all
  rw [this];simp [World.cell?,h,hv,hk]⟩⟩
theorem zEO (v:Nat) (hv:v<281474976710656) (w:World) :
  Calls Tryz.prog 234 #[.int .i64 (v:Int)] w fun e w'=>HRet w v e w'/\Below w w w':=by
 obtain ⟨ho,hn⟩:=zId hv;have e1:(v:Int) / 65536 % 65536=((v / 65536 % 65536:Nat):Int):=by omega
 have HO:=hdq ho;have HN:=hdq hn;have q1:(v:Int) / 65536<=4294967295:=by omega
 have q2:0<=(v:Int) / 65536:=by omega
 have q3:(v:Int) / 65536 / 65536<=65535:=by omega
 have q4:0<=(v:Int) / 65536 / 65536:=by omega
 clear ho hn hv e1;go_enter Tryz.func234,Tryz.ntmps234
 go_wp2_with fail
 have e1:(v:Int) % 65536=((v % 65536:Nat):Int):=by omega
 have e2:(v:Int) / 65536 % 65536=((v / 65536 % 65536:Nat):Int):=by omega
 have e3:(v:Int) / 65536 / 65536=((v / 65536 / 65536:Nat):Int):=by omega
 rw [e1,e2,e3];clear e1 e2 e3 q1 q2 q3 q4;have hb:(w.alloc (.cells #[.int .i64 ((v % 65536:Nat):Int),.int .i64 ((v / 65536 % 65536:Nat):Int),.int .i64 ((v / 65536 / 65536:Nat):Int)] 3)).heap[w.heap.size]?=some (.cells (hv [v % 65536,v / 65536 % 65536,v / 65536 / 65536]).toArray 3 (0,0)):=zAd _ _ rfl;have al:Below w w (w.alloc (.cells #[.int .i64 ((v % 65536:Nat):Int),.int .i64 ((v / 65536 % 65536:Nat):Int),.int .i64 ((v / 65536 / 65536:Nat):Int)] 3)):=bal;have hA:=HAt.block3 (B:=w) (nlr _) HO.out (by simp) hb;have ht:=hA.trim;rw [Hal.trim_eq_words HO.out,HN.out] at ht;refine (zAK hA).mono ?_;rintro e w1 ⟨rfl,rfl⟩;rw [Hal.trim_eq_words HO.out,HN.out];have HT:=hdq ht;clear hb hA ht;go_wp2;go_ret;exact ⟨⟨_,_,_,rfl,(fun h=>by cases h),HT.out⟩,al⟩
theorem zCj (l:List Nat) (hN:l.length<=N):Hal.nat ((List.range N).map fun i=>l.getD i 0)=Hal.nat l:=by
 rw [show N=l.length+(N-l.length) by omega]; exact zGy l _
theorem zIp {b:List Nat} (oa:Hal.Ok a) (ha:a.length<=N) (hb:b.length<=N) (hk:k<N) (hd:∀ j,k<j->j<N->a.getD j 0=b.getD j 0) (h:a.getD k 0<b.getD k 0):Hal.nat a<Hal.nat b:=by
 rw [<-zCj a ha,<-zCj b hb]
 have split:∀ f:Nat->Nat,Hal.nat ((List.range N).map f)=Hal.nat ((List.range k).map f)+65536 ^ k*(f k+65536*Hal.nat ((List.range (N-k-1)).map fun i=>f (k+1+i))):=fun f=>by
  have e:List.range N=List.range k++(k :: (List.range (N-k-1)).map fun i=>k+1+i):=by
   apply List.ext_getElem
   ·simp; omega
   ·intro i h1 h2;simp only [List.getElem_range];by_cases hi:i<k
    ·rw [List.getElem_append_left (by simpa using hi)]; simp
    ·rw [List.getElem_append_right (by simpa using Nat.le_of_not_lt hi)];simp only [List.length_range];by_cases e:i=k
     ·subst e; simp
     ·obtain ⟨d,rfl⟩:∃ d,i=k+1+d:=⟨i-k-1,by omega⟩;simp [show k+1+d-k=d+1 by omega]
  rw [e,List.map_append,Hal.nat_append];simp [Hal.nat,Hal.base,List.map_map,Function.comp_def]
 rw [split,split]
 have h1:=Hal.nat_lt (l:=(List.range k).map fun i=>a.getD i 0) (fun x hx=>by
  obtain ⟨i,_,rfl⟩:=List.mem_map.1 hx;exact zBC oa i)
 simp only [List.length_map,List.length_range,Hal.base] at h1;have e2:(List.range (N-k-1)).map (fun i=>a.getD (k+1+i) 0)=(List.range (N-k-1)).map fun i=>b.getD (k+1+i) 0:=List.map_congr_left fun i hi=>hd _ (by omega) (by have:=List.mem_range.1 hi; omega)
 rw [e2];generalize Hal.nat ((List.range k).map fun i=>a.getD i 0)=x at *;generalize Hal.nat ((List.range k).map fun i=>b.getD i 0)=y at *;generalize 65536*Hal.nat ((List.range (N-k-1)).map fun i=>b.getD (k+1+i) 0)=z at *;generalize 65536 ^ k=p at *;generalize a.getD k 0=u at *;generalize b.getD k 0=v at *;have:p*(u+1+z)<=p*(v+z):=Nat.mul_le_mul_left _ (by omega);have e:p*(u+1+z)=p*(u+z)+p:=by grind
 omega
theorem zE1 {B:Option Addr} {b:List Nat} (ha:HAt w X A n c a) (hb:HAt w Y B m d b) :
  Calls Tryz.prog 225 #[.slice A n c,.slice B m d] w fun e w'=>e = .returned (.int .i64 (cmpN (Hal.nat a) (Hal.nat b)))/\w=w':=by
 have hc:=ha.cap;have hd:=hb.cap;have hn:=ha.le;have hm:=hb.le;have HA:=hdq ha;have HB:=hdq hb;obtain ⟨N,hN⟩:∃ N,N=max n m:=⟨_,rfl⟩;have hmax:max (n:Int) (m:Int)=(N:Int):=by omega
 have hNc:N<=9223372036854775807:=by omega
 have LA:Hid (a.length<=N):=by show _<=_; rw [ha.len]; omega
 have LB:Hid (b.length<=N):=by show _<=_; rw [hb.len]; omega
 clear ha hb hN;go_enter Tryz.func225,Tryz.ntmps225
 go_wp2;go_loop [5] (fun i=>∃ k:Nat,k<=N/\i = .int .i64 ((k:Int)-1)/\Hid (∀ j,k<=j->j<N->a.getD j 0=b.getD j 0)) (fun i=>(intOf i+1).toNat)
 case atStart=>exact ⟨N,nlr _,rfl,fun j h1 h2=>absurd h2 (by omega)⟩
 case round=>
  obtain ⟨k,hk,rfl,hT⟩:=hrel;by_cases h0:0<k
  ·obtain ⟨j,rfl⟩:∃ j,k=j+1:=⟨k-1,by omega⟩;rw [show (((j+1:Nat):Int)-1)=(j:Int) by omega];have hj0:(0:Int)<=j:=(by omega);have HC1:Hid (Calls Tryz.prog 227 #[.slice A n c,.int .i64 (j:Int)] w fun e w'=>e = .returned (.int .i64 ((a.getD j 0:Nat):Int))/\w=w'):=zBY HA.out;have HC2:Hid (Calls Tryz.prog 227 #[.slice B m d,.int .i64 (j:Int)] w fun e w'=>e = .returned (.int .i64 ((b.getD j 0:Nat):Int))/\w=w'):=zBY HB.out;have Hlt:Hid (a.getD j 0<b.getD j 0->Hal.nat a<Hal.nat b):=(fun h=>zIp HA.out.ok LA.out LB.out (by omega) (fun i h1 h2=>hT.out i h1 h2) h);have Hgt:Hid (b.getD j 0<a.getD j 0->Hal.nat b<Hal.nat a):=fun h=>zIp HB.out.ok LB.out LA.out (by omega) (fun i h1 h2=>(hT.out i h1 h2).symm) h
   have HT2:Hid (a.getD j 0=b.getD j 0->∀ i,j<=i->i<N->a.getD i 0=b.getD i 0):=fun h i h1 h2=>by
    by_cases e:i=j
    ·subst e; exact h
    ·exact hT.out i (by omega) h2
   clear hT;generalize a.getD j 0=x at *;generalize b.getD j 0=y at *;rcases Nat.lt_trichotomy x y with hxy | hxy | hxy
   ·have n3:decide (x<y)=true:=by simp; omega
    have hres:Hid (cmpN (Hal.nat a) (Hal.nat b)=-1):=by show _=_; rw [cmpN,if_pos (Hlt.out hxy)]
    (go_wp2_with fail);refine HC1.out.mono ?_; rintro e w' ⟨rfl,rfl⟩
    (go_wp2_with fail);refine HC2.out.mono ?_; rintro e w' ⟨rfl,rfl⟩
    go_wp2;go_ret;exact ⟨zAz hres.out.symm,rfl⟩
   ·subst hxy;have HT3:=hdq (HT2.out rfl);clear HT2 Hlt Hgt;(go_wp2_with fail);refine HC1.out.mono ?_; rintro e w' ⟨rfl,rfl⟩
    (go_wp2_with fail);refine HC2.out.mono ?_; rintro e w' ⟨rfl,rfl⟩
    (go_wp2_with fail);refine HC1.out.mono ?_; rintro e w' ⟨rfl,rfl⟩
    (go_wp2_with fail);refine HC2.out.mono ?_; rintro e w' ⟨rfl,rfl⟩
    go_wp2;go_round;case rel=>exact ⟨j,by omega,rfl,HT3.out⟩
    case measure=>simp [intOf]
   ·have n3:decide (x<y)=false:=by simp; omega
    have hres:Hid (cmpN (Hal.nat a) (Hal.nat b)=1):=by show _=_; have:=Hgt.out hxy; rw [cmpN,if_neg (by omega),if_pos this]
    (go_wp2_with fail);refine HC1.out.mono ?_; rintro e w' ⟨rfl,rfl⟩
    (go_wp2_with fail);refine HC2.out.mono ?_; rintro e w' ⟨rfl,rfl⟩
    (go_wp2_with fail);refine HC1.out.mono ?_; rintro e w' ⟨rfl,rfl⟩
    (go_wp2_with fail);refine HC2.out.mono ?_; rintro e w' ⟨rfl,rfl⟩
    go_wp2;go_ret;exact ⟨zAz hres.out.symm,rfl⟩
  ·obtain rfl:k=0:=by omega
   have hres:Hid (cmpN (Hal.nat a) (Hal.nat b)=0):=by
    show _=_
    have:Hal.nat a=Hal.nat b:=by
     rw [<-zCj a LA.out,<-zCj b LB.out];congr 1;exact List.map_congr_left fun i hi=>hT.out i (nzl _) (List.mem_range.1 hi)
    rw [cmpN,if_neg (by omega),if_neg (by omega)]
   clear hT;go_wp2;go_ret;exact ⟨zAz hres.out.symm,rfl⟩
def hpre (l:List Nat) (k:Nat):List Nat:=(List.range k).map fun i=>l.getD i 0
theorem zEi (l:List Nat) (k:Nat):Hal.nat (hpre l (k+1))=Hal.nat (hpre l k)+65536 ^ k*l.getD k 0:=by
 unfold hpre;rw [List.range_succ,List.map_append,Hal.nat_append];simp [Hal.nat,Hal.base]
theorem zEh (h:l.length<=k):Hal.nat (hpre l k)=Hal.nat l:=zCj l h
def TiLoop (w:World) (b:List Nat) (m:Nat) (out cv iv:Value) (W:World):Prop:=
 ∃ (k cy:Nat) (o:List Nat),k<=b.length+1/\(k=b.length+1->cy=0)/\iv = .int .i64 (k:Int)/\cv = .int .i64 (cy:Int)/\cy<=65535/\o.length=k/\Hal.Ok o/\W.ownsRow w 3 1 out k (hv o)/\Hal.nat o+65536 ^ k*cy=Hal.nat (hpre b k)*m/\Below w w W
theorem zH1 {o:List Nat} {y cy:Nat} (ho:o.length=k) (h:Hal.nat o+65536 ^ k*cy=x*m) (hy:y=x+65536 ^ k*d):Hal.nat (o++[(d*m+cy) % 65536])+65536 ^ (k+1)*((d*m+cy) / 65536)=y*m:=by
 rw [Hal.nat_snoc,ho,hy,Nat.add_mul,<-h];have e:=Nat.mod_add_div (d*m+cy) 65536;have e2:65536 ^ (k+1)*((d*m+cy) / 65536)=65536 ^ k*(65536*((d*m+cy) / 65536)):=by rw [Nat.pow_succ,Nat.mul_assoc]
 show Hal.nat o+65536 ^ k*_+_=_;rw [e2,Nat.add_assoc,<-Nat.mul_add,e];grind
theorem zDN {b:List Nat} (h:HAt w X A n c b) (hn:n<=1000000000000) (hm:m<=65536) :
  Calls Tryz.prog 236 #[.slice A n c,.int .i64 (m:Int)] w fun e w'=>HRet w (Hal.nat b*m) e w'/\Below w w w':=by
 obtain ⟨i0,hi,hz0,hz1,hz2⟩:=info_parts zCk;have hcap:=h.cap;have H:=hdq h;have HL:=hdq h.len;clear h;go_enter Tryz.func236,Tryz.ntmps236
 go_wp2;go_loopw [5,6,7] (fun out cv iv W=>TiLoop w b m out cv iv W) (fun _ _ iv _=>n+2-(intOf iv).toNat)
 case atStart=>exact ⟨0,0,[],nzl _,fun _=>rfl,rfl,rfl,by omega,rfl,Hal.Ok.nil,⟨rfl,.inl ⟨rfl,rfl⟩⟩,by simp [hpre,Hal.nat],brf _ _⟩
 case round=>
  obtain ⟨k,cy,o,hk,hk1,rfl,rfl,hcy,ho,hok,hown,hnat,hB⟩:=hrel;have hLe:=HL.out;by_cases hgo:k<n\/0<cy
  ·have hkn:k<=n:=by
    rcases hgo with h | h
    ·omega
    ·by_cases e:k=b.length+1
     ·have:=hk1 e; omega
     ·omega
   obtain ⟨d,hd⟩:∃ d,b.getD k 0=d:=⟨_,rfl⟩;have hd1:d<65536:=by rw [<-hd]; exact zBC H.out.ok k
   have HC1:Hid (Calls Tryz.prog 227 #[.slice A n c,.int .i64 (k:Int)] wr fun e w'=>e = .returned (.int .i64 (d:Int))/\wr=w'):=by
    have:=zBY (i:=k) (H.out.below hB);rw [hd] at this; exact this
   obtain ⟨P,hP⟩:∃ P,d*m=P:=⟨_,rfl⟩;have hp:(d:Int)*(m:Int)=(P:Int):=by rw [<-hP]; simp
   have hPb:P<=4294901760:=by
    rw [<-hP];have:=Nat.mul_le_mul (show d<=65535 by omega) hm;omega
   have hstep:=zH1 ho hnat (zEi b k);rw [hd,hP] at hstep
   have hzero:k=b.length->P=0:=fun e=>by
    rw [<-hP,<-hd,gdd,List.getElem?_eq_none (by omega)]; simp
   have HZ:=hdq hzero;have HS:=hdq hstep;have HOk:=hdq hok;have HO:=hdq hown;have Hlo:=hdq ho;have HBd:=hdq hk1;have q1:0<=(P:Int)+(cy:Int):=(by omega);have q2:(P:Int)+(cy:Int)<=4294967295:=(by omega);clear hok hown hnat hstep hd hP ho hk1 hzero hLe
   have Hfin:Hid (∀ v' W5,W5.ownsRow w 3 1 v' (k+1) (hv o++[.int .i64 (((P:Int)+(cy:Int)) % 65536)])->Below w w W5->TiLoop w b m v' (.int .i64 (((P:Int)+(cy:Int)) / 65536)) (.int .i64 ((k:Int)+1)) W5):=fun v' W5 h1 h2=>
    ⟨k+1,(P+cy) / 65536,o++[(P+cy) % 65536],by have:=HL.out; omega,fun e=>by have:=HZ.out (by omega); omega,by simp,by congr 1,by omega,by rw [List.length_append,Hlo.out]; rfl,HOk.out.append (Hal.Ok.cons (by simp only [Hal.base]; omega) Hal.Ok.nil),by
     rw [zC0];have e:hv [(P+cy) % 65536]=[.int .i64 (((P:Int)+(cy:Int)) % 65536)]:=(by simp [hv]);rw [e]; exact h1,HS.out,h2⟩
   have hrow:∀ j,Value.ownBlock u5=some j->w.heap.size<=j:=(fun j hj=>(zAc HO.out hj).1);have hBs:=hB.size;by_cases hlt:k<n
   ·have hlti:(k:Int)<(n:Int):=(by omega);(go_wp2_with fail);refine HC1.out.mono ?_; rintro e w' ⟨rfl,rfl⟩
    (go_wp2_with (at_builtin; refine wpList_append_own _ rfl _ _ 48 rfl w 3 i0 (.int .i64 0) 1 8 Tryz.underlying48 hi hz0 hz1 hz2 rfl (by decide) _ k (hv o) rfl (HO.out.alloc _) ⟨wr,0,none⟩ 1 1 [.int .i64 (((P:Int)+(cy:Int)) % 65536)] rfl rfl (cell_one_new' _ _ _) (by intro u hu; simp at hu; subst hu; rfl) (by simp [maxLen]; omega) (by omega) (by simp; omega) ?_));intro v' W5 hown5 hg5 hnil5;have hB5:Below w w W5:=(hB.alloc hBs _).grown hg5 (by simp; omega) hrow;have HF2:=hdq (Hfin.out v' W5 hown5 hB5);clear hown5 hg5 hnil5 hB5 Hfin hrow hB;go_wp2;go_roundw;case rel=>first | exact HF2.out | ((repeat apply Exists.intro); exact ⟨HF2.out,rfl⟩)
    case measure=>simp [intOf]; omega
   ·have hlti:¬ (k:Int)<(n:Int):=(by omega);have hcp:0<cy:=hgo.resolve_left hlt;have hcpi:(0:Int)<(cy:Int):=(by omega);(go_wp2_with fail);refine HC1.out.mono ?_; rintro e w' ⟨rfl,rfl⟩
    (go_wp2_with (at_builtin; refine wpList_append_own _ rfl _ _ 48 rfl w 3 i0 (.int .i64 0) 1 8 Tryz.underlying48 hi hz0 hz1 hz2 rfl (by decide) _ k (hv o) rfl (HO.out.alloc _) ⟨wr,0,none⟩ 1 1 [.int .i64 (((P:Int)+(cy:Int)) % 65536)] rfl rfl (cell_one_new' _ _ _) (by intro u hu; simp at hu; subst hu; rfl) (by simp [maxLen]; omega) (by omega) (by simp; omega) ?_));intro v' W5 hown5 hg5 hnil5;have hB5:Below w w W5:=(hB.alloc hBs _).grown hg5 (by simp; omega) hrow;have HF2:=hdq (Hfin.out v' W5 hown5 hB5);clear hown5 hg5 hnil5 hB5 Hfin hrow hB;go_wp2;go_roundw;case rel=>first | exact HF2.out | ((repeat apply Exists.intro); exact ⟨HF2.out,rfl⟩)
    case measure=>simp [intOf]; omega
  ·have hkn:¬ k<n:=(fun h=>hgo (.inl h));have hc0:¬ 0<cy:=(fun h=>hgo (.inr h));have hkni:¬ (k:Int)<(n:Int):=(by omega);have hc0i:¬ (0:Int)<(cy:Int):=(by omega);(obtain rfl:cy=0:=by omega);rw [zEh (by omega)] at hnat;obtain ⟨A',c',rfl,hnn,hd⟩:=zCB hown hok;have Hd:=hdq hd;have ht:=hd.trim;have e1:=Hal.trim_eq_words hok;rw [show Hal.nat o=Hal.nat b*m by omega] at e1;rw [e1] at ht;have Ht:=hdq ht;have E1:=hdq e1;clear hd hown ht e1 hok hnat hgo ho hk1;(go_wp2_with fail);refine (zAK Hd.out).mono ?_;rintro e w1 ⟨rfl,rfl⟩;rw [E1.out];go_wp2;go_ret;exact ⟨⟨_,_,_,rfl,hnn,Ht.out⟩,hB⟩
def SuLoop (w:World) (n:Nat) (a b:List Nat) (out lv iv:Value) (W:World):Prop:=
 ∃ (k ln:Nat) (o:List Nat),k<=n/\iv = .int .i64 (k:Int)/\lv = .int .i64 (ln:Int)/\ln<=1/\o.length=k/\Hal.Ok o/\W.ownsRow w 3 1 out k (hv o)/\Hal.nat o+Hal.nat (hpre b k)=Hal.nat (hpre a k)+65536 ^ k*ln/\Below w w W
theorem zJy {o:List Nat} {y x' y' ln ln' d1 d2 v:Nat} (ho:o.length=k) (h:Hal.nat o+y=x+65536 ^ k*ln) (hx:x'=x+65536 ^ k*d1) (hy:y'=y+65536 ^ k*d2) (hv:v+d2+ln=d1+65536*ln'):Hal.nat (o++[v])+y'=x'+65536 ^ (k+1)*ln':=by
 rw [Hal.nat_snoc,ho,hx,hy];have e2:65536 ^ (k+1)*ln'=65536 ^ k*(65536*ln'):=by rw [Nat.pow_succ,Nat.mul_assoc]
 have e3:=congrArg (65536 ^ k*·) hv;simp only [Nat.mul_add] at e3;show Hal.nat o+65536 ^ k*v+_=_;rw [e2];omega
theorem zHS {B:Option Addr} {b:List Nat} (ha:HAt w X A n c a) (hb:HAt w Y B m c2 b) (hn:n<=1000000000000) (hmn:m<=n) (hle:Hal.nat b<=Hal.nat a) :
  Calls Tryz.prog 224 #[.slice A n c,.slice B m c2] w fun e w'=>HRet w (Hal.nat a-Hal.nat b) e w'/\Below w w w':=by
 obtain ⟨i0,hi,hz0,hz1,hz2⟩:=info_parts zCk;have hcap:=ha.cap;have hcap2:=hb.cap;have HA:=hdq ha;have HB:=hdq hb;have LA:=hdq ha.len;have LB:=hdq hb.len;have HLe:=hdq hle;clear ha hb hle;go_enter Tryz.func224,Tryz.ntmps224
 go_wp2;go_loopw [5,6,7] (fun out lv iv W=>SuLoop w n a b out lv iv W) (fun _ _ iv _=>n-(intOf iv).toNat)
 case atStart=>exact ⟨0,0,[],nzl _,rfl,rfl,by omega,rfl,Hal.Ok.nil,⟨rfl,.inl ⟨rfl,rfl⟩⟩,by simp [hpre,Hal.nat],brf _ _⟩
 case round=>
  obtain ⟨k,ln,o,hk,rfl,rfl,hln,ho,hok,hown,hnat,hB⟩:=hrel;by_cases hlt:k<n
  ·obtain ⟨d1,hd1⟩:∃ d,a.getD k 0=d:=⟨_,rfl⟩;obtain ⟨d2,hd2⟩:∃ d,b.getD k 0=d:=⟨_,rfl⟩;have hb1:d1<65536:=by rw [<-hd1]; exact zBC HA.out.ok k
   have hb2:d2<65536:=by rw [<-hd2]; exact zBC HB.out.ok k
   have HC1:Hid (Calls Tryz.prog 227 #[.slice A n c,.int .i64 (k:Int)] wr fun e w'=>e = .returned (.int .i64 (d1:Int))/\wr=w'):=by
    have:=zBY (i:=k) (HA.out.below hB);rw [hd1] at this; exact this
   have HC2:Hid (Calls Tryz.prog 227 #[.slice B m c2,.int .i64 (k:Int)] wr fun e w'=>e = .returned (.int .i64 (d2:Int))/\wr=w'):=by
    have:=zBY (i:=k) (HB.out.below hB);rw [hd2] at this; exact this
   have HS:Hid (∀ v ln':Nat,v+d2+ln=d1+65536*ln'->Hal.nat (o++[v])+Hal.nat (hpre b (k+1))=Hal.nat (hpre a (k+1))+65536 ^ (k+1)*ln'):=(fun v ln' h=>zJy ho hnat (by rw [zEi,hd1]) (by rw [zEi,hd2]) h);have HOk:=hdq hok;have HO:=hdq hown;have Hlo:=hdq ho;have hBs:=hB.size;have hrow:∀ j,Value.ownBlock u5=some j->w.heap.size<=j:=fun j hj=>(zAc HO.out hj).1
   have HFin:Hid (∀ (v ln':Nat) (z l:Int),v<65536->ln'<=1->v+d2+ln=d1+65536*ln'->z=v->l=ln'->∀ v' W5,W5.ownsRow w 3 1 v' (k+1) (hv o++[.int .i64 z])->Below w w W5->SuLoop w n a b v' (.int .i64 l) (.int .i64 ((k:Int)+1)) W5):=by
    intro v ln' z l h1 h2 h3 h4 h5 v' W5 g1 g2;subst h4;subst h5
    exact ⟨k+1,ln',o++[v],by omega,by simp,rfl,h2,by rw [List.length_append,Hlo.out]; rfl,HOk.out.append (Hal.Ok.cons h1 Hal.Ok.nil),by
     rw [zC0]; exact g1,HS.out v ln' h3,g2⟩
   have hlti:(k:Int)<(n:Int):=(by omega);have q1:-65536<=(d1:Int)-(d2:Int):=(by omega);have q2:(d1:Int)-(d2:Int)<=65536:=(by omega);have q3:-65537<=(d1:Int)-(d2:Int)-(ln:Int):=(by omega);have q4:(d1:Int)-(d2:Int)-(ln:Int)<=65536:=(by omega);clear hok hown hnat hd1 hd2 ho;by_cases hneg:(d1:Int)-(d2:Int)-(ln:Int)<0
   ·have Hfin:Hid (∀ v' W5,W5.ownsRow w 3 1 v' (k+1) (hv o++[.int .i64 ((d1:Int)-(d2:Int)-(ln:Int)+65536)])->Below w w W5->SuLoop w n a b v' (.int .i64 1) (.int .i64 ((k:Int)+1)) W5):=
     HFin.out (d1+65536-d2-ln) 1 _ _ (by omega) (by omega) (by omega) (by omega) rfl
    clear HFin;(go_wp2_with fail);refine HC1.out.mono ?_; rintro e w' ⟨rfl,rfl⟩
    (go_wp2_with fail);refine HC2.out.mono ?_; rintro e w' ⟨rfl,rfl⟩
    (go_wp2_with (at_builtin; refine wpList_append_own _ rfl _ _ 48 rfl w 3 i0 (.int .i64 0) 1 8 Tryz.underlying48 hi hz0 hz1 hz2 rfl (by decide) _ k (hv o) rfl (HO.out.alloc _) ⟨wr,0,none⟩ 1 1 [.int .i64 ((d1:Int)-(d2:Int)-(ln:Int)+65536)] rfl rfl (cell_one_new' _ _ _) (by intro u hu; simp at hu; subst hu; rfl) (by simp [maxLen]; omega) (by omega) (by simp; omega) ?_));intro v' W5 hown5 hg5 hnil5;have hB5:Below w w W5:=(hB.alloc hBs _).grown hg5 (by simp; omega) hrow;have HF2:=hdq (Hfin.out v' W5 hown5 hB5);clear hown5 hg5 hnil5 hB5 Hfin hrow hB;go_wp2;go_roundw;case rel=>first | exact HF2.out | ((repeat apply Exists.intro); exact ⟨HF2.out,rfl⟩)
    case measure=>simp [intOf]; omega
   ·have hge:0<=(d1:Int)-(d2:Int)-(ln:Int):=by omega
    have Hfin:Hid (∀ v' W5,W5.ownsRow w 3 1 v' (k+1) (hv o++[.int .i64 ((d1:Int)-(d2:Int)-(ln:Int))])->Below w w W5->SuLoop w n a b v' (.int .i64 0) (.int .i64 ((k:Int)+1)) W5):=
     HFin.out (d1-d2-ln) 0 _ _ (by omega) (by omega) (by omega) (by omega) rfl
    clear HFin;(go_wp2_with fail);refine HC1.out.mono ?_; rintro e w' ⟨rfl,rfl⟩
    (go_wp2_with fail);refine HC2.out.mono ?_; rintro e w' ⟨rfl,rfl⟩
    (go_wp2_with (at_builtin; refine wpList_append_own _ rfl _ _ 48 rfl w 3 i0 (.int .i64 0) 1 8 Tryz.underlying48 hi hz0 hz1 hz2 rfl (by decide) _ k (hv o) rfl (HO.out.alloc _) ⟨wr,0,none⟩ 1 1 [.int .i64 ((d1:Int)-(d2:Int)-(ln:Int))] rfl rfl (cell_one_new' _ _ _) (by intro u hu; simp at hu; subst hu; rfl) (by simp [maxLen]; omega) (by omega) (by simp; omega) ?_));intro v' W5 hown5 hg5 hnil5;have hB5:Below w w W5:=(hB.alloc hBs _).grown hg5 (by simp; omega) hrow;have HF2:=hdq (Hfin.out v' W5 hown5 hB5);clear hown5 hg5 hnil5 hB5 Hfin hrow hB;go_wp2;go_roundw;case rel=>first | exact HF2.out | ((repeat apply Exists.intro); exact ⟨HF2.out,rfl⟩)
    case measure=>simp [intOf]; omega
  ·(obtain rfl:k=n:=by omega);rw [zEh (l:=b) (by rw [LB.out]; omega),zEh (l:=a) (by rw [LA.out]; exact nlr _)] at hnat;have hol:=Hal.nat_lt hok;rw [ho] at hol
   have hln0:ln=0:=by
    rcases (by omega:ln=0\/ln=1) with h | h
    ·exact h
    ·rw [h] at hnat;have:=HLe.out;simp only [Hal.base] at hol;omega
   have hres:Hal.nat o=Hal.nat a-Hal.nat b:=by rw [hln0] at hnat; omega
   obtain ⟨A',c',rfl,hnn,hd⟩:=zCB hown hok;have Hd:=hdq hd;have ht:=hd.trim;have e1:=Hal.trim_eq_words hok;rw [hres] at e1;rw [e1] at ht;have Ht:=hdq ht;have E1:=hdq e1;clear hd hown ht e1 hok hnat ho hres hol hln0;(go_wp2_with fail);refine (zAK Hd.out).mono ?_;rintro e w1 ⟨rfl,rfl⟩;rw [E1.out];go_wp2;go_ret;exact ⟨⟨_,_,_,rfl,hnn,Ht.out⟩,hB⟩
def DivRet (w:World) (q r:Nat) (e:Ending) (w':World):Prop:=
 ∃ A1 n1 c1 A2 n2 c2,e = .returned (.tuple #[.slice A1 n1 c1,.slice A2 n2 c2])/\HAt w' (New w) A1 n1 c1 (Hal.words q)/\HAt w' (New w) A2 n2 c2 (Hal.words r)
theorem HAt.low (h:HAt w (New B) A n c l) (hB:B'<=B):HAt w (New B') A n c l:=h.imp fun _ _ hb=>nlt hB hb
theorem zKf (h:(Hal.words x).length<=n):x<65536 ^ n:=ltl (Hal.lt_words_length x) (Nat.pow_le_pow_right (by decide) h)
theorem zGG {B:Option Addr} {y:Nat} (ha:HAt w X A n c (Hal.words x)) (hb:HAt w Y B m d (Hal.words y)) (hy:0<y) (hn:n<=3) (hm:m<=3) :
  Calls Tryz.prog 222 #[.slice A n c,.slice B m d] w fun e w'=>DivRet w (x / y) (x % y) e w'/\Below w w w':=by
 have hx48:x<281474976710656:=ltl (zKf (n:=3) (by rw [ha.len]; exact hn)) (by decide);have hy48:y<281474976710656:=ltl (zKf (n:=3) (by rw [hb.len]; exact hm)) (by decide);have hq48:x / y<281474976710656:=Nat.lt_of_le_of_lt (Nat.div_le_self _ _) hx48;have hr48:x % y<281474976710656:=Nat.lt_of_le_of_lt (Nat.mod_le _ _) hx48;have HA:=hdq ha;have HB:=hdq hb
 have HS1:Hid (∀ w',Below w w w'->Calls Tryz.prog 235 #[.slice A n c] w' fun e w''=>e = .returned (.int .i64 ((x:Nat):Int))/\w'=w''):=fun w' h=>by
  have:=zDM (ha.below h) hn;rw [Hal.nat_words] at this; exact this
 have HS2:Hid (∀ w',Below w w w'->Calls Tryz.prog 235 #[.slice B m d] w' fun e w''=>e = .returned (.int .i64 ((y:Nat):Int))/\w'=w''):=fun w' h=>by
  have:=zDM (hb.below h) hm;rw [Hal.nat_words] at this; exact this
 have hni:(n:Int)<=3:=by omega
 have hmi:(m:Int)<=3:=by omega
 have hy0:¬ (y=0):=by omega
 have HQ:=hdq hq48;have HR:=hdq hr48;have q1:(x:Int)<=9223372036854775807:=by omega
 have q2:0<=(x:Int) / (y:Int):=Int.ediv_nonneg (by omega) (by omega)
 have q3:(x:Int) / (y:Int)<=9223372036854775807:=by
  rw [show (x:Int) / (y:Int)=((x / y:Nat):Int) from rfl]; omega
 clear ha hb hx48 hy48 hq48 hr48;go_enter Tryz.func222,Tryz.ntmps222
 go_wp2_with fail
 refine (HS1.out _ (brf _ _)).mono ?_; rintro e w1 ⟨rfl,rfl⟩
 go_wp2_with fail
 refine (HS2.out _ (brf _ _)).mono ?_; rintro e w1 ⟨rfl,rfl⟩
 go_wp2_with fail
 rw [show (x:Int) / (y:Int)=((x / y:Nat):Int) from rfl];refine (zEO (x / y) HQ.out _).mono ?_; rintro e w1 ⟨⟨A1,n1,c1,rfl,-,h1⟩,hb1⟩
 have H1:=hdq h1;clear h1;go_wp2_with fail
 refine (HS1.out _ hb1).mono ?_; rintro e w2 ⟨rfl,rfl⟩
 go_wp2_with fail
 refine (HS2.out _ hb1).mono ?_; rintro e w2 ⟨rfl,rfl⟩
 go_wp2_with fail
 rw [show (x:Int) % (y:Int)=((x % y:Nat):Int) from rfl];refine (zEO (x % y) HR.out _).mono ?_; rintro e w2 ⟨⟨A2,n2,c2,rfl,-,h2⟩,hb2⟩
 have H2:Hid (DivRet w (x / y) (x % y) (.returned (.tuple #[.slice A1 n1 c1,.slice A2 n2 c2])) w2):=⟨_,_,_,_,_,_,rfl,H1.out.below hb2,h2.low hb1.size⟩;have hbf:=hb1.trans (hb2.mono hb1.size);clear h2;go_wp2;go_ret2;exact ⟨H2.out,hbf⟩
def zeroH (n:Nat):Array Value:=madeCells #[Value.int .i64 0] n
theorem zJC (n:Nat):zeroH n=(hv (List.replicate n 0)).toArray:=by
 apply Array.ext
 ·simp [zeroH,madeCells,hv]
 ·intro k h1 h2;simp only [zeroH,madeCells,Array.getElem_map,Array.getElem_range]
  rw [show #[Value.int .i64 0][k % #[Value.int IntKind.i64 0].size]! = Value.int .i64 0 by
   show #[Value.int .i64 0][k % 1]! = _;rw [show k % 1=0 by omega]; rfl]
  simp [hv]
theorem zE4 (n:Nat) (hn:n<=1000000) (w:World) :
  (Instr.makeSlice 48 (.int .i64 (n:Int)) (.int .i64 (n:Int))).run Tryz.prog w = .ok (.slice (some w) n n) (w.alloc (.cells (hv (List.replicate n 0)).toArray 3)):=by
 obtain ⟨i0,hi,hz0,hz1,hz2⟩:=info_parts zCk;have hr:=run_make (P:=Tryz.prog) w 48 3 i0 (.int .i64 0) Tryz.underlying48 hi hz0 .i64 .i64 n n (by omega) (by omega) (by rw [hz2]; omega) (by omega);rw [hz1] at hr;rw [<-zJC];simpa [zeroH,Value.cells] using hr
structure HArr (W:World) (g n:Nat) (ql:List Nat):Prop where
 len:ql.length=n
 ok:Hal.Ok ql
 blk:W.heap[g]?=some (.cells (hv ql).toArray 3 (0,0))
theorem HArr.cells (h:HArr W g n ql):(∀ j,j<n->W.cell? ⟨g,j,none⟩=some (.int .i64 ((ql.getD j 0:Nat):Int)))/\∀ o,W.frozen? ⟨g,o,none⟩=false:=
 ⟨fun j hj=>by simp [World.cell?,h.blk,hv,h.len,hj],fun o=>by simp [World.frozen?,h.blk]⟩
theorem HArr.keep (h:HArr W g n ql) (hk:W'.heap[g]?=W.heap[g]?):HArr W' g n ql:=⟨h.len,h.ok,hk.trans h.blk⟩
theorem zKe (l:List Nat) (j x:Nat):(hv l).set j (.int .i64 ((x:Nat):Int))=hv (l.set j x):=by simp [hv,List.map_set]
theorem HArr.set (h:HArr W g n ql) (hx:x<65536):HArr (W.setCell ⟨g,j,none⟩ (.int .i64 ((x:Nat):Int))) g n (ql.set j x):=
 ⟨by rw [List.length_set]; exact h.len,fun y hy=>by
  rcases List.mem_or_eq_of_mem_set hy with h1 | rfl
  ·exact h.ok y h1
  ·exact hx,by
  rw [zAe _ h.blk,<-zKe]; simp⟩
theorem HArr.hat (h:HArr W g n ql) (hB:B<=g) (hn:n<=9223372036854775807):HAt W (New B) (some ⟨g,0,none⟩) n n ql:=by
 have:=HAt.block3 hB h.ok (by rw [h.len]; exact hn) h.blk
 rwa [h.len] at this
theorem zDE (hj:j<ql.length):Hal.nat ((ql.set j x).drop j)=x+65536*Hal.nat (ql.drop (j+1)):=by
 rw [zDY (by rw [List.length_set]; exact hj)];congr 1
 ·simp [hj]
 ·congr 2;rw [List.drop_set_of_lt (by omega)]
def SeesC (B:Nat) (gs:List Nat) (W:World) (a:Addr) (v:Value) (w':World):Prop:=Sees B gs W w'/\w'.cell? a=some v
def Di2Loop (w:World) (n b0:Nat) (l:List Nat) (rv iv:Value) (W:World):Prop:=
 ∃ (k r:Nat) (ql:List Nat),k<=n/\iv = .int .i64 ((k:Int)-1)/\rv = .int .i64 (r:Int)/\r<b0/\HArr W w n ql/\Hal.nat (ql.drop k)*b0+r=Hal.nat (l.drop k)/\Below w w W
theorem zGH {B:Option Addr} {y:Nat} (ha:HAt w X A n c (Hal.words x)) (hb:HAt w Y B 1 d (Hal.words y)) (hn3:3<n) (hn:n<=1000000) :
  Calls Tryz.prog 222 #[.slice A n c,.slice B 1 d] w fun e w'=>DivRet w (x / y) (x % y) e w'/\Below w w w':=by
 obtain ⟨bd,eB,-,hbc⟩:=hb.cell 0 (by omega);subst eB;have hcap:=ha.cap;have hd:=hb.cap;have hle:=ha.le;have h1d:=hb.le;obtain ⟨b0,hb0⟩:∃ b0,(Hal.words y).getD 0 0=b0:=⟨_,rfl⟩
 have hy:y=b0/\0<b0/\b0<65536:=by
  have hl:=hb.len
  have e1:Hal.words y=[b0]:=by
   rw [<-hb0]
   match hw:Hal.words y,hl with
   | [z],_=>rfl
  have e2:=Hal.nat_words y;rw [e1] at e2;simp [Hal.nat] at e2;have e3:=Hal.Can.words y;rw [e1] at e3;have e4:=e3 (by simp);simp at e4;have e5:=Hal.Ok.words y;rw [e1] at e5;have e6:=e5 b0 (by simp);exact ⟨e2.symm,by omega,e6⟩
 obtain ⟨rfl,hpos,hlt⟩:=hy;rw [hb0] at hbc;have HA:=hdq ha;have HL:Hid ((Hal.words x).length=n):=ha.len;have hn3i:¬ (n:Int)<=3:=by omega
 have hmk:=zE4 n hn;have HN:=hdq (Hal.nat_words x);have hy0:¬ (y=0):=by omega
 have tb:=zAb hbc;have tbB:bd.block<w:=by rw [zAj] at tb; exact tb
 obtain ⟨l,hl⟩:∃ l,Hal.words x=l:=⟨_,rfl⟩;rw [hl] at HA HL HN;clear ha hb hb0 hl;go_enter Tryz.func222,Tryz.ntmps222
 go_wp2;have H0:Hid (Di2Loop w n y l (.int .i64 0) (.int .i64 ((n:Int)-1)) (w.alloc (.cells (hv (List.replicate n 0)).toArray 3))):=⟨n,0,List.replicate n 0,nlr _,rfl,rfl,hpos,⟨by simp,fun z hz=>by rw [List.eq_of_mem_replicate hz]; decide,zAd _ _ rfl⟩,by rw [List.drop_of_length_le (by simp),List.drop_of_length_le (by rw [HL.out]; exact nlr _)]; simp [Hal.nat],bal⟩;clear hmk;go_loopw [7,8] (fun rv iv W=>Di2Loop w n y l rv iv W) (fun _ iv _=>(intOf iv+1).toNat)
 case atStart=>exact H0.out
 case round=>
  clear H0;obtain ⟨k,r,ql,hk,rfl,rfl,hr,hq,hnat,hB⟩:=hrel;have hbc2:wr.cell? (bd.add 0)=some (.int .i64 (y:Int)):=(hB.cell (p:=bd.add 0) tb).trans hbc;have tb2:=zAb hbc2;by_cases h0:0<k
  ·obtain ⟨j,rfl⟩:∃ j,k=j+1:=⟨k-1,by omega⟩;rw [show (((j+1:Nat):Int)-1)=(j:Int) by omega];obtain ⟨ad,rfl,-,hcell0⟩:=HA.out.cell j (by omega);have hcell:=(hB.cell (p:=ad.add j) (zAb hcell0)).trans hcell0;have ta:=zAb hcell;have hxd:=zBC HA.out.ok j;have hdr:=zDY (l:=l) (k:=j) (by rw [HL.out]; omega);have hsd:=(fun x=>zDE (ql:=ql) (j:=j) (x:=x) (by rw [hq.len]; omega));obtain ⟨a,haj⟩:∃ a,l.getD j 0=a:=⟨_,rfl⟩;rw [haj] at hcell hxd hdr;have hj:(j:Int)<n:=(by omega);have hj0:(0:Int)<=j:=(by omega);have ra0:0<=(r:Int)*65536:=(by omega);have ra1:(r:Int)*65536<=4294901760:=(by omega);have rb0:0<=(r:Int)*65536+(a:Int):=(by omega);have rb1:(r:Int)*65536+(a:Int)<=4294967295:=(by omega);obtain ⟨T,hT⟩:∃ T,r*65536+a=T:=⟨_,rfl⟩;have hTi:(r:Int)*65536+(a:Int)=(T:Int):=by omega
   have hTq:T / y<65536:=by
    rw [Nat.div_lt_iff_lt_mul hpos];have:(r+1)*65536<=y*65536:=Nat.mul_le_mul_right _ (by omega);rw [Nat.mul_comm 65536 y]; omega
   have hstep:Hal.nat ((ql.set j (T / y)).drop j)*y+T % y=Hal.nat (l.drop j):=by
    rw [hsd,hdr,<-hnat,Nat.add_mul];have e1:=Nat.div_add_mod T y;rw [Nat.mul_comm] at e1;have e2:65536*Hal.nat (List.drop (j+1) ql)*y=65536*(Hal.nat (List.drop (j+1) ql)*y):=Nat.mul_assoc _ _ _;omega
   obtain ⟨Qn,hQn⟩:∃ Q,T / y=Q:=⟨_,rfl⟩;obtain ⟨Rn,hRn⟩:∃ R,T % y=R:=⟨_,rfl⟩;have hRlt:Rn<y:=by rw [<-hRn]; exact Nat.mod_lt _ hpos
   rw [hQn] at hTq hstep;rw [hRn] at hstep
   have HE1:Hid (IntKind.i64.wrap ((T:Int) / (y:Int))=(Qn:Int)):=by
    show _=_;rw [show (T:Int) / (y:Int)=((T / y:Nat):Int) from rfl,hQn];exact IntWalk.i64_in _ (by omega)
   have HE2:Hid ((T:Int).tmod (y:Int)=(Rn:Int)):=by
    show _=_;rw [show (T:Int).tmod (y:Int)=((T % y:Nat):Int) from rfl,hRn]
   have HS:=hdq hstep;have HQ:=hdq hq;have HTq:=hdq hTq;obtain ⟨c1,c2⟩:=hq.cells;have c3:=c1 j (by omega);have hql:=zAa hq.blk;have hBs:=hB.size;clear hnat hdr hsd hstep hq haj hT hTq c1 hQn hRn;go_wp2
   have hbc3:wr.drew.cell? bd=some (.int .i64 (y:Int)):=by
    have:=hbc2;rw [add_zero'] at this; exact this
   refine zAp 1000 (fun _ w'=>SeesC w [w.heap.size] wr bd (.int .i64 (y:Int)) w') (by kernel_rfl) ?_;have hS0:SeesC w [w.heap.size] wr bd (.int .i64 (y:Int)) wr.drew:=⟨Sees.st (by simp) hBs,hbc3⟩;refine tx4 0 1 2 3 hS0 ?_;refine tx4 4 7 8 9 hS0 ?_;refine tkE 5 (.int .i64 (y:Int)) (fun w' hSw=>?_) (hS0) ?_
   ·(obtain ⟨_,-,hc2⟩:=hSw; go_simp; try with_reducible rfl)
   simp only [zz];refine tkE 10 (.int .i64 (y:Int)) (fun w' hSw=>?_) (hS0) ?_
   ·(obtain ⟨_,-,hc2⟩:=hSw; go_simp; try with_reducible rfl)
   simp only [zz];refine tx1 6 hS0 ?_;refine tx1 11 hS0 ?_;refine tx1 12 hS0 ?_;rw [HE1.out,HE2.out];refine tk1 13 ?_;intro K hK;go_simp;have hS1:SeesC w [w.heap.size] wr bd (.int .i64 (y:Int)) (wr.setCell ⟨w.heap.size,j,none⟩ (.int .i64 (Qn:Int))).drew:=⟨Sees.d1 hS0.1 (by simp),(show (wr.setCell ⟨w.heap.size,j,none⟩ (.int .i64 (Qn:Int))).cell? bd=_ from (cob (a:=bd) (bhs _ _ _ _ (show bd.block ≠ w.heap.size by omega))).trans hbc3)⟩;refine hK.out _ _ hS1 ?_;clear hK K;refine tx1 14 hS1 ?_;refine zAf (by kernel_rfl) ?_ _;have Hfin:Hid (Di2Loop w n y l (.int .i64 (Rn:Int)) (.int .i64 ((j:Int)-1)) (wr.setCell ⟨w.heap.size,j,none⟩ (.int .i64 (Qn:Int))).drew):=⟨j,Rn,ql.set j Qn,by omega,rfl,rfl,hRlt,(HQ.out.set HTq.out).keep rfl,HS.out,(hB.setCell (p:=⟨w.heap.size,j,none⟩) (nlr _) _).drew⟩;clear hS0 hS1 c2 c3;go_wp2;go_roundw;case rel=>exact fn_ Hfin.out
   case measure=>simp [intOf]
  ·(obtain rfl:k=0:=by omega);rw [List.drop_zero,List.drop_zero,HN.out] at hnat
   have hdm:Hal.nat ql=x / y/\r=x % y:=by
    have e1:=Nat.div_mod_unique (a:=x) (b:=y) (c:=r) (d:=Hal.nat ql) hpos;have:=e1.2 ⟨by rw [Nat.mul_comm y]; omega,hr⟩;exact ⟨this.1.symm,this.2.symm⟩
   have hA:=hq.hat (nlr _) (by omega);have ht:=hA.trim;have e1:=Hal.trim_eq_words hq.ok;rw [hdm.1] at e1;rw [e1] at ht;have HAq:=hdq hA;have E1:=hdq e1;have HT1:=hdq ht
   have HR:Hid (Hal.trim [r]=Hal.words (x % y)):=by
    show _=_;rw [Hal.trim_eq_words (Hal.Ok.cons (by simp only [Hal.base]; omega) Hal.Ok.nil),<-hdm.2];simp [Hal.nat]
   clear hq hA ht e1 hnat hdm;(go_wp2_with fail);refine (zAK HAq.out).mono ?_;rintro e w1 ⟨rfl,rfl⟩;rw [E1.out];(go_wp2_with fail);have al:Below wr wr (wr.alloc (.cells #[.int .i64 (r:Int)] 3)):=bal;have hA2:HAt (wr.alloc (.cells #[.int .i64 (r:Int)] 3)) (New wr) (some ⟨wr,0,none⟩) 1 1 [r]:=HAt.block3 (l:=[r]) (nlr _) (Hal.Ok.cons (by simp only [Hal.base]; omega) Hal.Ok.nil) (by simp) (zAd _ _ rfl);refine (zAK hA2).mono ?_;rintro e w1 ⟨rfl,rfl⟩;have ht2:=hA2.trim;rw [HR.out] at ht2 ⊢;have H2:Hid (DivRet w (x / y) (x % y) (.returned (.tuple #[.slice (some w) (Hal.words (x / y)).length n,.slice (some wr) (Hal.words (x % y)).length 1])) (wr.alloc (.cells #[.int .i64 (r:Int)] 3))):=⟨_,_,_,_,_,_,rfl,HT1.out.below al,ht2.low hB.size⟩;have hbf:=hB.alloc hB.size (.cells #[.int .i64 (r:Int)] 3);clear hA2 ht2 al;go_wp2;go_ret2;exact ⟨H2.out,hbf⟩
end Go.Proofs.YtbpngececjihlaaGreat
