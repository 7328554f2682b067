/- Texts Hal Ra1 Ra2 Ra3 Ra4 Ra5 Ra6 Ra7 of this claim. -/
import Derived.Test.YtpjaodcimomaiaaGreatL09
import Derived.Test.YtpjaodcimomaiaaGreatL11
set_option maxHeartbeats 4000000
set_option maxRecDepth 20000
namespace Go.Proofs.YtpjaodcimomaiaaGreat.Hal
variable {l a:List Nat} {x n k:Nat}
def base:Nat:=65536
def nat:List Nat->Nat
 | []=>0
 | x :: l=>x+base*nat l
def Ok (l:List Nat):Prop:=∀ x ∈ l,x<base
def trim (l:List Nat):List Nat:=(l.reverse.dropWhile (· == 0)).reverse
def Can (l:List Nat):Prop:=∀ h:l ≠ [],l.getLast h ≠ 0
theorem nat_append (a b:List Nat):nat (a++b)=nat a+base ^ a.length*nat b:=by
 induction a with
 | nil=>simp [nat]
 | cons x a ih=>simp only [List.cons_append,nat,ih,List.length_cons,Nat.pow_succ]; grind
theorem nat_snoc (a:List Nat) (x:Nat):nat (a++[x])=nat a+base ^ a.length*x:=by
 rw [nat_append]; simp [nat]
theorem Ok.take (h:Ok l) (k:Nat):Ok (l.take k):=fun x hx=>h x (List.mem_of_mem_take hx)
theorem Ok.nil:Ok []:=fun _ h=>by cases h
theorem Ok.cons (hx:x<base) (h:Ok l):Ok (x :: l):=by
 intro y hy; rcases List.mem_cons.1 hy with rfl | hy
 ·exact hx
 ·exact h y hy
theorem trim_snoc_zero (l:List Nat):trim (l++[0])=trim l:=by simp [trim]
theorem trim_snoc (l:List Nat) (h:x ≠ 0):trim (l++[x])=l++[x]:=by
 simp [trim,h]
theorem trim_nil:trim []=[]:=rfl
theorem snoc_cases (l:List Nat):l=[]\/∃ a x,l=a++[x]:=by
 rcases List.eq_nil_or_concat l with h | ⟨a,x,h⟩
 ·exact .inl h
 ·exact .inr ⟨a,x,by simpa using h⟩
theorem snoc_ind {p:List Nat->Prop} (h0:p []) (h1:∀ a x,p a->p (a++[x])) (l:List Nat):p l:=by
 have:∀ n (l:List Nat),l.length=n->p l:=by
  intro n
  induction n with
  | zero=>intro l hl; rw [List.eq_nil_of_length_eq_zero hl]; exact h0
  | succ n ih=>
   intro l hl;rcases snoc_cases l with rfl | ⟨a,x,rfl⟩
   ·exact h0
   ·exact h1 a x (ih a (by simpa using hl))
 exact this _ l rfl
theorem nat_trim (l:List Nat):nat (trim l)=nat l:=by
 refine snoc_ind (p:=fun l=>nat (trim l)=nat l) rfl (fun a x ih=>?_) l;by_cases hx:x=0
 ·subst hx; rw [trim_snoc_zero,ih,nat_snoc]; simp
 ·rw [trim_snoc _ hx]
theorem Can.trim (l:List Nat):Can (trim l):=by
 refine snoc_ind (p:=fun l=>Can (Hal.trim l)) (fun h=>absurd rfl h) (fun a x ih=>?_) l;by_cases hx:x=0
 ·subst hx; rw [trim_snoc_zero]; exact ih
 ·rw [trim_snoc _ hx]; intro _; simpa using hx
theorem Ok.trim (h:Ok l):Ok (trim l):=by
 intro x hx;refine h x ?_;have:=List.mem_reverse.1 hx;exact List.mem_reverse.1 ((List.dropWhile_sublist _).mem this)
theorem trim_eq_take (l:List Nat):∃ k,k<=l.length/\trim l=l.take k:=by
 refine snoc_ind (p:=fun l=>∃ k,k<=l.length/\trim l=l.take k) ⟨0,by simp,rfl⟩ (fun a x ih=>?_) l;by_cases hx:x=0
 ·obtain ⟨k,hk,h⟩:=ih;exact ⟨k,by simp; omega,by rw [hx,trim_snoc_zero,h,List.take_append_of_le_length hk]⟩
 ·exact ⟨(a++[x]).length,nlr _,by rw [trim_snoc _ hx,List.take_length]⟩
theorem trim_length_le (l:List Nat):(trim l).length<=l.length:=by
 obtain ⟨k,hk,h⟩:=trim_eq_take l;rw [h,List.length_take]; omega
theorem trim_take (l:List Nat):trim l=l.take (trim l).length:=by
 obtain ⟨k,hk,h⟩:=trim_eq_take l;rw [h,List.length_take,Nat.min_eq_left hk]
theorem Can.left_pos (h:Can (a++[x])):x ≠ 0:=by
 have:=h (by simp); rwa [List.getLast_concat] at this
theorem nat_pos_of_can (hc:Can l) (hl:l ≠ []):base ^ (l.length-1)<=nat l:=by
 rcases snoc_cases l with rfl | ⟨a,x,rfl⟩
 ·exact absurd rfl hl
 ·have:=hc.left_pos;rw [nat_snoc];simp only [List.length_append,List.length_cons,List.length_nil,Nat.zero_add,Nat.add_sub_cancel];have:base ^ a.length*1<=base ^ a.length*x:=Nat.mul_le_mul_left _ (by omega);omega
theorem base_pos:0<base:=by decide
theorem pow_pos' (k:Nat):0<base ^ k:=Nat.pow_pos base_pos
theorem nat_eq_zero_of_can (hc:Can l):nat l=0 ↔ l=[]:=by
 constructor
 ·intro h;rcases Decidable.em (l=[]) with h' | h'
  ·exact h'
  ·have:=nat_pos_of_can hc h'; have:=pow_pos' (l.length-1); omega
 ·rintro rfl; rfl
def words (n:Nat):List Nat:=if _h:n=0 then [] else (n % base) :: words (n / base)
 termination_by n
 decreasing_by exact Nat.div_lt_self (by omega) (by decide)
theorem words_zero:words 0=[]:=by rw [words]; simp
theorem words_pos (h:n ≠ 0):words n=(n % base) :: words (n / base):=by rw [words]; simp [h]
theorem nat_words (n:Nat):nat (words n)=n:=by
 induction n using Nat.strongRecOn with
 | _ n ih=>
  by_cases h:n=0
  ·subst h; rw [words_zero]; rfl
  ·rw [words_pos h,nat,ih _ (Nat.div_lt_self (by omega) (by decide))];have:=Nat.div_add_mod n base; omega
theorem Ok.words (n:Nat):Ok (words n):=by
 induction n using Nat.strongRecOn with
 | _ n ih=>
  by_cases h:n=0
  ·subst h; rw [words_zero]; exact Ok.nil
  ·rw [words_pos h]; exact Ok.cons (Nat.mod_lt _ base_pos) (ih _ (Nat.div_lt_self (by omega) (by decide)))
theorem Can.words (n:Nat):Can (words n):=by
 induction n using Nat.strongRecOn with
 | _ n ih=>
  by_cases h:n=0
  ·subst h; rw [words_zero]; intro h; exact absurd rfl h
  ·rw [words_pos h];intro hne;have hi:=ih _ (Nat.div_lt_self (n:=n) (by omega) (by decide:1<base));by_cases h2:n / base=0
   ·simp only [h2,words_zero,List.getLast_singleton];have:=Nat.div_add_mod n base; rw [h2] at this; omega
   ·have hw:Hal.words (n / base) ≠ []:=by rw [words_pos h2]; simp
    rw [List.getLast_cons hw]; exact hi hw
theorem nat_inj {b:List Nat} (oa:Ok a) (ob:Ok b) (ca:Can a) (cb:Can b) (h:nat a=nat b):a=b:=by
 induction a generalizing b with
 | nil=>exact ((nat_eq_zero_of_can cb).1 h.symm).symm
 | cons x a ih=>
  cases b with
  | nil=>have:=(nat_eq_zero_of_can ca).1 (by rw [h]; rfl); exact this
  | cons y b=>
   have hx:=oa x (by simp);have hy:=ob y (by simp);simp only [nat] at h
   have h1:x=y:=by
    have e1:(x+base*nat a) % base=x:=by rw [Nat.add_mul_mod_self_left]; exact Nat.mod_eq_of_lt hx
    have e2:(y+base*nat b) % base=y:=by rw [Nat.add_mul_mod_self_left]; exact Nat.mod_eq_of_lt hy
    rw [<-e1,<-e2,h]
   subst h1;have h2:nat a=nat b:=Nat.eq_of_mul_eq_mul_left base_pos (by omega);have ca':Can a:=by intro hn; have:=ca (by simp); rwa [List.getLast_cons hn] at this
   have cb':Can b:=by intro hn; have:=cb (by simp); rwa [List.getLast_cons hn] at this
   rw [ih (fun z hz=>oa z (by simp [hz])) (fun z hz=>ob z (by simp [hz])) ca' cb' h2]
theorem trim_eq_words (h:Ok l):trim l=words (nat l):=
 nat_inj h.trim (Ok.words _) (Can.trim l) (Can.words _) (by rw [nat_trim,nat_words])
theorem words_length_le (h:n<base ^ k):(words n).length<=k:=by
 rcases Decidable.em (words n=[]) with h0 | h0
 ·simp [h0]
 ·have:=nat_pos_of_can (Can.words n) h0;rw [nat_words] at this;rcases Nat.lt_or_ge k (words n).length with hlt | hge
  ·have:base ^ k<=base ^ ((words n).length-1):=Nat.pow_le_pow_right base_pos (by omega);omega
  ·exact hge
end Go.Proofs.YtpjaodcimomaiaaGreat.Hal
namespace Go.Proofs.YtpjaodcimomaiaaGreat
open Go.RowKit
variable {k n c i:Nat} {l:List Nat} {A:Option Addr} {X:Nat->Prop} {w:World} {v:Value} {e:TypeId} {z:Int}
structure HAt (w:World) (X:Nat->Prop) (A:Option Addr) (n c:Nat) (l:List Nat):Prop where
 len:l.length=n
 le:n<=c
 cap:c<=9223372036854775807
 ok:Hal.Ok l
 cell:∀ k,k<n->∃ ad,A=some ad/\X ad.block/\w.cell? (ad.add k)=some (.int .i64 ((l.getD k 0:Nat):Int))
section
variable {w w':World} {X Y:Nat->Prop} {A:Option Addr} {n c:Nat} {l:List Nat}
theorem HAt.keep (h:HAt w X A n c l) (hk:∀ p:Addr,X p.block->p.block<w.heap.size->w'.cell? p=w.cell? p):HAt w' X A n c l:=
 ⟨h.len,h.le,h.cap,h.ok,fun k hkn=>by
  obtain ⟨ad,e,hx,hc⟩:=h.cell k hkn;exact ⟨ad,e,hx,by rw [hk _ (by rw [zAj]; exact hx) (zAb hc)]; exact hc⟩⟩
theorem HAt.below (h:HAt w X A n c l) (hb:Below w.heap.size w w'):HAt w' X A n c l:=h.keep fun _ _ hp=>hb.cell hp
theorem HAt.take (h:HAt w X A n c l) (hk:k<=n):HAt w X A k c (l.take k):=
 ⟨by rw [List.length_take,h.len]; omega,by have:=h.le; omega,h.cap,h.ok.take k,fun j hj=>by
  obtain ⟨ad,e,hx,hc⟩:=h.cell j (by omega);exact ⟨ad,e,hx,by rw [hc]; simp [hj]⟩⟩
theorem HAt.trim (h:HAt w X A n c l):HAt w X A (Hal.trim l).length c (Hal.trim l):=by
 have:=h.take (k:=(Hal.trim l).length) (by have:=Hal.trim_length_le l; have:=h.len; omega)
 rwa [<-Hal.trim_take] at this
theorem HAt.nil (w:World) (X:Nat->Prop) (A:Option Addr) (c:Nat) (hc:c<=9223372036854775807):HAt w X A 0 c []:=
 ⟨rfl,nzl _,hc,Hal.Ok.nil,fun _ h=>absurd h (by omega)⟩
end
theorem zAK (h:HAt w X A n c l) :
  Calls Tryz.prog 221 #[.slice A n c] w fun e w'=>e = .returned (.slice A (Hal.trim l).length c)/\w=w':=by
 have hn:=h.le;have hc:=h.cap;have H:=hdq h.cell;have HL:=hdq h.len;clear h;go_enter Tryz.func221,Tryz.ntmps221
 go_wp2;go_loop [3] (fun s=>∃ k:Nat,k<=n/\Hid (Hal.trim (l.take k)=Hal.trim l)/\s = .int .i64 k) (fun s=>(intOf s).toNat)
 case atStart=>exact ⟨n,nlr _,by rw [<-HL.out,List.take_length]; exact rfl,rfl⟩
 case round=>
  obtain ⟨k,hk,hT,rfl⟩:=hrel;by_cases h0:0<k
  ·obtain ⟨ad,rfl,-,hcell⟩:=H.out (k-1) (by omega);have e1:((k:Int)-1)=((k-1:Nat):Int):=(by omega);have e2:(k:Int)-1<n:=(by omega);have e3:(0:Int)<=(k:Int)-1:=by omega
   have hl:Hid (l.take k=l.take (k-1)++[l.getD (k-1) 0]):=by
    show _=_;have:=HL.out
    conv=>lhs; rw [show k=(k-1)+1 by omega]
    rw [List.take_succ_eq_append_getElem (by omega)];simp [gge (show k-1<l.length by omega)]
   generalize l.getD (k-1) 0=x at *;by_cases hx:x=0
   ·subst hx;go_wp2;exact ⟨⟨k-1,by omega,by have:=hT.out; rw [hl.out,Hal.trim_snoc_zero] at this; exact this,rfl⟩,by simp [intOf]; omega⟩
   ·have hxb:((x:Int) == 0)=false:=(by simpa using hx);go_wp2;go_ret;refine ⟨?_,rfl⟩;have h1:=hT.out;rw [hl.out,Hal.trim_snoc _ hx,<-hl.out] at h1;have h2:=HL.out;rw [<-h1]; simp; omega
  ·(obtain rfl:k=0:=by omega);go_wp2;go_ret;refine ⟨?_,rfl⟩;have h1:=hT.out;simp only [List.take_zero,Hal.trim_nil] at h1;rw [<-h1]; rfl
theorem zBY (h:HAt w X A n c l) :
  Calls Tryz.prog 222 #[.slice A n c,.int .i64 (i:Int)] w fun e w'=>e = .returned (.int .i64 ((l.getD i 0:Nat):Int))/\w=w':=by
 have hn:=h.le;have hc:=h.cap;by_cases hi:i<n
 ·obtain ⟨ad,rfl,-,hcell⟩:=h.cell i hi;have hii:(i:Int)<n:=by omega
  clear h;generalize l.getD i 0=x at *;go_enter Tryz.func222,Tryz.ntmps222
  go_wp2;go_ret;exact ⟨rfl,rfl⟩
 ·have hii:¬ (i:Int)<n:=by omega
  have e:l.getD i 0=0:=by rw [gdd,List.getElem?_eq_none (by rw [h.len]; omega)]; rfl
  rw [e];clear h e;go_enter Tryz.func222,Tryz.ntmps222
  go_wp2;go_ret;exact ⟨rfl,rfl⟩
theorem zCk:(Tryz.prog.info? 3).map (fun i=>(i.zero,i.size,i.bytes))=some (some (.int .i64 0),1,8):=by kernel_rfl
def hv (l:List Nat):List Value:=l.map fun (x:Nat)=>Value.int .i64 (x:Int)
theorem zC0 (a b:List Nat):hv (a++b)=hv a++hv b:=by simp [hv]
theorem zFL (a:List Nat):(hv a).length=a.length:=by simp [hv]
theorem zCB {base:Nat} (h:w.ownsRow base e 1 v n (hv l)) (ho:Hal.Ok l):∃ A c,v = .slice A n c/\(A=none->c=0)/\HAt w (New base) A n c l:=by
 obtain ⟨h1,h2⟩:=h;rw [zFL,Nat.mul_one] at h1;rcases h2 with ⟨rfl,rfl⟩ | ⟨g,cap,cur,rfl,hg,hh,hnc,hcap,hcur,ht⟩
 ·refine ⟨none,0,rfl,fun _=>rfl,?_⟩;rw [List.eq_nil_of_length_eq_zero h1];exact HAt.nil _ _ _ _ (by omega)
 ·refine ⟨_,_,rfl,(fun h=>by cases h),⟨h1,hnc,nlt hcap (show maxLen<=9223372036854775807 by decide),ho,fun k hk=>⟨_,rfl,hg,?_⟩⟩⟩;have e1:(⟨g,0,none⟩:Addr).add k=⟨g,k,none⟩:=by unfold Addr.add; split <;> simp_all
  rw [e1];have e2:(cur.toList.take (n*1))[k]?=(hv l)[k]?:=by rw [ht]
  rw [Nat.mul_one,List.getElem?_take_of_lt hk] at e2
  have e3:(hv l)[k]?=some (.int .i64 (l.getD k 0:Nat)):=by
   simp [hv,List.getElem?_map,gge (show k<l.length by omega)]
  rw [e3] at e2;simp only [World.cell?,hh];simpa using e2
def halv (ws:List Nat):List Nat:=ws.flatMap fun x=>[x % 65536,x / 65536]
theorem zFK (ws:List Nat) (x:Nat):halv (ws++[x])=halv ws++[x % 65536,x / 65536]:=by simp [halv]
theorem zIq {ws:List Nat} (h:Num.Ok ws):Hal.Ok (halv ws):=by
 intro d hd;obtain ⟨x,hx,hd⟩:=List.mem_flatMap.1 hd;have hb:=h x hx;simp only [Num.base] at hb;simp only [Hal.base];simp at hd;omega
theorem zG0 (ws:List Nat):Hal.nat (halv ws)=Num.nat ws:=by
 induction ws with
 | nil=>rfl
 | cons x ws ih=>
  show (x % 65536)+Hal.base*((x / 65536)+Hal.base*Hal.nat (halv ws))=x+Num.base*Num.nat ws;rw [ih];have e1:x % 65536+65536*(x / 65536)=x:=Nat.mod_add_div x 65536;have e2:Hal.base*(Hal.base*Num.nat ws)=Num.base*Num.nat ws:=by rw [<-Nat.mul_assoc]; rfl
  rw [Nat.mul_add,e2,<-Nat.add_assoc];show x % 65536+65536*(x / 65536)+_=_;rw [e1]
theorem zFG (w:World) (T:TypeId) (u v:Value):∀ j x,[u,v][j]?=some x->(w.alloc (.cells #[u,v] T)).cell? (Addr.add ⟨w.heap.size,0,none⟩ j)=some x:=by
 intro j x hx
 match j,hx with
 | 0,hx=>simp [Addr.add] at hx ⊢; exact hx
 | 1,hx=>simp [Addr.add] at hx ⊢; exact hx
 | j+2,hx=>simp at hx
def HalS (B:Nat) (W:World) (a:Addr) (v:Value) (f:Bool) (w':World):Prop:=(f=false->Sees B [] W w')/\w'.cell? a=some v
def HRet (w:World) (z:Nat) (e:Ending) (w':World):Prop:=∃ A n c,e = .returned (.slice A n c)/\(A=none->c=0)/\HAt w' (New w.heap.size) A n c (Hal.words z)
theorem zAH (h:WordsAt w X A n c l) (hn:n<=1000000000000) :
  Calls Tryz.prog 185 #[.slice A n c] w fun e w'=>HRet w (Num.nat l) e w'/\Below w.heap.size w w':=by
 obtain ⟨i0,hi,hz0,hz1,hz2⟩:=info_parts zCk;have hle:=h.le;have hcap:=h.cap;have H:=hdq h;have HL:=hdq h.len;clear h;go_enter Tryz.func185,Tryz.ntmps185
 go_wp2;go_loopw [3,4] (fun v i W=>∃ k:Nat,k<=n/\i = .int .i64 k/\W.ownsRow w.heap.size 3 1 v (2*k) (hv (halv (l.take k)))/\Below w.heap.size w W) (fun _ i _=>n-(intOf i).toNat)
 case atStart=>exact ⟨0,nzl _,rfl,⟨rfl,.inl ⟨rfl,rfl⟩⟩,brf _ _⟩
 case round=>
  obtain ⟨k,hk,rfl,hown,hB⟩:=hrel;by_cases hlt:k<n
  ·obtain ⟨ad,e,-,hcell0⟩:=H.out.cell k hlt;subst e;have hcell:=(hB.cell (p:=ad.add k) (zAb hcell0)).trans hcell0;have hki:(k:Int)<n:=by omega
   have hsn:Hid (hv (halv (l.take (k+1)))=hv (halv (l.take k))++[.int .i64 ((l.getD k 0 % 65536:Nat):Int),.int .i64 ((l.getD k 0 / 65536:Nat):Int)]):=by
    show _=_;have:=HL.out;rw [List.take_succ_eq_append_getElem (by omega),zFK,zC0];simp [hv,gge (show k<l.length by omega)]
   have hx:l.getD k 0<4294967296:=by
    have:=HL.out;have h2:=H.out.ok (l.getD k 0) (by rw [gdd,gge (by omega)]; exact List.getElem_mem _);exact h2
   generalize l.getD k 0=x at *;have tq:(ad.add k).block<wr.heap.size:=zAb hcell;have tc0:w.cell? (ad.add k)=some (.int .u32 (x:Int)):=hcell0;have tq0:(ad.add k).block<w.heap.size:=zAb tc0;clear hcell0;have HO:=hdq hown;have HBs:=hB.size;have hdr:Below wr.heap.size wr wr.drew:=(brf _ _).drew;clear hown;go_wp2;have hc0:wr.drew.cell? (ad.add k)=some (.int .u32 (x:Int)):=hcell;refine zAp 14 (HalS w.heap.size wr (ad.add k) (.int .u32 (x:Int))) (by kernel_rfl) ?_;have hS0:Sees w.heap.size [] wr wr.drew:=Sees.st (by simp) HBs;refine tx4 0 1 2 3 (⟨fun _=>hS0,hc0⟩) ?_;refine tx3 7 8 9 (⟨fun _=>hS0,hc0⟩) ?_;refine tkE 4 (.int .u32 x) (fun w' hSw=>?_) (⟨fun _=>hS0,hc0⟩) ?_
   ·(obtain ⟨_,-,hc2⟩:=hSw; go_simp; try with_reducible rfl)
   simp only [zz];refine tkE 10 (.int .u32 x) (fun w' hSw=>?_) (⟨fun _=>hS0,hc0⟩) ?_
   ·(obtain ⟨_,-,hc2⟩:=hSw; go_simp; try with_reducible rfl)
   simp only [zz];refine tx4 5 6 11 12 (⟨fun _=>hS0,hc0⟩) ?_
   have hr1:IntKind.i64.wrap ((x:Int).tmod 65536)=((x % 65536:Nat):Int):=by
    rw [show (x:Int).tmod 65536=((x % 65536:Nat):Int) by rw [Int.tmod_eq_emod_of_nonneg (by omega)]; omega];exact IntWalk.i64_in _ (by omega)
   have hr2:IntKind.i64.wrap (IntKind.u32.wrap ((x:Int) / 65536))=((x / 65536:Nat):Int):=by
    rw [show (x:Int) / 65536=((x / 65536:Nat):Int) by omega];rw [show IntKind.u32.wrap ((x / 65536:Nat):Int)=((x / 65536:Nat):Int) from IntWalk.u32_in _ (by omega)];exact IntWalk.i64_in _ (by omega)
   rw [hr1,hr2];clear hr1 hr2;refine tk1 13 ?_;intro K hK;go_simp;refine hK.out _ _ ⟨fun _=>Sees.al hS0,(World.cell?_alloc_lt _ _ _ tq).trans hc0⟩ ?_;clear hK K;have hown:=zAr (W':=wr.drew) HO.out fun j _=>rfl
   refine tk1 14 ?_;intro K hK;refine zAq _ _ 29 rfl w.heap.size 3 i0 (.int .i64 0) 1 8 Tryz.underlying29 hi hz0 hz1 hz2 rfl (by decide) u3 (2*k) (hv (halv (l.take k))) rfl (hown.alloc _) ⟨wr.drew.heap.size,0,none⟩ 2 2 [.int .i64 ((x % 65536:Nat):Int),.int .i64 ((x / 65536:Nat):Int)] rfl rfl ?cc (by intro u hu; simp at hu; rcases hu with rfl | rfl <;> rfl) (by simp [maxLen]; omega) (by omega) (by simp; omega) ?_
   case cc=>
    exact zFG _ _ _ _
   intro v' W5 hown5 hg5 hnil5 hat5;have hB5:Below w.heap.size w W5:=(hB.drew.alloc (by simpa using HBs) _).grown hg5 (by simp; omega) fun j hj=>(zAc HO.out hj).1
   have hc5:W5.cell? (ad.add k)=some (.int .u32 (x:Int)):=(hB5.cell (p:=ad.add k) tq0).trans tc0;refine hK.out _ _ ⟨fun h=>absurd h (by decide),hc5⟩ ?_;clear hK K;refine tx1 15 (⟨fun h=>absurd h (by decide),hc5⟩) ?_;refine zAf (by kernel_rfl) ?_ _;have Hfin:Hid (W5.ownsRow w.heap.size 3 1 v' (2*(k+1)) (hv (halv (l.take (k+1))))/\Below w.heap.size w W5):=⟨by rw [hsn.out]; exact hown5,hB5⟩;clear hown5 hg5 hnil5 hat5 hB5 hc5 hS0 hc0 hown hdr hB;go_wp2;go_roundw;case rel=>exact ⟨k+1,by omega,by go_num,Hfin.out.1,Hfin.out.2⟩
   case measure=>simp [intOf]; omega
  ·(obtain rfl:k=n:=by omega);rw [<-HL.out,List.take_length] at hown;obtain ⟨A',c',rfl,hnn,hd⟩:=zCB hown (zIq H.out.ok);have Hd:=hdq hd;have ht:=hd.trim;have e1:=Hal.trim_eq_words (zIq H.out.ok);rw [zG0] at e1;rw [e1] at ht;have Ht:=hdq ht;have E1:=hdq e1;clear hd hown ht e1;(go_wp2_with fail);refine (zAK Hd.out).mono ?_;rintro e w1 ⟨rfl,rfl⟩;rw [E1.out];go_wp2;go_ret;exact ⟨⟨_,_,_,rfl,hnn,Ht.out⟩,hB⟩
def wpair (l:List Nat) (k:Nat):List Nat:=(List.range k).map fun j=>l.getD (2*j) 0+l.getD (2*j+1) 0*65536
theorem zDR (l:List Nat) (k:Nat):(wpair l k).length=k:=by simp [wpair]
theorem zDC (l:List Nat) (k:Nat):wpair l (k+1)=wpair l k++[l.getD (2*k) 0+l.getD (2*k+1) 0*65536]:=by simp [wpair,List.range_succ]
theorem zBC (h:Hal.Ok l) (i:Nat):l.getD i 0<65536:=by
 by_cases hi:i<l.length
 ·rw [gdd,gge hi];exact h _ (List.getElem_mem _)
 ·rw [gdd,List.getElem?_eq_none (by omega)]; decide
theorem zJB (h:Hal.Ok l) (k:Nat):Num.Ok (wpair l k):=by
 intro x hx;obtain ⟨j,_,rfl⟩:=List.mem_map.1 hx;have:=zBC h (2*j);have:=zBC h (2*j+1);simp only [Num.base]; omega
theorem zHx (h:Hal.Ok l) (k:Nat):halv (wpair l k)=(List.range (2*k)).map fun i=>l.getD i 0:=by
 induction k with
 | zero=>rfl
 | succ k ih=>
  rw [zDC,zFK,ih,show 2*(k+1)=2*k+1+1 by omega,List.range_succ,List.range_succ];have h1:=zBC h (2*k);have e1:(l.getD (2*k) 0+l.getD (2*k+1) 0*65536) % 65536=l.getD (2*k) 0:=by omega
  have e2:(l.getD (2*k) 0+l.getD (2*k+1) 0*65536) / 65536=l.getD (2*k+1) 0:=by omega
  rw [e1,e2];simp
theorem zGy (l:List Nat):∀ d,Hal.nat ((List.range (l.length+d)).map fun i=>l.getD i 0)=Hal.nat l
 | 0=>by
  congr 1;apply List.ext_getElem
  ·simp
  ·intro i h1 h2; simp [h2]
 | d+1=>by
  rw [show l.length+(d+1)=(l.length+d)+1 by omega,List.range_succ,List.map_append,Hal.nat_append,zGy l d];have:l.getD (l.length+d) 0=0:=by rw [gdd,List.getElem?_eq_none (by omega)]; rfl
  simp [Hal.nat]
theorem zI2 (h:Hal.Ok l) (hk:l.length<=2*k):Num.nat (wpair l k)=Hal.nat l:=by
 rw [<-zG0,zHx h,show 2*k=l.length+(2*k-l.length) by omega,zGy]
theorem zI1 (hc:Hal.Can l) (h0:l.length<=2*k) (h1:2*k<l.length+2):Num.Can (wpair l k):=by
 cases k with
 | zero=>intro h; exact absurd rfl h
 | succ k=>
  rw [zDC];intro _;rw [List.getLast_concat];rcases Hal.snoc_cases l with rfl | ⟨a,x,rfl⟩
  ·simp only [List.length_nil] at h1; omega
  ·have hx:=hc.left_pos;simp only [List.length_append,List.length_cons,List.length_nil] at h0 h1;have hl:∀ i,i=a.length->(a++[x]).getD i 0=x:=fun i hi=>by subst hi; simp
   by_cases e:2*k=a.length
   ·rw [hl _ e]; omega
   ·by_cases e2:2*k+1=a.length
    ·rw [hl _ e2]; omega
    ·exfalso;omega
theorem zGQ (ho:Hal.Ok l) (hc:Hal.Can l) (h0:l.length<=2*k) (h1:2*k<l.length+2):wpair l k=Num.words (Hal.nat l):=
 Num.nat_inj (zJB ho k) (Num.Ok.words _) (zI1 hc h0 h1) (Num.Can.words _) (by rw [zI2 ho h0,Num.nat_words])
theorem zJz:(Tryz.prog.info? 164).map (fun i=>(i.zero,i.size,i.bytes))=some (some (.int .u32 0),1,4):=by kernel_rfl
theorem cell_one_new' (w:World) (T:TypeId) (v:Value):∀ j x,[v][j]?=some x->(w.alloc (.cells #[v] T)).cell? (Addr.add ⟨w.heap.size,0,none⟩ j)=some x:=by
 intro j x hx
 match j,hx with
 | 0,hx=>simp [Addr.add] at hx ⊢; exact hx
 | j+1,hx=>simp at hx
theorem zE0 (i:Nat) (hz:z=(i:Int)) (h:HAt w X A n c l) :
  Calls Tryz.prog 222 #[.slice A n c,.int .i64 z] w fun e w'=>e = .returned (.int .i64 ((l.getD i 0:Nat):Int))/\w=w':=by
 subst hz; exact zBY h
def ZRet1 (w:World) (z:Int) (e:Ending) (w':World):Prop:=∃ ng A n c,e = .returned (.agg #[.bool ng,.slice A n c])/\ZAt w' (New w.heap.size) ng A n c z
def OfLoop (w:World) (l:List Nat) (v i:Value) (W:World):Prop:=
 ∃ k:Nat,2*k<l.length+2/\i = .int .i64 (2*(k:Int))/\W.ownsRow (w.heap.size+1) 164 1 v k (wv (wpair l k))/\Below w.heap.size w W/\Box2 W w.heap.size (.bool false) (.slice none 0 0)/\w.heap.size<W.heap.size
theorem zCA (neg:Bool) (h:HAt w X A n c l) (hn:n<=1000000000000) :
  Calls Tryz.prog 184 #[.bool neg,.slice A n c] w fun e w'=>ZRet1 w (zval neg (Hal.nat l)) e w'/\Below w.heap.size w w':=by
 obtain ⟨i0,hi,hz0,hz1,hz2⟩:=info_parts zJz;have hcap:=h.cap;have H:=hdq h;have HT:=hdq h.trim;have hnt:(Hal.trim l).length<=n:=by have:=Hal.trim_length_le l; have:=h.len; omega
 rw [<-Hal.nat_trim l];have HC:=hdq (Hal.Can.trim l);have HTr:=hdq (zAK h);have HTe:Hid (∀ w',Below w.heap.size w w'->Calls Tryz.prog 221 #[.slice A n c] w' fun e w''=>e = .returned (.slice A (Hal.trim l).length c)/\w'=w''):=fun w' hb=>zAK (h.below hb)
 clear h H HTr;generalize Hal.trim l=t at *;have al:Below w.heap.size w (w.alloc (.cells #[.bool false,.slice none 0 0] 35)):=(brf _ _).alloc (nlr _) _;go_enter Tryz.func184,Tryz.ntmps184
 go_wp2_with fail
 refine (HTe.out _ al).mono ?_;rintro e w1 ⟨rfl,rfl⟩;have H0:Hid (OfLoop w t (.slice none 0 0) (.int .i64 0) (w.alloc (.cells #[.bool false,.slice none 0 0] 35))):=⟨0,by omega,rfl,⟨rfl,.inl ⟨rfl,rfl⟩⟩,al,bx2,by simp⟩;clear al;go_wp2;go_loopw [5,6] (fun v i W=>OfLoop w t v i W) (fun _ i _=>t.length+2-(intOf i).toNat)
 case atStart=>exact H0.out
 case round=>
  clear H0;obtain ⟨k,hk,rfl,hown,hB,bR,sR⟩:=hrel;by_cases hlt:2*k<t.length
  ·have hki:2*(k:Int)<(t.length:Int):=(by omega);have hsn:=hdq (zDC t k);have hd1:=zBC HT.out.ok (2*k);have hd2:=zBC HT.out.ok (2*k+1);obtain ⟨d1,e1⟩:∃ d,t.getD (2*k) 0=d:=⟨_,rfl⟩;obtain ⟨d2,e2⟩:∃ d,t.getD (2*k+1) 0=d:=⟨_,rfl⟩;rw [e1,e2] at hsn;rw [e1] at hd1;rw [e2] at hd2;have E1:=hdq e1;have E2:=hdq e2;have HO:=hdq hown;clear e1 e2 hown;(go_wp2_with fail);refine (zE0 (2*k) (by omega) (HT.out.below hB)).mono ?_;rw [E1.out];rintro e w1 ⟨rfl,rfl⟩;(go_wp2_with fail);refine (zE0 (2*k+1) (by omega) (HT.out.below hB)).mono ?_;rw [E2.out];rintro e w1 ⟨rfl,rfl⟩;have hsz:Hid ((wpair t k).length=k):=zDR t k;(go_wp2_with (at_builtin; refine wpList_append_own _ rfl _ _ 33 rfl (w.heap.size+1) 164 i0 (.int .u32 0) 1 4 Tryz.underlying33 hi hz0 hz1 hz2 rfl (by decide) _ k (wv (wpair t k)) rfl (HO.out.alloc _) ⟨wr.heap.size,0,none⟩ 1 1 [.int .u32 ((d1:Int)+(d2:Int)*65536)] rfl rfl ?cells ?one ?b1 ?b2 ?b3 ?_));case cells=>exact cell_one_new' _ _ _
   case one=>intro u hu; simp at hu; subst hu; rfl
   case b1=>simp [maxLen]; omega
   case b2=>omega
   case b3=>simp; omega
   intro v' W5 hown5 hg5 hnil5;have hrow:∀ j,Value.ownBlock u5=some j->w.heap.size+1<=j:=(fun j hj=>(zAc HO.out hj).1);have hB5:Below (w.heap.size+1) wr W5:=((brf _ _).alloc (by omega) _).grown hg5 (by simp; omega) hrow;have bR5:Box2 W5 w.heap.size (.bool false) (.slice none 0 0):=⟨(hB5.cell (p:=⟨w.heap.size,0,none⟩) (by show w.heap.size<_; omega)).trans bR.1,(hB5.cell (p:=⟨w.heap.size,1,none⟩) (by show w.heap.size<_; omega)).trans bR.2.1,fun o=>(hB5.frozen (p:=⟨w.heap.size,o,none⟩) (by show w.heap.size<_; omega)).trans (bR.2.2 o)⟩;have hB6:Below w.heap.size w W5:=hB.trans (hB5.mono (by omega))
   have Hfin:Hid (OfLoop w t v' (.int .i64 (2*(k:Int)+2)) W5):=⟨k+1,by omega,by simp; omega,by
    rw [hsn.out,zB2];have e:wv [d1+d2*65536]=[.int .u32 ((d1:Int)+(d2:Int)*65536)]:=(by simp [wv]);rw [e]; exact hown5,hB6,bR5,by have:=hB5.size; omega⟩
   clear hown5 hg5 hnil5 hB5 hB6 bR5 bR hB hrow;go_wp2;go_roundw;case rel=>exact fn_ Hfin.out
   case measure=>simp [intOf]; omega
  ·have hkk:Hid (wpair t k=Num.words (Hal.nat t)):=zGQ HT.out.ok HC.out (by omega) hk;rw [hkk.out] at hown;obtain ⟨A',c',rfl,hw⟩:=zC7 hown (Num.Ok.words _);have hkl:k=(Num.words (Hal.nat t)).length:=(by rw [<-hkk.out,zDR]);have hlt':¬ (2*(k:Int)<(t.length:Int)):=(by omega);obtain ⟨r0,r1,rf⟩:=id bR
   have hz0':k=0 ↔ Hal.nat t=0:=by
    rw [hkl];constructor
    ·intro h; rw [<-Num.nat_words (Hal.nat t),List.eq_nil_of_length_eq_zero h]; rfl
    ·intro h; rw [h,Num.words_zero]; rfl
   have HW:=hdq hw;have hkk2:k<=1000000000000:=(by omega);have HZ:=hdq hz0';clear hw hz0' hkl hkk HT HC;have hsz:w.heap.size<wr.heap.size:=sR;by_cases hk0:k=0
   ·subst hk0;have hz:Hid (Hal.nat t=0):=HZ.out.1 rfl;cases neg
    all_goals
     go_wp2;obtain ⟨v0,v1⟩:=bR.stored (.bool false) (.slice A' 0 c');refine bodyPost_ret (v:=.agg #[.bool false,.slice A' 0 c']) (by simp [results,Tryz.results184,go_sem,v0,v1]) rfl ⟨⟨_,_,_,_,rfl,?_⟩,(hB.setCell (by simp) _).setCell (by simp) _⟩;rw [hz.out];refine ⟨rfl,?_⟩;(first | rw [show (zval false 0).natAbs=0 from rfl,Num.words_zero] | rw [show (zval true 0).natAbs=0 from rfl,Num.words_zero]);exact WordsAt.nil _ _ _ _ HW.out.cap
   ·have hk1:0<k:=(by omega);have hk1i:(0:Int)<(k:Int):=(by omega);have hz:Hid (¬ Hal.nat t=0):=(fun h=>hk0 (HZ.out.2 h));cases neg
    ·go_wp2;obtain ⟨v0,v1⟩:=bR.stored (.bool false) (.slice A' k c');refine bodyPost_ret (v:=.agg #[.bool false,.slice A' k c']) (by simp [results,Tryz.results184,go_sem,v0,v1]) rfl ⟨⟨_,_,_,_,rfl,?_⟩,(hB.setCell (by simp) _).setCell (by simp) _⟩;refine ⟨by simp [zval],?_⟩;have:=HW.out.keep (w':=(wr.setCell ⟨w.heap.size,0,none⟩ (.bool false)).setCell ⟨w.heap.size,1,none⟩ (.slice A' k c')) fun p hp _=>cob ((bhs _ _ _ _ (by simp only [New] at hp; show p.block ≠ w.heap.size; omega)).trans (bhs _ _ _ _ (by simp only [New] at hp; show p.block ≠ w.heap.size; omega)))
     simpa [zval] using this.imp (Y:=New w.heap.size) fun b _ hb=>by simp only [New] at hb ⊢; omega
    ·go_wp2;obtain ⟨v0,v1⟩:=bR.stored (.bool true) (.slice A' k c');refine bodyPost_ret (v:=.agg #[.bool true,.slice A' k c']) (by simp [results,Tryz.results184,go_sem,v0,v1]) rfl ⟨⟨_,_,_,_,rfl,?_⟩,(hB.setCell (by simp) _).setCell (by simp) _⟩;have hz':=hz.out;refine ⟨by simp [zval]; omega,?_⟩;have:=HW.out.keep (w':=(wr.setCell ⟨w.heap.size,0,none⟩ (.bool true)).setCell ⟨w.heap.size,1,none⟩ (.slice A' k c')) fun p hp _=>cob ((bhs _ _ _ _ (by simp only [New] at hp; show p.block ≠ w.heap.size; omega)).trans (bhs _ _ _ _ (by simp only [New] at hp; show p.block ≠ w.heap.size; omega)))
     simpa [zval] using this.imp (Y:=New w.heap.size) fun b _ hb=>by simp only [New] at hb ⊢; omega
end Go.Proofs.YtpjaodcimomaiaaGreat
