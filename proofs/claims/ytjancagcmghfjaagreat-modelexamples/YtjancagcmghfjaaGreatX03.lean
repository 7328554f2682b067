/- Texts Whole1 Whole2 Whole3 Whole4 Whole5 Whole6 Whole7 Whole8 of this claim. -/
import Derived.Test.YtjancagcmghfjaaGreatX02
import Derived.Test.YtjancagcmghfjaaGreatRows
set_option maxHeartbeats 4000000
namespace Go.Proofs.YtjancagcmghfjaaGreat
open Go.RowKit
variable {l a gs u:List Nat} {n c k m d b B r o i:Nat} {A:Option Addr} {X Y:Nat->Prop} {w W:World} {na nb ng:Bool} {z:Int} {t:TypeId}
theorem zAk (h:WordsAt w X A n c l) :
  Calls Tryz.prog 155 #[.slice A n c] w fun e w'=>e = .returned (.slice A (Num.trim l).length c)/\w=w':=by
 have hn:=h.le;have hc:=h.cap;have H:=hdq h.cell;have HL:=hdq h.len;clear h;go_enter Tryz.func155,Tryz.ntmps155
 go_wp2;go_loop [0] (fun s=>∃ k:Nat,k<=n/\Hid (Num.trim (l.take k)=Num.trim l)/\s = .slice A k c) (fun s=>match s with | .slice _ k _=>k | _=>0)
 case atStart=>exact ⟨n,nlr _,by rw [<-HL.out,List.take_length]; exact rfl,rfl⟩
 case round=>
  obtain ⟨k,hk,hT,rfl⟩:=hrel;by_cases h0:0<k
  ·obtain ⟨ad,rfl,-,hcell⟩:=H.out (k-1) (by omega);have e1:((k:Int)-1)=((k-1:Nat):Int):=(by omega);have e2:(k:Int)-1<k:=(by omega);have e3:(0:Int)<=(k:Int)-1:=by omega
   have hl:Hid (l.take k=l.take (k-1)++[l.getD (k-1) 0]):=by
    show _=_;have:=HL.out
    conv=>lhs; rw [show k=(k-1)+1 by omega]
    rw [List.take_succ_eq_append_getElem (by omega)];simp [gge (show k-1<l.length by omega)]
   generalize l.getD (k-1) 0=x at *;by_cases hx:x=0
   ·subst hx;go_wp2;exact ⟨⟨k-1,by omega,by have:=hT.out; rw [hl.out,Num.trim_snoc_zero] at this; exact this,rfl⟩,by show k-1<k; omega⟩
   ·have hxb:((x:Int) == 0)=false:=(by simpa using hx);go_wp2;go_ret;refine ⟨?_,rfl⟩;have h1:=hT.out;rw [hl.out,Num.trim_snoc _ hx,<-hl.out] at h1;have h2:=HL.out;rw [<-h1]; simp; omega
  ·(obtain rfl:k=0:=by omega);go_wp2;go_ret;refine ⟨?_,rfl⟩;have h1:=hT.out;simp only [List.take_zero,Num.trim_nil] at h1;rw [<-h1]; rfl
def zsign (ng:Bool) (m:Nat):Int:=if m=0 then 0 else if ng then -1 else 1
theorem zAF (ng:Bool) (h:WordsAt w X A n c l) :
  Calls Tryz.prog 107 #[.agg #[.bool ng,.slice A n c]] w fun e w'=>e = .returned (.int .i64 (zsign ng (Num.nat l)))/\Below w w w':=by
 have HZ:=hdq (Num.trim_eq_nil l);by_cases h0:Num.nat l=0
 ·have ht:=HZ.out.2 h0;have hs:Hid (zsign ng (Num.nat l)=0):=by show _=_; simp [zsign,h0]
  go_enter Tryz.func107,Tryz.ntmps107
  go_wp2_with fail
  refine (zAk (h.below ((brf w w).alloc (nlr _) _))).mono ?_; rintro e w' ⟨rfl,rfl⟩
  rw [ht];go_wp2;go_ret;exact ⟨by rw [hs.out]; rfl,bal⟩
 ·have ht:Num.trim l ≠ []:=fun e=>h0 (HZ.out.1 e)
  have hl:((Num.trim l).length == 0)=false:=by simpa using ht
  cases ng
  all_goals
   (go_enter Tryz.func107,Tryz.ntmps107);(go_wp2_with fail);refine (zAk (h.below ((brf w w).alloc (nlr _) _))).mono ?_; rintro e w' ⟨rfl,rfl⟩
   go_wp2;go_ret;exact ⟨by simp [zsign,h0],bal⟩
def cmpN (a b:Nat):Int:=if a<b then -1 else if b<a then 1 else 0
theorem zDW {b:List Nat} (oa:Num.Ok a) (cb:Num.Can b) (h:a.length<b.length):Num.nat a<Num.nat b:=by
 have h1:=Num.nat_lt oa;have h2:=Num.nat_pos_of_can cb (by intro e; rw [e] at h; simp at h);have h3:Num.base ^ a.length<=Num.base ^ (b.length-1):=Nat.pow_le_pow_right Num.base_pos (by omega);omega
theorem zGU {b:List Nat} (oa:Num.Ok a) (ha:k<a.length) (hb:k<b.length) (hd:a.drop (k+1)=b.drop (k+1)) (h:a[k]<b[k]):Num.nat a<Num.nat b:=by
 have e1:a=a.take k++a[k] :: a.drop (k+1):=by rw [<-List.drop_eq_getElem_cons ha,List.take_append_drop]
 have e2:b=b.take k++b[k] :: b.drop (k+1):=by rw [<-List.drop_eq_getElem_cons hb,List.take_append_drop]
 rw [e1,e2,Num.nat_append,Num.nat_append,<-hd];simp only [Num.nat];have h1:=Num.nat_lt (oa.take k);have l1:(a.take k).length=k:=by rw [List.length_take]; omega
 have l2:(b.take k).length=k:=by rw [List.length_take]; omega
 rw [l1] at h1;rw [l1,l2];generalize Num.nat (List.take k a)=x at *;generalize Num.nat (List.take k b)=y at *;generalize Num.base*Num.nat (List.drop (k+1) a)=z at *;generalize Num.base ^ k=p at *;have:p*(a[k]+1+z)<=p*(b[k]+z):=Nat.mul_le_mul_left _ (by omega);have e:p*(a[k]+1+z)=p*(a[k]+z)+p:=by grind
 omega
theorem zAu {B:Option Addr} {b:List Nat} (ha:WordsAt w X A n c a) (hb:WordsAt w Y B m d b) (ca:Num.Can a) (cb:Num.Can b) :
  Calls Tryz.prog 156 #[.slice A n c,.slice B m d] w fun e w'=>e = .returned (.int .i64 (cmpN (Num.nat a) (Num.nat b)))/\Below w w w':=by
 have hn:=ha.le;have hc:=ha.cap;have hm:=hb.le;have hd:=hb.cap;have HA:=hdq ha.cell;have HB:=hdq hb.cell;have LA:=hdq ha.len;have LB:=hdq hb.len;have oa:=ha.ok;have ob:=hb.ok;clear ha hb;by_cases hnm:n=m
 ·subst hnm;go_enter Tryz.func156,Tryz.ntmps156
  go_wp2;go_loopw [5] (fun s W=>Below w w W/\∃ k:Nat,k<=n/\Hid (a.drop k=b.drop k)/\s = .int .i64 ((k:Int)-1)) (fun s _=>(intOf s+1).toNat)
  case atStart=>exact ⟨brf _ _,n,nlr _,by show _=_; rw [List.drop_of_length_le (by rw [LA.out]; omega),List.drop_of_length_le (by rw [LB.out]; omega)],rfl⟩
  case round=>
   obtain ⟨hbw,k,hk,hT,rfl⟩:=hrel;by_cases h0:0<k
   ·obtain ⟨j,rfl⟩:∃ j,k=j+1:=⟨k-1,by omega⟩;rw [show (((j+1:Nat):Int)-1)=(j:Int) by omega];obtain ⟨ad,rfl,-,hcell⟩:=HA.out j (by omega);obtain ⟨bd,rfl,-,hcell2⟩:=HB.out j (by omega);have hc1:wr.cell? (ad.add j)=some (Value.int IntKind.u32 ↑(a.getD j 0)):=by rw [hbw.cell (zAb hcell)]; exact hcell
    have hc2:wr.cell? (bd.add j)=some (Value.int IntKind.u32 ↑(b.getD j 0)):=by rw [hbw.cell (zAb hcell2)]; exact hcell2
    clear hcell hcell2;have la:a[j]?=some (a.getD j 0):=by have:=LA.out; simp [gge (show j<a.length by omega)]
    have lb:b[j]?=some (b.getD j 0):=by have:=LB.out; simp [gge (show j<b.length by omega)]
    have La:=hdq la;have Lb:=hdq lb;clear la lb;generalize a.getD j 0=x at *;generalize b.getD j 0=y at *;have hj:(j:Int)<n:=(by omega);have hj0:(0:Int)<=j:=by omega
    have Hd:Hid (x=y->a.drop j=b.drop j):=by
     intro e;obtain ⟨h1,h2⟩:=List.getElem?_eq_some_iff.1 La.out;obtain ⟨h3,h4⟩:=List.getElem?_eq_some_iff.1 Lb.out;rw [List.drop_eq_getElem_cons h1,List.drop_eq_getElem_cons h3,h2,h4,e,hT.out]
    have Hlt:Hid (x<y->Num.nat a<Num.nat b):=by
     intro e;obtain ⟨h1,h2⟩:=List.getElem?_eq_some_iff.1 La.out;obtain ⟨h3,h4⟩:=List.getElem?_eq_some_iff.1 Lb.out;exact zGU oa h1 h3 hT.out (by rw [h2,h4]; exact e)
    have Hgt:Hid (y<x->Num.nat b<Num.nat a):=by
     intro e;obtain ⟨h1,h2⟩:=List.getElem?_eq_some_iff.1 La.out;obtain ⟨h3,h4⟩:=List.getElem?_eq_some_iff.1 Lb.out;exact zGU ob h3 h1 hT.out.symm (by rw [h2,h4]; exact e)
    clear La Lb;rcases Nat.lt_trichotomy x y with hxy | hxy | hxy
    ·have n1:((x:Int) != (y:Int))=true:=by simp; omega
     have n2:((x:Int) == (y:Int))=false:=by simp; omega
     have n3:decide (x<y)=true:=by simp; omega
     go_wp2;(go_quiet (fail));go_wp2;(go_quiet (fail));go_wp2;go_ret;exact ⟨zAz (by rw [cmpN,if_pos (Hlt.out hxy)]),zAB (zAB hbw _) _⟩
    ·subst hxy;go_wp2;(go_quiet (fail));go_wp2;go_roundw;case rel=>exact ⟨zAB hbw _,j,by omega,(by first | exact Hd.out trivial | exact Hd.out rfl),rfl⟩
     case measure=>simp [intOf]
    ·have n1:((x:Int) != (y:Int))=true:=by simp; omega
     have n2:((x:Int) == (y:Int))=false:=by simp; omega
     have n3:decide (x<y)=false:=by simp; omega
     go_wp2;(go_quiet (fail));go_wp2;(go_quiet (fail));go_wp2;go_ret;exact ⟨zAz (by rw [cmpN,if_neg (by have:=Hgt.out hxy; omega),if_pos (Hgt.out hxy)]),zAB (zAB hbw _) _⟩
   ·(obtain rfl:k=0:=by omega);have hab:a=b:=hT.out;go_wp2;go_ret;exact ⟨zAz (by rw [cmpN,hab,if_neg (by omega),if_neg (by omega)]),hbw⟩
 ·have h1:((n:Int) != (m:Int))=true:=by simp; omega
  have h2:((n:Int) == (m:Int))=false:=by simp; omega
  by_cases hlt:n<m
  all_goals
   (go_enter Tryz.func156,Tryz.ntmps156);go_wp2;go_ret
  ·exact ⟨zAz (by rw [cmpN,if_pos (zDW oa cb (by rw [LA.out,LB.out]; omega))]),brf _ _⟩
  ·have:=zDW ob ca (by rw [LA.out,LB.out]; omega);exact ⟨zAz (by rw [cmpN,if_neg (by omega),if_pos this]),brf _ _⟩
def zval (ng:Bool) (m:Nat):Int:=if ng then -(m:Int) else m
def cmpZ (a b:Int):Int:=if a<b then -1 else if b<a then 1 else 0
theorem zHo {a:Nat} (h:zsign na a<zsign nb b):zval na a<zval nb b:=by
 unfold zsign at h; unfold zval
 cases na <;> cases nb <;> simp at h ⊢ <;> (repeat' split at h) <;> omega
theorem zD8 {a:Nat} (h:zsign na a<zsign nb b):cmpZ (zval na a) (zval nb b)=-1:=by
 rw [cmpZ,if_pos (zHo h)]
theorem zD7 {a:Nat} (h:zsign nb b<zsign na a):cmpZ (zval na a) (zval nb b)=1:=by
 have:=zHo h;rw [cmpZ,if_neg (by omega),if_pos this]
theorem zDS {a:Nat} (h:zsign na a=zsign nb b) (hn:zsign na a<0):cmpZ (zval na a) (zval nb b)=cmpN b a:=by
 unfold zsign at h hn; unfold cmpZ cmpN zval
 cases na <;> cases nb <;> simp at h hn ⊢ <;> (repeat' split at h) <;> (repeat' split) <;> omega
theorem zDT {a:Nat} (h:zsign na a=zsign nb b) (hn:¬ zsign na a<0):cmpZ (zval na a) (zval nb b)=cmpN a b:=by
 unfold zsign at h hn; unfold cmpZ cmpN zval
 cases na <;> cases nb <;> simp at h hn ⊢ <;> (repeat' split at h) <;> (repeat' split) <;> omega
theorem zH3 {B:Option Addr} {b:List Nat} (na nb:Bool) (ha:WordsAt w X A n c a) (hb:WordsAt w Y B m d b) :
  Calls Tryz.prog 110 #[.agg #[.bool na,.slice A n c],.agg #[.bool nb,.slice B m d]] w fun e w'=>e = .returned (.int .i64 (cmpZ (zval na (Num.nat a)) (zval nb (Num.nat b))))/\Below w w w':=by
 go_enter Tryz.func110,Tryz.ntmps110
 go_wp2
 refine zAo (fun W=>Below w w W/\Box2 W w (.bool na) (.slice A n c)/\Box2 W (w+1) (.bool nb) (.slice B m d)/\w.heap.size<W.heap.size/\w.heap.size+1<W.heap.size)
  ⟨(bal).alloc (by simp) _,bx2,bx2,by simp; omega,by simp⟩ ?_
 rintro W ⟨hbW,bA,bB,s0,s1⟩;have ha':=ha.old.below hbW;have hb':=hb.old.below hbW;have hBW:=hbW.size
 go_region_held3 (Sees w [] W) (exact kp)
  (first | (go_at_call 107; ((with_reducible refine (zAF na (ha'.keptOld (Sees.kept (by assumption)))).mono ?_); rintro e w1 ⟨rfl,hbb⟩)) | (go_at_call 107; ((with_reducible refine (zAF nb (hb'.keptOld (Sees.kept (by assumption)))).mono ?_); rintro e W1 ⟨rfl,hbb2⟩)))
 rename_i hS;rcases Int.lt_trichotomy (zsign na (Num.nat a)) (zsign nb (Num.nat b)) with h | h | h
 ·have hfin:=hdq (zD8 h);go_wp2;go_ret;exact ⟨zAz hfin.out.symm,hbW.trans hS.kept.below⟩
 ·have h1:¬ (zsign na (Num.nat a)<zsign nb (Num.nat b)):=by omega
  have h2:¬ (zsign nb (Num.nat b)<zsign na (Num.nat a)):=by omega
  have H:=hdq h;clear h;by_cases hn:zsign na (Num.nat a)<0
  ·have hfin:=hdq (zDS H.out hn);go_wp2
   go_region_held3 (Sees w [] W) (exact kp)
    (first
     | (go_at_call 155; ((with_reducible refine (zAk (ha'.keptOld (Sees.kept (by assumption)))).mono ?_); rintro e w2 ⟨rfl,rfl⟩))
     | (go_at_call 155; ((with_reducible refine (zAk (hb'.keptOld (Sees.kept (by assumption)))).mono ?_); rintro e w2 ⟨rfl,rfl⟩))
     | (go_at_call 156; ((with_reducible refine (zAu (hb'.keptOld (Sees.kept (by assumption))).trim (ha'.keptOld (Sees.kept (by assumption))).trim (Num.Can.trim _) (Num.Can.trim _)).mono ?_); rintro e w2 ⟨rfl,hbb3⟩)))
   rename_i hS2;go_wp2;go_ret;exact ⟨zAz (by rw [hfin.out,Num.nat_trim,Num.nat_trim]),hbW.trans hS2.kept.below⟩
  ·have hfin:=hdq (zDT H.out hn);go_wp2
   go_region_held3 (Sees w [] W) (exact kp)
    (first
     | (go_at_call 155; ((with_reducible refine (zAk (ha'.keptOld (Sees.kept (by assumption)))).mono ?_); rintro e w2 ⟨rfl,rfl⟩))
     | (go_at_call 155; ((with_reducible refine (zAk (hb'.keptOld (Sees.kept (by assumption)))).mono ?_); rintro e w2 ⟨rfl,rfl⟩))
     | (go_at_call 156; ((with_reducible refine (zAu (ha'.keptOld (Sees.kept (by assumption))).trim (hb'.keptOld (Sees.kept (by assumption))).trim (Num.Can.trim _) (Num.Can.trim _)).mono ?_); rintro e w2 ⟨rfl,hbb3⟩)))
   rename_i hS2;go_wp2;go_ret;exact ⟨zAz (by rw [hfin.out,Num.nat_trim,Num.nat_trim]),hbW.trans hS2.kept.below⟩
 ·have hfin:=hdq (zD7 h);have h1:¬ (zsign na (Num.nat a)<zsign nb (Num.nat b)):=by omega
  go_wp2;go_ret;exact ⟨zAz hfin.out.symm,hbW.trans hS.kept.below⟩
theorem zFp (x y:Nat) (hx:x<4294967296):x ||| (y*4294967296)=x+4294967296*y:=by
 have:=Nat.two_pow_add_eq_or_of_lt (i:=32) (b:=x) (by simpa using hx) y;rw [Nat.or_comm,Nat.mul_comm y];simp at this;omega
theorem zBl (h:WordsAt w X A n c l) (h2:n<=2) :
  Calls Tryz.prog 157 #[.slice A n c] w fun e w'=>e = .returned (.int .u64 (Num.nat l))/\Below w w w':=by
 have hn:=h.le;have hc:=h.cap;have H:=hdq h.cell;have HL:=hdq h.len;have ho:=h.ok;clear h
 match l,HL,ho,H with
 | [],HL,ho,H=>
  obtain rfl:n=0:=HL.out.symm;go_enter Tryz.func157,Tryz.ntmps157
  go_wp2;go_ret
  exact ⟨rfl,brf _ _⟩
 | [x],HL,ho,H=>
  obtain rfl:n=1:=HL.out.symm;obtain ⟨ad,rfl,-,hcell⟩:=H.out 0 (by omega);simp [add_zero'] at hcell;have hx:x<4294967296:=ho x (by simp);clear H ho;go_enter Tryz.func157,Tryz.ntmps157
  go_wp2;go_ret
  exact ⟨rfl,brf _ _⟩
 | [x,y],HL,ho,H=>
  obtain rfl:n=2:=HL.out.symm;obtain ⟨ad,rfl,-,hcell⟩:=H.out 0 (by omega);obtain ⟨ad',e',-,hcell'⟩:=H.out 1 (by omega);cases e';simp [Addr.add] at hcell hcell';have hx:x<4294967296:=ho x (by simp);have hy:y<4294967296:=ho y (by simp);clear H ho;have e1:IntKind.u64.wrap (x:Int)=x:=IntWalk.u64_in _ ⟨by omega,by omega⟩;have e2:IntKind.u64.wrap (y:Int)=y:=IntWalk.u64_in _ ⟨by omega,by omega⟩;go_enter Tryz.func157,Tryz.ntmps157
  go_wp2;go_quiet (fail)
  go_wp2;go_ret;refine ⟨zAz ?_,zAB (brf _ _) _⟩;have h4:=u64_or_nat x (y*4294967296) (by omega) (by omega);simp only [Int.natCast_mul,Int.cast_ofNat_Int] at h4;rw [h4,zFp x y hx]
  simp [Num.nat,Num.base]
 | _ :: _ :: _ :: _,HL,ho,H=>exact absurd HL.out (by simp; omega)
structure ZAt (w:World) (X:Nat->Prop) (ng:Bool) (A:Option Addr) (n c:Nat) (z:Int):Prop where
 sign:ng=decide (z<0)
 words:WordsAt w X A n c (Num.words z.natAbs)
section
variable {w w':World} {X Y:Nat->Prop} {B B':Nat} {ng:Bool} {A:Option Addr} {n c:Nat} {z:Int}
theorem ZAt.keep (h:ZAt w X ng A n c z) (hk:∀ p:Addr,X p.block->p.block<w->w'.cell? p=w.cell? p):ZAt w' X ng A n c z:=⟨h.sign,h.words.keep hk⟩
theorem ZAt.below (h:ZAt w X ng A n c z) (hb:Below w w w'):ZAt w' X ng A n c z:=⟨h.sign,h.words.below hb⟩
theorem ZAt.imp (h:ZAt w X ng A n c z) (hx:∀ b,b<w.heap.size->X b->Y b):ZAt w Y ng A n c z:=⟨h.sign,h.words.imp hx⟩
theorem ZAt.set (h:ZAt w (New B) ng A n c z) {p:Addr} (hp:p.block<B) (v:Value):ZAt (w.setCell p v) (New B) ng A n c z:=
 h.keep fun q hq _=>World.cell?_setCell_other w p q v (fun e=>by subst e; simp only [New] at hq; omega)
theorem ZAt.lower (h:ZAt w (New B) ng A n c z) (hB:B'<=B):ZAt w (New B') ng A n c z:=h.imp fun _ _ hb=>nlt hB hb
theorem ZAt.kept (h:ZAt w X ng A n c z) (k:Kept B gs w w') (hx:∀ g ∈ gs,¬ X g):ZAt w' X ng A n c z:=⟨h.sign,h.words.kept k hx⟩
theorem ZAt.val (h:ZAt w X ng A n c z):zval ng (Num.nat (Num.words z.natAbs))=z:=by
 rw [Num.nat_words,h.sign]; unfold zval; split <;> simp_all <;> omega
end
theorem ZAt.of (h:WordsAt w X A n c l) (hc:Num.Can l) (hz:z=zval ng (Num.nat l)) (hs:l=[]->ng=false) :
  ZAt w X ng A n c z:=by
 have e1:z.natAbs=Num.nat l:=by rw [hz]; unfold zval; split <;> omega
 have e2:Num.words z.natAbs=l:=by rw [e1]; exact Num.words_nat h.ok hc
 refine ⟨?_,by rw [e2]; exact h⟩;rw [hz]; unfold zval
 have h0:=Num.nat_eq_zero_of_can hc
 cases ng with
 | false=>simp
 | true=>
  have:l ≠ []:=fun e=>by have:=hs e; cases this
  have:Num.nat l ≠ 0:=fun e=>this (h0.1 e)
  simp; omega
theorem WordsAt.block {f:Nat × Nat} (hb:B<=b) (ho:Num.Ok l) (hl:l.length<=9223372036854775807)
  (h:w.heap[b]?=some (.cells (l.map fun (x:Nat)=>Value.int .u32 x).toArray t f)):WordsAt w (New B) (some ⟨b,0,none⟩) l.length l.length l:=
 ⟨rfl,nlr _,hl,ho,fun k hk=>⟨_,rfl,hb,by
  have:(⟨b,0,none⟩:Addr).add k=⟨b,k,none⟩:=by unfold Addr.add; split <;> simp_all
  rw [this];simp [World.cell?,h,hk]⟩⟩
theorem zAY (ng:Bool) (m:Nat) (hm:m<18446744073709551616) (w:World) :
  Calls Tryz.prog 148 #[.bool ng,.int .u64 m] w fun e w'=>(∃ ng' A n c,e = .returned (.agg #[.bool ng',.slice A n c])/\ZAt w' (New w) ng' A n c (zval ng m))/\Below w w w':=by
 by_cases h0:m=0
 ·subst h0;go_enter Tryz.func148,Tryz.ntmps148
  go_wp2;refine bodyPost_ret (v:=.agg #[.bool false,.slice none 0 0]) (by simp [results,Tryz.results148,go_sem]) rfl ⟨⟨_,_,_,_,rfl,?_⟩,bal⟩;exact ZAt.of (l:=[]) (WordsAt.nil _ _ _ _ (by omega)) (fun h=>absurd rfl h) (by cases ng <;> rfl) (fun _=>rfl)
 ·have h1:((m:Int) == 0)=false:=by simpa using h0
  have hb:Num.base=4294967296:=rfl;by_cases h2:m<4294967296
  ·have h3:(((m:Int) / 4294967296) == 0)=true:=by simp; omega
   (go_enter Tryz.func148,Tryz.ntmps148);go_wp2;refine bodyPost_ret (v:=.agg #[.bool ng,.slice (some ⟨w+1,0,none⟩) 1 1]) (by simp [results,Tryz.results148,go_sem]) rfl ⟨⟨_,_,_,_,rfl,?_⟩,(bal).alloc (by simp) _⟩;refine ZAt.of (l:=[m]) (WordsAt.block (by omega) (Num.Ok.cons h2 Num.Ok.nil) (by simp) (zAd _ _ (by simp))) (fun _=>by simpa using h0) (by simp [Num.nat]) (by simp)
  ·have h3:(((m:Int) / 4294967296) == 0)=false:=by simp; omega
   (go_enter Tryz.func148,Tryz.ntmps148);go_wp2;refine bodyPost_ret (v:=.agg #[.bool ng,.slice (some ⟨w+1,0,none⟩) 2 2]) (by simp [results,Tryz.results148,go_sem]) rfl ⟨⟨_,_,_,_,rfl,?_⟩,(bal).alloc (by simp) _⟩;refine ZAt.of (l:=[m % 4294967296,m / 4294967296]) (WordsAt.block (by omega) (Num.Ok.cons (by omega) (Num.Ok.cons (by omega) Num.Ok.nil)) (by simp) (zAd _ _ (by simp))) (fun _=>by simp; omega) (by simp [Num.nat,hb]; congr 1; omega) (by simp)
theorem build_calls (ng:Bool) (h:WordsAt w (New B) A n c l) :
  Calls Tryz.prog 158 #[.bool ng,.slice A n c] w fun e w'=>(∃ ng' A n c,e = .returned (.agg #[.bool ng',.slice A n c])/\ZAt w' (New B) ng' A n c (zval ng (Num.nat l)))/\Below w w w':=by
 have HZ:=hdq (Num.trim_eq_nil l);have hb0:Below w w (w.alloc (.cells #[.bool false,.slice none 0 0] 78)):=bal;by_cases h0:Num.nat l=0
 ·have ht:=HZ.out.2 h0;go_enter Tryz.func158,Tryz.ntmps158
  go_wp2_with fail
  refine (zAk (h.below hb0)).mono ?_; rintro e w' ⟨rfl,rfl⟩
  rw [ht];go_wp2;refine bodyPost_ret (v:=.agg #[.bool false,.slice none 0 0]) (by simp [results,Tryz.results158,go_sem]) rfl ⟨⟨_,_,_,_,rfl,?_⟩,hb0⟩;exact ZAt.of (l:=[]) (WordsAt.nil _ _ _ _ (by omega)) (fun h=>absurd rfl h) (by rw [h0]; cases ng <;> rfl) (fun _=>rfl)
 ·have ht:Num.trim l ≠ []:=fun e=>h0 (HZ.out.1 e)
  have hl:((Num.trim l).length == 0)=false:=by simpa using ht
  go_enter Tryz.func158,Tryz.ntmps158
  go_wp2_with fail
  refine (zAk (h.below hb0)).mono ?_; rintro e w' ⟨rfl,rfl⟩
  go_wp2;refine bodyPost_ret (v:=.agg #[.bool ng,.slice A (Num.trim l).length c]) (by simp [results,Tryz.results158,go_sem]) rfl ⟨⟨_,_,_,_,rfl,?_⟩,bal⟩;exact ZAt.of (h.below (bal)).trim (Num.Can.trim l) (by rw [Num.nat_trim]) (fun e=>absurd e ht)
def fits (z:Int):Bool:=decide (-9223372036854775808<=z/\z<=9223372036854775807)
def fitted (z:Int):Int:=if fits z then z else 0
theorem zAs (ng:Bool) (h:WordsAt w X A n c l) :
  Calls Tryz.prog 150 #[.agg #[.bool ng,.slice A n c]] w fun e w'=>e = .returned (.tuple #[.int .i64 (fitted (zval ng (Num.nat l))),.bool (fits (zval ng (Num.nat l)))])/\Below w w w':=by
 have hb0:∀ o,Below w w (w.alloc o):=fun o=>bal
 have HT:=hdq (Num.nat_trim l);by_cases h2:(Num.trim l).length<=2
 ·have hlt:Num.nat l<18446744073709551616:=by
   have h1:=Num.nat_lt h.ok.trim;rw [Num.nat_trim] at h1;have h3:Num.base ^ (Num.trim l).length<=Num.base ^ 2:=Nat.pow_le_pow_right Num.base_pos h2;have h4:Num.base ^ 2=18446744073709551616:=(by decide);omega
  have hlen:¬ (2<(Num.trim l).length):=by omega
  have fin:∀ (v:Int) (b:Bool),fits (zval ng (Num.nat l))=b->(b=true->zval ng (Num.nat l)=v)->(b=false->v=0)->v=fitted (zval ng (Num.nat l)):=by
   intro v b h1 h2 h3;unfold fitted
   cases b with
   | true=>rw [if_pos h1]; exact (h2 rfl).symm
   | false=>rw [if_neg (by rw [h1]; simp)]; exact h3 rfl
  have FIN:=hdq fin;clear fin
  cases ng with
  | true=>
   have hf:fits (zval true (Num.nat l))=decide (Num.nat l<=9223372036854775808):=by
    unfold fits zval; simp; omega
   have HF:=hdq hf;clear hf;by_cases hbig:9223372036854775808<Num.nat l
   all_goals
    (go_enter Tryz.func150,Tryz.ntmps150);(go_wp2_with fail);refine (zAk (h.below (hb0 _))).mono ?_; rintro e w' ⟨rfl,rfl⟩
    (go_wp2_with fail);refine (zBl (h.below (hb0 _)).trim h2).mono ?_; rintro e w1 ⟨rfl,hb1⟩
    rw [Num.nat_trim];obtain ⟨hc1,hf1⟩:=bcell hb1;go_wp2;go_ret2
   ·exact ⟨zF3 (FIN.out _ false (by rw [HF.out]; simpa using hbig) (by simp) (by simp)) (by rw [HF.out]; symm; simpa using hbig),(hb0 _).trans (hb1.mono (by simp))⟩
   ·refine ⟨zF3 (FIN.out _ true (by rw [HF.out]; simpa using hbig) (fun _=>?_) (by simp)) (by rw [HF.out]; symm; simpa using hbig),(hb0 _).trans (hb1.mono (by simp))⟩
    simp only [zval,wrap64,IntKind.wrap_u64]; simp; omega
  | false=>
   have hf:fits (zval false (Num.nat l))=decide (Num.nat l<9223372036854775808):=by
    unfold fits zval; simp; omega
   have HF:=hdq hf;clear hf;by_cases hbig:9223372036854775808<=Num.nat l
   ·have hv:fits (zval false (Num.nat l))=false:=by rw [HF.out]; exact decide_eq_false (by omega)
    have HV:=hdq hv;have hB:decide ((9223372036854775808:Int)<=(Num.nat l:Int))=true:=decide_eq_true (by omega);clear hv hbig hlt;(go_enter Tryz.func150,Tryz.ntmps150);(go_wp2_with fail);refine (zAk (h.below (hb0 _))).mono ?_; rintro e w' ⟨rfl,rfl⟩
    (go_wp2_with fail);refine (zBl (h.below (hb0 _)).trim h2).mono ?_; rintro e w1 ⟨rfl,hb1⟩
    rw [Num.nat_trim];obtain ⟨hc1,hf1⟩:=bcell hb1;go_wp2;go_ret2;exact ⟨zF3 (FIN.out _ false HV.out (by simp) (by simp)) HV.out.symm,(hb0 _).trans (hb1.mono (by simp))⟩
   ·have hv:fits (zval false (Num.nat l))=true:=by rw [HF.out]; exact decide_eq_true (by omega)
    have HV:=hdq hv;have hB:decide ((9223372036854775808:Int)<=(Num.nat l:Int))=false:=decide_eq_false (by omega)
    have Hw:Hid (zval false (Num.nat l)=wrap64 (Num.nat l:Int)):=by
     show (Num.nat l:Int)=_;unfold wrap64; omega
    clear hv hbig hlt;(go_enter Tryz.func150,Tryz.ntmps150);(go_wp2_with fail);refine (zAk (h.below (hb0 _))).mono ?_; rintro e w' ⟨rfl,rfl⟩
    (go_wp2_with fail);refine (zBl (h.below (hb0 _)).trim h2).mono ?_; rintro e w1 ⟨rfl,hb1⟩
    rw [Num.nat_trim];obtain ⟨hc1,hf1⟩:=bcell hb1;go_wp2;go_ret2;exact ⟨zF3 (FIN.out _ true HV.out (fun _=>Hw.out) (by simp)) HV.out.symm,(hb0 _).trans (hb1.mono (by simp))⟩
 ·have hlen:2<(Num.trim l).length:=by omega
  have hbig:18446744073709551616<=Num.nat l:=by
   have h1:=Num.nat_pos_of_can (Num.Can.trim l) (by intro e; rw [e] at hlen; simp at hlen);rw [Num.nat_trim] at h1;have h3:Num.base ^ 2<=Num.base ^ ((Num.trim l).length-1):=Nat.pow_le_pow_right Num.base_pos (by omega);have h4:Num.base ^ 2=18446744073709551616:=(by decide);omega
  have hf:fits (zval ng (Num.nat l))=false:=by
   unfold fits zval; cases ng <;> simp <;> omega
  have HF:=hdq hf;clear hf;go_enter Tryz.func150,Tryz.ntmps150
  go_wp2_with fail
  refine (zAk (h.below (hb0 _))).mono ?_; rintro e w' ⟨rfl,rfl⟩
  go_wp2;go_ret2;exact ⟨zF3 (by unfold fitted; rw [HF.out]; rfl) HF.out.symm,hb0 _⟩
theorem zAI (n:Int) (h1:-9223372036854775808<=n) (h2:n<=9223372036854775807) (w:World) :
  Calls Tryz.prog 95 #[.int .i64 n] w fun e w'=>(∃ ng A k c,e = .returned (.agg #[.bool ng,.slice A k c])/\ZAt w' (New w) ng A k c n)/\Below w w w':=by
 have hb0:∀ o,Below w w (w.alloc o):=fun o=>bal
 by_cases hn:n<0
 ·obtain ⟨m,rfl⟩:∃ m:Nat,n=-(m:Int):=⟨n.natAbs,by omega⟩
  have Hw:Hid (IntKind.u64.wrap (-(IntKind.u64.wrap (-(m:Int))))=(m:Int)):=by
   show _=_; simp only [IntKind.wrap_u64]; omega
  have hm:m<18446744073709551616:=by omega
  have Hm:=hdq hm;clear h1 h2 hm;go_enter Tryz.func95,Tryz.ntmps95
  go_wp2_with fail
  rw [Hw.out];refine (zAY true m Hm.out _).mono ?_; rintro e w1 ⟨⟨ng',A,k,c,rfl,hz⟩,hb1⟩
  obtain ⟨hc1,hf1⟩:=bcell hb1;go_wp2;refine bodyPost_ret (v:=.agg #[.bool ng',.slice A k c]) (by simp [results,Tryz.results95,go_sem,hc1]) rfl ⟨⟨_,_,_,_,rfl,?_⟩,(((hb0 _).trans (hb1.mono (by simp))).setCell (by simp) _).setCell (by simp) _⟩;exact ((hz.set (by simp) _).set (by simp) _).lower (by simp)
 ·obtain ⟨m,rfl⟩:∃ m:Nat,n=(m:Int):=⟨n.natAbs,by omega⟩
  have Hw:Hid (IntKind.u64.wrap (m:Int)=(m:Int)):=by
   show _=_; simp only [IntKind.wrap_u64]; omega
  have hm:m<18446744073709551616:=by omega
  have Hm:=hdq hm;go_enter Tryz.func95,Tryz.ntmps95
  go_wp2_with fail
  first | (rw [Hw.out]; refine (zAY false m Hm.out _).mono ?_) | refine (zAY false m Hm.out _).mono ?_
  rintro e w1 ⟨⟨ng',A,k,c,rfl,hz⟩,hb1⟩;obtain ⟨hc1,hf1⟩:=bcell hb1;go_wp2;refine bodyPost_ret (v:=.agg #[.bool ng',.slice A k c]) (by simp [results,Tryz.results95,go_sem,hc1]) rfl ⟨⟨_,_,_,_,rfl,?_⟩,(((hb0 _).trans (hb1.mono (by simp))).setCell (by simp) _).setCell (by simp) _⟩;exact ((hz.set (by simp) _).set (by simp) _).lower (by simp)
theorem zE9:(Tryz.prog.info? 105).map (fun i=>(i.zero,i.size,i.bytes))=some (some (.int .u32 0),1,4):=by kernel_rfl
theorem zCN (h:WordsAt w X A n c l) (hn:n<=35184372088832) :
  Calls Tryz.prog 166 #[.slice A n c] w fun e w'=>(∃ A' c',e = .returned (.slice A' n c')/\WordsAt w' (New w) A' n c' l)/\Below w w w':=by
 obtain ⟨i0,hi,hz0,hz1,hz2⟩:=info_parts zE9;have Hn:=hdq hn;clear hn;have heq:=fun (w:World) (A:Option Addr) (n c:Nat)=>Lib.run_eql_slice_nil (P:=Tryz.prog) w 76 105 A n c 0 0 Tryz.underlying76
 rcases A with _ | ad
 ·have h0:n=0:=by
   rcases Nat.eq_zero_or_pos n with h0 | h0
   ·exact h0
   ·obtain ⟨ad,e,_⟩:=h.cell 0 h0; cases e
  subst h0;go_enter Tryz.func166,Tryz.ntmps166
  go_wp2;go_ret;refine ⟨⟨none,0,rfl,?_⟩,brf _ _⟩;rw [List.eq_nil_of_length_eq_zero h.len]; exact WordsAt.nil _ _ _ _ (by omega)
 ·have Hc:=hdq h.cell;have Hl:=hdq h.len;have Ho:=hdq h.ok;go_enter Tryz.func166,Tryz.ntmps166
  go_wp2_with (at_builtin; refine wpList_append_own_at _ rfl _ _ 76 rfl w 105 i0 (.int .u32 0) 1 4 Tryz.underlying76 hi hz0 hz1 hz2 rfl (by decide) (.slice (some w) 0 0) 0 [] rfl ?own ad n c (wv l) rfl ?len ?cells (zEC l) ?b1 ?b2 ?b3 ?_)
  case own=>exact ⟨rfl,.inr ⟨w.heap.size,0,#[],rfl,nlr _,zAd _ _ rfl,nlr _,by simp [maxLen],rfl,rfl⟩⟩
  case len=>rw [zBM,Hl.out,Nat.mul_one]
  case cells=>
   intro j u hu;obtain ⟨hj,rfl⟩:=zJO l j u hu;have h1:=Hl.out;obtain ⟨ad',e',-,hc⟩:=Hc.out j (by omega);cases e';rw [World.cell?_alloc_lt _ _ _ (zAb hc)]; exact hc
  case b1=>have:=Hn.out; simp [maxLen]; omega
  case b2=>have:=Hn.out; omega
  case b3=>simp
  intro v' w1 hown hg hnil hat;go_wp2;go_ret;obtain ⟨A',c',rfl,hw⟩:=zC7 (by simpa using hown) Ho.out;exact ⟨⟨A',c',by simp,by simpa using hw⟩,(bal).grown hg (by simp) (by simp [Value.ownBlock])⟩
theorem zDk (ng:Bool) (m:Nat):zval (!ng) m=- zval ng m:=by cases ng <;> simp [zval]
theorem zB1 (ng:Bool) (h:WordsAt w X A n c l) (hn:n<=35184372088832) :
  Calls Tryz.prog 149 #[.agg #[.bool ng,.slice A n c]] w fun e w'=>(∃ ng' A' n' c',e = .returned (.agg #[.bool ng',.slice A' n' c'])/\ZAt w' (New w) ng' A' n' c' (- zval ng (Num.nat l)))/\Below w w w':=by
 have Hn:=hdq (nlt (Num.trim_length_le l) (by rw [h.len]; exact hn));clear hn;go_enter Tryz.func149,Tryz.ntmps149
 go_wp2
 refine zAo (fun W=>Below w w W/\Box2 W w (.bool ng) (.slice A n c)/\Box2 W (w+1) (.bool false) (.slice none 0 0)/\w.heap.size<W.heap.size/\w.heap.size+1<W.heap.size)
  ⟨(bal).alloc (by simp) _,bx2,bx2,by simp; omega,by simp⟩ ?_
 rintro W ⟨hbW,bA,bR,s0,s1⟩;have ha:=h.old.below hbW;have hBW:=hbW.size
 go_region_held3 (Sees w [w.heap.size+1] W) (exact kp)
  (first
   | (go_at_call 155; ((with_reducible refine (zAk (ha.keptOld (Sees.kept (by assumption)))).mono ?_); rintro e w1 ⟨rfl,rfl⟩))
   | (go_at_call 166; ((with_reducible refine (zCN (ha.keptOld (Sees.kept (by assumption))).trim Hn.out).mono ?_); rintro e w1 ⟨⟨A1,c1,rfl,hw1⟩,hb1⟩))
   | (go_at_call 158; ((with_reducible refine (build_calls (!ng) hw1).mono ?_); rintro e w2 ⟨⟨ng',A',n',c',rfl,hz⟩,hb2⟩)))
 rename_i hS;obtain ⟨v0,v1⟩:=hS.kept.val2 (by simp) (by simp [bR.1]) (by simp [bR.2.1]);have hzf:=((hz.set (p:=⟨w+1,0,none⟩) (by simpa using s1) (.bool ng')).set (p:=⟨w.heap.size+1,1,none⟩) (by simpa using s1) (.slice A' n' c')).lower (B':=w) (by simpa using hBW);have hbf:=hbW.trans hS.kept.below;clear hS hz;generalize (w2.setCell ⟨w+1,0,none⟩ (.bool ng')).setCell ⟨w.heap.size+1,1,none⟩ (.slice A' n' c')=Wf at *;rw [Num.nat_trim,zDk] at hzf;go_wp2;exact bodyPost_ret (v:=.agg #[.bool ng',.slice A' n' c']) (by simp [results,Tryz.results149,go_sem,v0,v1]) rfl ⟨⟨_,_,_,_,rfl,hzf⟩,hbf⟩
theorem zA9 (c:Int) (w:World) :
  Calls Tryz.prog 204 #[.int .u64 c] w fun e w'=>e = .returned (.func (.func 231) #[] #[.pointer (some w)])/\w'=w.alloc (.cells #[.int .u64 c] 166):=by
 go_enter Tryz.func204,Tryz.ntmps204
 go_wp2;go_ret;exact ⟨rfl,rfl⟩
theorem zCM (x c:Int) (hx:0<=x) (hc:0<=c) (h:x+c<18446744073709551616) (hB:Box1 w b (.int .u64 c)) :
  Calls Tryz.prog 231 #[.int .u64 x,.pointer (some b)] w fun e w'=>e = .returned (.int .u32 ((x+c) % 4294967296))/\w'=w.setCell b (.int .u64 ((x+c) / 4294967296)):=by
 obtain ⟨h0,hf⟩:=hB;have Hw:Hid (IntKind.u64.wrap (x+c)=x+c):=IntWalk.u64_in _ ⟨by omega,by omega⟩;go_enter Tryz.func231,Tryz.ntmps231
 go_wp2;go_ret;exact ⟨rfl,rfl⟩
theorem zAP (xi:Int) (x c q m:Nat) (hx:xi=x) (hq:q=(x+c) / 4294967296) (hm:m=(x+c) % 4294967296) (h:x+c<18446744073709551616) (hB:Box1 w b (.int .u64 c)) :
  Calls Tryz.prog 231 #[.int .u64 xi,.pointer (some b)] w fun e w'=>e = .returned (.int .u32 m)/\w'=w.setCell b (.int .u64 q):=by
 refine (zCM xi c (by omega) (by omega) (by omega) hB).mono ?_;rintro e w' ⟨rfl,rfl⟩;have e1:(xi+(c:Int)) % 4294967296=(m:Int):=by omega
 have e2:(xi+(c:Int)) / 4294967296=(q:Int):=by omega
 rw [e1,e2];exact ⟨rfl,rfl⟩
structure ShortRel (l:List Nat) (d k r:Nat) (l':List Nat):Prop where
 len:l'.length=l.length
 same:l'.take k=l.take k
 val:Num.nat (l.drop k)=Num.nat (l'.drop k)*d+r
 lt:r<d
theorem ShortRel.start (l:List Nat) (d:Nat) (hd:0<d):ShortRel l d l.length 0 l:=
 ⟨rfl,rfl,by simp [Num.nat],hd⟩
theorem ShortRel.step {l':List Nat} {x:Nat} (h:ShortRel l d (k+1) r l') (hk:l[k]?=some x) :
  ShortRel l d k ((4294967296*r+x) % d) (l'.set k ((4294967296*r+x) / d)):=by
 obtain ⟨hlt,hx⟩:=List.getElem?_eq_some_iff.1 hk;have hlen:=h.len;refine ⟨by simp [h.len],?_,?_,Nat.mod_lt _ (by have:=h.lt; omega)⟩
 ·rw [List.take_set_of_le (nlr k)];have:=congrArg (List.take k) h.same;simpa [List.take_take,Nat.min_eq_left (Nat.le_succ k)] using this
 ·have e1:l.drop k=x :: l.drop (k+1):=by rw [List.drop_eq_getElem_cons hlt,hx]
  have e2:(l'.set k ((4294967296*r+x) / d)).drop k=((4294967296*r+x) / d) :: l'.drop (k+1):=by
   rw [List.drop_eq_getElem_cons (by simp; omega)];simp [List.drop_set]
  rw [e1,e2,Num.nat,Num.nat,h.val];have:=Nat.div_add_mod (4294967296*r+x) d;have hb:Num.base=4294967296:=rfl;rw [hb];generalize (4294967296*r+x) / d=q at *;generalize (4294967296*r+x) % d=m at *;generalize Num.nat (List.drop (k+1) l')=t at *;grind
theorem ShortRel.done {l':List Nat} (h:ShortRel l d 0 r l'):Num.nat l'=Num.nat l / d/\r=Num.nat l % d:=by
 have hv:=h.val;simp only [List.drop_zero] at hv;have hlt:=h.lt;constructor
 ·rw [hv,Nat.mul_comm,Nat.mul_add_div (by omega),Nat.div_eq_of_lt hlt]; rfl
 ·rw [hv,Nat.mul_comm,Nat.mul_add_mod,Nat.mod_eq_of_lt hlt]
theorem zDB {x:Nat} (hr:r<4294967296) (hx:x<4294967296):bits .or .u64 ((r:Int)*4294967296) (x:Int)=((4294967296*r+x:Nat):Int):=by
 have h4:=u64_or_nat (r*4294967296) x (by omega) (by omega);simp only [Int.natCast_mul,Int.cast_ofNat_Int] at h4;rw [h4,Nat.or_comm,zFp x r hx,Nat.add_comm]
theorem zDi (a b:Nat):((a:Int).tdiv (b:Int))=((a / b:Nat):Int):=by rw [Int.tdiv_eq_ediv_of_nonneg (by omega)]; rfl
theorem zDj (a b:Nat):((a:Int).tmod (b:Int))=((a % b:Nat):Int):=by rw [Int.tmod_eq_emod_of_nonneg (by omega)]; rfl
theorem zI3 (q:Nat) (h:q<4294967296):IntKind.u64.wrap (q:Int) % 4294967296=(q:Int):=by rw [IntWalk.u64_in _ ⟨by omega,by omega⟩]; omega
theorem zGK {x:Nat} (h:r<d) (hx:x<4294967296):(4294967296*r+x) / d<4294967296:=by
 rw [Nat.div_lt_iff_lt_mul (by omega)];have:4294967296*(r+1)<=4294967296*d:=Nat.mul_le_mul_left _ h;omega
theorem zEK (d:Nat) (h:ArrAt w b o n c l) (hn0:0<n) (hd0:0<d) (hd:d<4294967296) :
  Calls Tryz.prog 228 #[.slice (some ⟨b,o,none⟩) n c,.int .u64 d] w fun e w'=>e = .returned (.int .u64 (Num.nat l % d:Nat))/\(∃ l',ArrAt w' b o n c l'/\Num.nat l'=Num.nat l / d)/\Kept b [b] w w':=by
 have hn:=h.le;have hc:=h.cap;have HL:=hdq h.len;go_enter Tryz.func228,Tryz.ntmps228
 go_wp2;go_loopw [5,6] (fun r s W=>Kept b [b] w W/\∃ k rr:Nat,k<=n/\r = .int .u64 rr/\s = .int .i64 ((k:Int)-1)/\∃ l',ArrAt W b o n c l'/\ShortRel l d k rr l') (fun _ s _=>(intOf s+1).toNat)
 case atStart=>exact ⟨Kept.refl (by simp) (Nat.le_of_lt (h.lt hn0)),n,0,nlr _,rfl,rfl,l,h,HL.out ▸ ShortRel.start l d hd0⟩
 case round=>
  obtain ⟨hK,k,r,hk,rfl,rfl,l',hA,hR⟩:=hrel;by_cases h0:0<k
  ·obtain ⟨j,rfl⟩:∃ j,k=j+1:=⟨k-1,by omega⟩;rw [show (((j+1:Nat):Int)-1)=(j:Int) by omega];have hcell:=hA.cell j (by omega);have hfree:=hA.free;have hxl:=hA.ok;have hlen':=hA.len
   have hlj:l[j]?=some (l'.getD j 0):=by
    have h1:=hR.same;have h2:=hR.len;have h3:(l'.take (j+1))[j]?=(l.take (j+1))[j]?:=(by rw [h1]);rw [List.getElem?_take_of_lt (by omega),List.getElem?_take_of_lt (by omega)] at h3;rw [<-h3,gdd,gge (show j<l'.length by omega)]; rfl
   have hx:l'.getD j 0<4294967296:=by
    rw [gdd,gge (show j<l'.length by omega)]; exact hxl _ (List.getElem_mem _)
   have Hs:=hdq (hR.step hlj);have hr:=hR.lt;have hq:=zGK hr hx;generalize l'.getD j 0=x at *;have hjn:(j:Int)<n:=(by omega);have hj0:(0:Int)<=j:=(by omega);have e1:IntKind.u64.wrap (x:Int)=x:=IntWalk.u64_in _ ⟨by omega,by omega⟩;have Hor:=hdq (zDB (show r<4294967296 by omega) hx);clear hxl hlen' hlj;go_wp2;rw [Hor.out]
   have E1:IntKind.u64.wrap (((4294967296*r+x:Nat):Int).tdiv (d:Int)) % 4294967296=(((4294967296*r+x) / d:Nat):Int):=by
    rw [zDi]; exact zI3 _ hq
   have E2:((4294967296*r+x:Nat):Int).tmod (d:Int)=(((4294967296*r+x) % d:Nat):Int):=zDj _ _;rw [E1,E2];exact ⟨⟨hK.set _ (.inl (by simp)),j,_,by omega,rfl,rfl,_,hA.set (by omega) hq,Hs.out⟩,by simp [intOf]⟩
  ·(obtain rfl:k=0:=by omega);have Hd:=hdq hR.done;go_wp2;go_ret;exact ⟨zAz (by rw [Hd.out.2]),⟨l',hA,Hd.out.1⟩,hK⟩
theorem zHA (n:Nat):madeCells (Value.int IntKind.u32 0).cells n=(wv (List.replicate n 0)).toArray:=by
 apply Array.ext
 ·simp [madeCells,wv]
 ·intro i h1 h2;simp [madeCells,wv,Value.cells,Nat.mod_one]
theorem zA2 (n c:Nat) (hnc:n<=c) (hc:c<=35184372088832) (w:World) :
  (Instr.makeSlice 76 (.int .i64 (n:Int)) (.int .i64 (c:Int))).run Tryz.prog w = .ok (.slice (some w) n c) (w.alloc (.cells (wv (List.replicate c 0)).toArray 105)):=by
 obtain ⟨i0,hi,hz0,hz1,hz2⟩:=info_parts zE9;have hr:=run_make (P:=Tryz.prog) w 76 105 i0 (.int .u32 0) Tryz.underlying76 hi hz0 .i64 .i64 n c (by omega) (by omega) (by rw [hz2]; omega) (by omega);rw [hz1,zHA] at hr;simpa using hr
theorem zGi (hc:l.length=c) (hn:n<=c) (hcap:c<=9223372036854775807) (ho:Num.Ok l):ArrAt (w.alloc (.cells (wv l).toArray t)) w 0 n c (l.take n):=by
 have hh:=zAd w (.cells (wv l).toArray t) rfl;refine ⟨by simp; omega,hn,hcap,ho.take n,fun k hk=>?_,fun j=>by simp only [World.frozen?,hh]; simp⟩;rw [Nat.zero_add];simp only [World.cell?,hh];simp [wv,gge (show k<l.length by omega),hk]
theorem zEG {B:Option Addr} {b:List Nat} (ha:WordsAt w X A n c a) (hb:WordsAt w Y B m d b) (hn:n+m<=35184372088832) :
  Calls Tryz.prog 159 #[.slice A n c,.slice B m d] w fun e w'=>(∃ g,e = .returned (.slice (some ⟨g,0,none⟩) (n+m) (n+m))/\w.heap.size<=g/\∃ p,ArrAt w' g 0 (n+m) (n+m) p/\Num.nat p=Num.nat a*Num.nat b)/\Below w w w':=by
 have hmk:∀ w,(Instr.makeSlice 76 (.int .i64 ((n:Int)+(m:Int))) (.int .i64 ((n:Int)+(m:Int)))).run Tryz.prog w = .ok (.slice (some ⟨w,0,none⟩) (n+m) (n+m)) (w.alloc (.cells (wv (List.replicate (n+m) 0)).toArray 105)):=by
  intro w;have:=zA2 (n+m) (n+m) (nlr _) hn w;simpa using this
 have hn1:n<=35184372088832:=by omega
 have hm1:m<=35184372088832:=by omega
 have La:=hdq ha.len;have Lb:=hdq hb.len;have oa:=hdq ha.ok;have ob:=hdq hb.ok;go_enter Tryz.func159,Tryz.ntmps159
 go_wp2;have hP0:Hid (Num.MulOut a b 0 (List.replicate (n+m) 0)):=by have:=Num.MulOut.start a b; rw [La.out,Lb.out] at this; exact this
 have hA0:ArrAt (w.alloc (.cells (wv (List.replicate (n+m) 0)).toArray 105)) w 0 (n+m) (n+m) (List.replicate (n+m) 0):=by
  have:=zGi (w:=w) (n:=n+m) (c:=n+m) (t:=105) (l:=List.replicate (n+m) 0) (by simp) (nlr _) (by omega) (Num.Ok.replicate _);simpa using this
 have hb0:Below w w (w.alloc (.cells (wv (List.replicate (n+m) 0)).toArray 105)):=bal;have hs0:w.heap.size<(w.alloc (.cells (wv (List.replicate (n+m) 0)).toArray 105)).heap.size:=by simp
 have ha0:=ha.old;have hb':=hb.old;clear hmk;generalize w.alloc (.cells (wv (List.replicate (n+m) 0)).toArray 105)=W0 at *;go_loopw [19] (fun s W=>Below w w W/\w.heap.size<W.heap.size/\∃ i:Nat,i<=n/\s = .int .i64 i/\∃ p,ArrAt W w 0 (n+m) (n+m) p/\Num.MulOut a b i p) (fun s _=>n-(intOf s).toNat)
 case atStart=>exact ⟨hb0,hs0,0,nzl _,rfl,_,hA0,hP0.out⟩
 case round=>
  obtain ⟨hbw,hsz,i,hi,rfl,p,hA,hP⟩:=hrel;by_cases hlt:i<n
  ·have hiz:(0:Int)<=i:=(by omega);have hin:(i:Int)<n:=(by omega);obtain ⟨ad,rfl,hX,hcell⟩:=ha0.cell i hlt;have hcell':wr.cell? (ad.add i)=some (.int .u32 (a.getD i 0)):=by rw [hbw.cell (by rw [zAj]; exact hX)]; exact hcell
   clear hcell;have hx:a.getD i 0<4294967296:=oa.out.getD i
   have Hstep:Hid (∀ c p',Num.MulIn p b (a.getD i 0) i m c p'->Num.Ok p'->Num.MulOut a b (i+1) (p'.set (i+m) c)):=by
    intro c p' h1 h2;have h3:=hP.step (by rw [La.out]; exact hlt) (by rw [Lb.out]; exact h1) h2
    rwa [Lb.out] at h3
   generalize a.getD i 0=x at *;(go_wp2_with fail);refine (zA9 0 wr).mono ?_; rintro e w1 ⟨rfl,rfl⟩
   have hA1:=hA.alloc hsz (.cells #[.int .u64 0] 166);have hbw1:=hbw.alloc hbw.size (.cells #[.int .u64 0] 166);have hbx:Box1 (wr.alloc (.cells #[.int .u64 0] 166)) wr (.int .u64 0):=⟨by go_simp,by intro o; go_simp⟩;have hs1:w.heap.size<(wr.alloc (.cells #[.int .u64 0] 166)).heap.size:=by simp; omega
   have hplen:=hdq hP.len;(go_wp2_with fail);generalize wr.alloc (.cells #[.int .u64 0] 166)=W1 at *;have hcb:w.heap.size ≠ wr.heap.size:=(by omega);generalize wr.heap.size=cb at *;(go_loopw [27] (fun s W=>Below w w W/\w.heap.size<W.heap.size/\∃ k cy:Nat,k<=m/\s = .int .i64 k/\Box1 W cb (.int .u64 cy)/\∃ p',ArrAt W w 0 (n+m) (n+m) p'/\Num.MulIn p b x i k cy p') (fun s _=>m-(intOf s).toNat));case atStart=>exact ⟨hbw1,hs1,0,0,nzl _,rfl,hbx,p,hA1,Num.MulIn.start p b x i⟩
   case round=>
    obtain ⟨hbwi,hszi,k,cy,hk,rfl,hbxi,p',hAi,hIn⟩:=hrel;by_cases hkm:k<m
    ·have hkz:(0:Int)<=k:=(by omega);have hkm':(k:Int)<m:=(by omega);obtain ⟨bd,rfl,hY,hcellb⟩:=hb'.cell k hkm;have hcb':wr.cell? (bd.add k)=some (.int .u32 (b.getD k 0)):=by rw [hbwi.cell (by rw [zAj]; exact hY)]; exact hcellb
     clear hcellb;have hy:b.getD k 0<4294967296:=ob.out.getD k;obtain ⟨hs2,hn2⟩:=hIn.step (by rw [Lb.out]; exact hkm) (by rw [hAi.len]; omega) hx ob.out hAi.ok;have hcp:=hAi.cell (i+k) (by omega);have hyp:p'.getD (i+k) 0<4294967296:=hAi.ok.getD _;rw [Nat.zero_add] at hcp;have hcy:cy<4294967296:=hIn.lt;have Hn2:=hdq hn2;clear hn2;have hfree:=hAi.free;generalize p'.getD (i+k) 0=t at *;generalize b.getD k 0=y at *;have hik:((i:Int)+(k:Int)).toNat=i+k:=(by omega);have hik0:0<=(i:Int)+(k:Int):=(by omega);have hik1:(i:Int)+(k:Int)<(n:Int)+(m:Int):=by omega
     have hxy0:(0:Int)<=(t:Int)+(x:Int)*(y:Int):=by
      have:(0:Int)<=(x:Int)*(y:Int):=Int.mul_nonneg (by omega) (by omega);omega
     have Hs2:Hid ((t:Int)+(x:Int)*(y:Int)+(cy:Int)<18446744073709551616):=by
      have:((t+x*y+cy:Nat):Int)<18446744073709551616:=(by omega);show _<_;simpa using this
     have Hxy0:=hdq hxy0;clear hxy0;(go_wp2_with fail);refine (zCM ((t:Int)+(x:Int)*(y:Int)) (cy:Int) Hxy0.out (by omega) Hs2.out hbxi).mono ?_; rintro e w1 ⟨rfl,rfl⟩
     have hA2:=hAi.far (p:=cb) hcb (.int .u64 (((t:Int)+(x:Int)*(y:Int)+(cy:Int)) / 4294967296));have hcp2:=hA2.cell (i+k) (by omega);rw [Nat.zero_add] at hcp2;have hfree2:=hA2.free;(go_wp2_with fail);have eN:(t:Int)+(x:Int)*(y:Int)+(cy:Int)=((t+x*y+cy:Nat):Int):=(by simp);rw [eN];have hA3:=(hAi.far (p:=cb) hcb (.int .u64 (((t+x*y+cy) / 4294967296:Nat):Int))).set (k:=i+k) (x:=(t+x*y+cy) % 4294967296) (by omega) (Nat.mod_lt _ (by omega));rw [Nat.zero_add] at hA3;refine ⟨⟨(hbwi.setCell (by simp; omega) _).setCell (by simp) _,by simpa [World.setCell] using hszi,k+1,(t+x*y+cy) / 4294967296,hkm,rfl,((hbxi.set _).far (by simpa using hcb) _),_,hA3,Hn2.out⟩,by simp [intOf]; omega⟩
    ·(obtain rfl:k=m:=by omega);have hcy:cy<4294967296:=hIn.lt;have Hfin:=hdq (Hstep.out cy p' hIn hAi.ok);have hcp:=hAi.cell (i+k) (by omega);have hfree:=hAi.free;rw [Nat.zero_add] at hcp;have hik:((i:Int)+(k:Int)).toNat=i+k:=(by omega);have hik0:0<=(i:Int)+(k:Int):=(by omega);have hik1:(i:Int)+(k:Int)<(n:Int)+(k:Int):=(by omega);generalize p'.getD (i+k) 0=t at *;(go_wp2_with fail);refine (zCM 0 (cy:Int) (by omega) (by omega) (by omega) hbxi).mono ?_; rintro e w1 ⟨rfl,rfl⟩
     have hA2:=hAi.far (p:=cb) hcb (.int .u64 (((0:Int)+(cy:Int)) / 4294967296));have hcp2:=hA2.cell (i+k) (by omega);rw [Nat.zero_add] at hcp2;have hfree2:=hA2.free;(go_wp2_with fail);have e1:(cy:Int) % 4294967296=(cy:Int):=(by omega);rw [e1];have hA3:=(hAi.far (p:=cb) hcb (.int .u64 ((cy:Int) / 4294967296))).set (k:=i+k) (x:=cy) (by omega) hcy;rw [Nat.zero_add] at hA3;exact ⟨⟨(hbwi.setCell (by simp; omega) _).setCell (by simp) _,by simpa [World.setCell] using hszi,i+1,hlt,rfl,_,hA3,Hfin.out⟩,by simp [intOf]; omega⟩
  ·(obtain rfl:i=n:=by omega);have Hd:=hdq (hP.done' La.out);go_wp2;go_ret;exact ⟨⟨w.heap.size,rfl,nlr _,p,hA,Hd.out⟩,hbw⟩
theorem small_calls' (ng:Bool) (x:Int) (m:Nat) (hx:x=m) (hm:m<18446744073709551616) (w:World) :
  Calls Tryz.prog 148 #[.bool ng,.int .u64 x] w fun e w'=>(∃ ng' A n c,e = .returned (.agg #[.bool ng',.slice A n c])/\ZAt w' (New w) ng' A n c (zval ng m))/\Below w w w':=by
 subst hx; exact zAY ng m hm w
theorem zJD (na nb:Bool) (a b:Nat):zval (na != nb) (a*b)=zval na a*zval nb b:=by
 cases na <;> cases nb <;> simp [zval,Int.neg_mul,Int.mul_neg]
theorem zC3 (h:Num.Ok l) (h1:l.length<=1):Num.nat l<4294967296:=by
 have h2:=Num.nat_lt h;have h3:Num.base ^ l.length<=Num.base ^ 1:=Nat.pow_le_pow_right Num.base_pos h1;have h4:Num.base ^ 1=4294967296:=by decide
 omega
theorem zH4 {B:Option Addr} {b:List Nat} (na nb:Bool) (ha:WordsAt w X A n c a) (hb:WordsAt w Y B m d b) (hn:n+m<=35184372088832) :
  Calls Tryz.prog 111 #[.agg #[.bool na,.slice A n c],.agg #[.bool nb,.slice B m d]] w fun e w'=>(∃ ng' A' n' c',e = .returned (.agg #[.bool ng',.slice A' n' c'])/\ZAt w' (New w) ng' A' n' c' (zval na (Num.nat a)*zval nb (Num.nat b)))/\Below w w w':=by
 have Hn:Hid ((Num.trim a).length+(Num.trim b).length<=35184372088832):=by
  have h1:=Num.trim_length_le a; have h2:=Num.trim_length_le b; rw [ha.len] at h1; rw [hb.len] at h2
  show _<=_; omega
 clear hn;go_enter Tryz.func111,Tryz.ntmps111
 go_wp2;refine zAo (fun W=>Below w w W/\Box2 W w (.bool na) (.slice A n c)/\Box2 W (w+1) (.bool nb) (.slice B m d)/\Box2 W (w+1+1) (.bool false) (.slice none 0 0)/\w.heap.size<W.heap.size/\w.heap.size+1<W.heap.size/\w.heap.size+1+1<W.heap.size) ⟨(az (az (az (brf _ _)))),bx2,bx2,bx2,by simp <;> omega,by simp <;> omega,by simp <;> omega⟩ ?_;rintro W ⟨hbW,bA,bB,bR,s0,s1,s2⟩;have hBW:=hbW.size;have ne02:¬ (w.heap.size=w.heap.size+1+1):=by omega
 have ha':=ha.old.below hbW;have hb':=hb.old.below hbW
 go_region_held3 (Sees w [] W) (exact kp)
  (first
   | (go_at_call 155; ((with_reducible refine (zAk (ha'.keptOld (Sees.kept (by assumption)))).mono ?_); rintro e w1 ⟨rfl,rfl⟩))
   | (go_at_call 155; ((with_reducible refine (zAk (hb'.keptOld (Sees.kept (by assumption)))).mono ?_); rintro e w1 ⟨rfl,rfl⟩)))
 rename_i hS;have hat:=(ha'.keptOld hS.kept).trim;have hbt:=(hb'.keptOld hS.kept).trim
 have Hz:Hid (∀ p,p=Num.nat (Num.trim a)*Num.nat (Num.trim b)->zval (na != nb) p=zval na (Num.nat a)*zval nb (Num.nat b)):=by
  intro p hp; rw [hp,Num.nat_trim,Num.nat_trim,zJD]
 by_cases h1:(Num.trim a).length<=1/\(Num.trim b).length<=1
 ·obtain ⟨l1,l2⟩:=h1;have hla:=zC3 hat.ok l1;have hlb:=zC3 hbt.ok l2
  have hmul:Num.nat (Num.trim a)*Num.nat (Num.trim b)<18446744073709551616:=by
   have:Num.nat (Num.trim a)*Num.nat (Num.trim b)<=4294967295*4294967295:=Nat.mul_le_mul (by omega) (by omega);omega
  have Hmul:=hdq hmul;have hw1:IntKind.u64.wrap ((Num.nat (Num.trim a):Int)*(Num.nat (Num.trim b):Int))=(Num.nat (Num.trim a):Int)*(Num.nat (Num.trim b):Int):=IntWalk.u64_in _ (by rw [<-Int.natCast_mul]; omega);clear hmul;go_wp2
  go_region_held3 (Sees w [w.heap.size+1+1] W) (exact kp)
   (first
    | (go_at_call 157; ((with_reducible refine (zBl (((ha'.keptOld (Sees.kept (by assumption)))).trim) (by omega)).mono ?_); rintro e w1 ⟨rfl,hb1⟩))
    | (go_at_call 157; ((with_reducible refine (zBl (((hb'.keptOld (Sees.kept (by assumption)))).trim) (by omega)).mono ?_); rintro e w2 ⟨rfl,hb2⟩))
    | (go_at_call 148; ((with_reducible refine (small_calls' _ _ (Num.nat (Num.trim a)*Num.nat (Num.trim b)) (Int.natCast_mul _ _).symm Hmul.out _).mono ?_); rintro e w3 ⟨⟨ng',A',n',c',rfl,hz⟩,hb3⟩; replace hz:=hz.lower (Sees.kept (by assumption):Kept w _ W _).size)))
  rename_i hS;obtain ⟨v0,v1⟩:=hS.kept.val2 (by simp) (by simp [bR.1]) (by simp [bR.2.1]);have hzf:=((hz.set (p:=⟨w+1+1,0,none⟩) s2 (.bool ng')).set (p:=⟨w.heap.size+1+1,1,none⟩) s2 (.slice A' n' c')).lower hBW;have hbf:=hbW.trans hS.kept.below;clear hS hz;generalize (w3.setCell ⟨w+1+1,0,none⟩ (.bool ng')).setCell ⟨w.heap.size+1+1,1,none⟩ (.slice A' n' c')=Wf at *;have hzz:=Hz.out _ rfl;go_wp2;exact bodyPost_ret (v:=.agg #[.bool ng',.slice A' n' c']) (by simp [results,Tryz.results111,go_sem,v0,v1]) rfl ⟨⟨_,_,_,_,rfl,by rw [<-hzz]; exact hzf⟩,hbf⟩
 ·have h2:1<(Num.trim a).length\/((Num.trim a).length<=1/\1<(Num.trim b).length):=by omega
  clear h1;rcases h2 with h2 | ⟨h2,h3⟩
  all_goals
   go_wp2
   go_region_held3 (Sees w [w.heap.size+1+1] W) (exact kp)
    (first
     | (go_at_call 159; ((with_reducible refine (zEG (((ha'.keptOld (Sees.kept (by assumption)))).trim) (((hb'.keptOld (Sees.kept (by assumption)))).trim) Hn.out).mono ?_); rintro e w1 ⟨⟨g,rfl,hg,p,hp,hv⟩,hb1⟩; have hp':=hp.words.imp (Y:=New W) (fun x _ hx=>by have q:=(Sees.kept (by assumption):Kept w _ W _).size; simp only [New]; omega)))
     | (go_at_call 158; ((with_reducible refine (build_calls _ hp').mono ?_); rintro e w3 ⟨⟨ng',A',n',c',rfl,hz⟩,hb3⟩)))
   rename_i hS;obtain ⟨v0,v1⟩:=hS.kept.val2 (by simp) (by simp [bR.1]) (by simp [bR.2.1]);have hzf:=((hz.set (p:=⟨w+1+1,0,none⟩) s2 (.bool ng')).set (p:=⟨w.heap.size+1+1,1,none⟩) s2 (.slice A' n' c')).lower hBW;have hbf:=hbW.trans hS.kept.below;clear hS hz;generalize (w3.setCell ⟨w+1+1,0,none⟩ (.bool ng')).setCell ⟨w.heap.size+1+1,1,none⟩ (.slice A' n' c')=Wf at *;have hzz:=Hz.out _ hv;go_wp2;exact bodyPost_ret (v:=.agg #[.bool ng',.slice A' n' c']) (by simp [results,Tryz.results111,go_sem,v0,v1]) rfl ⟨⟨_,_,_,_,rfl,by rw [<-hzz]; exact hzf⟩,hbf⟩
structure ShlRel (l:List Nat) (s k c:Nat) (r:List Nat):Prop where
 len:r.length=k
 ok:Num.Ok r
 val:Num.nat r+c*Num.base ^ k=Num.nat (l.take k)*2 ^ s
 cy:c<4294967296
theorem zIG {s:Nat} (hs:s<=31):2 ^ s<=2147483648:=by
 have:2 ^ s<=2 ^ 31:=Nat.pow_le_pow_right (by omega) hs;simpa using this
theorem ShlRel.step {s:Nat} {r:List Nat} (h:ShlRel l s k c r) (hk:k<l.length) (ho:Num.Ok l) (hs:s<=31) :
  l.getD k 0*2 ^ s+c<18446744073709551616/\ShlRel l s (k+1) ((l.getD k 0*2 ^ s+c) / 4294967296) (r++[(l.getD k 0*2 ^ s+c) % 4294967296]):=by
 have hx:l.getD k 0<4294967296:=ho.getD k;have hp:=zIG hs;have hc:=h.cy;have hm:l.getD k 0*2 ^ s<=4294967295*2147483648:=Nat.mul_le_mul (by omega) hp;have hd:=Nat.div_add_mod (l.getD k 0*2 ^ s+c) 4294967296;refine ⟨by omega,⟨by simp [h.len],h.ok.append (Num.Ok.cons (Nat.mod_lt _ (by omega)) Num.Ok.nil),?_,by omega⟩⟩;rw [Num.nat_snoc,Num.nat_take_succ l k hk,Nat.add_mul,<-h.val,h.len,Nat.pow_succ];have e:Num.base=4294967296:=rfl;rw [e];generalize (l.getD k 0*2 ^ s+c) / 4294967296=q at *;generalize (l.getD k 0*2 ^ s+c) % 4294967296=m at *;have e2:l.getD k 0*2 ^ s=4294967296*q+m-c:=by omega
 have e3:Num.base ^ k*l.getD k 0*2 ^ s=Num.base ^ k*(l.getD k 0*2 ^ s):=Nat.mul_assoc _ _ _;rw [e] at e3;rw [e3];generalize l.getD k 0*2 ^ s=t at *;generalize 4294967296 ^ k=P at *;have e4:P*(t+c)=P*(4294967296*q+m):=by rw [hd]
 grind
theorem zCt (s:Nat) (hs:s<=31) (h:WordsAt w X A n c l) (hn:n<35184372088832) :
  Calls Tryz.prog 246 #[.slice A n c,.int .u64 s] w fun e w'=>(∃ g c',e = .returned (.slice (some ⟨g,0,none⟩) (n+1) c')/\w.heap.size<=g/\∃ r,ArrAt w' g 0 (n+1) c' r/\Num.nat r=Num.nat l*2 ^ s)/\Below w w w':=by
 obtain ⟨i0,hi,hz0,hz1,hz2⟩:=info_parts zE9;have Hn:=hdq hn;have hcap:=h.cap
 have hmk:∀ w,(Instr.makeSlice 76 (.int .i64 0) (.int .i64 ((n:Int)+1))).run Tryz.prog w = .ok (.slice (some ⟨w,0,none⟩) 0 (n+1)) (w.alloc (.cells (wv (List.replicate (n+1) 0)).toArray 105)):=by
  intro w;have:=zA2 0 (n+1) (by omega) (by omega) w;simpa using this
 have hle:=h.le;have ho:=hdq h.ok;have HL:=hdq h.len;have h0:=h.old;have hn63:n<9223372036854775807:=by omega
 clear hn;go_enter Tryz.func246,Tryz.ntmps246
 go_wp2_with fail
 refine (zA9 0 w).mono ?_; rintro e w1 ⟨rfl,rfl⟩
 go_wp2_with fail
 have hown0:((w.alloc (.cells #[.int .u64 0] 166)).alloc (.cells (wv (List.replicate (n+1) 0)).toArray 105)).ownsRow (w+1) 105 1 (.slice (some ⟨w+1,0,none⟩) 0 (n+1)) 0 (wv []):=
  ⟨rfl,.inr ⟨w.heap.size+1,n+1,(wv (List.replicate (n+1) 0)).toArray,rfl,nlr _,zAd _ _ (by simp),by omega,by simp [maxLen]; omega,by simp [zBM],rfl⟩⟩
 have hbx0:Box1 ((w.alloc (.cells #[.int .u64 0] 166)).alloc (.cells (wv (List.replicate (n+1) 0)).toArray 105)) w (.int .u64 0):=⟨by go_simp,by intro o; go_simp⟩;have hb0:Below w w ((w.alloc (.cells #[.int .u64 0] 166)).alloc (.cells (wv (List.replicate (n+1) 0)).toArray 105)):=(bal).alloc (by simp) _;have hs0:w.heap.size+1<((w.alloc (.cells #[.int .u64 0] 166)).alloc (.cells (wv (List.replicate (n+1) 0)).toArray 105)).heap.size:=by simp
 generalize ((w.alloc (.cells #[.int .u64 0] 166)).alloc (.cells (wv (List.replicate (n+1) 0)).toArray 105))=W0 at *;clear hmk;go_loopw [6,16] (fun v t W=>Below w w W/\w.heap.size+1<W.heap.size/\∃ k cy:Nat,k<=n/\t = .int .i64 k/\Box1 W w (.int .u64 cy)/\∃ r,W.ownsRow (w+1) 105 1 v k (wv r)/\ShlRel l s k cy r) (fun _ t _=>n-(intOf t).toNat)
 case atStart=>exact ⟨hb0,hs0,0,0,nzl _,rfl,hbx0,[],hown0,⟨rfl,Num.Ok.nil,by simp [Num.nat],by omega⟩⟩
 case round=>
  obtain ⟨hbw,hsz,k,cy,hk,rfl,hbx,r,hown,hR⟩:=hrel;by_cases hkn:k<n
  ·have hkz:(0:Int)<=k:=(by omega);have hkn':(k:Int)<n:=(by omega);obtain ⟨ad,rfl,hX,hcell⟩:=h0.cell k hkn;have hc1:wr.cell? (ad.add k)=some (.int .u32 (l.getD k 0)):=by rw [hbw.cell (by rw [zAj]; exact hX)]; exact hcell
   clear hcell;have hx:l.getD k 0<4294967296:=ho.out.getD k;obtain ⟨hlt,hstep⟩:=hR.step (by rw [HL.out]; exact hkn) ho.out hs;have Hstep:=hdq hstep;have Hlt:=hdq hlt;clear hstep hlt;generalize l.getD k 0=x at *
   have Hxi:Hid (IntKind.u64.wrap ((x:Int)*2 ^ s)=((x*2 ^ s:Nat):Int)):=by
    show _=_;have h1:=Hlt.out;have e:((x*2 ^ s:Nat):Int)=(x:Int)*2 ^ s:=(by simp);rw [<-e,IntWalk.u64_in _ ⟨by omega,by omega⟩]
   obtain ⟨q,hq⟩:∃ q,q=(x*2 ^ s+cy) / 4294967296:=⟨_,rfl⟩;obtain ⟨m,hm⟩:∃ m,m=(x*2 ^ s+cy) % 4294967296:=⟨_,rfl⟩;have HQ:=hdq hq;have HM:=hdq hm;clear hq hm;(go_wp2_with fail);refine (zAP _ (x*2 ^ s) cy q m Hxi.out HQ.out HM.out Hlt.out hbx).mono ?_; rintro e w1 ⟨rfl,rfl⟩
   have hbx1:=hbx.set (.int .u64 q);have hown1:(wr.setCell w (.int .u64 q)).ownsRow (w+1) 105 1 u6 k (wv r):=ownsRow_setCell_below hown (by simp) _;have hbw1:=hbw.setCell (p:=w) (nlr _) (.int .u64 q);have hsz1:w.heap.size+1<(wr.setCell w (.int .u64 q)).heap.size:=(by simpa [World.setCell] using hsz);generalize wr.setCell w (.int .u64 q)=W1 at *;(go_wp2_with (at_builtin; refine wpList_append_own_at _ rfl _ _ 76 rfl (w+1) 105 i0 (.int .u32 0) 1 4 Tryz.underlying76 hi hz0 hz1 hz2 rfl (by decide) u6 k (wv r) rfl (hown1.alloc _) ⟨W1,0,none⟩ 1 1 (wv [m]) rfl rfl ?cells (zEC _) ?b1 ?b2 ?b3 ?_));case cells=>exact cell_one_new _ _ _
   case b1=>have:=Hn.out; simp [maxLen]; omega
   case b2=>have:=Hn.out; omega
   case b3=>simp; omega
   intro v' w2 hown2 hg hnil hat;rw [<-zB2] at hown2;have hb2:Below (w+1) W1 w2:=((brf _ _).alloc (by omega) _).grown hg (by simp; omega) (zC6 hown1);have hbx2:=hbx1.below hb2 (by omega);have hsz2:=hb2.size;go_wp2;rw [HQ.out,HM.out] at *;go_roundw;case rel=>exact ⟨hbw1.trans (hb2.mono (by omega)),by omega,k+1,_,hkn,by go_num,hbx2,_,hown2,Hstep.out⟩
   case measure=>simp [intOf]; omega
  ·(obtain rfl:k=n:=by omega);have hcy:=hR.cy;have hv:=hdq hR.val;have hrok:=hdq hR.ok;have hrl:=hdq hR.len;(go_wp2_with fail);refine (zAP _ 0 cy 0 cy rfl (by omega) (by omega) (by omega) hbx).mono ?_; rintro e w1 ⟨rfl,rfl⟩
   have hown1:(wr.setCell w (.int .u64 ((0:Nat):Int))).ownsRow (w+1) 105 1 u6 k (wv r):=ownsRow_setCell_below hown (by simp) _;have hbw1:=hbw.setCell (p:=w) (nlr _) (.int .u64 ((0:Nat):Int));have hsz1:w.heap.size+1<(wr.setCell w (.int .u64 ((0:Nat):Int))).heap.size:=(by simpa [World.setCell] using hsz);generalize wr.setCell w (.int .u64 ((0:Nat):Int))=W1 at *;(go_wp2_with (at_builtin; refine wpList_append_own_at _ rfl _ _ 76 rfl (w+1) 105 i0 (.int .u32 0) 1 4 Tryz.underlying76 hi hz0 hz1 hz2 rfl (by decide) u6 k (wv r) rfl (hown1.alloc _) ⟨W1,0,none⟩ 1 1 (wv [cy]) rfl rfl ?cells (zEC _) ?b1 ?b2 ?b3 ?_));case cells=>exact cell_one_new _ _ _
   case b1=>have:=Hn.out; simp [maxLen]; omega
   case b2=>have:=Hn.out; omega
   case b3=>simp; omega
   intro v' w2 hown2 hg hnil hat;rw [<-zB2] at hown2;have hb2:Below (w+1) W1 w2:=((brf _ _).alloc (by omega) _).grown hg (by simp; omega) (zC6 hown1);obtain ⟨g,c',rfl,hg1,hA⟩:=zBH hown2 (hrok.out.append (Num.Ok.cons hcy Num.Ok.nil)) (by omega);go_wp2;go_ret;refine ⟨⟨g,c',rfl,by omega,_,hA,?_⟩,hbw1.trans (hb2.mono (by omega))⟩;have h1:=hv.out;rw [<-HL.out,List.take_length] at h1;rw [Num.nat_snoc,<-h1,hrl.out,HL.out,Nat.mul_comm cy]
structure EstOk (u v:List Nat) (g:Nat):Prop where
 up:Num.nat u<(g+1)*Num.nat v
 lo:g=0\/(g-1)*Num.nat v<=Num.nat u
 le:g<=4294967296
def EstLoop (T v1 V2 N V U:Nat) (s t:Value):Prop:=∃ g r:Nat,s = .int .u64 g/\t = .int .u64 r/\r<4294967296/\Num.Est T v1 V2 N V U g r
theorem zBO {B:Option Addr} {v:List Nat} (hu:WordsAt w X A (n+3) c u) (hv:WordsAt w Y B (n+2) d v)
  (hv1:2147483648<=v.getD (n+1) 0) (hU:Num.nat u<Num.nat v*4294967296) :
  Calls Tryz.prog 247 #[.slice A (n+3) c,.slice B (n+2) d] w fun e w'=>(∃ g:Nat,e = .returned (.int .u64 g)/\EstOk u v g)/\Below w w w':=by
 have hc:=hu.cap;have hd:=hv.cap;have hle:=hu.le;have hle2:=hv.le;obtain ⟨ua,rfl,-,hc2⟩:=hu.cell (n+2) (by omega);obtain ⟨_,e1,-,hc1⟩:=hu.cell (n+1) (by omega);cases e1;obtain ⟨_,e1,-,hc0⟩:=hu.cell n (by omega);cases e1;obtain ⟨va,rfl,-,hd1⟩:=hv.cell (n+1) (by omega);obtain ⟨_,e1,-,hd0⟩:=hv.cell n (by omega);cases e1;have H0:=hdq (Num.Est.start hu.len hv.len hu.ok hv.ok hv1 hU);have HU:=hdq hU;have e2:=hdq (Num.nat_top2 v n hv.len);have e3:=hdq (Num.nat_top3 u n hu.len);have l1:=hdq (Num.nat_take_lt hv.ok n (by rw [hv.len]; omega));have l2:=hdq (Num.nat_take_lt hu.ok n (by rw [hu.len]; omega));have b2:u.getD (n+2) 0<4294967296:=hu.ok.getD _;have b1:u.getD (n+1) 0<4294967296:=hu.ok.getD _;have b0:u.getD n 0<4294967296:=hu.ok.getD _;have f1:v.getD (n+1) 0<4294967296:=hv.ok.getD _;have f0:v.getD n 0<4294967296:=hv.ok.getD _;clear hu hv hU;generalize u.getD (n+2) 0=u3 at *;generalize u.getD (n+1) 0=u2 at *;generalize u.getD n 0=u1 at *;generalize v.getD (n+1) 0=v1 at *;generalize v.getD n 0=v2 at *;have w1:IntKind.u64.wrap (u3:Int)=u3:=IntWalk.u64_in _ ⟨by omega,by omega⟩;have w2:IntKind.u64.wrap (u2:Int)=u2:=IntWalk.u64_in _ ⟨by omega,by omega⟩;have w3:IntKind.u64.wrap (u1:Int)=u1:=IntWalk.u64_in _ ⟨by omega,by omega⟩;have w4:IntKind.u64.wrap (v1:Int)=v1:=IntWalk.u64_in _ ⟨by omega,by omega⟩;have w5:IntKind.u64.wrap (v2:Int)=v2:=IntWalk.u64_in _ ⟨by omega,by omega⟩;have hT0:u3*4294967296+u2<18446744073709551616:=by omega
 have hor:bits .or .u64 ((u3:Int)*4294967296) (u2:Int)=((u3*4294967296+u2:Nat):Int):=by rw [zDB b2 b1]; omega
 obtain ⟨T,hT⟩:∃ T,T=u3*4294967296+u2:=⟨_,rfl⟩;rw [<-hT] at H0 hor hT0;have HT:=hdq hT;clear hT;have hv10:¬ ((v1:Int)=0):=by omega
 have hv11:((v1:Int) == 0)=false:=by simp; omega
 have hquo:IntKind.u64.wrap ((T:Int).tdiv (v1:Int))=((T / v1:Nat):Int):=by
  rw [zDi];have:T / v1<=T:=Nat.div_le_self _ _;generalize T / v1=q at *;exact IntWalk.u64_in _ ⟨by omega,by omega⟩
 have hquo':IntKind.u64.wrap ((T:Int) / (v1:Int))=((T / v1:Nat):Int):=by
  rw [<-hquo,zDi]; rfl
 have hrem:(T:Int).tmod (v1:Int)=((T % v1:Nat):Int):=zDj _ _;have hR0:T % v1<4294967296:=Nat.lt_trans (Nat.mod_lt _ (by omega)) f1;generalize T / v1=Q at *;generalize T % v1=R at *;rw [show n+3=n+2+1 from rfl] at *;generalize hN:n+2=N at *;generalize hN1:n+1=N1 at *;have k1:IntKind.i64.wrap ((N:Int)-1)=(N1:Int):=by rw [IntWalk.i64_in _ ⟨by omega,by omega⟩]; omega
 have k2:IntKind.i64.wrap ((N:Int)-2)=(n:Int):=by rw [IntWalk.i64_in _ ⟨by omega,by omega⟩]; omega
 have k3:(N:Int)-1=(N1:Int):=by omega
 have k4:(N:Int)-2=(n:Int):=by omega
 have i2:(0:Int)<=(N:Int):=by omega
 have i1:(0:Int)<=(N1:Int):=by omega
 have i0:(0:Int)<=(n:Int):=by omega
 have j2:(N:Int)<(N:Int)+1:=by omega
 have j1:(N1:Int)<(N:Int)+1:=by omega
 have j0:(n:Int)<(N:Int)+1:=by omega
 have j1':(N1:Int)<(N:Int):=by omega
 have j0':(n:Int)<(N:Int):=by omega
 have HN:=hdq hN;have HN1:=hdq hN1;clear hN hN1;go_enter Tryz.func247,Tryz.ntmps247
 go_wp2_with fail
 go_quiet (fail)
 go_wp2_with fail
 go_quiet (fail)
 go_wp2_with fail
 go_quiet (fail)
 go_wp2_with fail
 have HV:Hid ((v1*4294967296+v2)*Num.base ^ n<=Num.nat v/\Num.nat v<(v1*4294967296+v2+1)*Num.base ^ n):=by
  have h1:=e2.out; have h2:=l1.out
  have e:Num.base ^ n*(v2+Num.base*v1)=(v1*4294967296+v2)*Num.base ^ n:=by
   rw [Nat.mul_comm]; congr 1; show v2+4294967296*v1=_; omega
  rw [e] at h1;exact ⟨by omega,by rw [Nat.add_mul,Nat.one_mul]; omega⟩
 have HU2:Hid ((T*4294967296+u1)*Num.base ^ n<=Num.nat u/\Num.nat u<(T*4294967296+u1+1)*Num.base ^ n):=by
  have h1:=e3.out; have h2:=l2.out; have h3:=HT.out
  have e:Num.base ^ n*(u1+Num.base*(u2+Num.base*u3))=(T*4294967296+u1)*Num.base ^ n:=by
   rw [Nat.mul_comm]; congr 1; show u1+4294967296*(u2+4294967296*u3)=_; omega
  rw [e] at h1;exact ⟨by omega,by rw [Nat.add_mul,Nat.one_mul]; omega⟩
 have Hfin:Hid (∀ g r:Nat,Num.Est T v1 (v1*4294967296+v2) (Num.base ^ n) (Num.nat v) (Num.nat u) g r->g<=4294967296->g*v2<=r*4294967296+u1->EstOk u v g):=by
  intro g r h1 h2 h3;exact ⟨h1.up,h1.done HV.out.2 HU2.out.1 (by omega) h2 h3,h2⟩
 go_loop [9,10] (fun s t=>EstLoop T v1 (v1*4294967296+v2) (Num.base ^ n) (Num.nat v) (Num.nat u) s t) (fun s _=>(intOf s).toNat)
 case atStart=>exact ⟨Q,R,rfl,rfl,hR0,H0.out⟩
 case round=>
  obtain ⟨g,r,rfl,rfl,hr,hE⟩:=hrel;have hg:=hE.le;by_cases hbig:4294967296<=g
  ·have t1:((g:Int) / 4294967296 != 0)=true:=by simp; omega
   have hE':=hdq (hE.dec_big hbig (by rw [Nat.mul_comm]; exact HU.out));clear hE;by_cases hbr:4294967296<=r+v1
   ·have Hd:=hdq (Hfin.out _ _ hE'.out (by omega) (by
     have h1:(g-1)*v2<=4294967296*4294967295:=Nat.mul_le_mul (by omega) (by omega);have h2:4294967296*4294967296<=(r+v1)*4294967296:=Nat.mul_le_mul_right _ hbr;omega))
    (go_wp2_with fail);go_ret;exact ⟨⟨g-1,zAz (by omega),Hd.out⟩,zAB (brf _ _) _⟩
   ·(go_wp2_with fail);exact ⟨⟨g-1,r+v1,by go_num,by go_num,by omega,hE'.out⟩,by simp [intOf]; omega⟩
  ·have t1:((g:Int) / 4294967296 != 0)=false:=by simp; omega
   have hmul:g*v2<=4294967295*4294967295:=Nat.mul_le_mul (by omega) (by omega);have t2:IntKind.u64.wrap ((g:Int)*(v2:Int))=(g:Int)*(v2:Int):=IntWalk.u64_in _ (by rw [<-Int.natCast_mul]; omega);have t3:bits .or .u64 ((r:Int)*4294967296) (u1:Int)=(r:Int)*4294967296+(u1:Int):=by rw [zDB hr b0]; omega
   by_cases hgt:r*4294967296+u1<g*v2
   ·have hE':=hdq (hE.dec_two HV.out.1 HU2.out.2 hgt)
    have t4:decide ((r:Int)*4294967296+(u1:Int)<(g:Int)*(v2:Int))=true:=by
     apply decide_eq_true; rw [<-Int.natCast_mul]; omega
    have hg0:0<g:=by
     rcases Nat.eq_zero_or_pos g with h0 | h0
     ·subst h0; simp at hgt
     ·exact h0
    clear hE hmul hgt;by_cases hbr:4294967296<=r+v1
    ·have Hd:=hdq (Hfin.out _ _ hE'.out (by omega) (by
      have h1:(g-1)*v2<=4294967296*4294967295:=Nat.mul_le_mul (by omega) (by omega);have h2:4294967296*4294967296<=(r+v1)*4294967296:=Nat.mul_le_mul_right _ hbr;omega))
     (go_wp2_with fail);go_ret;exact ⟨⟨g-1,zAz (by omega),Hd.out⟩,zAB (brf _ _) _⟩
    ·(go_wp2_with fail);exact ⟨⟨g-1,r+v1,by go_num,by go_num,by omega,hE'.out⟩,by simp [intOf]; omega⟩
   ·have Hd:=hdq (Hfin.out _ _ hE (by omega) (by omega))
    have t4:decide ((r:Int)*4294967296+(u1:Int)<(g:Int)*(v2:Int))=false:=by
     apply decide_eq_false; rw [<-Int.natCast_mul]; omega
    clear hE hmul hgt;(go_wp2_with fail);go_ret;exact ⟨⟨g,rfl,Hd.out⟩,zAB (brf _ _) _⟩
def Rest (w W:World) (b o n:Nat):Prop:=∀ j,j<o\/o+n<=j->W.cell? ⟨b,j,none⟩=w.cell? ⟨b,j,none⟩
theorem Rest.refl (w:World) (b o n:Nat):Rest w w b o n:=fun _ _=>rfl
theorem Rest.far (h:Rest w W b o n) {p:Addr} (hp:p.block ≠ b) (v:Value):Rest w (W.setCell p v) b o n:=fun j hj=>by
 rw [World.cell?_setCell_other _ _ _ _ (by rintro rfl; exact hp rfl)]; exact h j hj
theorem Rest.set (h:Rest w W b o n) (hi:i<n) (v:Value):Rest w (W.setCell ⟨b,o+i,none⟩ v) b o n:=fun j hj=>by
 rw [World.cell?_setCell_other _ _ _ _ (by intro e; injection e; omega)]; exact h j hj
theorem Rest.drew (h:Rest w W b o n):Rest w W.drew b o n:=h
theorem Rest.alloc (h:Rest w W b o n) (hb:b<W.heap.size) (x:Obj):Rest w (W.alloc x) b o n:=fun j hj=>by
 rw [World.cell?_alloc_lt _ _ _ hb]; exact h j hj
def SubPost (u v:List Nat) (f b o n c:Nat) (w:World) (e:Ending) (w':World):Prop:=
 ∃ (bo:Nat) (u':List Nat),e = .returned (.bool ((bo:Int) != 0))/\bo<=1/\Rest w w' b o (n+1)/\ArrAt w' b o (n+1) c u'/\Num.nat u+bo*Num.base ^ (n+1)=Num.nat u'+f*Num.nat v
def SubLoop (w:World) (u v:List Nat) (f b o n c:Nat) (s7 s15:Value) (W:World):Prop:=
 Kept b [b] w W/\Rest w W b o (n+1)/\w.heap.size<W.heap.size/\∃ i bo cy:Nat,i<=n+1/\(i=n+1->cy=0)/\s7 = .int .u64 bo/\s15 = .int .i64 i/\Box1 W w (.int .u64 cy)/\∃ u',ArrAt W b o (n+1) c u'/\Num.SubRel u v f i cy bo u'
theorem zGf {x t:Nat} (hx:x<4294967296) (h:t+b<=x):IntKind.u64.wrap (IntKind.u64.wrap ((x:Int)-(t:Int))-(b:Int))=((x-t-b:Nat):Int):=by
 have h1:IntKind.u64.wrap ((x:Int)-(t:Int))=(x:Int)-(t:Int):=IntWalk.u64_in _ ⟨by omega,by omega⟩;rw [h1,IntWalk.u64_in _ ⟨by omega,by omega⟩]; omega
theorem zGe {x t:Nat} (hx:x<4294967296) (ht:t<4294967296) (hb:b<=1) (h:¬ t+b<=x):IntKind.u64.wrap (IntKind.u64.wrap ((x:Int)-(t:Int))-(b:Int))=(18446744073709551616+x-t-b:Int):=by
 rw [IntKind.wrap_u64,IntKind.wrap_u64];by_cases hc:t<=x
 ·have h1:((x:Int)-t) % 18446744073709551616=x-t:=Int.emod_eq_of_lt (by omega) (by omega);rw [h1,show (x:Int)-t-b=(18446744073709551616+x-t-b)+18446744073709551616*(-1) by omega,Int.add_mul_emod_self_left,Int.emod_eq_of_lt (by omega) (by omega)]
 ·have h1:((x:Int)-t) % 18446744073709551616=18446744073709551616+x-t:=by
   rw [show (x:Int)-t=(18446744073709551616+x-t)+18446744073709551616*(-1) by omega,Int.add_mul_emod_self_left,Int.emod_eq_of_lt (by omega) (by omega)]
  rw [h1,Int.emod_eq_of_lt (by omega) (by omega)]
theorem zHk {x t:Nat} (hx:x<4294967296) (ht:t<4294967296) (hb:b<=1) :
  ∃ d b':Nat,IntKind.u64.wrap (IntKind.u64.wrap ((x:Int)-(t:Int))-(b:Int)) % 4294967296=(d:Int)/\IntKind.u64.wrap (IntKind.u64.wrap ((x:Int)-(t:Int))-(b:Int)) / 9223372036854775808=(b':Int)/\d<4294967296/\b'<=1/\x+b'*4294967296=d+t+b:=by
 by_cases h:t+b<=x
 ·rw [zGf hx h];exact ⟨x-t-b,0,by omega,by omega,by omega,by omega,by omega⟩
 ·rw [zGe hx ht hb h];exact ⟨x+4294967296-t-b,1,by omega,by omega,by omega,by omega,by omega⟩
theorem zCg {B:Option Addr} {v:List Nat} (f:Nat) (hf:f<=4294967296) (hu:ArrAt w b o (n+1) c u) (hv:WordsAt w Y B n d v) (hY:∀ x,Y x->x ≠ b) :
  Calls Tryz.prog 248 #[.slice (some ⟨b,o,none⟩) (n+1) c,.slice B n d,.int .u64 f] w fun e w'=>SubPost u v f b o n c w e w'/\Kept b [b] w w':=by
 have hblt:b<w.heap.size:=hu.lt (by omega);have hc:=hu.cap;have hd:=hv.cap;have hle:=hu.le;have hle2:=hv.le;have LU:=hdq hu.len;have LV:=hdq hv.len;have hv0:WordsAt w (fun x=>x<w.heap.size/\x ≠ b) B n d v:=hv.imp fun x hx hX=>⟨hx,hY x hX⟩
 have ov:=hdq hv.ok;have ou:=hdq hu.ok;go_enter Tryz.func248,Tryz.ntmps248
 go_wp2_with fail
 refine (zA9 0 w).mono ?_; rintro e w1 ⟨rfl,rfl⟩
 have hA0:=hu.alloc hblt (.cells #[.int .u64 0] 166);have hbx0:Box1 (w.alloc (.cells #[.int .u64 0] 166)) w (.int .u64 0):=⟨by go_simp,by intro o; go_simp⟩;have hK0:Kept b [b] w (w.alloc (.cells #[.int .u64 0] 166)):=(Kept.refl (by simp) (by omega)).alloc _;have hRest0:Rest w (w.alloc (.cells #[.int .u64 0] 166)) b o (n+1):=(Rest.refl _ _ _ _).alloc hblt _;have hs0:w.heap.size<(w.alloc (.cells #[.int .u64 0] 166)).heap.size:=by simp
 go_wp2_with fail
 generalize w.alloc (.cells #[.int .u64 0] 166)=W0 at *;go_loopw [7,15] (fun s t W=>SubLoop w u v f b o n c s t W) (fun _ t _=>n+1-(intOf t).toNat)
 case atStart=>exact ⟨hK0,hRest0,hs0,0,0,0,by omega,fun _=>rfl,rfl,rfl,hbx0,u,hA0,Num.SubRel.start u v f⟩
 case round=>
  obtain ⟨hK,hRst,hsz,i,bo,cy,hi,hz0,rfl,rfl,hbx,u',hA,hR⟩:=hrel;have HZ0:=hdq hz0;clear hz0;have hbne:b ≠ w.heap.size:=by omega
  by_cases hin:i<n+1
  ·have hcx:=hA.cell i hin;have hfree:=hA.free;have hx:u'.getD i 0<4294967296:=hA.ok.getD _;have hux:u'.getD i 0=u.getD i 0:=Num.getD_of_drop hR.same i (nlr _);have HUX:=hdq hux;have hbo:=hR.bo;have hcy:cy<4294967296:=hR.cy;have hi0:(0:Int)<=i:=(by omega);have hi1:(i:Int)<(n:Int)+1:=(by omega);clear hux;generalize u'.getD i 0=x at *;have e1:IntKind.u64.wrap (x:Int)=x:=IntWalk.u64_in _ ⟨by omega,by omega⟩;by_cases hiv:i<n
   focus
    obtain ⟨va,rfl,⟨hva,hvb⟩,hcv⟩:=hv0.cell i hiv
    have hcv':wr.cell? (va.add i)=some (.int .u32 (v.getD i 0)):=by
     rw [cob (w:=w) (hK.block _ (by rw [zAj]; exact hva) (by rw [zAj]; simpa using hvb))]; exact hcv
    clear hcv;have hy:v.getD i 0<4294967296:=ov.out.getD _
    have hpe:Hid (Num.nat (v.take (i+1))*f=Num.nat (v.take i)*f+Num.base ^ i*(v.getD i 0*f)):=by
     show _=_;rw [Num.nat_take_succ v i (by rw [LV.out]; exact hiv),Nat.add_mul,Nat.mul_assoc]
    generalize v.getD i 0=y at *;have hyf:y*f<=4294967295*4294967296:=Nat.mul_le_mul (by omega) hf;obtain ⟨p,hp⟩:∃ p,p=y*f:=⟨_,rfl⟩
    have hp1:IntKind.u64.wrap ((y:Int)*(f:Int))=(p:Int):=by
     rw [hp,IntWalk.u64_in _ (by rw [<-Int.natCast_mul]; omega),Int.natCast_mul]
    rw [<-hp] at hpe hyf;have HP:=hdq hp;have hz:Hid (i+1=n+1->p=0):=by intro h; omega
    clear hp;have hiv':(i:Int)<(n:Int):=(by omega);go_wp2_with fail
   rotate_left
   focus
    have hiv':¬ (i:Int)<(n:Int):=(by omega);obtain ⟨p,hp⟩:∃ p,p=0:=⟨_,rfl⟩;have hz:Hid (i+1=n+1->p=0):=by intro h; exact hp
    have hpe:Hid (Num.nat (v.take (i+1))*f=Num.nat (v.take i)*f+Num.base ^ i*p):=by
     show _=_;have:=LV.out;rw [hp,List.take_of_length_le (by omega),List.take_of_length_le (by omega)]; simp
    have hyf:p<=4294967295*4294967296:=(by omega);have hp0:((0:Int))=(p:Int):=by rw [hp]; rfl
    have HP:=hdq hp0;clear hp hp0;(go_wp2_with fail);rw [HP.out]
   all_goals
    obtain ⟨q,hq⟩:∃ q,q=(p+cy) / 4294967296:=⟨_,rfl⟩;obtain ⟨t,ht⟩:∃ t,t=(p+cy) % 4294967296:=⟨_,rfl⟩;have ht1:t<4294967296:=by rw [ht]; exact Nat.mod_lt _ (by omega)
    have hq1:q<4294967296:=(by omega);obtain ⟨dd,b',hdd,hb',hd1,hb1,hsum⟩:=zHk hx ht1 hbo
    have Hstep:Hid (Num.SubRel u v f (i+1) q b' (u'.set i dd)):=by
     have h1:=hR.step (p:=p) (d:=dd) (b':=b') (by rw [LU.out]; exact hin) hpe.out (by rw [<-HUX.out]; show x+b'*4294967296=dd+(p+cy) % 4294967296+bo; rw [<-ht]; exact hsum) hb1 (by show (p+cy) / 4294967296<4294967296; omega);have e:(p+cy) / Num.base=q:=hq.symm;rw [e] at h1; exact h1
    have Hq0:Hid (i+1=n+1->q=0):=by
     intro h; have:=hz.out (by first | exact h | trivial); omega
    have HQ:=hdq hq;have HT:=hdq ht;have e2:IntKind.u64.wrap (t:Int)=t:=IntWalk.u64_in _ ⟨by omega,by omega⟩;have Hpc:Hid (p+cy<18446744073709551616):=by show _<_; omega
    have hbw:b<wr.heap.size:=(by omega);have hbl:¬ (b ∈ [w.heap.size]):=by simp; omega
    have hK1:Kept w [w.heap.size] wr wr:=Kept.refl (by simp) (by omega);have hs2:w.heap.size<=wr.heap.size:=(by omega);clear hq ht hsum hyf
    go_region_held3 (Sees w [w.heap.size] wr) (first | assumption | exact (Kept.start (by simp) (by assumption)).sees | exact (Kept.drew (Kept.set hK1 _ (by simp))).sees)
     (first
      | (go_at_call 231; ((with_reducible refine (zAP _ p cy q t rfl HQ.out HT.out Hpc.out hbx.drew).mono ?_); rintro e w1 ⟨rfl,rfl⟩)))
    rename_i hS;have hA2:ArrAt (wr.setCell w (.int .u64 q)).drew b o (n+1) c u':=(hA.far (by simpa using hbne) _).drew;have hbx2:Box1 (wr.setCell w (.int .u64 q)).drew w (.int .u64 q):=(hbx.set _).drew;have hK2:Kept b [b] w (wr.setCell w (.int .u64 q)).drew:=(hK.set _ (.inr (nlr _))).drew;have hRst2:Rest w (wr.setCell w (.int .u64 q)).drew b o (n+1):=(hRst.far (by simpa using Ne.symm hbne) _).drew;have hsz2:w.heap.size<(wr.setCell w (.int .u64 q)).drew.heap.size:=(by simpa [World.setCell] using hsz);clear hS hK1;generalize (wr.setCell w (.int .u64 q)).drew=W2 at *;have hcx2:=hA2.cell i hin;have hfree2:=hA2.free;generalize u'.getD i 0=x2 at *;(go_wp2_with fail);(try rw [hdd,hb']);exact ⟨⟨hK2.set _ (.inl (by simp)),hRst2.set hin _,by simpa [World.setCell] using hsz2,i+1,b',q,by omega,(fun h=>Hq0.out (by first | exact h | trivial)),rfl,by go_num,hbx2.far (by simpa using hbne) _,_,hA2.set hin hd1,Hstep.out⟩,by simp [intOf] <;> omega⟩
  ·(obtain rfl:i=n+1:=by omega);have hbo:=hR.bo
   have Hv:Hid (Num.nat u+bo*Num.base ^ (n+1)=Num.nat u'+f*Num.nat v):=by
    have h1:=hR.val;have h2:=hA.len;rw [List.take_of_length_le (by rw [LU.out]; omega),List.take_of_length_le (by omega),List.take_of_length_le (by rw [LV.out]; omega)] at h1;rw [HZ0.out rfl,Nat.zero_mul,Nat.add_zero] at h1;exact h1
   go_wp2;go_ret;exact ⟨⟨bo,u',rfl,hbo,hRst,hA,Hv.out⟩,hK⟩
end Go.Proofs.YtjancagcmghfjaaGreat
