/- Texts Ra8 Rb0 of this claim. -/
import Derived.Test.YtbpngececjihlaaGreatY41
import Derived.Laws.AppendOwnNone
import Derived.Deep.DeepCutAuto
set_option maxHeartbeats 4000000
set_option maxRecDepth 100000
namespace Go.Proofs.YtbpngececjihlaaGreat
open Go.RowKit
variable {ql:List Nat} {g n b c m d x:Nat} {W W' w:World} {A:Option Addr} {X Y:Nat->Prop}
theorem HArr.below (h:HArr W g n ql) (hb:Below W W W'):HArr W' g n ql:=h.keep (hb.block _ (zAa h.blk))
theorem zBF {a:Nat} (h:a<=b):(Hal.words a).length<=(Hal.words b).length:=Hal.words_length_le (Nat.lt_of_le_of_lt h (Hal.lt_words_length b))
def Di3Loop (w:World) (n y:Nat) (l:List Nat) (rv iv:Value) (W:World):Prop:=
 ∃ (k r:Nat) (ql:List Nat) (A:Option Addr) (m c:Nat),k<=n/\iv = .int .i64 ((k:Int)-1)/\rv = .slice A m c/\(A=none->c=0)/\r<y/\HAt W (New (w+1)) A m c (Hal.words r)/\HArr W w n ql/\Hal.nat (ql.drop k)*y+r=Hal.nat (l.drop k)/\Below w w W
def Di3In (W1:World) (y R:Nat) (lv hv:Value) (W:World):Prop:=
 ∃ lo hi:Nat,lv = .int .i64 (lo:Int)/\hv = .int .i64 (hi:Int)/\lo<hi/\hi<=65536/\y*lo<=R/\R<y*hi/\Below W1 W1 W
theorem zGI {B:Option Addr} {y:Nat} (ha:HAt w X A n c (Hal.words x)) (hb:HAt w Y B m d (Hal.words y)) (hy:0<y) (hnm:¬ (n<=3/\m<=3)) (hm1:m ≠ 1) (hn:n<=1000000) (hm:m<=1000000) :
  Calls Tryz.prog 222 #[.slice A n c,.slice B m d] w fun e w'=>DivRet w (x / y) (x % y) e w'/\Below w w w':=by
 obtain ⟨i0,hi,hz0,hz1,hz2⟩:=info_parts zCk;have hcap:=ha.cap;have hd:=hb.cap;have hle:=ha.le;have hle2:=hb.le;have HA:=hdq ha;have HB:=hdq hb;have HL:Hid ((Hal.words x).length=n):=ha.len;have HLB:Hid ((Hal.words y).length=m):=hb.len;have hmk:=zE4 n hn;have HN:=hdq (Hal.nat_words x);obtain ⟨l,hl⟩:∃ l,Hal.words x=l:=⟨_,rfl⟩;rw [hl] at HA HL HN;have HNM:Hid (¬ (n<=3/\m<=3)):=hnm;have hm1b:((m:Int) == 1)=false:=by simp; omega
 clear ha hb hl;have h3:¬ (n:Int)<=3\/((n:Int)<=3/\¬ (m:Int)<=3):=by omega
 have H0:Hid (Di3Loop w n y l (.slice none 0 0) (.int .i64 ((n:Int)-1)) (w.alloc (.cells (hv (List.replicate n 0)).toArray 3))):=⟨n,0,List.replicate n 0,none,0,0,nlr _,rfl,rfl,fun _=>rfl,hy,by rw [Hal.words_zero]; exact HAt.nil _ _ _ _ (by omega),⟨by simp,fun z hz=>by rw [List.eq_of_mem_replicate hz]; decide,zAd _ _ rfl⟩,by rw [List.drop_of_length_le (by simp),List.drop_of_length_le (by rw [HL.out]; exact nlr _)]; simp [Hal.nat],bal⟩;rcases h3 with h3 | ⟨h3,h3'⟩
 all_goals
  go_enter Tryz.func222,Tryz.ntmps222
  go_wp2;go_loopw [9,10] (fun rv iv W=>Di3Loop w n y l rv iv W) (fun _ iv _=>(intOf iv+1).toNat)
  case atStart=>exact H0.out
  case round=>
   clear H0 hmk;obtain ⟨k,r,ql,rA,rn,rc,hk,rfl,rfl,hnone,hr,hrem,hq,hnat,hB⟩:=hrel;by_cases h0:0<k
   ·obtain ⟨j,rfl⟩:∃ j,k=j+1:=⟨k-1,by omega⟩;rw [show (((j+1:Nat):Int)-1)=(j:Int) by omega];obtain ⟨ad,rfl,-,hcell0⟩:=HA.out.cell j (by omega);have hcell:=(hB.cell (p:=ad.add j) (zAb hcell0)).trans hcell0;have ta:=zAb hcell;have hxd:=zBC HA.out.ok j;have hdr:=zDY (l:=l) (k:=j) (by rw [HL.out]; omega);have hsd:=(fun x=>zDE (ql:=ql) (j:=j) (x:=x) (by rw [hq.len]; omega));obtain ⟨a,haj⟩:∃ a,l.getD j 0=a:=⟨_,rfl⟩;rw [haj] at hcell hxd hdr;have hj:(j:Int)<n:=(by omega);have hj0:(0:Int)<=j:=(by omega);obtain ⟨R,hRe⟩:∃ R,a+65536*r=R:=⟨_,rfl⟩
    have hRy:R<y*65536:=by
     have:65536*(r+1)<=65536*y:=Nat.mul_le_mul_left _ (by omega);rw [Nat.mul_comm y]; omega
    have hstep:∀ q,q=R / y->Hal.nat ((ql.set j q).drop j)*y+(R-y*q)=Hal.nat (l.drop j):=by
     intro q hqe;rw [hsd,hdr,<-hnat,Nat.add_mul];have e1:=Nat.div_add_mod R y;rw [<-hqe] at e1;have e3:q*y=y*q:=Nat.mul_comm _ _;have e2:65536*Hal.nat (List.drop (j+1) ql)*y=65536*(Hal.nat (List.drop (j+1) ql)*y):=Nat.mul_assoc _ _ _;omega
    have HS:=hdq hstep;have HQ:=hdq hq;have hql:=zAa hq.blk;have hBs:=hB.size
    have hrl:rn<=1000000:=by
     have h1:=hrem.len;have h2:=zBF (show r<=y by omega);rw [HLB.out] at h2; omega
    have HREM:=hdq hrem;have HREl:Hid ((Hal.words r).length=rn):=hrem.len;have HRW:Hid ((Hal.words r).length<=1000000):=by show _<=_; rw [hrem.len]; exact hrl
    have HRe:=hdq hRe;have hown1:(wr.alloc (.cells #[.int .i64 (a:Int)] 3)).ownsRow (w+1) 3 1 (.slice (some wr) 1 1) 1 (hv [a]):=⟨rfl,.inr ⟨wr.heap.size,1,#[.int .i64 (a:Int)],rfl,by omega,zAd _ _ rfl,nlr _,by simp [maxLen],rfl,rfl⟩⟩;have HOwn:=hdq hown1;clear hnat hdr hsd hstep hq haj hown1 hrem hRe;have hnz:Hal.nat (a :: Hal.words r)=R:=by rw [<-HRe.out]; simp only [Hal.nat,Hal.nat_words,Hal.base]
    have hOk:Hal.Ok (a :: Hal.words r):=Hal.Ok.cons (by simp only [Hal.base]; exact hxd) (Hal.Ok.words r);have htr:Hid (Hal.trim (a :: Hal.words r)=Hal.words R):=by show _=_; rw [Hal.trim_eq_words hOk,hnz]
    have HOk:=hdq hOk;clear hnz hOk;(go_upto_region 16 with fail);go_cut [9] (fun p W=>∃ (A:Option Addr) (rn1 c:Nat),p = .slice A rn1 c/\HAt W (New (w+1)) A rn1 c (Hal.words R)/\Below (w+1) wr W)
    case first=>
     by_cases hA0:rA=none
     ·subst hA0;obtain rfl:rc=0:=hnone rfl;obtain rfl:rn=0:=by have:=HREM.out.le; omega
      (go_wp2_with (at_builtin; refine wpList_append_own_none rfl _ _ 48 rfl (w+1) 3 i0 1 Tryz.underlying48 hi _ 1 (hv [a]) rfl HOwn.out rfl ?_));have hB1:Below (w+1) wr (wr.alloc (.cells #[.int .i64 (a:Int)] 3)):=(brf _ _).alloc (by omega) _;have hA1:HAt (wr.alloc (.cells #[.int .i64 (a:Int)] 3)) (New (w+1)) (some ⟨wr,0,none⟩) 1 1 [a]:=HAt.block3 (l:=[a]) (by omega) (Hal.Ok.cons (by simp only [Hal.base]; exact hxd) Hal.Ok.nil) (by simp) (zAd _ _ rfl);have hw0:Hal.words r=[]:=List.eq_nil_of_length_eq_zero HREl.out;have ht:=hA1.trim;have htr2:=htr.out;rw [hw0] at htr2;rw [htr2] at ht;refine (zAK hA1).mono ?_;rintro e w1 ⟨rfl,rfl⟩;rw [htr2];have HT:=hdq ht;have HB1:=hdq hB1;clear hA1 hw0 htr2 htr HOk ht hB1;go_wp2;go_meet;exact ⟨_,_,_,rfl,HT.out,HB1.out⟩
     ·obtain ⟨rad,rfl⟩:∃ rad,rA=some rad:=by
       cases rA with
       | none=>exact absurd rfl hA0
       | some rad=>exact ⟨rad,rfl⟩
      go_wp2_with (at_builtin; refine wpList_append_own _ rfl _ _ 48 rfl (w+1) 3 i0 (.int .i64 0) 1 8 Tryz.underlying48 hi hz0 hz1 hz2 rfl (by decide) _ 1 (hv [a]) rfl HOwn.out rad rn rc (hv (Hal.words r)) rfl (by rw [zFL,HREl.out,Nat.mul_one]) ?cc (zKd _) (by simp [maxLen]; omega) (by omega) (by simp; omega) ?_)
      case cc=>
       intro i u hu;obtain ⟨h1,rfl⟩:=zKc _ _ _ hu;obtain ⟨ad',e',-,hc⟩:=(HREM.out.below ((brf wr wr).alloc (nlr _) (.cells #[.int .i64 (a:Int)] 3))).cell i (by rw [<-HREl.out]; exact h1);cases e';exact hc
      intro v' W1 hown5 hg5 hnil5;have hB1:Below (w+1) wr W1:=((brf _ _).alloc (by omega) _).grown hg5 (by simp; omega) fun j hj=>(zAc HOwn.out hj).1
      rw [<-zC0] at hown5;obtain ⟨A',c',rfl,-,hA1⟩:=zCB hown5 HOk.out;have ht:=hA1.trim;have htr2:=htr.out;simp only [List.singleton_append] at ht hA1;rw [htr2] at ht;have HA1:=hdq hA1;have HT:=hdq ht;have HB1:=hdq hB1;have HTr:=hdq htr2;clear hown5 hg5 hnil5 hA1 ht hB1 htr2;(go_wp2_with fail);refine (zAK HA1.out).mono ?_;rintro e w1 ⟨rfl,rfl⟩;rw [HTr.out];go_wp2;go_meet;exact ⟨_,_,_,rfl,HT.out,HB1.out⟩
    case rest=>
     obtain ⟨A1,rn1,c1,rfl,h1',hB1⟩:=hcut;generalize wc=W1 at *;have H1:=hdq h1';clear h1' htr HOk;have hBw:Below w w W1:=hB.trans (hB1.mono (by omega));have HQ1:=hdq (HQ.out.keep (hB1.block _ (by omega)));have HRn:Hid ((Hal.words R).length=rn1):=H1.out.len
     have hrn1:rn1<=1000001:=by
      have h1:=zBF (show R<=a+65536*r by have:=HRe.out; omega)
      have h2:=Hal.words_length_le (n:=a+65536*r) (k:=(Hal.words r).length+1) (by
       have:=Hal.lt_words_length r;have h5:65536*(r+1)<=65536*Hal.base ^ (Hal.words r).length:=Nat.mul_le_mul_left _ (by omega);rw [Nat.pow_succ,Nat.mul_comm (Hal.base ^ (Hal.words r).length)];show a+65536*r<65536*Hal.base ^ (Hal.words r).length;omega)
      have h6:=HRW.out;rw [HRn.out] at h1; omega
     have hB1':=hdq hB1;clear hB hB1 HREM HREl HOwn HRW;(go_upto_if 91 with fail);go_cut [12] (fun p W=>W=W1/\∃ h0:Nat,p = .int .i64 (h0:Int)/\0<h0/\h0<=65536/\R<y*h0)
     case first=>
      by_cases hlt:rn1<m
      ·have hlti:(rn1:Int)<(m:Int):=by omega
       have hRlty:R<y:=by
        rcases Nat.lt_or_ge R y with h | h
        ·exact h
        ·have:=zBF h; rw [HLB.out,HRn.out] at this; omega
       have Hf:Hid (∃ h0:Nat,Value.int .i64 1 = .int .i64 (h0:Int)/\0<h0/\h0<=65536/\R<y*h0):=⟨1,rfl,by omega,by omega,by omega⟩;go_wp2;go_meet;exact ⟨rfl,Hf.out⟩
      ·have hlti:¬ (rn1:Int)<(m:Int):=(by omega);have Hf:Hid (∃ h0:Nat,Value.int .i64 65536 = .int .i64 (h0:Int)/\0<h0/\h0<=65536/\R<y*h0):=⟨65536,rfl,by omega,by omega,hRy⟩;go_wp2;go_meet;exact ⟨rfl,Hf.out⟩
     case rest=>
      obtain ⟨hWe,h0v,rfl,hp1,hp2,hp3⟩:=hcut;have hWe':=hWe.symm;subst hWe';go_wp2;(go_loopw [11,12] (fun lv hv W=>Di3In W1 y R lv hv W) (fun lv hv _=>(intOf hv-intOf lv).toNat));case atStart=>exact ⟨0,h0v,rfl,rfl,by omega,by omega,by omega,by exact hp3,brf _ _⟩
      case round=>
       obtain ⟨lo,hi,rfl,rfl,hlh,hhi,hlo,hRh,hBI⟩:=hrel;by_cases hgo:lo+1<hi
       ·have hgoi:(1:Int)<(hi:Int)-(lo:Int):=(by omega);obtain ⟨md,hmd⟩:∃ md,(lo+hi) / 2=md:=⟨_,rfl⟩;have hmdi:((lo:Int)+(hi:Int)) / 2=(md:Int):=(by omega);have hm1:lo<md:=(by omega);have hm2:md<hi:=(by omega);have hBwr:Below w w wr:=hBw.trans (hBI.mono hBw.size);clear hmd;(go_wp2_with fail);refine (zDN (m:=md) (HB.out.below hBwr) (by omega) (by omega)).mono ?_;rintro e w2 ⟨⟨A2,n2,c2,rfl,-,h2⟩,hb2⟩;rw [Hal.nat_words] at h2;have hb12:=hBI.trans (hb2.mono hBI.size);have hcmp:=zE1 h2 (H1.out.below hb12);rw [Hal.nat_words,Hal.nat_words] at hcmp;have HCmp:=hdq hcmp;clear hcmp h2 hb2;(go_wp2_with fail);refine HCmp.out.mono ?_;rintro e w3 ⟨rfl,rfl⟩;by_cases hc:y*md<=R
        ·have hcn:cmpN (y*md) R<=0:=by unfold cmpN; split <;> (try split) <;> omega
         have Hfin:Hid (Di3In W1 y R (.int .i64 (md:Int)) (.int .i64 (hi:Int)) w2):=⟨md,hi,rfl,rfl,hm2,hhi,hc,hRh,hb12⟩;obtain ⟨cv,hcv⟩:∃ cv,cmpN (y*md) R=cv:=⟨_,rfl⟩;rw [hcv] at hcn ⊢;clear hc hcv HCmp;go_wp2;go_roundw;case rel=>exact fn_ Hfin.out
         case measure=>simp [intOf]; omega
        ·have hcn:¬ cmpN (y*md) R<=0:=by unfold cmpN; split <;> (try split) <;> omega
         have Hfin:Hid (Di3In W1 y R (.int .i64 (lo:Int)) (.int .i64 (md:Int)) w2):=⟨lo,md,rfl,rfl,hm1,by omega,hlo,by omega,hb12⟩;obtain ⟨cv,hcv⟩:∃ cv,cmpN (y*md) R=cv:=⟨_,rfl⟩;rw [hcv] at hcn ⊢;clear hc hcv HCmp;go_wp2;go_roundw;case rel=>exact fn_ Hfin.out
         case measure=>simp [intOf]; omega
       ·have hgoi:¬ (1:Int)<(hi:Int)-(lo:Int):=by omega
        have hlo1:lo=R / y:=by
         have:R / y=lo:=by
          rw [Nat.div_eq_iff hy];have e1:hi=lo+1:=(by omega);rw [e1,Nat.mul_add,Nat.mul_one] at hRh;rw [Nat.mul_comm lo y];constructor
          ·omega
          ·omega
         exact this.symm
        have HS2:=hdq (HS.out lo hlo1);have HLo:=hdq hlo1;clear hlo1;have hlo6:lo<65536:=(by omega);have hBwr:Below w w wr:=hBw.trans (hBI.mono hBw.size);(go_wp2_with fail);refine (zDN (m:=lo) (HB.out.below hBwr) (by omega) (by omega)).mono ?_;rintro e w2 ⟨⟨A2,n2,c2,rfl,-,h2⟩,hb2⟩;rw [Hal.nat_words] at h2;have hb12:=hBI.trans (hb2.mono hBI.size);(go_wp2_with fail);refine (zHS (H1.out.below hb12) h2 (by omega) (by rw [<-HRn.out,<-h2.len]; exact zBF hlo) (by rw [Hal.nat_words,Hal.nat_words]; exact hlo)).mono ?_;rintro e w3 ⟨⟨A3,n3,c3,rfl,hn3,h3'⟩,hb3⟩;rw [Hal.nat_words,Hal.nat_words] at h3';have hb13:=hb12.trans (hb3.mono hb12.size);have HQ3:=hdq (HQ1.out.below hb13);have hB3:Below w w w3:=hBw.trans (hb13.mono hBw.size);obtain ⟨k1,k2⟩:=HQ3.out.cells;have k3:=k1 j (by omega)
        have hmod:R-y*lo<y:=by
         rw [HLo.out];have:=Nat.mod_lt R hy;have:=Nat.div_add_mod R y;omega
        have hw3:w.heap.size<w3.heap.size:=zAa HQ3.out.blk;have hw1:w.heap.size<W1.heap.size:=zAa HQ1.out.blk
        have Hfin:Hid (Di3Loop w n y l (.slice A3 n3 c3) (.int .i64 ((j:Int)-1)) (w3.setCell ⟨w.heap.size,j,none⟩ (.int .i64 (lo:Int)))):=
         ⟨j,R-y*lo,ql.set j lo,A3,n3,c3,by omega,rfl,rfl,hn3,hmod,(h3'.imp (Y:=New (w+1)) fun b _ hb=>by have:=hb12.size; have:=hBw.size; simp only [New] at hb ⊢; omega).keep (fun p hp _=>cob (bhs _ _ _ _ (by simp only [New] at hp; show p.block ≠ w.heap.size; omega))),HQ3.out.set hlo6,HS2.out,hB3.setCell (p:=⟨w.heap.size,j,none⟩) (nlr _) _⟩
        clear k1 h2 h3' hb2 hb3 hb12 hb13 hB3 hBwr;go_wp2;go_roundw;case rel=>exact fn_ Hfin.out
        case measure=>simp [intOf]
   ·(obtain rfl:k=0:=by omega);rw [List.drop_zero,List.drop_zero,HN.out] at hnat
    have hdm:Hal.nat ql=x / y/\r=x % y:=by
     have e1:=Nat.div_mod_unique (a:=x) (b:=y) (c:=r) (d:=Hal.nat ql) hy;have:=e1.2 ⟨by rw [Nat.mul_comm y]; omega,hr⟩;exact ⟨this.1.symm,this.2.symm⟩
    have hA:=hq.hat (nlr _) (by omega);have ht:=hA.trim;have e1:=Hal.trim_eq_words hq.ok;rw [hdm.1] at e1;rw [e1] at ht;have HAq:=hdq hA;have E1:=hdq e1;rw [hdm.2] at hrem;have H2:Hid (DivRet w (x / y) (x % y) (.returned (.tuple #[.slice (some w) (Hal.words (x / y)).length n,.slice rA rn rc])) wr):=⟨_,_,_,_,_,_,rfl,ht,hrem.low (by omega)⟩;clear hq hA ht e1 hnat hdm hrem;(go_wp2_with fail);refine (zAK HAq.out).mono ?_;rintro e w1 ⟨rfl,rfl⟩;rw [E1.out];go_wp2;go_ret2;exact ⟨H2.out,hB⟩
theorem zE2 {B:Option Addr} {y:Nat} (ha:HAt w X A n c (Hal.words x)) (hb:HAt w Y B m d (Hal.words y)) (hy:0<y) (hn:n<=1000000) (hm:m<=1000000) :
  Calls Tryz.prog 222 #[.slice A n c,.slice B m d] w fun e w'=>DivRet w (x / y) (x % y) e w'/\Below w w w':=by
 by_cases h:n<=3/\m<=3
 ·exact zGG ha hb hy h.1 h.2
 ·by_cases h1:m=1
  ·subst h1;exact zGH ha hb (by omega) hn
  ·exact zGI ha hb hy h h1 hn hm
end Go.Proofs.YtbpngececjihlaaGreat
