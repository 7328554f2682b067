/- Texts MpA MpB of this claim. -/
import Derived.Test.YtjancagcmghfjaaGreatX13
import Derived.Test.YtjancagcmghfjaaGreatX14
import Derived.Deep.DeepCutAuto
set_option maxHeartbeats 4000000
set_option maxRecDepth 40000
namespace Go.Proofs.YtjancagcmghfjaaGreat
open Go.RowKit Go.Shelf
namespace Mo
theorem zXp {w:World} (p c:Int):Calls Tryz.prog 224 #[.int .i64 p,.int .i64 c] w fun e w'=>e = .returned (.bool (follows true p c))/\Below w w w':=by
 go_enter Tryz.func224,Tryz.ntmps224
 go_wp2;go_ret;exact ⟨by simp [follows],brf _ _⟩
theorem zXg {w:World} (p c:Int):Calls Tryz.prog 184 #[.int .i64 p,.int .i64 c] w fun e w'=>e = .returned (.bool (follows false p c))/\Below w w w':=by
 go_enter Tryz.func184,Tryz.ntmps184
 go_wp2;go_ret;exact ⟨by simp [follows],brf _ _⟩
theorem zWs {w:World}:Calls Tryz.prog 182 #[] w fun e w'=>e = .returned (.agg #[.func (.func 224) #[] #[]])/\Below w w w':=by
 go_enter Tryz.func182,Tryz.ntmps182
 go_wp2;have al:Below w w (w.alloc (.cells #[.func (.func 224) #[] #[]] 177)):=bal;exact bodyPost_ret (v:=.agg #[.func (.func 224) #[] #[]]) (by simp [results,Tryz.results182,go_sem]) rfl ⟨rfl,al⟩
theorem zVY {w:World}:Calls Tryz.prog 138 #[] w fun e w'=>e = .returned (.agg #[.func (.func 184) #[] #[]])/\Below w w w':=by
 go_enter Tryz.func138,Tryz.ntmps138
 go_wp2;have al:Below w w (w.alloc (.cells #[.func (.func 184) #[] #[]] 177)):=bal;exact bodyPost_ret (v:=.agg #[.func (.func 184) #[] #[]]) (by simp [results,Tryz.results138,go_sem]) rfl ⟨rfl,al⟩
def CkL (w:World) (fv:Value) (n:Nat) (t:Value) (W:World):Prop:=∃ k:Nat,k<=n/\t = .int .i64 (k:Int)/\Below w w W/\W.cell? w=some fv
theorem zU1 {w:World} {s:SV} {l:List St} {up:Bool} {fn:Nat} (h:StepsAt w s l) (hcall:∀ (args:Array Value) (w:World),Sem.run Tryz.prog (callFunc fn args) w = .ok (.enter fn args) w)
  (ht:∀ (W:World) (p c:Int),Calls Tryz.prog fn #[.int .i64 p,.int .i64 c] W fun e w'=>e = .returned (.bool (follows up p c))/\Below W W w') :
  Calls Tryz.prog 139 #[.agg #[.func (.func fn) #[] #[]],s.val] w fun e w'=>e = .returned (.int .i64 (stepErr up l))/\Below w w w':=by
 have HC:=hdq hcall;have HT:=hdq ht;have HS:=hdq h;have hlen:l.length=s.n:=h.len;have hle:s.n<=s.c:=h.le;have hcap:s.c<=9223372036854775807:=h.cap;obtain ⟨A,n,c⟩:=s;dsimp only at hlen hle hcap;clear h hcall ht;by_cases h0:n=0
 ·subst h0;have HE:Hid (stepErr up l=4):=by show _=_; unfold stepErr; rw [if_pos hlen]
  clear hlen;dsimp only [SV.val];go_enter Tryz.func139,Tryz.ntmps139
  go_wp2;go_ret;exact ⟨by rw [HE.out]; first | done | rfl,bal⟩
 by_cases h3:3<n
 ·have HE:Hid (stepErr up l=5):=by show _=_; unfold stepErr; rw [if_neg (by omega),if_pos (by omega)]
  have h3':(3:Int)<(n:Int):=by omega
  have h0':¬ (n:Int)=0:=by omega
  clear hlen;dsimp only [SV.val];go_enter Tryz.func139,Tryz.ntmps139
  go_wp2;go_ret;exact ⟨by rw [HE.out]; first | done | rfl,bal⟩
 have HE0:Hid (stepErr up l=chk up (prev l 0) (l.drop 0)):=by show _=_; unfold stepErr; rw [if_neg (by omega),if_neg (by omega)]; rfl
 have h3':¬ (3:Int)<(n:Int):=by omega
 have h0':¬ (n:Int)=0:=by omega
 have HL:=hdq hlen;clear hlen;dsimp only [SV.val];go_enter Tryz.func139,Tryz.ntmps139
 go_upto_region 1 with fail
 refine zAo (fun W=>Below w w W/\Box1 W w (.func (.func fn) #[] #[])/\w.heap.size<W.heap.size) ⟨(az (brf _ _)),⟨by go_simp,by intro o; go_simp⟩,by simp <;> omega⟩ ?_;rintro W ⟨hbW,bD,s0⟩;have hBW:=hbW.size;have H0:CkL w (.func (.func fn) #[] #[]) n (.int .i64 0) W/\stepErr up l=chk up (prev l 0) (l.drop 0):=⟨⟨0,nzl _,rfl,hbW,bD.1⟩,HE0.out⟩;clear hbW hBW bD HE0;go_wp2;go_loopw [15] (fun t W=>CkL w (.func (.func fn) #[] #[]) n t W/\stepErr up l=chk up (prev l (intOf t).toNat) (l.drop (intOf t).toNat)) (fun t _=>n-(intOf t).toNat)
 case atStart=>exact H0
 case round=>
  clear H0;obtain ⟨⟨k,hk,rfl,hB,hD⟩,hE⟩:=hrel;rw [show (intOf (.int .i64 (k:Int))).toNat=k by simp [intOf]] at hE;have HB:=hdq hB;have hsz:w.heap.size<wr.heap.size:=zAb hD;by_cases hlt:k<n
  ·obtain ⟨ad,e,q0,q1⟩:=(StepsAt.below hB HS.out).cell k hlt;dsimp only at e;subst e;have hlt':k<l.length:=by rw [HL.out]; exact hlt
   have tq:(ad.add (k*2)).block<wr:=zAb q0;obtain ⟨x,hx⟩:∃ x,x=l.getD k st0:=⟨_,rfl⟩;rw [<-hx] at q0 q1;have hki:(k:Int)<(n:Int):=(by omega);clear hB;by_cases hb:StBad x
   ·have HE:Hid (stepErr up l=1):=hdq (hE.trans (zYA hlt' (by rw [<-hx]; exact hb)));clear hE hx;obtain ⟨q,p⟩:=x;dsimp only [StBad] at hb q0 q1;by_cases b1:q<1
    ·skip
     go_wp2;go_ret;exact ⟨by rw [HE.out]; first | done | rfl,HB.out.alloc (by have:=HB.out.size; omega) _⟩
    by_cases b2:1000000<q
    ·skip
     go_wp2;go_ret;exact ⟨by rw [HE.out]; first | done | rfl,HB.out.alloc (by have:=HB.out.size; omega) _⟩
    by_cases b3:p < -1000000
    ·skip
     go_wp2;go_ret;exact ⟨by rw [HE.out]; first | done | rfl,HB.out.alloc (by have:=HB.out.size; omega) _⟩
    have b4:1000000<p:=(by omega);go_wp2;go_ret;exact ⟨by rw [HE.out]; first | done | rfl,HB.out.alloc (by have:=HB.out.size; omega) _⟩
   ·have HN:Hid ((0<k->follows up (l.getD (k-1) st0).p x.p=true)->stepErr up l=chk up (prev l (k+1)) (l.drop (k+1))):=hdq fun hf=>hE.trans (zX8 hlt' (by rw [<-hx]; exact hb) (by rw [<-hx]; exact hf))
    have HF:Hid (0<k->follows up (l.getD (k-1) st0).p x.p=false->stepErr up l=3):=hdq fun h1 h2=>hE.trans (zX7 hlt' (by rw [<-hx]; exact hb) h1 (by rw [<-hx]; exact h2))
    clear hE;obtain ⟨q,p⟩:=x;dsimp only [StBad] at hb q0 q1 HN HF;have b1:¬ q<1:=(fun e=>hb (.inl e));have b2:¬ 1000000<q:=(fun e=>hb (.inr (.inl e)));have b3:¬ p < -1000000:=(fun e=>hb (.inr (.inr (.inl e))));have b4:¬ 1000000<p:=(fun e=>hb (.inr (.inr (.inr e))));clear hb hx;(go_upto_region 10 with fail);have al:Below wr wr (wr.alloc (.cells #[.int .i64 q,.int .i64 p] 83)):=bal;refine zAo (fun W'=>Below wr wr W'/\W'.cell? wr=some (.int .i64 q)/\W'.cell? ⟨wr.heap.size,1,none⟩=some (.int .i64 p)/\wr.heap.size<W'.heap.size) ⟨al,by go_simp,by go_simp,by simp⟩ ?_;clear al;rintro W2 ⟨hb2,x0,x1,t2⟩;have hD2:=(hb2.cell (p:=w) hsz).trans hD;have HB2:=hdq (HB.out.trans (hb2.mono HB.out.size));have bW:w.heap.size<=W2.heap.size:=HB2.out.size;have hS0:Sees w [] W2 W2.drew:=Sees.st (by simp) bW;have hD3:=zAb hD2;dsimp only at hD3;by_cases hk0:0<k
    ·obtain ⟨j,rfl⟩:∃ j,k=j+1:=⟨k-1,by omega⟩;obtain ⟨ad',e,r0,r1⟩:=(StepsAt.below HB2.out HS.out).cell j (show j<n by omega);dsimp only at e;cases e;rw [Nat.add_sub_cancel] at HN HF;have tr:(ad.add (j*2)).block<W2:=zAb r0;generalize (l.getD j st0).p=pp at *;have hcall:=HC.out;have hjj:((j+1:Nat):Int)-1=(j:Int):=(by omega);have hji:(j:Int)<(n:Int):=(by omega);have hj0:(0:Int)<((j+1:Nat):Int):=(by omega);have hwj:IntKind.i64.wrap (j:Int)=(j:Int):=IntWalk.i64_in _ (by omega);clear q0 q1 r0 tq hD;refine zAp 1000 (fun _ w'=>Sees w [] W2 w') (by kernel_rfl) ?_;refine tx4 0 1 2 3 hS0 ?_;refine tx4 4 5 6 7 hS0 ?_;refine tx4 8 9 10 11 hS0 ?_;refine tx1 12 hS0 ?_;refine tk1 13 ?_;intro K hK;go_simp;refine (HT.out _ _ _).mono ?_;rintro e w3 ⟨rfl,hb3⟩;have hS1:=Kept.call2 hb3 hS0;refine hK.out _ _ hS1 ?_;clear hK K hS0 hb3 hcall;have HB3:=hdq (HB2.out.trans (hS1.kept.whole.mono bW));have hD4:=(hS1.kept.whole.cell (p:=w) hD3).trans hD2
     cases hf:follows up pp p with
     | true=>
      have HE:=hdq (HN.out fun _=>hf);refine tx1 14 hS1 ?_;refine tx1 15 hS1 ?_;refine zAf (by kernel_rfl) ?_ _;clear hS1 hD2 hf;go_wp2;go_roundw;case rel=>exact ⟨⟨j+1+1,by omega,by simp,HB3.out,hD4⟩,by rw [show (intOf (.int .i64 ((j:Int)+1+1))).toNat=j+1+1 by simp only [intOf]; omega]; exact HE.out⟩
      case measure=>simp [intOf]; omega
     | false=>
      have HE:=hdq (HF.out (by omega) hf);refine tx1 14 hS1 ?_;refine tx1 15 hS1 ?_;refine zAf (by kernel_rfl) ?_ _;clear hS1 hD2 hf;go_wp2;go_ret;exact ⟨by rw [HE.out]; first | done | rfl,HB3.out⟩
    ·(obtain rfl:k=0:=by omega);have HE:=hdq (HN.out fun h=>absurd h hk0);have hk1:¬ (0:Int)<((0:Nat):Int):=(by omega);clear q0 q1 tq hD HN HF;refine zAp 1000 (fun _ w'=>Sees w [] W2 w') (by kernel_rfl) ?_;refine tx1 0 hS0 ?_;refine tx1 1 hS0 ?_;refine tx1 2 hS0 ?_;refine tn4 3 4 5 6 hS0 ?_;refine tn4 7 8 9 10 hS0 ?_;refine tn4 11 12 13 14 hS0 ?_;refine tx1 15 hS0 ?_;refine zAf (by kernel_rfl) ?_ _;clear hS0;go_wp2;go_roundw;case rel=>exact ⟨⟨0+1,by omega,by simp,HB2.out.drew,hD2⟩,HE.out⟩
     case measure=>simp [intOf]; omega
  ·obtain rfl:k=n:=by omega
   have HE:Hid (stepErr up l=0):=by
    show _=_;rw [hE,<-HL.out];exact zYB
   clear hE hB;go_wp2;go_ret;exact ⟨by rw [HE.out]; first | done | rfl,HB.out⟩
theorem zUy {w:World} {s:SV} {l:List St} (h:StepsAt w s l) :
  Calls Tryz.prog 136 #[.slice s.A s.n s.c] w fun e w'=>e = .returned (.int .i64 (stepErr true l))/\Below w w w':=by
 have HS:=hdq h;clear h;go_enter Tryz.func136,Tryz.ntmps136
 go_wp2_with fail
 refine zWs.mono ?_; rintro e w1 ⟨rfl,hb1⟩
 have HS1:=hdq (StepsAt.below hb1 HS.out);go_wp2_with fail
 refine (zU1 (up:=true) HS1.out (fun _ _=>rfl) fun _ _ _=>zXp _ _).mono ?_; rintro e w2 ⟨rfl,hb2⟩
 have HB:=hdq (hb1.trans (hb2.mono hb1.size));go_wp2;go_ret;exact ⟨rfl,HB.out⟩
theorem zUr {w:World} {s:SV} {l:List St} (h:StepsAt w s l) :
  Calls Tryz.prog 85 #[.slice s.A s.n s.c] w fun e w'=>e = .returned (.int .i64 (stepErr false l))/\Below w w w':=by
 have HS:=hdq h;clear h;go_enter Tryz.func85,Tryz.ntmps85
 go_wp2_with fail
 refine zVY.mono ?_; rintro e w1 ⟨rfl,hb1⟩
 have HS1:=hdq (StepsAt.below hb1 HS.out);go_wp2_with fail
 refine (zU1 (up:=false) HS1.out (fun _ _=>rfl) fun _ _ _=>zXg _ _).mono ?_; rintro e w2 ⟨rfl,hb2⟩
 have HB:=hdq (hb1.trans (hb2.mono hb1.size));go_wp2;go_ret;exact ⟨rfl,HB.out⟩
theorem zU8 {w:World} {s:SV} {l:List St} (h:StepsAt w s l) :
  Calls Tryz.prog 183 #[.slice s.A s.n s.c] w fun e w'=>e = .returned (.int .i64 (if stepErr false l=0 then 0 else stepErr true l))/\Below w w w':=by
 have HS:=hdq h;clear h;by_cases hE:stepErr false l=0
 ·rw [if_pos hE];go_enter Tryz.func183,Tryz.ntmps183
  go_wp2_with fail
  refine (zUr HS.out).mono ?_; rintro e w1 ⟨rfl,hb1⟩
  rw [hE];go_wp2;go_ret;exact ⟨rfl,hb1⟩
 ·rw [if_neg hE];go_enter Tryz.func183,Tryz.ntmps183
  go_wp2_with fail
  refine (zUr HS.out).mono ?_; rintro e w1 ⟨rfl,hb1⟩
  have HS1:=hdq (StepsAt.below hb1 HS.out);generalize stepErr false l=z at *;go_wp2_with fail
  refine (zUy HS1.out).mono ?_; rintro e w2 ⟨rfl,hb2⟩
  have HB:=hdq (hb1.trans (hb2.mono hb1.size));go_wp2;go_ret;exact ⟨rfl,HB.out⟩
def SmL (w:World) (l:List St) (n:Nat) (s t:Value) (W:World):Prop:=∃ k:Nat,k<=n/\t = .int .i64 (k:Int)/\s = .int .i64 (sumQ (l.take k))/\Below w w W
theorem zXX {w:World} {s:SV} {l:List St} {up:Bool} (h:StepsAt w s l) (hok:stepErr up l=0) :
  Calls Tryz.prog 137 #[.slice s.A s.n s.c] w fun e w'=>e = .returned (.int .i64 (sumQ l))/\Below w w w':=by
 obtain ⟨o1,o2,o3⟩:=zT8 hok;have hq:=hdq (zVJ o3);have HS:=hdq h;have HL:Hid (l.length=s.n):=h.len;have hle:s.n<=s.c:=h.le;have hcap:s.c<=9223372036854775807:=h.cap
 have hC:(if stepErr false l=0 then (0:Int) else stepErr true l)=0:=by
  by_cases e:stepErr false l=0
  ·exact if_pos e
  ·rw [if_neg e]
   cases up with
   | true=>exact hok
   | false=>exact absurd hok e
 have HCC:=hdq hC;obtain ⟨A,n,c⟩:=s;dsimp only at hle hcap HL;have hn3:n<=3:=by have:=HL.out; omega
 clear h hok o1 o2 o3 hC;go_enter Tryz.func137,Tryz.ntmps137
 go_wp2_with fail
 refine (zU8 HS.out).mono ?_; rintro e w1 ⟨rfl,hb1⟩
 rw [HCC.out];have H0:SmL w l n (.int .i64 0) (.int .i64 0) w1:=⟨0,nzl _,rfl,rfl,hb1⟩;clear hb1 HCC;go_wp2;go_loopw [3,11] (fun s t W=>SmL w l n s t W) (fun _ t _=>n-(intOf t).toNat)
 case atStart=>exact H0
 case round=>
  clear H0;obtain ⟨k,hk,rfl,rfl,hB⟩:=hrel;have HB:=hdq hB;by_cases hlt:k<n
  ·obtain ⟨ad,e,q0,q1⟩:=(StepsAt.below hB HS.out).cell k hlt;dsimp only at e;subst e;have hlt':k<l.length:=by rw [HL.out]; exact hlt
   have tq:(ad.add (k*2)).block<wr:=zAb q0;have hki:(k:Int)<(n:Int):=by omega
   have HT:Hid (sumQ (l.take (k+1))=sumQ (l.take k)+(l.getD k st0).q):=by
    show _=_;rw [zUx st0 hlt',zWv]
   have hr:=zXW (l:=l.take k) fun s hs=>⟨(hq.out s (List.mem_of_mem_take hs)).1,(hq.out s (List.mem_of_mem_take hs)).2.1⟩
   have hlk:(l.take k).length<=3:=by rw [List.length_take]; omega
   have hx:=hq.out _ (show l.getD k st0 ∈ l by rw [gdd,gge hlt']; exact List.getElem_mem hlt');generalize sumQ (l.take k)=z at *;generalize l.getD k st0=x at *;obtain ⟨q,p⟩:=x;dsimp only at q0 q1 hx HT;have hwr:IntKind.i64.wrap (z+q)=z+q:=IntWalk.i64_in _ (by omega);clear hB hr hlk hx;go_wp2;go_roundw;case rel=>exact ⟨k+1,by omega,by simp,by rw [HT.out],HB.out.alloc (by have:=HB.out.size; omega) _⟩
   case measure=>simp [intOf]; omega
  ·obtain rfl:k=n:=by omega
   have HT:Hid (sumQ (l.take k)=sumQ l):=by
    show _=_;rw [<-HL.out,List.take_length]
   rw [HT.out];clear hB;go_wp2;go_ret;exact ⟨rfl,HB.out⟩
end Mo
namespace Mo
abbrev Box9 (W:World) (b:Nat) (v0 v1 v2 v3 v4 v5 v6 v7 v8:Value):Prop:=
 W.cell? b=some v0/\W.cell? ⟨b,1,none⟩=some v1/\W.cell? ⟨b,2,none⟩=some v2/\W.cell? ⟨b,3,none⟩=some v3/\W.cell? ⟨b,4,none⟩=some v4/\W.cell? ⟨b,5,none⟩=some v5/\W.cell? ⟨b,6,none⟩=some v6/\W.cell? ⟨b,7,none⟩=some v7/\W.cell? ⟨b,8,none⟩=some v8/\(∀ o,W.frozen? ⟨b,o,none⟩=false)
theorem Box9.below {w w':World} {b:Nat} {v0 v1 v2 v3 v4 v5 v6 v7 v8:Value} (h:Box9 w b v0 v1 v2 v3 v4 v5 v6 v7 v8) {B:Nat} (hb:Below B w w') (hlt:b<B):Box9 w' b v0 v1 v2 v3 v4 v5 v6 v7 v8:=by
 obtain ⟨h0,h1,h2,h3,h4,h5,h6,h7,h8,h9⟩:=h;exact ⟨by rw [hb.cell hlt]; exact h0,by rw [hb.cell hlt]; exact h1,by rw [hb.cell hlt]; exact h2,by rw [hb.cell hlt]; exact h3,by rw [hb.cell hlt]; exact h4,by rw [hb.cell hlt]; exact h5,by rw [hb.cell hlt]; exact h6,by rw [hb.cell hlt]; exact h7,by rw [hb.cell hlt]; exact h8,fun o=>by rw [hb.frozen hlt]; exact h9 o⟩
def Un.val (u:Un) (s:SV):Value:=.agg #[.int .i64 u.bus,.int .i64 u.min,.slice s.A s.n s.c,.int .i64 u.up,.int .i64 u.down,.int .i64 u.start,.int .i64 u.idle,.int .i64 u.spin,.int .i64 u.on]
section
variable {u:Un} {N:Int}
theorem ue1 (h:u.bus<0\/N<=u.bus):unitErr u N=1:=if_pos h
theorem ue2 (h:¬ (u.bus<0\/N<=u.bus)) (h2:stepErr true u.steps ≠ 0):unitErr u N=stepErr true u.steps:=by unfold unitErr; rw [if_neg h,if_pos h2]
theorem ue3 (h:¬ (u.bus<0\/N<=u.bus)) (h2:stepErr true u.steps=0) (h3:u.min<0\/sumQ u.steps<u.min):unitErr u N=1:=by unfold unitErr; rw [if_neg h,if_neg (fun e=>e h2),if_pos h3]
theorem ue4 (h:¬ (u.bus<0\/N<=u.bus)) (h2:stepErr true u.steps=0) (h3:¬ (u.min<0\/sumQ u.steps<u.min)) (h4:u.up<1\/6<u.up\/u.down<1\/6<u.down):unitErr u N=1:=by unfold unitErr; rw [if_neg h,if_neg (fun e=>e h2),if_neg h3,if_pos h4]
theorem ue5 (h:¬ (u.bus<0\/N<=u.bus)) (h2:stepErr true u.steps=0) (h3:¬ (u.min<0\/sumQ u.steps<u.min)) (h4:¬ (u.up<1\/6<u.up\/u.down<1\/6<u.down)) (h5:u.start<0\/1000000000<u.start\/u.idle<0\/1000000000<u.idle):unitErr u N=1:=by
 unfold unitErr; rw [if_neg h,if_neg (fun e=>e h2),if_neg h3,if_neg h4,if_pos h5]
theorem ue6 (h:¬ (u.bus<0\/N<=u.bus)) (h2:stepErr true u.steps=0) (h3:¬ (u.min<0\/sumQ u.steps<u.min)) (h4:¬ (u.up<1\/6<u.up\/u.down<1\/6<u.down)) (h5:¬ (u.start<0\/1000000000<u.start\/u.idle<0\/1000000000<u.idle)) :
  unitErr u N=if u.spin<0\/1000000<u.spin then 1 else if u.on=0\/u.on < -6\/6<u.on then 1 else 0:=by
 unfold unitErr; rw [if_neg h,if_neg (fun e=>e h2),if_neg h3,if_neg h4,if_neg h5]
end
theorem zWw {w:World} {u:Un} {s:SV} {N:Int} (h:StepsAt w s u.steps) :
  Calls Tryz.prog 84 #[u.val s,.int .i64 N] w fun e w'=>e = .returned (.int .i64 (unitErr u N))/\Below w w w':=by
 have HS:=hdq h;obtain ⟨bus,mn,steps,up,down,start,idle,spin,on⟩:=u;obtain ⟨ER,hER⟩:∃ ER,unitErr ⟨bus,mn,steps,up,down,start,idle,spin,on⟩ N=ER:=⟨_,rfl⟩;rw [hER];have HER:=hdq hER.symm;clear hER;dsimp only at HS;clear h;dsimp only [Un.val];go_enter Tryz.func84,Tryz.ntmps84
 go_upto_region 1 with fail
 refine zAo (fun W=>Below w w W/\Box9 W w (.int .i64 bus) (.int .i64 mn) (.slice s.A s.n s.c) (.int .i64 up) (.int .i64 down) (.int .i64 start) (.int .i64 idle) (.int .i64 spin) (.int .i64 on)/\w.heap.size<W.heap.size) ⟨(az (brf _ _)),⟨by go_simp,by go_simp,by go_simp,by go_simp,by go_simp,by go_simp,by go_simp,by go_simp,by go_simp,by intro o; go_simp⟩,by simp <;> omega⟩ ?_;rintro W ⟨hbW,bU,s0⟩;have hBW:=hbW.size;have HB:=hdq hbW;by_cases hA:bus<0\/N<=bus
 ·have HE:Hid (ER=1):=hdq (HER.out.trans (ue1 hA));clear hbW hBW;obtain ⟨c0,c1,c2,c3,c4,c5,c6,c7,c8,-⟩:=(by first | exact bU | exact bU1:Box9 _ _ _ _ _ _ _ _ _ _ _);by_cases hA0:bus<0
  ·skip
   go_wp2;go_ret;exact ⟨by rw [HE.out]; first | done | rfl,by first | exact HB3.out | exact HB1.out | exact HB.out⟩
  ·have hA1:N<=bus:=(by omega);go_wp2;go_ret;exact ⟨by rw [HE.out]; first | done | rfl,by first | exact HB3.out | exact HB1.out | exact HB.out⟩
 have hA0:¬ bus<0:=by omega
 have hA1:¬ N<=bus:=by omega
 have HA:=hdq hA;have HSW:=hdq (StepsAt.below hbW HS.out);clear hA;obtain ⟨c0,c1,c2,c3,c4,c5,c6,c7,c8,cf⟩:=id bU;go_wp2_with fail
 refine (zUy HSW.out).mono ?_; rintro e w1 ⟨rfl,hb1⟩
 have HB1:=hdq (HB.out.trans (hb1.mono hBW));have bU1:=bU.below hb1 s0;have HS1:=hdq (StepsAt.below hb1 HSW.out);have s1:=ltl s0 hb1.size;clear hb1 bU HB hbW hBW s0 c0 c1 c2 c3 c4 c5 c6 c7 c8 cf HSW;by_cases hE:stepErr true steps=0
 ·rw [hE];have HE0:=hdq hE;clear hE;obtain ⟨c0,c1,c2,c3,c4,c5,c6,c7,c8,-⟩:=(by first | exact bU | exact bU1:Box9 _ _ _ _ _ _ _ _ _ _ _);go_upto_region 6 with fail
  have hS0:Sees w [] w1 w1.drew:=Sees.st (by simp) HB1.out.size;have hbl:w.heap.size<w1.heap.size:=s1;by_cases hm:mn<0
  ·have HE:Hid (ER=1):=hdq (HER.out.trans (ue3 HA.out HE0.out (.inl hm)));refine zAp 1000 (fun _ w'=>Sees w [] w1 w') (by kernel_rfl) ?_;refine tx4 0 1 2 3 hS0 ?_;refine tn4 4 5 6 7 hS0 ?_;refine tn1 8 hS0 ?_;refine tn1 9 hS0 ?_;refine tx1 10 hS0 ?_;refine zAf (by kernel_rfl) ?_ _;clear hS0;go_wp2;go_ret;exact ⟨by rw [HE.out]; first | done | rfl,HB1.out.drew⟩
  have hSc:=hdq (zXX (up:=true) (StepsAt.below hS0.kept.whole HS1.out) HE0.out);refine zAp 1000 (fun _ w'=>Sees w [] w1 w') (by kernel_rfl) ?_;refine tx4 0 1 2 3 hS0 ?_;refine tx4 4 5 6 7 hS0 ?_;refine tk1 8 ?_;intro K hK;go_simp;refine hSc.out.mono ?_;rintro e w3 ⟨rfl,hb3⟩;have hS1:=Kept.call2 hb3 hS0;refine hK.out _ _ hS1 ?_;clear hK K hS0 hb3;have HB3:=hdq (HB1.out.trans (hS1.kept.whole.mono HB1.out.size));have bU3:=bU1.below hS1.kept.whole s1;by_cases hs:sumQ steps<mn
  ·have HE:Hid (ER=1):=hdq (HER.out.trans (ue3 HA.out HE0.out (.inr hs)));refine tx1 9 hS1 ?_;refine tx1 10 hS1 ?_;refine zAf (by kernel_rfl) ?_ _;clear hS1 bU1 bU3;go_wp2;go_ret;exact ⟨by rw [HE.out]; first | done | rfl,HB3.out⟩
  refine tx1 9 hS1 ?_;refine tx1 10 hS1 ?_;refine zAf (by kernel_rfl) ?_ _;clear hS1 bU1 c0 c1 c2 c3 c4 c5 c6 c7 c8;have HM:Hid (¬ (mn<0\/sumQ steps<mn)):=hdq (by omega);obtain ⟨c0,c1,c2,c3,c4,c5,c6,c7,c8,-⟩:=id bU3;by_cases h4:up<1\/6<up\/down<1\/6<down
  ·have HE:Hid (ER=1):=hdq (HER.out.trans (ue4 HA.out HE0.out HM.out h4));by_cases b1:up<1
   ·skip
    go_wp2;go_ret;exact ⟨by rw [HE.out]; first | done | rfl,by first | exact HB3.out | exact HB1.out | exact HB.out⟩
   by_cases b2:6<up
   ·skip
    go_wp2;go_ret;exact ⟨by rw [HE.out]; first | done | rfl,by first | exact HB3.out | exact HB1.out | exact HB.out⟩
   by_cases b3:down<1
   ·skip
    go_wp2;go_ret;exact ⟨by rw [HE.out]; first | done | rfl,by first | exact HB3.out | exact HB1.out | exact HB.out⟩
   have b4:6<down:=(by omega);go_wp2;go_ret;exact ⟨by rw [HE.out]; first | done | rfl,by first | exact HB3.out | exact HB1.out | exact HB.out⟩
  by_cases h5:start<0\/1000000000<start\/idle<0\/1000000000<idle
  ·have HE:Hid (ER=1):=hdq (HER.out.trans (ue5 HA.out HE0.out HM.out h4 h5));have a1:¬ up<1:=(by omega);have a2:¬ 6<up:=(by omega);have a3:¬ down<1:=(by omega);have a4:¬ 6<down:=(by omega);clear h4;by_cases b1:start<0
   ·skip
    go_wp2;go_ret;exact ⟨by rw [HE.out]; first | done | rfl,by first | exact HB3.out | exact HB1.out | exact HB.out⟩
   by_cases b2:1000000000<start
   ·skip
    go_wp2;go_ret;exact ⟨by rw [HE.out]; first | done | rfl,by first | exact HB3.out | exact HB1.out | exact HB.out⟩
   by_cases b3:idle<0
   ·skip
    go_wp2;go_ret;exact ⟨by rw [HE.out]; first | done | rfl,by first | exact HB3.out | exact HB1.out | exact HB.out⟩
   have b4:1000000000<idle:=(by omega);go_wp2;go_ret;exact ⟨by rw [HE.out]; first | done | rfl,by first | exact HB3.out | exact HB1.out | exact HB.out⟩
  have HE:=hdq (HER.out.trans (ue6 HA.out HE0.out HM.out h4 h5));dsimp only at HE;have a1:¬ up<1:=by omega
  have a2:¬ 6<up:=by omega
  have a3:¬ down<1:=by omega
  have a4:¬ 6<down:=by omega
  have a5:¬ start<0:=by omega
  have a6:¬ 1000000000<start:=by omega
  have a7:¬ idle<0:=by omega
  have a8:¬ 1000000000<idle:=by omega
  clear h4 h5;by_cases b1:spin<0
  ·have HE:Hid (ER=1):=hdq (HE.out.trans (if_pos (.inl b1)));go_wp2;go_ret;exact ⟨by rw [HE.out]; first | done | rfl,by first | exact HB3.out | exact HB1.out | exact HB.out⟩
  by_cases b2:1000000<spin
  ·have HE:Hid (ER=1):=hdq (HE.out.trans (if_pos (.inr b2)));go_wp2;go_ret;exact ⟨by rw [HE.out]; first | done | rfl,by first | exact HB3.out | exact HB1.out | exact HB.out⟩
  have HE:=hdq (HE.out.trans (if_neg (by omega)));by_cases b3:on=0
  ·have HE:Hid (ER=1):=hdq (HE.out.trans (if_pos (.inl b3)));go_wp2;go_ret;exact ⟨by rw [HE.out]; first | done | rfl,by first | exact HB3.out | exact HB1.out | exact HB.out⟩
  have b3b:(on == 0)=false:=beq_false_of_ne b3;by_cases b4:on < -6
  ·have HE:Hid (ER=1):=hdq (HE.out.trans (if_pos (.inr (.inl b4))));go_wp2;go_ret;exact ⟨by rw [HE.out]; first | done | rfl,by first | exact HB3.out | exact HB1.out | exact HB.out⟩
  by_cases b5:6<on
  ·have HE:Hid (ER=1):=hdq (HE.out.trans (if_pos (.inr (.inr b5))));go_wp2;go_ret;exact ⟨by rw [HE.out]; first | done | rfl,by first | exact HB3.out | exact HB1.out | exact HB.out⟩
  have HE:Hid (ER=0):=hdq (HE.out.trans (if_neg (by omega)));go_wp2;go_ret;exact ⟨by rw [HE.out]; first | done | rfl,by first | exact HB3.out | exact HB1.out | exact HB.out⟩
 ·have HE:Hid (ER=stepErr true steps):=hdq (HER.out.trans (ue2 HA.out hE));generalize stepErr true steps=z at *;go_wp2;go_ret;exact ⟨by rw [HE.out]; first | done | rfl,by first | exact HB3.out | exact HB1.out | exact HB.out⟩
end Mo
end Go.Proofs.YtjancagcmghfjaaGreat
