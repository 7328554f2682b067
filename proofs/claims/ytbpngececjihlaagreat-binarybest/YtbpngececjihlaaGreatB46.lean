/- Texts BoE of this claim. -/
import Derived.Test.YtbpngececjihlaaGreatB45
set_option maxHeartbeats 4000000
set_option maxRecDepth 40000
namespace Go.Proofs.YtbpngececjihlaaGreat
open Go.RowKit Go.Shelf
variable {zs:List Int} {bs:List Rat} {os rs:List (List Rat)} {X Y:Nat->Prop} {w:World}
attribute [local go_sem] Oper.semAt_some
def ZOk (V:Int) (zs:List Int) (i:Nat):Prop:=0<=zs.getD i 0/\zs.getD i 0<V/\(0<i->zs.getD (i-1) 0<zs.getD i 0)
def May12 (P:LPV) (os rs:List (List Rat)) (zs:List Int) (e:Ending):Prop:=∃ m:Bool,e = .returned (.bool m)/\(m=true->mayB P os rs=true/\zs.length<=12/\∀ i,i<zs.length->ZOk P.n zs i)
def BMyL (V:Int) (zs:List Int) (n:Nat) (W1:World) (t:Value) (W:World):Prop:=∃ i:Nat,i<=n/\t = .int .i64 (i:Int)/\Below W1 W1 W/\∀ j,j<i->ZOk V zs j
theorem zNN {R:QV->Rat->Prop} {b:BinV} (h:∀ w',Below w w w'->LPRaw w' X R b.p os rs bs) (hz:IntsAt w b.bin zs) :
  Calls Tryz.prog 21 #[b.val] w fun e w'=>May12 b.p os rs zs e/\Below w w w':=by
 obtain ⟨⟨V,⟨OA,On,Oc⟩,⟨RA,Rn,Rc⟩,⟨BA,Bn,Bc⟩⟩,⟨bA,bN,bC⟩⟩:=b;have hzl:zs.length=bN:=hz.len;have hbc:bN<=bC:=hz.le;have hbc2:bC<=9223372036854775807:=hz.cap;obtain ⟨W0,hW0⟩:∃ W0,W0=w.alloc (.cells #[.int .i64 V,.slice OA On Oc,.slice RA Rn Rc,.slice BA Bn Bc,.slice bA bN bC] 50):=⟨_,rfl⟩;have al:Below w w W0:=by rw [hW0]; exact bal
 have hq:W0.heap[w.heap.size]?=some (.cells #[.int .i64 V,.slice OA On Oc,.slice RA Rn Rc,.slice BA Bn Bc,.slice bA bN bC] 50 (0,0)):=by rw [hW0]; exact zAd _ _ rfl
 have p0:W0.cell? w=some (.int .i64 V):=by simp [World.cell?,hq]
 have p1:W0.cell? ⟨w.heap.size,1,none⟩=some (.slice OA On Oc):=by simp [World.cell?,hq]
 have p2:W0.cell? ⟨w.heap.size,2,none⟩=some (.slice RA Rn Rc):=by simp [World.cell?,hq]
 have p3:W0.cell? ⟨w.heap.size,3,none⟩=some (.slice BA Bn Bc):=by simp [World.cell?,hq]
 have p4:W0.cell? ⟨w.heap.size,4,none⟩=some (.slice bA bN bC):=by simp [World.cell?,hq]
 have HP:=hdq (h W0 al);have HZ:=hdq (hz.below al);have HZl:=hdq hzl;have HZ0:=hdq hz;clear h hz hzl;show Calls _ _ #[.agg #[.int .i64 V,.slice OA On Oc,.slice RA Rn Rc,.slice BA Bn Bc,.slice bA bN bC]] _ _;go_enter Tryz.func21,Tryz.ntmps21
 go_upto_region 1 with fail
 rw [<-hW0];have hl0:=zAa hq;clear hW0 hq;go_wp2_with fail
 refine (zC2 (p:=⟨V,⟨OA,On,Oc⟩,⟨RA,Rn,Rc⟩,⟨BA,Bn,Bc⟩⟩) HP.out).mono ?_;rintro e w1 ⟨rfl,hb1⟩;have q0:=(hb1.cell (p:=w) hl0).trans p0;have q4:=(hb1.cell (p:=⟨w.heap.size,4,none⟩) hl0).trans p4;have HB1:=hdq (HZ.out.below hb1);have hl1:=ltl hl0 hb1.size;have hbl:=hdq (al.trans (hb1.mono al.size));clear p0 p1 p2 p3 p4 hb1 al hl0 HP HZ;obtain ⟨m,hmm⟩:∃ m,mayB ⟨V,⟨OA,On,Oc⟩,⟨RA,Rn,Rc⟩,⟨BA,Bn,Bc⟩⟩ os rs=m:=⟨_,rfl⟩;rw [hmm];have HMm:=hdq hmm;clear hmm
 cases m with
 | false=>
  go_wp2;go_ret
  exact ⟨⟨false,rfl,fun h=>by cases h⟩,hbl.out⟩
 | true=>
  by_cases hn:bN<=12
  ·have hn':¬ ((12:Int)<(bN:Int)):=om;go_wp2;(go_loopw [3] (fun t W=>BMyL V zs bN w1 t W) (fun t _=>bN-(intOf t).toNat));case atStart=>exact ⟨0,nzl _,rfl,brf _ _,fun j hj=>absurd hj (Nat.not_lt_zero j)⟩
   case round=>
    obtain ⟨i,hi,rfl,hW1,hok⟩:=hrel;have r0:=(hW1.cell (p:=w) hl1).trans q0;have r4:=(hW1.cell (p:=⟨w.heap.size,4,none⟩) hl1).trans q4;have hl2:=ltl hl1 hW1.size;replace HB1:=hdq (HB1.out.below hW1);replace hbl:=hdq (hbl.out.trans (hW1.mono hbl.out.size));clear q0 q4 hl1;have HOk:=hdq hok;clear hok;by_cases hlt:i<bN
    ·have hki:(i:Int)<(bN:Int):=om;obtain ⟨adb,eb,cb⟩:=HB1.out.cell i hlt;dsimp only at eb;subst eb;obtain ⟨z,hz⟩:∃ z,zs.getD i 0=z:=⟨_,rfl⟩;rw [hz] at cb;have HZe:=hdq hz;clear hz;obtain ⟨ad',e',c'⟩:=HZ0.out.cell i hlt;cases e'
     have tb:adb.block<w:=by
      have t1:=zAb c';unfold Addr.add at t1
      split at t1 <;> exact t1
     clear c';by_cases k1:z<0
     ·skip
      (go_upto_region 6 with fail);refine zAp 1000 (fun _ w'=>Sees w [] wr w') kj ?_;have hS0:Sees w [] wr wr.drew:=Sees.st si hbl.out.size;refine tx4 0 1 2 3 hS0 ?_;refine tx1 4 hS0 ?_;refine tx1 5 hS0 ?_;refine tx1 6 hS0 ?_;refine tn4 7 8 9 10 hS0 ?_;refine tn4 11 12 13 14 hS0 ?_;refine tn1 15 hS0 ?_;refine tx1 16 hS0 ?_;refine tx1 17 hS0 ?_;refine tn4 18 19 20 21 hS0 ?_;refine tn4 22 23 24 25 hS0 ?_;refine tn4 26 27 28 29 hS0 ?_;refine tn4 30 31 32 33 hS0 ?_;refine tx1 34 hS0 ?_;refine zAf kj ?_ _;clear hS0;go_wp2;go_ret;exact ⟨⟨false,rfl,fun h=>by cases h⟩,hbl.out.drew⟩
     ·by_cases k2:V<=z
      ·skip
       (go_upto_region 6 with fail);refine zAp 1000 (fun _ w'=>Sees w [] wr w') kj ?_;have hS0:Sees w [] wr wr.drew:=Sees.st si hbl.out.size;refine tx4 0 1 2 3 hS0 ?_;refine tx4 4 5 6 7 hS0 ?_;refine tx4 8 9 10 11 hS0 ?_;refine tx4 12 13 14 15 hS0 ?_;refine tx1 16 hS0 ?_;refine tx1 17 hS0 ?_;refine tn4 18 19 20 21 hS0 ?_;refine tn4 22 23 24 25 hS0 ?_;refine tn4 26 27 28 29 hS0 ?_;refine tn4 30 31 32 33 hS0 ?_;refine tx1 34 hS0 ?_;refine zAf kj ?_ _;clear hS0;go_wp2;go_ret;exact ⟨⟨false,rfl,fun h=>by cases h⟩,hbl.out.drew⟩
      ·by_cases h0:i=0
       ·have k3:¬ ((0:Int)<(i:Int)):=om;have k3':¬ (0<i):=om;have HI0:=hdq h0;clear h0
        have Hfin:Hid (BMyL V zs bN w1 (.int .i64 ((i:Int)+1)) wr.drew):=hdq ⟨i+1,om,si,hW1.drew,fun j hj=>by
         obtain rfl:j=i:=by have:=HI0.out; omega
         exact ⟨by rw [HZe.out]; omega,by rw [HZe.out]; omega,fun h=>absurd h k3'⟩⟩
        (go_upto_region 6 with fail);refine zAp 1000 (fun _ w'=>Sees w [] wr w') kj ?_;have hS0:Sees w [] wr wr.drew:=Sees.st si hbl.out.size;refine tx4 0 1 2 3 hS0 ?_;refine tx4 4 5 6 7 hS0 ?_;refine tx4 8 9 10 11 hS0 ?_;refine tx4 12 13 14 15 hS0 ?_;refine tx4 16 17 18 19 hS0 ?_;refine tx1 20 hS0 ?_;refine tn4 21 22 23 24 hS0 ?_;refine tn4 25 26 27 28 hS0 ?_;refine tn4 29 30 31 32 hS0 ?_;refine tx1 33 hS0 ?_;refine tx1 34 hS0 ?_;refine zAf kj ?_ _;clear hS0;go_wp2;go_roundw;case rel=>exact fn_ Hfin.out
        case measure=>simp [intOf]; omega
       ·have k3:(0:Int)<(i:Int):=om;have k3':0<i:=om;obtain ⟨adc,ec,cc⟩:=HB1.out.cell (i-1) (by dsimp only; omega);cases ec;obtain ⟨z',hz'⟩:∃ z,zs.getD (i-1) 0=z:=⟨_,rfl⟩;rw [hz'] at cc;have HZe':=hdq hz';clear hz';have k5:(0:Int)<=(i:Int)-1:=om;have k5':(1:Int)<=(i:Int):=om;have k6':(i:Int)-1<(bN:Int):=om;have k7:((i:Int)-1).toNat=i-1:=om;have kw:IntKind.i64.wrap ((i:Int)-1)=(i:Int)-1:=IntWalk.i64_in _ om;by_cases k4:z<=z'
        ·skip
         (go_upto_region 6 with fail);refine zAp 1000 (fun _ w'=>Sees w [] wr w') kj ?_;have hS0:Sees w [] wr wr.drew:=Sees.st si hbl.out.size;refine tx4 0 1 2 3 hS0 ?_;refine tx4 4 5 6 7 hS0 ?_;refine tx4 8 9 10 11 hS0 ?_;refine tx4 12 13 14 15 hS0 ?_;refine tx4 16 17 18 19 hS0 ?_;refine tx4 20 21 22 23 hS0 ?_;refine tx4 24 25 26 27 hS0 ?_;refine tx4 28 29 30 31 hS0 ?_;refine tx1 32 hS0 ?_;refine tx1 33 hS0 ?_;refine tx1 34 hS0 ?_;refine zAf kj ?_ _;clear hS0;go_wp2;go_ret;exact ⟨⟨false,rfl,fun h=>by cases h⟩,hbl.out.drew⟩
        ·have Hfin:Hid (BMyL V zs bN w1 (.int .i64 ((i:Int)+1)) wr.drew):=hdq ⟨i+1,om,si,hW1.drew,fun j hj=>by
          by_cases e:j<i
          ·exact HOk.out j e
          ·(obtain rfl:j=i:=om);exact ⟨by rw [HZe.out]; omega,by rw [HZe.out]; omega,fun _=>by rw [HZe.out,HZe'.out]; omega⟩⟩
         (go_upto_region 6 with fail);refine zAp 1000 (fun _ w'=>Sees w [] wr w') kj ?_;have hS0:Sees w [] wr wr.drew:=Sees.st si hbl.out.size;refine tx4 0 1 2 3 hS0 ?_;refine tx4 4 5 6 7 hS0 ?_;refine tx4 8 9 10 11 hS0 ?_;refine tx4 12 13 14 15 hS0 ?_;refine tx4 16 17 18 19 hS0 ?_;refine tx4 20 21 22 23 hS0 ?_;refine tx4 24 25 26 27 hS0 ?_;refine tx4 28 29 30 31 hS0 ?_;refine tx1 32 hS0 ?_;refine tx1 33 hS0 ?_;refine tx1 34 hS0 ?_;refine zAf kj ?_ _;clear hS0;go_wp2;go_roundw;case rel=>exact fn_ Hfin.out
         case measure=>simp [intOf]; omega
    ·(obtain rfl:i=bN:=om);go_wp2;go_ret;exact ⟨⟨true,rfl,fun _=>⟨HMm.out,by rw [HZl.out]; exact hn,fun j hj=>HOk.out j (by rw [<-HZl.out]; exact hj)⟩⟩,hbl.out⟩
  ·have hn':(12:Int)<(bN:Int):=om;go_wp2;go_ret;exact ⟨⟨false,rfl,fun h=>by cases h⟩,hbl.out⟩
theorem zNL {b:BinV} (h:LPRaw w X (QAny w Y) b.p os rs bs) (hbn:b.bin.n<=9223372036854775807) :
  Calls Tryz.prog 20 #[b.val] w fun e w'=>BRet (fun m=>m=false->Short6 w X Y b.p os rs bs/\(mayB b.p os rs=true->b.p.n<=4/\b.p.R.n<=4)) e/\Below w w w':=by
 obtain ⟨⟨V,⟨OA,On,Oc⟩,⟨RA,Rn,Rc⟩,⟨BA,Bn,Bc⟩⟩,⟨bA,bN,bC⟩⟩:=b;dsimp only at hbn;obtain ⟨W0,hW0⟩:∃ W0,W0=w.alloc (.cells #[.int .i64 V,.slice OA On Oc,.slice RA Rn Rc,.slice BA Bn Bc,.slice bA bN bC] 50):=⟨_,rfl⟩;have al:Below w w W0:=by rw [hW0]; exact bal
 have hq:W0.heap[w.heap.size]?=some (.cells #[.int .i64 V,.slice OA On Oc,.slice RA Rn Rc,.slice BA Bn Bc,.slice bA bN bC] 50 (0,0)):=by rw [hW0]; exact zAd _ _ rfl
 have p0:W0.cell? w=some (.int .i64 V):=by simp [World.cell?,hq]
 have p1:W0.cell? ⟨w.heap.size,1,none⟩=some (.slice OA On Oc):=by simp [World.cell?,hq]
 have p2:W0.cell? ⟨w.heap.size,2,none⟩=some (.slice RA Rn Rc):=by simp [World.cell?,hq]
 have p3:W0.cell? ⟨w.heap.size,3,none⟩=some (.slice BA Bn Bc):=by simp [World.cell?,hq]
 have p4:W0.cell? ⟨w.heap.size,4,none⟩=some (.slice bA bN bC):=by simp [World.cell?,hq]
 have HP:=hdq h;have AL:=hdq al;clear h;show Calls _ _ #[.agg #[.int .i64 V,.slice OA On Oc,.slice RA Rn Rc,.slice BA Bn Bc,.slice bA bN bC]] _ _;go_enter Tryz.func20,Tryz.ntmps20
 go_upto_region 1 with fail
 rw [<-hW0];have hl0:=zAa hq;clear hW0 hq;go_wp2_with fail
 refine (zFQ (p:=⟨V,⟨OA,On,Oc⟩,⟨RA,Rn,Rc⟩,⟨BA,Bn,Bc⟩⟩) (HP.out.below al)).mono ?_;rintro e w1 ⟨⟨m,rfl,hm⟩,hb1⟩;have q0:=(hb1.cell (p:=w) hl0).trans p0;have q4:=(hb1.cell (p:=⟨w.heap.size,4,none⟩) hl0).trans p4;have hbl:=hdq (al.trans (hb1.mono al.size));clear p0 p1 p2 p3 p4 hb1 al hl0
 cases m with
 | true=>
  clear hm;go_wp2;go_ret
  exact ⟨⟨true,rfl,fun h=>by cases h⟩,hbl.out⟩
 | false=>
  have HS:=hdq (And.intro (Short6.back HP.out AL.out (hm rfl).1) (hm rfl).2);clear hm;by_cases hn:20<bN
  ·have hn':(20:Int)<(bN:Int):=om;go_wp2;go_ret;exact ⟨⟨true,rfl,fun h=>by cases h⟩,hbl.out⟩
  ·have hn':¬ (20:Int)<(bN:Int):=om;go_wp2;go_ret;exact ⟨⟨false,by first | rfl | simp [hn'] | (simp; omega),fun _=>HS.out⟩,hbl.out⟩
end Go.Proofs.YtbpngececjihlaaGreat
