/- Texts PrU of this claim. -/
import Derived.Test.YtpjaodcimomaiaaGreatI29
set_option maxHeartbeats 4000000
namespace Go.Proofs.YtpjaodcimomaiaaGreat
open Go.RowKit Go.Shelf
variable {k:Nat} {D:Lin.Dict}
theorem all1 {Q:Nat->Prop} (h0:Q 0):∀ i,i<1->Q i:=fun i hi=>by
 obtain rfl:i=0:=by omega
 exact h0
theorem all2 {Q:Nat->Prop} (h0:Q 0) (h1:Q 1):∀ i,i<2->Q i:=fun i hi=>by
 rcases (show i=0\/i=1 by omega) with rfl | rfl
 ·exact h0
 ·exact h1
theorem all3 {Q:Nat->Prop} (h0:Q 0) (h1:Q 1) (h2:Q 2):∀ i,i<3->Q i:=fun i hi=>by
 rcases (show i=0\/i=1\/i=2 by omega) with rfl | rfl | rfl
 ·exact h0
 ·exact h1
 ·exact h2
theorem sum3 (f:Nat->Rat):Lin.sum 3 f=f 0+f 1+f 2:=by show 0+f 0+f 1+f 2=_; grind
def PSm:Lin.Prob:=prob1 2 [rats [3,5]] [rats [1,0],rats [0,2],rats [3,2]] (rats [4,12,18])
theorem zJ0:PSm.A 0 0=1/\PSm.A 0 1=0/\PSm.A 1 0=0/\PSm.A 1 1=2/\PSm.A 2 0=3/\PSm.A 2 1=2:=⟨rfl,rfl,rfl,rfl,rfl,rfl⟩
theorem zJq:PSm.b 0=4/\PSm.b 1=12/\PSm.b 2=18:=⟨rfl,rfl,rfl⟩
theorem zJ1:PSm.O 0 0=3/\PSm.O 0 1=5:=⟨rfl,rfl⟩
theorem zFy:PSm.Feasible fun k=>(rats [2,6]).getD k 0:=by
 obtain ⟨a0,a1,a2,a3,a4,a5⟩:=zJ0;obtain ⟨b0,b1,b2⟩:=zJq;have x0:(rats [2,6]).getD 0 0=2:=rfl;have x1:(rats [2,6]).getD 1 0=6:=rfl;refine ⟨all2 ?_ ?_,all3 ?_ ?_ ?_⟩
 ·show (0:Rat)<=2; grind
 ·show (0:Rat)<=6; grind
 all_goals
  show Lin.sum 2 _<=_;rw [sum2];simp only [a0,a1,a2,a3,a4,a5,b0,b1,b2,x0,x1];grind
theorem zFx:PSm.Dual fun k=>([0,3/2,1]:List Rat).getD k 0:=by
 obtain ⟨a0,a1,a2,a3,a4,a5⟩:=zJ0;obtain ⟨o0,o1⟩:=zJ1;have x0:([0,3/2,1]:List Rat).getD 0 0=0:=rfl;have x1:([0,3/2,1]:List Rat).getD 1 0=3/2:=rfl;have x2:([0,3/2,1]:List Rat).getD 2 0=1:=rfl;refine ⟨all3 ?_ ?_ ?_,all2 ?_ ?_⟩
 ·exact Rat.le_refl
 ·show (0:Rat)<=3/2; grind
 ·show (0:Rat)<=1; grind
 all_goals
  show _<=Lin.sum 3 _;rw [sum3];simp only [a0,a1,a2,a3,a4,a5,o0,o1,x0,x1,x2];grind
theorem zFV:PValid PSm fun k=>([0,3/2,1]:List Rat).getD k 0:=by
 obtain ⟨o0,o1⟩:=zJ1;obtain ⟨b0,b1,b2⟩:=zJq;refine ⟨zFx,_,zFy,?_⟩;show Lin.sum 2 _=Lin.sum 3 _;rw [sum2,sum3];have x0:(rats [2,6]).getD 0 0=2:=rfl;have x1:(rats [2,6]).getD 1 0=6:=rfl;have y0:([0,3/2,1]:List Rat).getD 0 0=0:=rfl;have y1:([0,3/2,1]:List Rat).getD 1 0=3/2:=rfl;have y2:([0,3/2,1]:List Rat).getD 2 0=1:=rfl;simp only [o0,o1,b0,b1,b2,x0,x1,y0,y1,y2];grind
theorem zJr {y:Nat->Rat} (h:PValid PSm y):y 0=0/\y 1=3/2/\y 2=1:=by
 obtain ⟨a0,a1,a2,a3,a4,a5⟩:=zJ0;obtain ⟨b0,b1,b2⟩:=zJq;obtain ⟨o0,o1⟩:=zJ1;have hv:=zBW h zFV;have hd:=h.1;have h0:=hd.1 0 (by decide);have h1:=hd.1 1 (by decide);have h2:=hd.1 2 (by decide);have d0:=hd.2 0 (by decide);have d1:=hd.2 1 (by decide);have e:Lin.sum 3 (fun i=>y i*PSm.b i)=Lin.sum 3 fun i=>([0,3/2,1]:List Rat).getD i 0*PSm.b i:=hv
 have y0:([0,3/2,1]:List Rat).getD 0 0=0:=rfl;have y1:([0,3/2,1]:List Rat).getD 1 0=3/2:=rfl;have y2:([0,3/2,1]:List Rat).getD 2 0=1:=rfl;change _<=Lin.sum 3 _ at d0;change _<=Lin.sum 3 _ at d1;rw [sum3] at d0 d1;rw [sum3,sum3] at e;simp only [a0,a1,a2,a3,a4,a5,b0,b1,b2,o0,o1,y0,y1,y2] at d0 d1 e;grind
theorem zCC (hI:PInv PSm none D) (hE:Ends PSm none D k):k=1/\(k=1->D.c 0 2=36/\(List.range 3).map (D.dual PSm)=[0,3/2,1]):=by
 rcases hE.cases with rfl | rfl | rfl
 ·refine ⟨rfl,fun _=>?_⟩;have hv:=zA5 hI hE (by decide);obtain ⟨e0,e1,e2⟩:=zJr hv;obtain ⟨b0,b1,b2⟩:=zJq;have hc:=(ends1 hI hE (by decide)).2.2.1;change D.c 0 2=Lin.sum 3 _ at hc;rw [sum3] at hc;simp only [e0,e1,e2,b0,b1,b2] at hc;refine ⟨by rw [hc]; grind,?_⟩;show [D.dual PSm 0,D.dual PSm 1,D.dual PSm 2]=_;rw [e0,e1,e2]
 ·exact absurd zFy (ends2 hI hE _)
 ·exact absurd zFx (ends3 hI hE (by decide) _)
def PQ2:Lin.Prob:=prob1 1 [rats [1]] [rats [1],rats [1]] (rats [2,2])
theorem zKi:PQ2.A 0 0=1/\PQ2.A 1 0=1:=⟨rfl,rfl⟩
theorem zFU:PQ2.b 0=2/\PQ2.b 1=2:=⟨rfl,rfl⟩
theorem zKj:PQ2.O 0 0=1:=rfl
theorem zFv (b':Nat->Rat) (h0:0<=b' 0) (h1:0<=b' 1):(PQ2.re b').Feasible fun _=>0:=by
 refine ⟨fun _ _=>Rat.le_refl,all2 ?_ ?_⟩
 all_goals
  show Lin.sum 1 _<=b' _;rw [sum1];grind
theorem zFu (a b:Rat) (h0:0<=a) (h1:0<=b) (h:1<=a+b):PQ2.Dual fun k=>[a,b].getD k 0:=by
 obtain ⟨a0,a1⟩:=zKi;refine ⟨all2 h0 h1,all1 ?_⟩;show PQ2.O 0 0<=Lin.sum 2 _;rw [sum2,zKj,a0,a1];show 1<=a*1+b*1;grind
theorem zDa (a b:Rat) (h0:0<=a) (h1:0<=b) (h:a+b=1):PValid PQ2 fun k=>[a,b].getD k 0:=by
 obtain ⟨a0,a1⟩:=zKi;obtain ⟨b0,b1⟩:=zFU;refine ⟨zFu a b h0 h1 (by grind),fun _=>2,⟨fun _ _=>by grind,all2 ?_ ?_⟩,?_⟩
 ·show Lin.sum 1 _<=_;rw [sum1,a0,b0]; grind
 ·show Lin.sum 1 _<=_;rw [sum1,a1,b1]; grind
 ·show Lin.sum 1 _=Lin.sum 2 _;rw [sum1,sum2,b0,b1,zKj];show _=a*2+b*2;grind
theorem zJM {y:Nat->Rat} (h:PValid PQ2 y):y 0+y 1=1/\0<=y 0/\0<=y 1:=by
 obtain ⟨b0,b1⟩:=zFU;have hv:=zBW h (zDa 0 1 (by grind) (by grind) (by grind));change Lin.sum 2 _=Lin.sum 2 _ at hv;rw [sum2,sum2,b0,b1] at hv;change _=(0:Rat)*2+1*2 at hv;exact ⟨by grind,h.1.1 0 (by decide),h.1.1 1 (by decide)⟩
theorem zC9 (hI:PInv PQ2 none D) (hE:Ends PQ2 none D k):k=1/\(k=1->(List.range 2).map (D.dual PQ2)=[0,1]):=by
 rcases hE.cases with rfl | rfl | rfl
 ·refine ⟨rfl,fun _=>?_⟩;obtain ⟨h,h0,h1⟩:=zJM (zA5 hI hE (by decide));show [D.dual PQ2 0,D.dual PQ2 1]=[0,1];rcases zII hI hE (by decide) (zDa 0 1 (by grind) (by grind) (by grind)) with hz | ⟨i,hi,hl,hz⟩
  ·rw [hz 0 (by decide),hz 1 (by decide)]; rfl
  ·exfalso;have hi':i<2:=hi;rcases (show i=0\/i=1 by omega) with rfl | rfl
   ·change _<(0:Rat) at hl; grind
   ·have:=hz 0 (by decide);change _=(0:Rat) at this;change _<(1:Rat) at hl;grind
 ·exact absurd (zFv PQ2.b (by rw [zFU.1]; grind) (by rw [zFU.2]; grind)) (ends2 hI hE _)
 ·exact absurd (zFu 0 1 (by grind) (by grind) (by grind)) (ends3 hI hE (by decide) _)
theorem zHb (up:Bool) (hI:PInv PQ2 (some (mch 0 up)) D) (hE:Ends PQ2 (some (mch 0 up)) D k):k=1/\(k=1->D.dual PQ2 0=if up then 0 else 1):=by
 rcases hE.cases with rfl | rfl | rfl
 ·refine ⟨rfl,fun _=>?_⟩;obtain ⟨h,h0,h1⟩:=zJM (zA5 hI hE (by decide))
  cases up with
  | true=>
   have:=zJg (by decide) (by decide) hI hE (zDa 0 1 (by grind) (by grind) (by grind));change _<=(0:Rat) at this
   rw [if_pos rfl]; grind
  | false=>
   have:=zET (by decide) (by decide) hI hE (zDa 1 0 (by grind) (by grind) (by grind));change (1:Rat)<=_ at this;rw [if_neg (by decide)]; grind
 ·refine absurd (zFv (fun i=>PQ2.b i+1*mch 0 up i) ?_ ?_) (ends2c hI hE (x:=fun _=>0) (zFv PQ2.b (by rw [zFU.1]; grind) (by rw [zFU.2]; grind)) (by grind) _)
  ·show 0<=PQ2.b 0+1*mch 0 up 0;rw [zFU.1]; unfold mch; cases up <;> simp <;> grind
  ·show 0<=PQ2.b 1+1*mch 0 up 1;rw [zFU.2]; unfold mch; cases up <;> simp <;> grind
 ·exact absurd (zFu 0 1 (by grind) (by grind) (by grind)) (ends3 hI hE (by decide) _)
def PQ3:Lin.Prob:=prob1 1 [rats [0]] [rats [1]] (rats [0])
theorem zHd (a:Rat) (h0:0<=a):PQ3.Dual fun k=>[a].getD k 0:=by
 refine ⟨all1 h0,all1 ?_⟩;show PQ3.O 0 0<=Lin.sum 1 _;rw [sum1,show PQ3.O 0 0=0 from rfl,show PQ3.A 0 0=1 from rfl];show 0<=a*1;grind
theorem zHf:PQ3.Feasible fun _=>0:=by
 refine ⟨fun _ _=>Rat.le_refl,all1 ?_⟩;show Lin.sum 1 _<=PQ3.b 0;rw [sum1,show PQ3.b 0=0 from rfl];grind
theorem zIH (a:Rat) (h0:0<=a):PValid PQ3 fun k=>[a].getD k 0:=by
 refine ⟨zHd a h0,_,zHf,?_⟩;show Lin.sum 1 _=Lin.sum 1 _;rw [sum1,sum1,show PQ3.b 0=0 from rfl];grind
theorem zHe (hI:PInv PQ3 none D) (hE:Ends PQ3 none D k):k=1:=by
 rcases hE.cases with rfl | rfl | rfl
 ·rfl
 ·exact absurd zHf (ends2 hI hE _)
 ·exact absurd (zHd 0 (by grind)) (ends3 hI hE (by decide) _)
theorem zJm (hI:PInv PQ3 (some (mch 0 false)) D) (hE:Ends PQ3 (some (mch 0 false)) D 1):False:=by
 have h0:=(zA5 hI hE (by decide)).1.1 0 (by decide);have h:=zET (by decide) (by decide) hI hE (zIH (D.dual PQ3 0+1) (by grind));change D.dual PQ3 0+1<=_ at h;grind
end Go.Proofs.YtpjaodcimomaiaaGreat
