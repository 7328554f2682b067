/- Texts PrU SpO of this claim. -/
import Derived.Test.YtbpngececjihlaaGreatY29
set_option maxHeartbeats 4000000
namespace Go.Proofs.YtbpngececjihlaaGreat
open Go.RowKit Go.Shelf
variable {k:Nat} {D:Lin.Dict} {P Q:Lin.Prob}
theorem all2 {Q:Nat->Prop} (h0:Q 0) (h1:Q 1):∀ i,i<2->Q i:=fun i hi=>by
 rcases (show i=0\/i=1 by omega) with rfl | rfl
 ·exact h0
 ·exact h1
theorem all3 {Q:Nat->Prop} (h0:Q 0) (h1:Q 1) (h2:Q 2):∀ i,i<3->Q i:=fun i hi=>by
 rcases (show i=0\/i=1\/i=2 by omega) with rfl | rfl | rfl
 ·exact h0
 ·exact h1
 ·exact h2
theorem sum3 (f:Nat->Rat):Lin.sum 3 f=f 0+f 1+f 2:=by show 0+f 0+f 1+f 2=_; grind
def PSm:Lin.Prob:=prob1 2 [rats [3,5]] [rats [1,0],rats [0,2],rats [3,2]] (rats [4,12,18])
theorem zJ0:PSm.A 0 0=1/\PSm.A 0 1=0/\PSm.A 1 0=0/\PSm.A 1 1=2/\PSm.A 2 0=3/\PSm.A 2 1=2:=⟨rfl,rfl,rfl,rfl,rfl,rfl⟩
theorem zJq:PSm.b 0=4/\PSm.b 1=12/\PSm.b 2=18:=⟨rfl,rfl,rfl⟩
theorem zJ1:PSm.O 0 0=3/\PSm.O 0 1=5:=⟨rfl,rfl⟩
theorem zFy:PSm.Feasible fun k=>(rats [2,6]).getD k 0:=by
 obtain ⟨a0,a1,a2,a3,a4,a5⟩:=zJ0;obtain ⟨b0,b1,b2⟩:=zJq;have x0:(rats [2,6]).getD 0 0=2:=rfl;have x1:(rats [2,6]).getD 1 0=6:=rfl;refine ⟨all2 ?_ ?_,all3 ?_ ?_ ?_⟩
 ·show (0:Rat)<=2; grind
 ·show (0:Rat)<=6; grind
 all_goals
  show Lin.sum 2 _<=_;rw [sum2];simp only [a0,a1,a2,a3,a4,a5,b0,b1,b2,x0,x1];grind
theorem zFx:PSm.Dual fun k=>([0,3/2,1]:List Rat).getD k 0:=by
 obtain ⟨a0,a1,a2,a3,a4,a5⟩:=zJ0;obtain ⟨o0,o1⟩:=zJ1;have x0:([0,3/2,1]:List Rat).getD 0 0=0:=rfl;have x1:([0,3/2,1]:List Rat).getD 1 0=3/2:=rfl;have x2:([0,3/2,1]:List Rat).getD 2 0=1:=rfl;refine ⟨all3 ?_ ?_ ?_,all2 ?_ ?_⟩
 ·exact Rat.le_refl
 ·show (0:Rat)<=3/2; grind
 ·show (0:Rat)<=1; grind
 all_goals
  show _<=Lin.sum 3 _;rw [sum3];simp only [a0,a1,a2,a3,a4,a5,o0,o1,x0,x1,x2];grind
theorem zFV:PValid PSm fun k=>([0,3/2,1]:List Rat).getD k 0:=by
 obtain ⟨o0,o1⟩:=zJ1;obtain ⟨b0,b1,b2⟩:=zJq;refine ⟨zFx,_,zFy,?_⟩;show Lin.sum 2 _=Lin.sum 3 _;rw [sum2,sum3];have x0:(rats [2,6]).getD 0 0=2:=rfl;have x1:(rats [2,6]).getD 1 0=6:=rfl;have y0:([0,3/2,1]:List Rat).getD 0 0=0:=rfl;have y1:([0,3/2,1]:List Rat).getD 1 0=3/2:=rfl;have y2:([0,3/2,1]:List Rat).getD 2 0=1:=rfl;simp only [o0,o1,b0,b1,b2,x0,x1,y0,y1,y2];grind
theorem zJr {y:Nat->Rat} (h:PValid PSm y):y 0=0/\y 1=3/2/\y 2=1:=by
 obtain ⟨a0,a1,a2,a3,a4,a5⟩:=zJ0;obtain ⟨b0,b1,b2⟩:=zJq;obtain ⟨o0,o1⟩:=zJ1;have hv:=zBW h zFV;have hd:=h.1;have h0:=hd.1 0 (by decide);have h1:=hd.1 1 (by decide);have h2:=hd.1 2 (by decide);have d0:=hd.2 0 (by decide);have d1:=hd.2 1 (by decide);have e:Lin.sum 3 (fun i=>y i*PSm.b i)=Lin.sum 3 fun i=>([0,3/2,1]:List Rat).getD i 0*PSm.b i:=hv
 have y0:([0,3/2,1]:List Rat).getD 0 0=0:=rfl;have y1:([0,3/2,1]:List Rat).getD 1 0=3/2:=rfl;have y2:([0,3/2,1]:List Rat).getD 2 0=1:=rfl;change _<=Lin.sum 3 _ at d0;change _<=Lin.sum 3 _ at d1;rw [sum3] at d0 d1;rw [sum3,sum3] at e;simp only [a0,a1,a2,a3,a4,a5,b0,b1,b2,o0,o1,y0,y1,y2] at d0 d1 e;grind
theorem zCC {D:Lin.Dict} (hI:PInv PSm none D) (hE:Ends PSm none D k):k=1/\(k=1->D.c 0 2=36/\(List.range 3).map (D.dual PSm)=[0,3/2,1]):=by
 rcases hE.cases with rfl | rfl | rfl
 ·refine ⟨rfl,fun _=>?_⟩;have hv:=zA5 hI hE (by decide);obtain ⟨e0,e1,e2⟩:=zJr hv;obtain ⟨b0,b1,b2⟩:=zJq;have hc:=(ends1 hI hE (by decide)).2.2.1;change D.c 0 2=Lin.sum 3 _ at hc;rw [sum3] at hc;simp only [e0,e1,e2,b0,b1,b2] at hc;refine ⟨by rw [hc]; grind,?_⟩;show [D.dual PSm 0,D.dual PSm 1,D.dual PSm 2]=_;rw [e0,e1,e2]
 ·exact absurd zFy (ends2 hI hE _)
 ·exact absurd zFx (ends3 hI hE (by decide) _)
open Lin
theorem cert {v:Rat} {x y:Nat->Rat} (hx:P.Feasible x) (hy:P.Dual y) (ex:(sum P.n fun k=>P.O 0 k*x k)=v) (ey:(sum P.m fun i=>y i*P.b i)=v) (hK:0<P.K) (hI:PInv P none D) (hE:Ends P none D k):k=1/\D.c 0 P.n=v:=by
 rcases hE.cases with rfl | rfl | rfl
 ·obtain ⟨⟨x',hx',e1⟩,y',hy',e2⟩:=zQK hI hE hK;have h1:=weak hx hy';have h2:=weak hx' hy;exact ⟨rfl,by grind⟩
 ·exact absurd hx (ends2 hI hE x)
 ·exact absurd hy (ends3 hI hE hK y)
theorem Lim.cert {f:Rat->Rat} {o:Option Rat} {v:Rat} (h:Lim Q f o) {x y:Nat->Rat} (hx:Q.Feasible x) (hy:Q.Dual y) (ex:(sum Q.n fun k=>Q.O 0 k*x k)=v) (ey:(sum Q.m fun i=>y i*Q.b i)=v) (hK:0<Q.K):o=some (f v):=by
 rcases h with ⟨D,hI,hE,rfl⟩ | ⟨_,D,k,hk,hI,hE⟩
 ·rw [(Proofs.YtbpngececjihlaaGreat.cert hx hy ex ey hK hI hE).2]
 ·exact absurd (Proofs.YtbpngececjihlaaGreat.cert hx hy ex ey hK hI hE).1 hk
theorem Lim.none {f:Rat->Rat} {o:Option Rat} (h:Lim Q f o) (hn:∀ x,¬ Q.Feasible x) (hK:0<Q.K):o=Option.none:=by
 rcases h with ⟨D,hI,hE,rfl⟩ | ⟨rfl,_⟩
 ·obtain ⟨⟨x,hx,_⟩,_⟩:=zQK hI hE hK;exact absurd hx (hn x)
 ·rfl
def at2 (a b:Rat) (k:Nat):Rat:=[a,b].getD k 0
def at3 (a b c:Rat) (k:Nat):Rat:=[a,b,c].getD k 0
theorem zRW {x:Nat->Rat} (hn:Q.n=2) (hm:Q.m=3) (h:((0<=x 0/\0<=x 1)/\Q.A 0 0*x 0+Q.A 0 1*x 1<=Q.b 0/\Q.A 1 0*x 0+Q.A 1 1*x 1<=Q.b 1/\Q.A 2 0*x 0+Q.A 2 1*x 1<=Q.b 2)):Q.Feasible x:=by
 obtain ⟨⟨h0,h1⟩,h2,h3,h4⟩:=h;refine ⟨?_,?_⟩
 ·rw [hn]; exact all2 h0 h1
 ·rw [hm,hn];exact all3 (by rw [sum2]; exact h2) (by rw [sum2]; exact h3) (by rw [sum2]; exact h4)
theorem zRV {y:Nat->Rat} (hn:Q.n=2) (hm:Q.m=3) (h:(0<=y 0/\0<=y 1/\0<=y 2)/\Q.O 0 0<=y 0*Q.A 0 0+y 1*Q.A 1 0+y 2*Q.A 2 0/\Q.O 0 1<=y 0*Q.A 0 1+y 1*Q.A 1 1+y 2*Q.A 2 1):Q.Dual y:=by
 obtain ⟨⟨h0,h1,h2⟩,h3,h4⟩:=h;refine ⟨?_,?_⟩
 ·rw [hm]; exact all3 h0 h1 h2
 ·rw [hm,hn];exact all2 (by rw [sum3]; exact h3) (by rw [sum3]; exact h4)
theorem Lim.two {f:Rat->Rat} {o:Option Rat} (h:Lim Q f o) (a b c d e v:Rat) (hn:Q.n=2) (hm:Q.m=3) (hK:Q.K=1)
  (hx:((0<=a/\0<=b)/\Q.A 0 0*a+Q.A 0 1*b<=Q.b 0/\Q.A 1 0*a+Q.A 1 1*b<=Q.b 1/\Q.A 2 0*a+Q.A 2 1*b<=Q.b 2))
  (hy:(0<=c/\0<=d/\0<=e)/\Q.O 0 0<=c*Q.A 0 0+d*Q.A 1 0+e*Q.A 2 0/\Q.O 0 1<=c*Q.A 0 1+d*Q.A 1 1+e*Q.A 2 1)
  (ex:Q.O 0 0*a+Q.O 0 1*b=v) (ey:c*Q.b 0+d*Q.b 1+e*Q.b 2=v):o=some (f v):=
 h.cert (x:=at2 a b) (y:=at3 c d e) (zRW hn hm hx) (zRV hn hm hy) (by rw [hn,sum2]; exact ex) (by rw [hm,sum3]; exact ey) (by omega)
end Go.Proofs.YtbpngececjihlaaGreat
