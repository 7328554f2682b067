/- Texts Rb2 Rb3 Rb4 Rc1 Rc2 Rc3 BnC BnQ BnR BnS BnT BnU BnV of this claim. -/
import Derived.Test.YtbpngececjihlaaGreatB39
import Derived.Test.YtbpngececjihlaaGreatB40
import Derived.Test.YtbpngececjihlaaGreatB37
import Derived.Test.YtbpngececjihlaaGreatB27
set_option maxHeartbeats 4000000
set_option maxRecDepth 40000
namespace Go.Proofs.YtbpngececjihlaaGreat
open Go.RowKit
open Go.RowKit Go.Shelf
variable {q kz:Rat} {L k n V m j K N d b kb M B:Nat} {X Y G Z G' H:Nat->Prop} {w w0 W W2 W':World} {l base:List Rat} {s sv:SV} {f:Nat->Rat} {cn bn:Nat->Nat} {lv:Nat->Bool} {D:Lin.Dict} {av:Nat->Int} {v v' va vb vc:Value} {os:List (List Rat)} {p:LPV} {xs:List Value}
theorem zKW {v:QV} (h:QIs w X L v q) (hL:L<=LM) :
  Calls Tryz.prog 90 #[v.val] w fun e w'=>e = .returned (.bool (decide (q=0\/q=1)))/\Below w w w':=by
 have H:=hdq h;have HL:=hdq hL;clear h hL;go_enter Tryz.func90,Tryz.ntmps90
 go_upto_region 1 with fail
 refine zAo (fun W=>Below w w W/\Box4 W w v.num.ng v.num v.den.ng v.den/\w.heap.size<W.heap.size) ⟨(az (brf _ _)),bx4,by simp <;> omega⟩ ?_;rintro W ⟨hbW,bV,s0⟩;have hBW:=hbW.size;obtain ⟨v0,v1,v2,v3,-⟩:=id bV;refine zAp 1000 (fun _ w'=>Sees w [] W w') kj ?_;have hS0:Sees w [] W W.drew:=Sees.st si hBW;refine tx1 0 hS0 ?_;refine tk1 1 ?_;intro K hK;go_simp;refine (zAn ((H.out.below hbW).below (brf _ _).drew)).mono ?_;rintro e w1 ⟨rfl,hb1⟩;have hS1:=Kept.call2 hb1 hS0;refine hK.out _ _ hS1 ?_;clear hK K hb1 hS0;by_cases h0:q=0
 ·subst h0;rw [show qsign 0=0 from rfl];refine tx1 2 hS1 ?_;refine tx1 3 hS1 ?_;refine tn1 4 hS1 ?_;refine tn1 5 hS1 ?_;refine tn1 6 hS1 ?_;refine tx1 7 hS1 ?_;refine tx1 8 hS1 ?_;refine zAf kj ?_ _;have hbf:=hbW.trans (hS1.kept.whole.mono hBW);clear hS1;go_wp2;go_ret;exact ⟨si,hbf⟩
 ·obtain ⟨s,hs⟩:∃ s,qsign q=s:=⟨_,rfl⟩
  have hs0:(s == 0)=false:=by
   rw [<-hs]; unfold qsign; simp; grind
  rw [hs];clear hs;refine tx1 2 hS1 ?_;refine tx1 3 hS1 ?_;refine tx1 4 hS1 ?_;refine tk1 5 ?_;intro K hK;go_simp;refine (zAN 1 dj dj _).mono ?_;rintro e w2 ⟨⟨z,rfl,hz⟩,hb2⟩;have hS2:=Kept.call2 hb2 hS1;refine hK.out _ _ hS2 ?_;clear hK K hb2 hS1;refine tk1 6 ?_;intro K hK;go_simp;refine (zFY (a:=v) (b:=z) (H.out.below (hbW.trans (hS2.kept.whole.mono hBW))) (hz.qis (L:=1) (by exact ⟨by decide +kernel,by decide +kernel⟩)) HL.out (by rw [zAZ]; omega)).mono ?_;rintro e w3 ⟨rfl,hb3⟩;have hS3:=Kept.call2 hb3 hS2;refine hK.out _ _ hS3 ?_;clear hK K hb3 hS2 hz;have he:decide (q=0\/q=1)=decide (q=((1:Int):Rat)):=decide_eq_decide.2 ⟨fun h=>by rcases h with h | h; exact absurd h h0; exact h,fun h=>.inr h⟩;have HE:=hdq he;clear he;generalize decide (q=((1:Int):Rat))=b at *;refine tx1 7 hS3 ?_;refine tx1 8 hS3 ?_;refine zAf kj ?_ _;have hbf:=hbW.trans (hS3.kept.whole.mono hBW);clear hS3;go_wp2;go_ret;exact ⟨by rw [HE.out]; rfl,hbf⟩
theorem zMW (w:World) (X:Nat->Prop) (L:Nat):QIs w X L QV.zero 0:=⟨0,0,⟨[],WordsAt.nil _ _ _ _ (nzl _),nzl _,rfl⟩,⟨[],WordsAt.nil _ _ _ _ (nzl _),nzl _,rfl⟩,by simp [qv]⟩
theorem zKH (h:VecIs w X Y L s l) (hk:k<=1000000) :
  Calls Tryz.prog 91 #[s.val,.int .i64 (k:Int)] w fun e w'=>(∃ v:QV,e = .returned v.val/\QIs w' Y L v (l.getD k 0))/\Below w w w':=by
 obtain ⟨A,n,c⟩:=s;have hle:n<=c:=h.le;have hcap:c<=9223372036854775807:=h.cap;have H:=hdq h;clear h;dsimp only [SV.val];go_enter Tryz.func91,Tryz.ntmps91
 have hb0:Below w w (w.alloc (.cells #[false,(),false,()] 30)):=bal;by_cases hlt:k<n
 ·obtain ⟨ad,v,rfl,-,⟨p0,p1,p2,p3⟩,hv⟩:=H.out.elem k hlt;have hki:(k:Int)<(n:Int):=om
  have hk0:(0:Int)<=(k:Int):=om
  have tq:=zAb p0;have HV:=hdq hv;clear hv;go_wp2;have hb1:Below w w (w.alloc (.cells #[.bool v.num.ng,.slice v.num.A v.num.n v.num.c,.bool v.den.ng,.slice v.den.A v.den.n v.den.c] 30)):=bal;exact bodyPost_ret (v:=v.val) (by simp [results,Tryz.results91,go_sem]) rfl ⟨⟨v,rfl,HV.out.below hb1⟩,hb1⟩
 ·have hki:¬ (k:Int)<(n:Int):=om
  have hlen:=H.out.len;have hz:l.getD k 0=0:=zAw _ _ _ (by dsimp only at hlen; omega);rw [hz];go_wp2;exact bodyPost_ret (v:=.agg #[false,(),false,()]) (by simp [results,Tryz.results91,go_sem]) rfl ⟨⟨QV.zero,rfl,zMW _ _ L⟩,hb0⟩
def aim1 (n:Nat) (cn:Nat->Nat) (f:Nat->Rat) (kz:Rat) (k j:Nat):Rat:=if j=n then kz else if j<k then-f (cn j) else 0
theorem zMm (n:Nat) (cn:Nat->Nat) (f:Nat->Rat) (kz:Rat):(List.replicate (n+1) (0:Rat)).set n kz=rowL n (aim1 n cn f kz 0):=by
 apply List.ext_getElem
 ·simp [rowL]
 ·intro i h1 h2;simp only [rowL,List.getElem_set,List.getElem_map,List.getElem_range,List.getElem_replicate];unfold aim1;by_cases e:n=i
  ·subst e; simp
  ·rw [if_neg e,if_neg (Ne.symm e),if_neg om]
theorem zMl (hk:k<n):(rowL n (aim1 n cn f kz k)).set k (- f (cn k))=rowL n (aim1 n cn f kz (k+1)):=by
 rw [zD1];refine zBs fun j hj=>?_
 show (if j=k then _ else aim1 n cn f kz k j)=aim1 n cn f kz (k+1) j;unfold aim1;by_cases e:j=k
 ·subst e; rw [if_pos rfl,if_neg om,if_pos om]
 ·rw [if_neg e];by_cases h1:j=n
  ·rw [if_pos h1,if_pos h1]
  ·rw [if_neg h1,if_neg h1];by_cases h2:j<k
   ·rw [if_pos h2,if_pos om]
   ·rw [if_neg h2,if_neg om]
theorem zMk {a:Nat->Nat->Rat} :rowL n (aim1 n cn f kz n)=rowL n (Lin.aimTo n bn cn a f kz 0):=zBs fun j hj=>by
 rw [Lin.zL5];unfold aim1;by_cases h1:j=n
 ·rw [if_pos h1,if_pos h1]
 ·rw [if_neg h1,if_neg h1,if_pos om]
theorem zMJ (n:Nat) (bn cn:Nat->Nat) (a:Nat->Nat->Rat) (f:Nat->Rat) (kz:Rat) (i:Nat):((List.range (max (n+1) (n+1))).map fun j=>f (bn i)*(rowL n (a i)).getD j 0+(rowL n (Lin.aimTo n bn cn a f kz i)).getD j 0)=rowL n (Lin.aimTo n bn cn a f kz (i+1)):=by
 rw [Nat.max_self];unfold rowL;apply List.map_congr_left;intro j hj;rw [List.mem_range] at hj;have e1:(rowL n (a i)).getD j 0=a i j:=zAL _ om;have e2:(rowL n (Lin.aimTo n bn cn a f kz i)).getD j 0=Lin.aimTo n bn cn a f kz i j:=zAL _ om;unfold rowL at e1 e2;rw [e1,e2,Lin.zLc]; grind
def BA1 (w:World) (n:Nat) (cn:Nat->Nat) (f:Nat->Rat) (kz:Rat) (t:Value) (W:World):Prop:=
 ∃ k:Nat,k<=n/\t = .int .i64 (k:Int)/\RowAt W (fun y=>y<w.heap.size\/y=w.heap.size) w (rowL n (aim1 n cn f kz k))/\Below w w W
def BA2 (w:World) (n m:Nat) (bn cn:Nat->Nat) (a:Nat->Nat->Rat) (f:Nat->Rat) (kz:Rat) (gl t:Value) (W:World):Prop:=
 ∃ i b c:Nat,i<=m/\t = .int .i64 (i:Int)/\gl = .slice (some ⟨b,0,none⟩) (n+1) c/\n+1<=c/\c<=9223372036854775807/\w.heap.size<=b/\RowP W (fun y=>y<w.heap.size\/y=b) b (rowL n (Lin.aimTo n bn cn a f kz i))/\Below w w W
def BAimRet (w:World) (G:Nat->Prop) (x:TV) (q:Bool) (V n m L:Nat) (base:List Rat) (bn cn:Nat->Nat) (a:Nat->Nat->Rat) (lv:Nat->Bool) (f:Nat->Rat) (w':World):Prop:=
 ∃ G' x',x'.d=x.d/\More w G G'/\Less w (Ow x m q) (Ow x' m true)/\Fr (Ow x m q) w w'/\TB w' G' x' V n m L base bn cn a lv (some f)
theorem zL6 {x:TV} {Lc kq kd:Nat} {cl:List Rat} {a:Nat->Nat->Rat} {g:Option (Nat->Rat)} (h:TB w G x V n m L base bn cn a lv g) (hc:VecIs w X Y Lc s cl) (hsn:s.n<=1000000)
  (hn:n<=1000) (hm:m<=1000) (hL:L<=LM) (hLc:Lc<=LM) (hcv:∀ j,j<n->cn j<=1000000) (hbv:∀ i,i<m->bn i<=1000000) (hfc:∀ v,Lin.Fits kq (cl.getD v 0)) (hfa:∀ i j,i<m->j<=n->Lin.Fits kq (a i j)) (hfd:∀ v,Lin.Fits kd (cl.getD v 0*base.getD v 0)) (hkz:kz=Lin.sum (min s.n x.bs.n) fun v=>cl.getD v 0*base.getD v 0) (hfz:Lin.Fits kq kz)
  (hkf:1000000*(kd+1)<32*LM) (hkg:m*(2*kq+1)+kq+2<=LM) (hres:∀ j,j<=n->QFit L (Lin.aimTo n bn cn a (fun v=>cl.getD v 0) kz m j)) :
  Calls Tryz.prog 153 #[.pointer (some x.d),s.val] w fun e w'=>(∃ v,e = .returned v)/\BAimRet w G x g.isSome V n m L base bn cn a lv (Lin.aimTo n bn cn a (fun v=>cl.getD v 0) kz m) w':=by
 have HL:=hdq hL;have HLc:=hdq hLc;have HL1:Hid (1<=LM):=by show _<=_; rw [zAZ]; omega
 have HCV:=hdq hcv;have HBV:=hdq hbv;have HFC:=hdq hfc;have HFA:=hdq hfa;have HFD:=hdq hfd;have HKZ:=hdq hkz;have HFZ:=hdq hfz;have HKF:=hdq hkf;have HKG:=hdq hkg;have HRes:=hdq hres;have HS:=hdq hc;clear hL hLc hcv hbv hfc hfa hfd hkz hfz hkf hkg hres hc;obtain ⟨sA,sN,sC⟩:=s;obtain ⟨d,bs,row,bas,cols,lvs,rb,rc,gb,gc⟩:=x;have er:row.n=m:=h.row.len;have hr2:row.n<=row.c:=h.row.le;have hr3:row.c<=9223372036854775807:=h.row.cap;have ec:cols.n=n:=h.cols.len;have hc2:cols.n<=cols.c:=h.cols.le;have hc3:cols.c<=9223372036854775807:=h.cols.cap;have eb:bas.n=m:=h.bas.len;have hb2:bas.n<=bas.c:=h.bas.le;have hb3:bas.c<=9223372036854775807:=h.bas.cap;obtain ⟨cA,cnn,cc⟩:=cols;obtain ⟨bA,bnn,bcc⟩:=bas;obtain ⟨rA,rn,rcc⟩:=row;dsimp only at er hr2 hr3 ec hc2 hc3 eb hb2 hb3 hsn;subst er ec eb;obtain ⟨k0,k1,k2,k3,k4,k5,k6,kf⟩:=h.cells;dsimp only [SV.val] at k0 k1 k2 k3 k4 k5 k6;have hdl:=h.dlt;dsimp only at hdl;have H:=hdq h;clear h
 have hmk:∀ w,(Instr.makeSlice 23 (.int .i64 ((cnn:Int)+1)) (.int .i64 ((cnn:Int)+1))).run Tryz.prog w = .ok (.slice (some ⟨w,0,none⟩) (cnn+1) (cnn+1)) (w.alloc (.cells (zeroQ (cnn+1)) 30)):=by
  intro w;have:=zBZ (cnn+1) (by omega) w;simpa using this
 dsimp only [SV.val];go_enter Tryz.func153,Tryz.ntmps153
 go_wp2_with fail
 have al:Below w w (w.alloc (.cells (zeroQ (cnn+1)) 30)):=bal;refine (zEb (kb:=kd) (sa:=⟨sA,sN,sC⟩) (sb:=bs) (HS.out.below al) (H.out.base.below al) HLc.out HL1.out hsn HKF.out HFD.out).mono ?_;rintro e w1 ⟨⟨z,rfl,hz⟩,hb1⟩;rw [<-HKZ.out] at hz;have hR1:RowAt w1 (fun y=>y<w.heap.size\/y=w.heap.size) w (List.replicate (cnn+1) 0):=(RowAt.made w (cnn+1) _ (.inr rfl)).below hb1;have hbl1:=al.trans (hb1.mono al.size);obtain ⟨zv,⟨d0,d1,d2,d3⟩,-⟩:=hR1.elem cnn (by rw [List.length_replicate]; omega);have fz:=hR1.frozen;dsimp only at d1 d2 d3
 have H0:BA1 w cnn cn (fun v=>cl.getD v 0) kz (.int .i64 0) (put4 w1 w cnn z):=⟨0,nzl _,rfl,by
  rw [<-zMm];refine hR1.put4 (by rw [List.length_replicate]; omega) (hz.imp fun y _ hy hg=>?_);simp only [New,World.size_alloc] at hy;rcases hg with h | h <;> omega,zBq hbl1 (nlr _) _ _⟩
 have hdl1:d<w1.heap.size:=ltl hdl hbl1.size;have hp4:w1.cell? ⟨d,4,none⟩=some (.slice cA cnn cc):=(hbl1.cell (p:=⟨d,4,none⟩) hdl).trans k4;clear hz hR1 hbl1 hb1 k0 k1 k2 k3 k4 k5 k6 kf;go_wp2;clear d0 d1 d2 d3 fz hp4 hmk;show Code.wp _ _ _ _ (put4 w1 w cnn z);generalize put4 w1 w cnn z=W1 at *;go_loopw [33] (fun t W=>BA1 w cnn cn (fun v=>cl.getD v 0) kz t W) (fun t _=>cnn-(intOf t).toNat)
 case atStart=>exact H0
 case round=>
  clear H0;obtain ⟨k,hk,rfl,hR,hBl⟩:=hrel;have hsw:=hBl.size;by_cases hlt:k<cnn
  ·have hD:=H.out.below hBl;obtain ⟨gcA,eC,c0,-,c2⟩:=hD.cols.elem hlt;dsimp only at eC c0;subst eC;have hki:(k:Int)<(cnn:Int):=(by omega);have hki1:(k:Int)<(cnn:Int)+1:=(by omega);have hk0:(0:Int)<=(k:Int):=(by omega);have hkn:k<cnn+1:=(by omega);have HR:=hdq hR;clear hR hD;(go_wp2_with fail);refine (zKH (k:=cn k) (s:=⟨sA,sN,sC⟩) (HS.out.below hBl) (HCV.out k hlt)).mono ?_;rintro e w2 ⟨⟨v,rfl,hv⟩,hb2⟩;(go_wp2_with fail);refine (zHK (a:=v) hv HLc.out).mono ?_;rintro e w3 ⟨⟨z,rfl,hz⟩,hb3⟩;have h23:=hb2.trans (hb3.mono hb2.size);have hR3:=HR.out.below h23;obtain ⟨zv,⟨d0,d1,d2,d3⟩,-⟩:=hR3.elem k (by rw [zAm]; omega);have fz:=hR3.frozen;dsimp only at d1 d2 d3;have hRl:=HR.out.lt
   have Hfin:Hid (BA1 w cnn cn (fun v=>cl.getD v 0) kz (.int .i64 ((k:Int)+1)) (put4 w3 w k z)):=hdq ⟨k+1,by omega,by simp,by
    rw [<-zMl hlt];refine hR3.put4 (by rw [zAm]; omega) (hz.imp fun y _ hy hg=>?_);have:=hb2.size;simp only [New] at hy;rcases hg with h | h <;> omega,zBq (hBl.trans (h23.mono hBl.size)) (nlr _) _ _⟩
   clear hR3 hz hv hb2 hb3 h23 HR c0 c2 hBl;go_wp2;go_roundw;case rel=>exact fn_ Hfin.out
   case measure=>simp [intOf]; omega
  ·(obtain rfl:k=cnn:=by omega);rw [zMk (bn:=bn) (a:=a)] at hR;have H2:BA2 w k bnn bn cn a (fun v=>cl.getD v 0) kz (.slice (some w) (k+1) (k+1)) (.int .i64 0) wr:=⟨0,w.heap.size,k+1,nzl _,rfl,rfl,nlr _,by omega,nlr _,hR.room,hBl⟩;have hD:=H.out.below hBl;obtain ⟨k0,k1,k2,k3,k4,k5,k6,kf⟩:=hD.cells;dsimp only [SV.val] at k0 k1 k2 k3 k4 k5 k6;have hdl2:d<wr.heap.size:=(by omega);clear hR hBl hD k0 k1 k2 k4 k5 k6;go_wp2;clear k3 kf;(go_loopw [5,51] (fun gl t W=>BA2 w k bnn bn cn a (fun v=>cl.getD v 0) kz gl t W) (fun _ t _=>bnn-(intOf t).toNat));case atStart=>exact H2
   case round=>
    clear H2;obtain ⟨i,b,c,hi,rfl,rfl,hcb,hcc,hbw,hP,hBl⟩:=hrel;have hsw:=hBl.size;by_cases hlt:i<bnn
    ·have hD:=H.out.below hBl;obtain ⟨gbA,eB,b0,-,b2⟩:=hD.bas.elem hlt;dsimp only at eB b0;subst eB;have hii:(i:Int)<(bnn:Int):=(by omega);have hi0:(0:Int)<=(i:Int):=(by omega);have HP:=hdq hP;clear hP hD;(go_wp2_with fail);refine (zKH (k:=bn i) (s:=⟨sA,sN,sC⟩) (HS.out.below hBl) (HBV.out i hlt)).mono ?_;rintro e w2 ⟨⟨v,rfl,hv⟩,hb2⟩;obtain ⟨q,hq0⟩:∃ q,cl.getD (bn i) 0=q:=⟨_,rfl⟩;rw [hq0] at hv;have HQ:=hdq hq0;have HV:=hdq hv;clear hv b0 hq0;(go_wp2_with fail);have al2:Below w2 w2 (w2.alloc (.cells #[.bool v.num.ng,.slice v.num.A v.num.n v.num.c,.bool v.den.ng,.slice v.den.A v.den.n v.den.c] 30)):=bal;have bF0:Box4 (w2.alloc (.cells #[.bool v.num.ng,.slice v.num.A v.num.n v.num.c,.bool v.den.ng,.slice v.den.A v.den.n v.den.c] 30)) w2 (.bool v.num.ng) (.slice v.num.A v.num.n v.num.c) (.bool v.den.ng) (.slice v.den.A v.den.n v.den.c):=bx4;refine (zAn (HV.out.below al2)).mono ?_;rintro e w3 ⟨rfl,hb3⟩;have h23:=al2.trans (hb3.mono al2.size);have h03:=hb2.trans (h23.mono hb2.size);have hbl3:=hBl.trans (h03.mono hBl.size);have bF:=bF0.below hb3 (by simp);have HV3:=hdq (HV.out.below h23);have HP3:=hdq (HP.out.below h03);have hs3:=hbl3.size;have hbl2:w2.heap.size<w3.heap.size:=zAb bF.1;clear al2 bF0 HV HP h23 h03 hb3 hBl;by_cases h0:q=0
     ·have hq:qsign q=0:=by rw [h0]; rfl
      have Hfin:Hid (BA2 w k bnn bn cn a (fun v=>cl.getD v 0) kz (.slice (some b) (k+1) c) (.int .i64 ((i:Int)+1)) w3):=hdq ⟨i+1,b,c,by omega,by simp,rfl,hcb,hcc,hbw,by
       rw [<-zBs fun j _=>show Lin.aimTo k bn cn a (fun v=>cl.getD v 0) kz i j=_ from by rw [Lin.zLc,HQ.out,h0]; grind];exact HP3.out,hbl3⟩
      rw [hq];clear hq h0 HP3 HV3 bF hbl3;go_wp2;go_roundw;case rel=>exact fn_ Hfin.out
      case measure=>simp [intOf]; omega
     ·have hq:(qsign q == 0)=false:=zDd h0;clear h0;have hD:=H.out.below hbl3;obtain ⟨k0,k1,k2,k3,k4,k5,k6,kf⟩:=hD.cells;dsimp only [SV.val] at k0 k1 k2 k3 k4 k5 k6;obtain ⟨gr,eR,hr,-,tr⟩:=hD.row.elem hlt;obtain ⟨hca,hcap⟩:=hD.caps i hlt;have hrw:=hD.rows i hlt;have hrl:=hrw.lt;dsimp only at eR hr hca hcap hrw hrl;subst eR;have hd3:d<w3.heap.size:=(by omega);have hbb:=HP3.out.lt;have HRW:=hdq hrw
      have HGL:Hid (RowB w3 (fun y=>y<w.heap.size\/y=b) LM b (rowL k (Lin.aimTo k bn cn a (fun v=>cl.getD v 0) kz i))):=hdq (HP3.out.rowB fun j=>by
       by_cases hj:j<=k
       ·rw [zAL _ hj];refine (zAv (Lin.zMc HFC.out HFZ.out HFA.out hi hj)).up ?_;have:=HKG.out;have h2:i*(2*kq+1)<=bnn*(2*kq+1):=Nat.mul_le_mul_right _ (by omega);omega
       ·rw [show (rowL k (Lin.aimTo k bn cn a (fun v=>cl.getD v 0) kz i)).getD j 0=0 by rw [gdd,List.getElem?_eq_none (by rw [zAm]; omega)]; rfl];exact QFit.zero _)
      have HM:Hid (∀ j,QFit LM (q*(rowL k (a i)).getD j 0)):=hdq fun j=>by
       by_cases hj:j<=k
       ·rw [zAL _ hj];rw [<-HQ.out];refine (zAv ((HFC.out (bn i)).mul (HFA.out i j hlt hj))).up ?_;have:=HKG.out;have h2:1*(2*kq+1)<=bnn*(2*kq+1):=Nat.mul_le_mul_right _ (by omega);omega
       ·rw [show (rowL k (a i)).getD j 0=0 by rw [gdd,List.getElem?_eq_none (by rw [zAm]; omega)]; rfl,Rat.mul_zero];exact QFit.zero _
      obtain ⟨f0,f1,f2,f3,f4⟩:=bF;clear hD hrw HP3;go_upto_region 13 with fail
      go_region_held3 (Sees w [] w3) (exact kp)
       (first
        | (go_at_call 204; ((with_reducible refine (zKJ (k:=v) (sa:=⟨some ⟨rb i,0,none⟩,k+1,rc i⟩) (sb:=⟨some ⟨b,0,none⟩,k+1,c⟩) (HV3.out.below (Sees.kept (by assumption)).whole) ((HRW.out.below (Sees.kept (by assumption)).whole).vecN (zAm _ _) hca hcap) ((HGL.out.below (Sees.kept (by assumption)).whole).vecN (zAm _ _) hcb hcc) HL.out (nlr _) HLc.out (show k+1<=1000000 by omega) (show k+1<=1000000 by omega) HM.out).mono ?_); rintro e w4 ⟨⟨sr,rfl,-,hrow⟩,hb4⟩; (have sz4:w3.heap.size<=w4.heap.size:=by exact nlt (Sees.kept (by assumption):Kept w [] w3 _).size hb4.size)))
        | fail)
      all_goals
       rename_i hS;rw [<-HQ.out,zMJ k bn cn a (fun v=>cl.getD v 0) kz i] at hrow;obtain ⟨b',c',rfl,hc1,hc2',hbn,hP⟩:=hrow (by rw [zAm]; omega);rw [zAm] at hc1 ⊢
       have Hfin:Hid (BA2 w k bnn bn cn a (fun v=>cl.getD v 0) kz (.slice (some b') (k+1) c') (.int .i64 ((i:Int)+1)) w4):=hdq ⟨i+1,b',c',by omega,by simp,rfl,hc1,hc2',by have h1:w3.heap.size<=b':=hbn; omega,⟨.inr rfl,hP.blk,fun j hj=>by
        obtain ⟨u,h1,h2⟩:=hP.elem j hj;exact ⟨u,h1,h2.imp fun y _ hy hg=>hy (hg.imp (fun h=>by show y<w3.heap.size; omega) id)⟩⟩,hbl3.trans (hS.kept.whole.mono hs3)⟩
       clear hS hP hq hb4 k0 k1 k2 k3 k4 k5 k6 kf hr f0 f1 f2 f3 f4 HRW HGL HM HV3 hbl3;go_wp2;go_roundw;case rel=>exact fn_ Hfin.out
       case measure=>simp [intOf]; omega
    ·(obtain rfl:i=bnn:=by omega);have hD:=H.out.below hBl;obtain ⟨k0,k1,k2,k3,k4,k5,k6,kf⟩:=hD.cells;dsimp only [SV.val] at k0 k1 k2 k3 k4 k5 k6;have hd3:d<wr.heap.size:=(by omega);have hPl:=hP.lt
     have hRB:RowB wr (fun y=>G y\/y=b) L b (rowL k (Lin.aimTo k bn cn a (fun v=>cl.getD v 0) kz i)):=(hP.rowB fun j=>by
      by_cases hj:j<=k
      ·rw [zAL _ hj]; exact HRes.out j hj
      ·rw [show (rowL k (Lin.aimTo k bn cn a (fun v=>cl.getD v 0) kz i)).getD j 0=0 by rw [gdd,List.getElem?_eq_none (by rw [zAm]; omega)]; rfl];exact QFit.of_zero (HRes.out 0 (nzl _))).new (.inr rfl) fun y hy=>hy.imp (fun hg=>H.out.gin y hg) id
     have hT:=hdq (H.out.regoal (b:=b) (c:=c) (W':=wr) (G':=fun y=>G y\/y=b) (Fr.of_below hBl) (fun y hy=>.inl hy) (fun y hy=>hy.imp id fun e=>by omega) (fun y hy=>hy.elim (fun hg=>ltl (H.out.gin y hg) hsw) fun e=>by omega) hRB hcb hcc fun j hj e=>by have:=(H.out.rows j hj).lt; omega);have HF:=hdq ((Fr.of_below (G:=Ow ⟨d,bs,⟨rA,i,rcc⟩,⟨bA,i,bcc⟩,⟨cA,k,cc⟩,lvs,rb,rc,gb,gc⟩ i g.isSome) hBl).set (p:=⟨d,6,none⟩) (.inl rfl) (.slice (some b) (k+1) c));have HMo:Hid (More w G fun y=>G y\/y=b):=hdq ⟨fun y hy=>.inl hy,fun y hy=>hy.imp id fun e=>by omega⟩;clear hD hRB hP hBl k0 k1 k2 k3 k4 k5;go_wp2;refine bodyPost_end (results_none rfl _ _ _) rfl ⟨⟨_,rfl⟩,_,⟨d,bs,⟨rA,i,rcc⟩,⟨bA,i,bcc⟩,⟨cA,k,cc⟩,lvs,rb,rc,b,c⟩,rfl,HMo.out,fun y hy=>?_,HF.out,hT.out⟩;rcases hy with h | h | h | ⟨-,h⟩
     ·exact .inl (.inl h)
     ·exact .inl (.inr (.inl h))
     ·exact .inl (.inr (.inr (.inl h)))
     ·dsimp only at h;right; omega
section
variable {W W':World} {G G':Nat->Prop} {x:TV} {V n m L:Nat} {base:List Rat} {bn cn:Nat->Nat} {a:Nat->Nat->Rat} {lv:Nat->Bool} {g:Option (Nat->Rat)}
theorem TB.frame (h:TB W G x V n m L base bn cn a lv g) (hF:Fr Z W W') (hZ:∀ y,Z y->G y/\¬ Ow x m g.isSome y) (hM:More W G G') (hl:∀ y,G' y->y<W'.heap.size):TB W' G' x V n m L base bn cn a lv g:=by
 have off:∀ y,y<W.heap.size->¬ G y->¬ G' y:=fun y hy hg hg'=>hg ((hM.new y hg').resolve_right om)
 have kc:∀ p:Addr,¬ G p.block->p.block<W->W'.cell? p=W.cell? p:=fun p hp hl=>hF.cell hl fun z=>hp (hZ _ z).1
 have kc':∀ p:Addr,¬ G' p.block->p.block<W->W'.cell? p=W.cell? p:=fun p hp=>kc p fun hg=>hp (hM.old _ hg)
 have kb:∀ y,y<W.heap.size->Ow x m g.isSome y->W'.heap[y]?=W.heap[y]?:=fun y hy ho=>hF.block y hy fun z=>(hZ _ z).2 ho
 have kr:∀ {b l},RowB W G L b l->Ow x m g.isSome b->RowB W' G' L b l:=fun {b l} hr ho=>(hr.grow hM.old fun y hy hg=>(hM.new y hg).resolve_right om).keep (kb _ hr.lt ho) kc'
 exact ⟨(kb _ h.dlt (.inl rfl)).trans h.blk,VecAt.keep (h.base.imp (fun y hy hg=>off y hy hg) fun _ _ hq=>hq.imp fun y hy hg=>off y hy hg) kc' fun _ _ hq=>hq.keep kc',h.row.keep fun y e hy=>kb y hy (.inr (.inl (.inl e))),h.bas.keep fun y e hy=>kb y hy (.inr (.inl (.inr (.inl e)))),h.cols.keep fun y e hy=>kb y hy (.inr (.inl (.inr (.inr (.inl e))))),h.live.keep fun y e hy=>kb y hy (.inr (.inl (.inr (.inr (.inr e))))),
  fun i hi=>kr (h.rows i hi) (.inr (.inr (.inl ⟨i,hi,rfl⟩))),h.caps,fun f e=>⟨kr (h.aim f e).1 (.inr (.inr (.inr ⟨by rw [e]; rfl,rfl⟩))),(h.aim f e).2⟩,h.rinj,h.bf,hl,hM.old _ h.gd,fun y e=>hM.old _ (h.gr y e),fun y e=>hM.old _ (h.gb y e),fun y e=>hM.old _ (h.gc y e),fun y e=>hM.old _ (h.gl y e)⟩
end
structure ValS (W:World) (B L:Nat) (G:Nat->Prop) (v:Value) (k:Nat) (qs:List QV) (l:List Rat):Prop where
 own:W.ownsRow B 30 4 v k (qs.flatMap cells4q)
 row:∀ j,v.ownBlock=some j->G j
 len:qs.length=k
 llen:l.length=k
 elem:∀ j,j<k->QIs W (fun b=>¬ G b) L (qs.getD j QV.zero) (l.getD j 0)
section
variable {W W' W2:World} {B L k:Nat} {G G' H:Nat->Prop} {v v':Value} {qs:List QV} {l:List Rat}
theorem ValS.nil (W:World) (B L:Nat) (G:Nat->Prop):ValS W B L G () 0 [] []:=⟨⟨rfl,.inl ⟨rfl,rfl⟩⟩,fun j h=>by simp [Value.ownBlock] at h,rfl,rfl,fun j h=>absurd h (Nat.not_lt_zero j)⟩
theorem ValS.lt (h:ValS W B L G v k qs l) (e:v.ownBlock=some j):B<=j/\j<W.heap.size:=by
 obtain ⟨h1,cs,hh⟩:=zAc h.own e;exact ⟨h1,zAa hh⟩
theorem ValS.keep (h:ValS W B L G v k qs l) (hF:Fr H W W') (hH:∀ j,v.ownBlock=some j->¬ H j) (hHG:∀ y,H y->G y) (hG:More W G G'):ValS W' B L G' v k qs l:=by
 refine ⟨zAr h.own fun j hj=>hF.block j (h.lt hj).2 (hH j hj),fun j hj=>hG.old j (h.row j hj),h.len,h.llen,fun j hj=>?_⟩;exact (((h.elem j hj).imp (Y:=fun b=>¬ G b/\b<W.heap.size) fun b hl hb=>⟨hb,hl⟩).keep fun p hp hl=>hF.cell hl fun z=>hp.1 (hHG _ z)).imp fun b _ hb hg=>hb.1 ((hG.new b hg).resolve_right om)
theorem ValS.step (h:ValS W B L G v k qs l) {o:Obj} {z:QV} (hz:QIs W (fun b=>¬ G b) L z q) (hown:W2.ownsRow B 30 4 v' (k+1) (qs.flatMap cells4q++cells4q z)) (hg:(W.alloc o).grownBy W2 v.ownBlock) (hat:v'.ownBlock=v.ownBlock\/v'.ownBlock=some (W.alloc o).heap.size) :
  ValS W2 B L (fun y=>G y\/v'.ownBlock=some y) v' (k+1) (qs++[z]) (l++[q])/\Fr (fun y=>v.ownBlock=some y) W W2/\More W G (fun y=>G y\/v'.ownBlock=some y):=by
 have hsz:W.heap.size+1<=W2.heap.size:=by have:=hg.size; simpa using this
 have key:∀ y,y<W.heap.size->¬ v.ownBlock=some y->W2.heap[y]?=W.heap[y]?:=fun y hy h2=>(hg.block y (by simp; omega) fun e=>h2 e.symm).trans (Below.heap_alloc _ _ _ hy)
 have hv':∀ j,v'.ownBlock=some j->v.ownBlock=some j\/W.heap.size<=j:=fun j hj=>by
  rcases hat with e | e
  ·exact .inl (e.symm.trans hj)
  ·rw [e] at hj; cases hj; right; simp
 have kq:∀ {u r},QIs W (fun b=>¬ G b) L u r->QIs W2 (fun b=>¬ (G b\/v'.ownBlock=some b)) L u r:=fun {u r} hu=>
  ((hu.imp (Y:=fun b=>¬ G b/\b<W.heap.size) fun b hl hb=>⟨hb,hl⟩).keep fun p hp hl=>cob (key _ hl fun e=>hp.1 (h.row _ e))).imp fun b _ hb hg=>hg.elim hb.1 fun e=>(hv' b e).elim (fun e=>hb.1 (h.row b e)) fun e=>om
 refine ⟨⟨by rw [List.flatMap_append]; simpa using hown,fun j hj=>.inr hj,by rw [List.length_append,h.len]; rfl,by rw [List.length_append,h.llen]; rfl,fun j hj=>?_⟩,⟨hg.os,hg.tape,hg.output,om,fun b hb hn=>key b hb hn⟩,⟨fun y hy=>.inl hy,fun y hy=>hy.elim .inl fun e=>(hv' y e).imp (h.row y) id⟩⟩;by_cases hjk:j<k
 ·rw [zAE _ _ _ (by rw [h.len]; exact hjk),zAE _ _ _ (by rw [h.llen]; exact hjk)];exact kq (h.elem j hjk)
 ·obtain rfl:j=k:=om
  have e1:(qs++[z]).getD j QV.zero=z:=by rw [<-h.len]; simp
  have e2:(l++[q]).getD j 0=q:=by rw [<-h.llen]; simp
  rw [e1,e2];exact kq hz
theorem ValS.vec (h:ValS W B L G v k qs l):∃ s:SV,v=s.val/\s.n=k/\VecIs W (fun _=>True) (fun b=>¬ G b) L s l:=by
 rcases h.own.2 with ⟨rfl,rfl⟩ | ⟨g,cap,cur,rfl,hbg,hh,hnc,hcap,hcur,ht⟩
 ·exact ⟨⟨none,0,0⟩,rfl,rfl,h.llen,nlr _,nzl _,fun k hk=>absurd hk (Nat.not_lt_zero k)⟩
 ·refine ⟨⟨some ⟨g,0,none⟩,k,cap⟩,rfl,rfl,h.llen,hnc,(by show cap<=_; exact nlt ‹_› (show maxLen<=9223372036854775807 by decide)),fun j hj=>⟨⟨g,0,none⟩,qs.getD j QV.zero,rfl,trivial,?_,h.elem j hj⟩⟩;have hj':j<k:=hj;have hl:=h.len
  have ec:∀ o,o<4->W.cell? ⟨g,j*4+o,none⟩=(cells4q (qs.getD j QV.zero))[o]?:=fun o ho=>by
   have e2:(cur.toList.take (k*4))[j*4+o]?=(qs.flatMap cells4q)[j*4+o]?:=(by rw [ht]);rw [List.getElem?_take_of_lt om,zCy qs j o om ho QV.zero] at e2;simp only [World.cell?,hh];simpa using e2
  rw [zA4,Nat.zero_add];exact ⟨ec 0 om,ec 1 om,ec 2 om,ec 3 om⟩
end
theorem zMz {B:Lin.BP} (_ok:B.Ok) (_G:Lin.Good (B.prob av) D) (k:Nat) (hk:k<B.V) :
  bptTo (B.prob av).n (fun i=>B.vn av (D.basic i)) D.a (B.base av B.nb) (B.prob av).m k=B.lift av (D.point (B.prob av)) k:=by
 have vinj:∀ u v,B.vn av u=B.vn av v->u=v:=fun u v e=>Nat.le_antisymm (Lin.BP.vn_le.1 (Nat.le_of_eq e)) (Lin.BP.vn_le.1 (Nat.le_of_eq e.symm))
 unfold bptTo
 cases hf:B.fixed av B.nb k with
 | true=>
  have hno:∀ i,i<(B.prob av).m->B.vn av (D.basic i) ≠ k:=fun i hi e=>by
   unfold Lin.BP.vn at e
   split at e
   ·rename_i h;have:=(Lin.BP.cl_lt (B:=B) (av:=av) h).2;rw [e,hf] at this; cases this
   ·omega
  rw [if_neg (Lin.zCQ hno)];unfold Lin.BP.lift
  rw [if_pos hf]
 | false=>
  obtain ⟨j,hj,e⟩:=Lin.BP.cl_idx hk hf;have hvj:B.vn av j=k:=by unfold Lin.BP.vn; rw [if_pos hj,e]
  rw [<-e,Lin.BP.lift_cl _ hj]
  have hfind:Lin.find (fun i=>B.vn av (D.basic i)) (B.cl av j) (B.prob av).m=Lin.find D.basic j (B.prob av).m:=by
   have:∀ m,Lin.find (fun i=>B.vn av (D.basic i)) (B.cl av j) m=Lin.find D.basic j m:=by
    intro m
    induction m with
    | zero=>rfl
    | succ m ih=>
     unfold Lin.find;rw [ih]
     have hiff:(B.vn av (D.basic m)=B.cl av j) ↔ D.basic m=j:=by
      rw [e,<-hvj];exact ⟨vinj _ _,fun h=>by rw [h]⟩
     by_cases h:D.basic m=j
     ·rw [if_pos (hiff.2 h),if_pos h]
     ·rw [if_neg (fun h'=>h (hiff.1 h')),if_neg h]
   exact this _
  rw [hfind];unfold Lin.Dict.point;by_cases h:Lin.find D.basic j (B.prob av).m<(B.prob av).m
  ·rw [if_pos h,if_pos h]
  ·rw [if_neg h,if_neg h];unfold Lin.BP.base;rw [e,hf,if_neg dj]
theorem zME (hn:n<=m) (h:∀ v,n<=v->f v=0):Lin.sum n f=Lin.sum m f:=by
 induction m with
 | zero=>
  obtain rfl:n=0:=om
  rfl
 | succ m ih=>
  by_cases e:n=m+1
  ·rw [e]
  ·show _=Lin.sum m f+f m;rw [h m om,<-ih om]; grind
def Tight (B:Lin.BP):Prop:=∀ l k,l<B.K->B.V<=k->B.O l k=0
theorem zM4 {B:Lin.BP} (ht:Tight B) {l:Nat} (hl:l<B.K+B.V) (hk:B.V<=k):B.lev l k=0:=by
 unfold Lin.BP.lev
 split
 ·exact ht l k ‹_› hk
 ·rw [if_neg om]
theorem zNd {B:Lin.BP} {l:Nat} (en:(B.prob av).n=n) (em:(B.prob av).m=m) (G:Lin.Good (B.prob av) D) (ht:Tight B) (hl:l<B.K+B.V) (hf:∀ v,f v=B.lev l v) (hj:j<=n) :
  Lin.aimTo n (fun i=>B.vn av (D.basic i)) (fun j=>B.vn av (D.free j)) D.a f kz m j=glR n l D kz j:=by
 obtain rfl:f=B.lev l:=funext hf
 have h1:∀ v,v<(B.prob av).n->B.lev l (B.vn av v)=(B.prob av).O l v:=fun v hv=>by
  have:B.vn av v=B.cl av v:=if_pos hv;rw [this]; rfl
 have h2:∀ v,(B.prob av).n<=v->v<(B.prob av).n+(B.prob av).m->B.lev l (B.vn av v)=0:=fun v hv _=>by
  have:B.vn av v=B.V+(v-(B.prob av).n):=if_neg (by have:(B.prob av).n=(B.cols av).length:=rfl; omega);rw [this]; exact zM4 ht hl om
 subst en em;unfold Lin.aimTo glR;by_cases e:j=(B.prob av).n
 ·subst e;rw [if_pos rfl,if_pos rfl,Lin.Good.cost_last G (l:=l) (f:=fun v=>B.lev l (B.vn av v)) hl h1 h2]; grind
 ·rw [if_neg e,if_neg e,Lin.Good.cost_at G (l:=l) (f:=fun v=>B.lev l (B.vn av v)) hl h1 h2 (show j<(B.prob av).n by omega)]
def Box3 (W:World) (b:Nat) (u0 u1 u2:Value):Prop:=W.cell? b=some u0/\W.cell? ⟨b,1,none⟩=some u1/\W.cell? ⟨b,2,none⟩=some u2/\∀ o,W.frozen? ⟨b,o,none⟩=false
structure OpI (w0:World) (G H:Nat->Prop) (B:Lin.BP) (av:Nat->Int) (d V n m L sb:Nat) (base:List Rat) (K N:Nat) (v:Value) (W:World):Prop where
 ex:∃ (D:Lin.Dict) (G':Nat->Prop) (x:TV) (lv:Nat->Bool) (g:Option (Nat->Rat)) (qs:List QV) (l:List Rat),x.d=d/\More w0 G G'/\Less w0 H (Ow x m g.isSome)/\TD W G' x V n m L base (B.vn av) D lv g/\
  (Lin.Good (B.prob av) D/\Lin.Feas (B.prob av) D/\Lin.LInv (B.prob av) N lv D)/\ValS W w0 L G' v K qs l/\(∀ j,v.ownBlock=some j->¬ Ow x m g.isSome j)/\l=(List.range K).map fun l=>D.c l n+B.dot (B.lev l) (B.base av B.nb)
 fr:Fr (fun y=>H y\/y=sb) w0 W
 box:Box3 W sb v (.bool false) (.slice none 0 0)
def BOp1 (w0:World) (G H:Nat->Prop) (B:Lin.BP) (av:Nat->Int) (d V n m L sb:Nat) (base:List Rat) (t:Value) (W:World):Prop:=
 ∃ (N:Nat) (v:Value),N<=B.K/\t = .int .i64 (N:Int)/\OpI w0 G H B av d V n m L sb base N N v W
def BOp2 (w0:World) (G H:Nat->Prop) (B:Lin.BP) (av:Nat->Int) (d V n m L sb:Nat) (base:List Rat) (v t:Value) (W:World):Prop:=
 ∃ k:Nat,k<=B.V/\t = .int .i64 (k:Int)/\OpI w0 G H B av d V n m L sb base B.K (B.K+k) v W
def OutIs (w:World) (L:Nat) (B:Lin.BP) (sv:SV) (eb:Bool) (pt:SV):Option (Nat->Rat)->Prop
 | none=>eb=true/\pt=⟨none,0,0⟩/\sv.n<=B.K/\∃ l,VecIs w (fun _=>True) (fun _=>True) L sv l
 | some x=>eb=false/\VecIs w (fun _=>True) (fun _=>True) L sv ((List.range B.K).map fun l=>B.dot (B.lev l) x)/\VecIs w (fun _=>True) (fun _=>True) L pt ((List.range B.V).map x)/\VecCan w (fun _=>True) (fun _=>True) pt ((List.range B.V).map x)
def BOptRet (w:World) (H:Nat->Prop) (L:Nat) (B:Lin.BP) (av:Nat->Int) (e:Ending) (w':World):Prop:=
 ∃ (sv pt:SV) (eb:Bool) (r:Option (Nat->Rat)),e = .returned (.agg #[sv.val,.bool eb,pt.val])/\OutIs w' L B sv eb pt r/\B.Out av r/\Fr H w w'
structure OpK (B:Lin.BP) (av:Nat->Int) (n m L kb kq kd:Nat):Prop where
 fit:∀ D,Lin.Good (B.prob av) D->D.Fits (B.prob av) kb
 le:kb<=kq
 gl:∀ D,Lin.Good (B.prob av) D->∀ l,l<B.K+B.V->∀ j,j<=n->Lin.Fits kq (glR n l D (B.dot (B.lev l) (B.base av B.nb)) j)
 lev:∀ l k,l<B.K+B.V->Lin.Fits kq (B.lev l k)
 kz:∀ l,l<B.K+B.V->Lin.Fits kq (B.dot (B.lev l) (B.base av B.nb))
 pr:∀ l k,l<B.K+B.V->Lin.Fits kd (B.lev l k*B.base av B.nb k)
 l1:L<=LM
 l2:kq+1<=L
 l3:2*kq+1<=LM
 l4:1000000*(kd+1)<32*LM
 l5:m*(2*kq+1)+kq+2<=LM
theorem OpI.level {B:Lin.BP} {sb:Nat} {G2:Nat->Prop} {x x2:TV} {lv2:Nat->Bool} {g g2:Option (Nat->Rat)} {qs:List QV} {D2:Lin.Dict}
  (hM:More w0 G G') (hL:Less w0 H (Ow x m g.isSome)) (hv:ValS W w0 L G' v K qs l) (hd:∀ j,v.ownBlock=some j->¬ Ow x m g.isSome j) (hl:l=(List.range K).map fun l=>D.c l n+B.dot (B.lev l) (B.base av B.nb)) (hK:K<=N) (fr:Fr (fun y=>H y\/y=sb) w0 W) (box:Box3 W sb v false ()) (hsb:¬ H sb) (hs0:sb<w0.heap.size)
  (hT:TD W G' x V n m L base (B.vn av) D lv g) (hM2:More W G' G2) (hL2:Less W (Ow x m g.isSome) (Ow x2 m g2.isSome)) (hF2:Fr (Ow x m g.isSome) W W2) (hT2:TD W2 G2 x2 V n m L base (B.vn av) D2 lv2 g2) (hG2:Lin.Good (B.prob av) D2/\Lin.Feas (B.prob av) D2/\Lin.LInv (B.prob av) (N+1) lv2 D2) (hc:∀ l,l<N->D2.c l n=D.c l n) :
  OpI w0 G H B av x2.d V n m L sb base K (N+1) v W2:=by
 have hno:¬ Ow x m g.isSome sb:=fun h=>(hL sb h).elim hsb fun e=>om
 have hbl:sb<W.heap.size:=ltl hs0 fr.size;refine ⟨⟨D2,G2,x2,lv2,g2,qs,l,rfl,hM.trans hM2 fr.size,hL.trans hL2 fr.size,hT2,hG2,hv.keep hF2 hd (fun y hy=>hT.ow hy) hM2,fun j hj ho=>(hL2 j ho).elim (hd j hj) fun e=>by have:=(hv.lt hj).2; omega,?_⟩,fr.more hF2 fun y hy=>(hL y hy).imp .inl id,?_⟩
 ·rw [hl];apply List.map_congr_left;intro j hj;rw [List.mem_range] at hj;rw [hc j om]
 ·obtain ⟨b0,b1,b2,b3⟩:=box;have hb:W2.heap[sb]?=W.heap[sb]?:=hF2.block sb hbl hno;exact ⟨(cob (a:=sb) hb).trans b0,(cob (a:=⟨sb,1,none⟩) hb).trans b1,(cob (a:=⟨sb,2,none⟩) hb).trans b2,fun o=>(World.frozen?_of_block (a:=⟨sb,o,none⟩) hb).trans (b3 o)⟩
theorem OpI.app {B:Lin.BP} {sb:Nat} {x:TV} {g:Option (Nat->Rat)} {qs:List QV} {z:QV} {o:Obj}
  (hM:More w0 G G') (hL:Less w0 H (Ow x m g.isSome)) (hT:TD W G' x V n m L base (B.vn av) D lv g) (hG:Lin.Good (B.prob av) D/\Lin.Feas (B.prob av) D/\Lin.LInv (B.prob av) (N+1) lv D) (hv:ValS W w0 L G' v N qs l) (hd:∀ j,v.ownBlock=some j->¬ Ow x m g.isSome j) (hl:l=(List.range N).map fun l=>D.c l n+B.dot (B.lev l) (B.base av B.nb))
  (fr:Fr (fun y=>H y\/y=sb) w0 W) (box:Box3 W sb v false ()) (hsb:¬ H sb) (hs0:sb<w0.heap.size) (hgs:G sb)
  (hz:QIs W (fun b=>¬ G' b) L z (D.c N n+B.dot (B.lev N) (B.base av B.nb))) (hown:W2.ownsRow w0 30 4 v' (N+1) (qs.flatMap cells4q++cells4q z)) (hg:(W.alloc o).grownBy W2 v.ownBlock) (hat:v'.ownBlock=v.ownBlock\/v'.ownBlock=some (W.alloc o).heap.size) :
  OpI w0 G H B av x.d V n m L sb base (N+1) (N+1) v' (W2.setCell sb v'):=by
 have hbl:sb<W.heap.size:=ltl hs0 fr.size;have hno:¬ Ow x m g.isSome sb:=fun h=>(hL sb h).elim hsb fun e=>om
 obtain ⟨hv2,hF,hM2⟩:=hv.step hz hown hg hat;have hgs':G' sb:=hM.old sb hgs;have hvs:¬ v.ownBlock=some sb:=fun e=>by have:=(hv.lt e).1; omega
 have hvs':¬ v'.ownBlock=some sb:=fun e=>by have:=(hv2.lt e).1; omega
 have hb0:=hF.block sb hbl hvs;have hlt2:sb<W2.heap.size:=ltl hbl hF.size;have hT2:TD W2 _ x V n m L base (B.vn av) D lv g:=hT.frame hF (fun y hy=>⟨hv.row y hy,hd y hy⟩) hM2 fun y hy=>hy.elim (fun h=>ltl (hT.gin y h) hF.size) fun e=>(hv2.lt e).2
 have hFs:Fr (fun y=>y=sb) W2 (W2.setCell sb v'):=(Fr.refl (fun y=>y=sb) W2).set (p:=sb) rfl v';have hT3:=hT2.frame hFs (fun y hy=>by rw [hy]; exact ⟨.inl hgs',hno⟩) (More.refl _ _) fun y hy=>ltl (hT2.gin y hy) hFs.size
 have hv3:=hv2.keep hFs (fun j hj e=>hvs' (by rw [<-e]; exact hj)) (fun y hy=>by rw [hy]; exact .inl hgs') (More.refl _ _);obtain ⟨b0,b1,b2,b3⟩:=box;refine ⟨⟨D,_,x,lv,g,qs++[z],_,rfl,hM.trans hM2 fr.size,hL,hT3,hG,hv3,fun j hj ho=>?_,?_⟩,(fr.more hF fun y hy=>.inr (hv.lt hy).1).set (.inr rfl) _,?_⟩
 ·rcases hat with e | e
  ·exact hd j (e.symm.trans hj) ho
  ·rw [e] at hj; cases hj
   have:=hT.gin _ (hT.ow ho);simp at this; omega
 ·rw [hl,List.range_succ,List.map_append]; rfl
 ·have c0:W2.cell? sb=some v:=(cob (a:=sb) hb0).trans b0;have c1:W2.cell? ⟨sb,1,none⟩=some (.bool false):=(cob (a:=⟨sb,1,none⟩) hb0).trans b1;have c2:W2.cell? ⟨sb,2,none⟩=some (.slice none 0 0):=(cob (a:=⟨sb,2,none⟩) hb0).trans b2;have cf:∀ o,W2.frozen? ⟨sb,o,none⟩=false:=fun o=>(World.frozen?_of_block (a:=⟨sb,o,none⟩) hb0).trans (b3 o)
  exact ⟨by go_simp,by go_simp,by go_simp,by intro o; go_simp⟩
theorem zNc {B:Lin.BP} {v:Nat} (hv:v<(B.prob av).n+(B.prob av).m):B.vn av v<=B.V+(B.prob av).m:=by
 unfold Lin.BP.vn
 split
 ·rename_i h; have:=(Lin.BP.cl_lt (B:=B) (av:=av) h).1; omega
 ·have:(B.prob av).n=(B.cols av).length:=rfl; omega
theorem zNm {B:Lin.BP} {cl:List Rat} {l rn bn:Nat} (hlen:cl.length=rn) (hrn:rn<=B.V) (hbn:bn=B.V) (hcl:∀ v,cl.getD v 0=B.lev l v) (hbs:∀ k,k<B.V->base.getD k 0=B.base av B.nb k) :
  B.dot (B.lev l) (B.base av B.nb)=Lin.sum (min rn bn) fun v=>cl.getD v 0*base.getD v 0:=by
 rw [hbn,Nat.min_eq_left hrn,zME hrn fun v hv=>by rw [zAw cl v 0 om]; grind];exact Lin.zAh fun v hv=>by rw [hcl v,hbs v hv]
theorem OpI.kept {G2:Nat->Prop} {B:Lin.BP} {sb:Nat} {x x2:TV} {g:Option (Nat->Rat)} {q2:Bool} {qs:List QV} 
  (hL:Less w0 H (Ow x m g.isSome)) (hv:ValS W w0 L G' v K qs l) (hd:∀ j,v.ownBlock=some j->¬ Ow x m g.isSome j) (fr:Fr (fun y=>H y\/y=sb) w0 W) (_box:Box3 W sb v false ()) (hsb:¬ H sb) (hs0:sb<w0.heap.size)
  (hT:TD W G' x V n m L base (B.vn av) D lv g) (hM2:More W G' G2) (hL2:Less W (Ow x m g.isSome) (Ow x2 m q2)) (hF2:Fr (Ow x m g.isSome) W W2) :
  ValS W2 w0 L G2 v K qs l/\(∀ j,v.ownBlock=some j->¬ Ow x2 m q2 j)/\Fr (fun y=>H y\/y=sb) w0 W2/\W2.heap[sb]?=W.heap[sb]?:=by
 have hno:¬ Ow x m g.isSome sb:=fun h=>(hL sb h).elim hsb fun e=>om
 exact ⟨hv.keep hF2 hd (fun y hy=>hT.ow hy) hM2,fun j hj ho=>(hL2 j ho).elim (hd j hj) fun e=>by have:=(hv.lt hj).2; omega,fr.more hF2 fun y hy=>(hL y hy).imp .inl id,hF2.block sb (ltl hs0 fr.size) hno⟩
theorem OpI.below {B:Lin.BP} {sb:Nat} (h:OpI w0 G H B av d V n m L sb base K N v W) (hb:Below W W W'):OpI w0 G H B av d V n m L sb base K N v W':=by
 obtain ⟨⟨D,G',x,lv,g,qs,l,h1,h2,h3,h4,h5,h6,h7,h8⟩,fr,b0,b1,b2,b3⟩:=h;have hk:=hb.block sb (zAb b0)
 exact ⟨⟨D,G',x,lv,g,qs,l,h1,h2,h3,h4.below hb,h5,h6.keep (Fr.of_below (G:=fun _=>False) hb) (fun _ _ h=>h) (fun _ h=>h.elim) (More.refl _ _),h7,h8⟩,fr.call hb,
  (cob (a:=sb) hk).trans b0,(cob (a:=⟨sb,1,none⟩) hk).trans b1,(cob (a:=⟨sb,2,none⟩) hk).trans b2,fun o=>(World.frozen?_of_block (a:=⟨sb,o,none⟩) hk).trans (b3 o)⟩
def uL (V k:Nat):List Rat:=(List.range V).map fun i=>if i=k then 1 else 0
theorem zLF (V k:Nat):(uL V k).length=V:=by simp [uL]
theorem zMF (V k v:Nat):(uL V k).getD v 0=if v<V/\v=k then 1 else 0:=by
 by_cases h:v<V
 ·unfold uL;rw [zAS _ _ h];by_cases e:v=k
  ·rw [if_pos e,if_pos ⟨h,e⟩]
  ·rw [if_neg e,if_neg fun h'=>e h'.2]
 ·rw [zAw _ _ _ (by rw [zLF]; omega),if_neg fun h'=>h h'.1]
theorem qfit01 (h:q=0\/q=1\/q=-1):QFit 1 q:=by rcases h with rfl | rfl | rfl <;> exact ⟨by decide +kernel,by decide +kernel⟩
theorem zL4 (h:RowAt W G b (uL V k)) (hV:V<=1000):VecIs W (fun x=>x=b) (fun x=>¬ G x) 1 ⟨some ⟨b,0,none⟩,V,V⟩ (uL V k):=by
 have:=(h.vec (by rw [zLF]; omega) V (by rw [zLF]; exact nlr _) om).loose (L:=1) fun v=>qfit01 (by rw [zMF]; split <;> simp)
 rwa [zLF] at this
theorem zM5 {B:Lin.BP} (hk:k<B.V) (v:Nat):((uL B.V k).map (((-1:Int):Rat)*·)).getD v 0=B.lev (B.K+k) v:=by
 have e:((uL B.V k).map (((-1:Int):Rat)*·)).getD v 0=((-1:Int):Rat)*(uL B.V k).getD v 0:=by
  by_cases h:v<(uL B.V k).length
  ·simp [h]
  ·rw [zAw _ _ _ (by rw [List.length_map]; omega),zAw _ _ _ om]; simp
 have e2:B.lev (B.K+k) v=if v=k then -1 else 0:=by
  unfold Lin.BP.lev;rw [if_neg om,Nat.add_sub_cancel_left]
 rw [e,zMF,e2];by_cases h:v=k
 ·rw [if_pos ⟨om,h⟩,if_pos h]; decide +kernel
 ·rw [if_neg fun h'=>h h'.2,if_neg h]; decide +kernel
theorem zNb {B:Lin.BP} (hE:B.V=V/\(B.prob av).n=n/\(B.prob av).m=m) (ok:B.Ok) (G:Lin.Good (B.prob av) D) (hbs:∀ k,k<V->base.getD k 0=B.base av B.nb k) :
  (List.range V).map (bptTo n (fun i=>B.vn av (D.basic i)) D.a (fun k=>base.getD k 0) m)=(List.range B.V).map (B.lift av (D.point (B.prob av))):=by
 obtain ⟨rfl,rfl,rfl⟩:=hE;apply List.map_congr_left;intro k hk;rw [List.mem_range] at hk;rw [<-zMz ok G k hk];unfold bptTo;dsimp only;rw [hbs k hk]
theorem zMH {B:Lin.BP} (en:(B.prob av).n=n) (G:Lin.Good (B.prob av) D) :
  ((List.range B.K).map fun l=>D.c l n+B.dot (B.lev l) (B.base av B.nb))=(List.range B.K).map fun l=>B.dot (B.lev l) (B.lift av (D.point (B.prob av))):=by
 subst en;apply List.map_congr_left;intro l hl;rw [List.mem_range] at hl;have h1:=G.at_point (l:=l) (show l<B.K+B.V by omega);rw [Lin.BP.at_lift] at h1;grind
theorem zMQ {B:Lin.BP} (hav:B.Av av) (hf:D.Fits (B.prob av) kb) (hL:kb+1<=L) (v:Nat):QFit L (B.lift av (D.point (B.prob av)) v):=by
 unfold Lin.BP.lift
 cases h:B.fixed av B.nb v with
 | true=>
  rw [if_pos rfl];obtain ⟨i,hi,-,h1,h2⟩:=Lin.BP.base_fixed h;rw [h2];refine (qfit01 ?_).up om;rcases hav i hi with e | e | e
  ·exact absurd e h1
  ·left; rw [e]; rfl
  ·right; left; rw [e]; rfl
 | false=>
  rw [if_neg dj];unfold Lin.Dict.point
  split
  ·exact (zAv (hf.1 _ _ ‹_› (nlr _))).up hL
  ·exact (qfit01 (.inl rfl)).up om
theorem Box3.heap {u0 u1 u2:Value} (h:Box3 W b u0 u1 u2) (hb:W'.heap[b]?=W.heap[b]?):Box3 W' b u0 u1 u2:=
 ⟨(cob (a:=b) hb).trans h.1,(cob (a:=⟨b,1,none⟩) hb).trans h.2.1,(cob (a:=⟨b,2,none⟩) hb).trans h.2.2.1,fun o=>(World.frozen?_of_block (a:=⟨b,o,none⟩) hb).trans (h.2.2.2 o)⟩
theorem zK0 {x:TV} {B:Lin.BP} {Lc kq kd l:Nat} {cl:List Rat} {g:Option (Nat->Rat)} 
  (h:TD W G x V n m L base (B.vn av) D lv g) (hE:B.V=V/\(B.prob av).n=n/\(B.prob av).m=m) (hG:Lin.Good (B.prob av) D) (ht:Tight B) (hc:VecIs W X Y Lc s cl) (hl:l<B.K+B.V) (hcl:∀ v,cl.getD v 0=B.lev l v) (hlen:cl.length<=V) (hbs:base.length=V/\∀ k,k<V->base.getD k 0=B.base av B.nb k)
  (hV:V<=1000) (hn:n<=1000) (hm:m<=1000) (hLc:Lc<=LM) (hk:OpK B av n m L kb kq kd) :
  Calls Tryz.prog 153 #[.pointer (some x.d),s.val] W fun e w'=>(∃ v,e = .returned v)/\∃ G' x',x'.d=x.d/\More W G G'/\Less W (Ow x m g.isSome) (Ow x' m true)/\Fr (Ow x m g.isSome) W w'/\TD w' G' x' V n m L base (B.vn av) D lv (some (glR n l D (B.dot (B.lev l) (B.base av B.nb)))):=by
 obtain ⟨eV,en,em⟩:=hE;have hsn:cl.length=s.n:=hc.len;have hbn:base.length=x.bs.n:=h.base.len;have hgl:∀ j,j<=n->Lin.aimTo n (fun i=>B.vn av (D.basic i)) (fun j=>B.vn av (D.free j)) D.a (fun v=>cl.getD v 0) (B.dot (B.lev l) (B.base av B.nb)) m j=glR n l D (B.dot (B.lev l) (B.base av B.nb)) j:=fun j hj=>zNd en em hG ht hl hcl hj
 refine (zL6 (kq:=kq) (kd:=kd) h hc om hn hm hk.l1 hLc (fun j hj=>?_) (fun i hi=>?_) (fun v=>by rw [hcl v]; exact hk.lev l v hl) (fun i j hi hj=>((hk.fit D hG).1 i j om om).mono hk.le) (fun v=>?_) (zNm hsn om (by rw [<-hbn,hbs.1,eV]) hcl fun k hk'=>hbs.2 k om) (hk.kz l hl) hk.l4 hk.l5 fun j hj=>?_).mono ?_
 ·have:=zNc (B:=B) (av:=av) (hG.fLt j om); omega
 ·have:=zNc (B:=B) (av:=av) (hG.bLt i om); omega
 ·by_cases hv:v<V
  ·rw [hcl v,hbs.2 v hv]; exact hk.pr l v hl
  ·rw [zAw base v 0 (by rw [hbs.1]; omega),Rat.mul_zero]; exact Lin.Fits.zero _
 ·rw [hgl j hj];exact (zAv (hk.gl D hG l hl j hj)).up hk.l2
 ·rintro e w' ⟨hv,G',x',h1,h2,h3,h4,h5⟩;exact ⟨hv,G',x',h1,h2,h3,h4,h5.goalEq hgl⟩
theorem zKR {x:TV} {B:Lin.BP} {kq kd l:Nat} 
  (h:TD W G x V n m L base (B.vn av) D lv (some (glR n l D (B.dot (B.lev l) (B.base av B.nb))))) (hE:B.V=V/\(B.prob av).n=n/\(B.prob av).m=m) (hG:Lin.Good (B.prob av) D/\Lin.Feas (B.prob av) D/\Lin.LInv (B.prob av) l lv D) (hl:l<B.K+B.V)
  (hn:n<=1000) (hm:m<=1000) (hk:OpK B av n m L kb kq kd) :
  Calls Tryz.prog 154 #[.pointer (some x.d)] W fun e w'=>BClRet W G x V n m L base (B.vn av) (B.prob av) l (B.dot (B.lev l) (B.base av B.nb)) (fun l=>D.c l n) e w':=
 zLu (kb:=kq) h hE.2.1 hE.2.2 hl hG.1 hG.2.1 hG.2.2 (fun _u _v h=>Lin.BP.vn_le.1 h) hn hm hk.l1 hk.l2 hk.l3 (fun D hD=>⟨fun i j hi hj=>((hk.fit D hD).1 i j hi hj).mono hk.le,fun l j hl hj=>((hk.fit D hD).2 l j hl hj).mono hk.le⟩) fun D hD=>hk.gl D hD l hl
theorem zK8 {x:TV} {B:Lin.BP} {Lo kq kd:Nat} 
  (h:TD w G x V n m L base (B.vn av) D (fun _=>true) none) (eV:B.V=V) (en:(B.prob av).n=n) (em:(B.prob av).m=m) (ok:B.Ok) (hav:B.Av av) (hG:Lin.Good (B.prob av) D) (hF:Lin.Feas (B.prob av) D) (ht:Tight B)
  (hXG:∀ y,X y->¬ G y) (hYG:∀ y,Y y->¬ G y) (hO:MatIs w X Y Lo p.O os) (hOK:p.O.n=B.K) (hos:∀ l k,l<B.K->(os.getD l []).getD k 0=B.O l k) (hol:∀ l,(os.getD l []).length<=V) (hbl:base.length=V) (hbs:∀ k,k<V->base.getD k 0=B.base av B.nb k)
  (hV:V<=1000) (hn:n<=1000) (hm:m<=1000) (hK:B.K<=1000) (hLo:Lo<=LM) (hk:OpK B av n m L kb kq kd) :
  Calls Tryz.prog 74 #[.pointer (some x.d),.agg #[.int .i64 p.n,p.O.val,p.R.val,p.B.val]] w (BOptRet w (Ow x m false) L B av):=by
 obtain ⟨iq0,hiq,hzq0,hzq1,hzq2⟩:=info_parts zEv;have HK:=hdq hk;have HLo:=hdq hLo;have HE:Hid (B.V=V/\(B.prob av).n=n/\(B.prob av).m=m):=⟨eV,en,em⟩;have HB:Hid (B.Ok/\B.Av av/\Tight B):=⟨ok,hav,ht⟩;have HG:=hdq (And.intro hG hF);have HOs:=hdq hos;have HOl:=hdq hol;have HBs:=hdq (And.intro hbl hbs);have HO:=hdq hO;have HX:=hdq (And.intro hXG hYG);have HKK:=hdq hK;clear hk hLo eV en em ok hav ht hG hF hos hol hbl hbs hO hK hXG hYG;obtain ⟨pn,⟨OA,On,Oc⟩,R,Bv⟩:=p;have hOle:On<=Oc:=HO.out.le;have hOcap:Oc<=9223372036854775807:=HO.out.cap;dsimp only at hOK;subst hOK;have hdl:=h.dlt;have H:=hdq h;clear h;obtain ⟨HH,hHH⟩:∃ HH,Hid (HH=Ow x m false):=⟨_,hdq rfl⟩;have HHG:Hid (∀ y,HH y->G y):=hdq fun y hy=>H.out.ow (by rw [hHH.out] at hy; exact hy)
 obtain ⟨d,bs,row,bas,cols,lvs,rb,rc,gb,gc⟩:=x;dsimp only at hdl;show Calls _ _ #[.pointer (some d),.agg #[pn,.slice OA B.K Oc,R,Bv]] _ _;go_enter Tryz.func74,Tryz.ntmps74
 go_wp2;have al:Below w w (((w.alloc (.cells #[pn,.slice OA B.K Oc,R,Bv] 25)).alloc (.cells #[(),false,()] 111)).alloc (.cells #[(),false,()] 111)):=((bal).alloc si _).alloc (by simp; omega) _;have bR0:Box3 (((w.alloc (.cells #[pn,.slice OA B.K Oc,R,Bv] 25)).alloc (.cells #[(),false,()] 111)).alloc (.cells #[(),false,()] 111)) (w+1) () false ():=⟨by go_simp,by go_simp,by go_simp,by intro o; go_simp⟩;have bS0:Box3 (((w.alloc (.cells #[pn,.slice OA B.K Oc,R,Bv] 25)).alloc (.cells #[(),false,()] 111)).alloc (.cells #[(),false,()] 111)) (w+1+1) () false ():=⟨by go_simp,by go_simp,by go_simp,by intro o; go_simp⟩;have hs0:w.heap.size+1+1<(((w.alloc (.cells #[pn,.slice OA B.K Oc,R,Bv] 25)).alloc (.cells #[(),false,()] 111)).alloc (.cells #[(),false,()] 111)).heap.size:=si
 generalize (((w.alloc (.cells #[pn,.slice OA B.K Oc,R,Bv] 25)).alloc (.cells #[(),false,()] 111)).alloc (.cells #[(),false,()] 111))=W0 at *;obtain ⟨sb,hsb⟩:∃ sb,Hid (sb=w.heap.size+1+1):=⟨_,hdq rfl⟩;obtain ⟨G0,hG0⟩:∃ G0,Hid (G0=fun y=>G y\/y=sb\/y=w.heap.size+1):=⟨_,hdq rfl⟩;have hGl:∀ y,G y->y<w.heap.size:=H.out.gin
 have HT0:Hid (TD W0 G0 ⟨d,bs,row,bas,cols,lvs,rb,rc,gb,gc⟩ V n m L base (B.vn av) D (fun _=>true) none):=hdq (H.out.call al (fun y hy=>by rw [hG0.out]; exact .inl hy) (fun y hy=>by rw [hG0.out] at hy; exact hy.imp id fun e=>by have:=hsb.out; omega) fun y hy=>by
  rw [hG0.out] at hy;have:=hsb.out;rcases hy with h | h
  ·have:=hGl y h; omega
  ·omega)
 have HHl:Hid (∀ y,HH y->y<w.heap.size):=hdq fun y hy=>hGl y (HHG.out y hy)
 have HGs:Hid (G0 sb/\G0 (w+1)):=hdq (by rw [hG0.out]; exact ⟨.inr (.inl rfl),.inr (.inr rfl)⟩);rw [<-hsb.out] at bS0;have H0:BOp1 W0 G0 HH B av d V n m L sb base (.int .i64 0) W0:=⟨0,.slice none 0 0,nzl _,rfl,⟨⟨D,G0,_,_,none,[],[],rfl,More.refl _ _,by rw [hHH.out]; exact Less.refl _ _,HT0.out,⟨HG.out.1,HG.out.2,Lin.LInv.zero⟩,ValS.nil _ _ _ _,fun j hj=>by simp [Value.ownBlock] at hj,rfl⟩,Fr.refl _ _,bS0⟩⟩;have HRb:=hdq bR0;clear bR0 HT0 bS0;rw [<-hsb.out];have hsr:sb<W0.heap.size:=by have:=hsb.out; omega
 go_loopw [12] (fun t W=>BOp1 W0 G0 HH B av d V n m L sb base t W) (fun t _=>B.K-(intOf t).toNat)
 case atStart=>exact H0
 case round=>
  clear H0;obtain ⟨N,v,hN,rfl,⟨⟨D2,G2,⟨d2,bs2,row2,bas2,cols2,lvs2,rb2,rc2,gb2,gc2⟩,lv2,g2,qs,l,hxd,hM,hLs,hT,hGd,hVs,hdj,hl⟩,hfr,hbox⟩⟩:=hrel;dsimp only at hxd;subst hxd;by_cases hlt:N<B.K
  ·obtain ⟨ad,rv,hA,hx,hcell,hrow⟩:=HO.out.row N hlt;dsimp only at hA;subst hA;have hko:∀ a:Addr,¬ G a.block->a.block<w->wr.cell? a=w.cell? a:=(fun a ha hl=>(hfr.cell (p:=a) (ltl hl al.size) fun hh=>hh.elim (fun h=>ha (HHG.out _ h)) fun e=>by have:=hsb.out; omega).trans (al.cell hl));have HRow:Hid (VecIs wr X Y Lo rv (os.getD N [])):=hdq (hrow.keep (fun a hx hl=>hko a (HX.out.1 _ hx) hl) fun _ _ hq=>hq.keep fun a hy hl=>hko a (HX.out.2 _ hy) hl);have hcell2:wr.cell? (ad.add N)=some rv.val:=(hko _ (by rw [zAj]; exact HX.out.1 _ hx) (zAb hcell)).trans hcell;have hNi:(N:Int)<(B.K:Int):=om;have hN0:(0:Int)<=(N:Int):=om;have hlk:N<B.K+B.V:=om;have HT:=hdq hT;have HGd:=hdq hGd;have HI:=hdq (And.intro hM (And.intro hLs (And.intro hVs (And.intro hdj (And.intro hl (And.intro hfr hbox))))));clear hT hGd hM hLs hVs hdj hl hfr hbox hrow hcell hko;obtain ⟨rA,rn,rcc⟩:=rv;dsimp only [SV.val] at hcell2;(go_wp2_with fail);refine (zK0 (s:=⟨rA,rn,rcc⟩) (l:=N) HT.out HE.out HGd.out.1 HB.out.2.2 HRow.out hlk (fun v=>(HOs.out N v hlt).trans (if_pos hlt:B.lev N v=B.O N v).symm) (HOl.out N) HBs.out hV hn hm HLo.out HK.out).mono ?_;rintro e w1 ⟨⟨u,rfl⟩,G3,⟨d3,bs3,row3,bas3,cols3,lvs3,rb3,rc3,gb3,gc3⟩,hx3,hM3,hL3,hF3,hT3⟩;dsimp only at hx3;subst hx3;have HT3:=hdq hT3;have HI3:=hdq (And.intro hM3 (And.intro hL3 hF3));clear hT3 hM3 hL3 hF3;(go_wp2_with fail);refine (zKR HT3.out HE.out HGd.out hlk hn hm HK.out).mono ?_;rintro e w2 ⟨D4,G4,⟨d4,bs4,row4,bas4,cols4,lvs4,rb4,rc4,gb4,gc4⟩,lv4,b,rfl,hx4,hM4,hL4,hF4,hT4,hG4,hFe4,hc4,hb1,hb0⟩;dsimp only at hx4;subst hx4;obtain ⟨i1,i2,i3,i4,i5,i6,i7⟩:=HI.out;obtain ⟨j1,j2,j3⟩:=HI3.out;have hMc:=j1.trans hM4 j3.size;have hLc:=j2.trans hL4 j3.size;have hFc:=j3.more hF4 j2;have hsq:=hsb.out;have hFw:=i6.more hFc fun y hy=>(i2 y hy).imp .inl id
   have hnH:¬ HH sb:=fun h=>by have:=HHl.out _ h; omega
   obtain ⟨⟨vA,vN,vC⟩,hvv,-,-⟩:=i3.vec;subst hvv;dsimp only [SV.val] at i7 i3 i4
   cases b with
   | false=>
    have hno:¬ Ow ⟨d4,bs2,row2,bas2,cols2,lvs2,rb2,rc2,gb2,gc2⟩ m g2.isSome sb:=(fun h=>(i2 sb h).elim hnH fun e=>om);have hs2:sb<wr.heap.size:=ltl hsr i6.size;obtain ⟨b0,b1,b2,b3⟩:=i7.heap (hFc.block sb hs2 hno);obtain ⟨r0,r1,r2,r3⟩:=HRb.out.heap (hFw.block (w+1) om fun h=>h.elim (fun h=>by have:=HHl.out _ h; omega) fun e=>om);have hl2:sb<w2.heap.size:=ltl hs2 hFc.size;have hvk:=i3.keep hFc i4 (fun y hy=>HT.out.ow hy) hMc
    have hray:N<B.K/\B.Ray:=by
     obtain ⟨c1,s,c2,c3,c4,c5⟩:=hb0 rfl;exact Lin.BP.ray_of HB.out.1 hG4 hFe4 hlk c1 (by have:=HE.out.2.1; omega) c3 c4 fun i hi=>c5 i (by have:=HE.out.2.2; omega)
    have HNK:=hdq hray.1;have HOut:Hid (B.Out av none):=hdq ⟨hray.2,_,Lin.BP.feas_lift HB.out.1 HB.out.2.1 (hG4.feasible_point hFe4)⟩;have hg1:G4 sb:=hMc.old sb (i1.old sb HGs.out.1);have hg2:G4 (w+1):=hMc.old _ (i1.old _ HGs.out.2);have hne:sb ≠ w.heap.size+1:=om;have HVk:=hdq hvk;have HFw:=hdq hFw;clear hT4 hG4 hFe4 hc4 hb1 hb0 hM4 hL4 hF4 i1 i2 i3 i4 i5 i6 i7 j1 j2 j3 hMc hLc hFc hray hvk hFw hno HI3 HI HT HT3 hsq;go_wp2;have hFs:Fr (fun y=>y=sb\/y=w.heap.size+1) w2 ((((w2.setCell ⟨sb,1,none⟩ true).setCell ⟨w+1,0,none⟩ (.slice vA vN vC)).setCell ⟨w.heap.size+1,1,none⟩ true).setCell ⟨w.heap.size+1,2,none⟩ ()):=((((Fr.refl _ w2).set (p:=⟨sb,1,none⟩) (.inl rfl) _).set (p:=⟨w+1,0,none⟩) (.inr rfl) _).set (p:=⟨w.heap.size+1,1,none⟩) (.inr rfl) _).set (p:=⟨w.heap.size+1,2,none⟩) (.inr rfl) _;have hvf:=HVk.out.keep hFs (fun j hj e=>by have:=(HVk.out.lt hj).1; have:=hsb.out; omega) (fun y hy=>hy.elim (fun e=>by rw [e]; exact hg1) fun e=>by rw [e]; exact hg2) (More.refl _ _);have hFf:=(Fr.of_below (G:=HH) al).more ((HFw.out.mono (H:=fun y=>HH y\/y=sb\/y=w.heap.size+1) fun y hy=>hy.imp id .inl).trans (hFs.mono fun y hy=>.inr hy)) fun y hy=>hy.imp id fun e=>by have:=hsb.out; omega
    obtain ⟨sv,hsv,hsn,hvec⟩:=hvf.vec;have HSN:Hid (sv.n<=B.K):=hdq (by rw [hsn]; exact Nat.le_of_lt HNK.out);have HVec:Hid (VecIs ((((w2.setCell ⟨sb,1,none⟩ true).setCell ⟨w+1,0,none⟩ (.slice vA vN vC)).setCell ⟨w.heap.size+1,1,none⟩ true).setCell ⟨w.heap.size+1,2,none⟩ ()) (fun _=>True) (fun _=>True) L sv l):=hdq (hvec.imp (fun _ _ h=>h) fun _ _ hq=>hq.imp fun _ _ _=>trivial);have HFf:=hdq hFf;obtain ⟨q0,q1,q2,-⟩:Box3 ((((w2.setCell ⟨sb,1,none⟩ true).setCell ⟨w+1,0,none⟩ (.slice vA vN vC)).setCell ⟨w.heap.size+1,1,none⟩ true).setCell ⟨w.heap.size+1,2,none⟩ ()) (w+1) (.slice vA vN vC) true ():=⟨by go_simp,by go_simp,by go_simp,by intro o; go_simp⟩;have hH:=hHH.out;subst hH;clear hvf hFf hFs hvec hsn
    refine bodyPost_ret (v:=.agg #[.slice vA vN vC,true,()]) (by simp [results,Tryz.results74,go_sem,q0,q1,q2]) rfl ⟨sv,⟨none,0,0⟩,true,none,by rw [<-hsv],⟨rfl,rfl,HSN.out,l,HVec.out⟩,HOut.out,HFf.out⟩
   | true=>
    obtain ⟨hV4,hd4,hf4,hq4⟩:=OpI.kept i2 i3 i4 i6 i7 hnH hsr HT.out hMc hLc hFc;have hbx4:=i7.heap hq4;have hM4':=i1.trans hMc i6.size;have hL4':=i2.trans hLc i6.size
    have hl4:l=(List.range N).map fun l=>D4.c l n+B.dot (B.lev l) (B.base av B.nb):=by
     rw [i5];apply List.map_congr_left;intro j hj;rw [List.mem_range] at hj;rw [hc4 j hj]
    have hb1':=hb1 rfl;obtain ⟨a1,a2,a3,-⟩:=hT4.aim _ rfl;obtain ⟨z,⟨z0,z1,z2,z3⟩,hz⟩:=a1.elem n (by rw [zAm]; omega);rw [zAL _ (nlr _),show glR n N D4 (B.dot (B.lev N) (B.base av B.nb)) n=D4.c N n+B.dot (B.lev N) (B.base av B.nb) from if_pos rfl] at hz;have hgl:=a1.lt;obtain ⟨k0,k1,k2,k3,k4,k5,k6,kf⟩:=hT4.cells;dsimp only [SV.val] at k0 k1 k2 k3 k4 k5 k6;have ec:cols4.n=n:=hT4.cols.len;have ec2:cols4.n<=cols4.c:=hT4.cols.le;have ec3:cols4.c<=9223372036854775807:=hT4.cols.cap;have hd4l:=hT4.dlt;obtain ⟨cA,cN,cC⟩:=cols4;dsimp only [TV.goal] at z0 z1 z2 z3 hgl k4 k6 ec ec2 ec3 a2 a3 hd4l;subst ec;obtain ⟨b0,b1,b2,b3⟩:=id hbx4;have hsl:=zAb b0;dsimp only at hsl;have hw0:W0.heap.size<=w2.heap.size:=hf4.size;have hnv:cN<cN+1:=om;have hnvi:(cN:Int)<(cN:Int)+1:=om;have hnvj:¬ ((cN:Int)+1<=(cN:Int)):=om;have hn0:(0:Int)<=(cN:Int):=om;have HI4:=hdq (And.intro hV4 (And.intro hd4 (And.intro hf4 (And.intro hbx4 (And.intro hM4' (And.intro hL4' (And.intro hl4 (And.intro hT4 (And.intro hG4 (And.intro hFe4 hb1'))))))))));have HZ:=hdq hz;clear hT4 hG4 hFe4 hc4 hb1 hb0 hM4 hL4 hF4 i1 i2 i3 i4 i5 i6 i7 j1 j2 j3 hMc hLc hFc hFw HI3 HI HT HT3 hsq HGd hV4 hd4 hf4 hbx4 hM4' hL4' hl4 hb1' a1 hz k0 k1 k2 k3 k5 hq4;(go_upto_region 9 with fail);refine zAp 14 (fun f w'=>(w'.cell? ⟨d4,6,none⟩=some (.slice (some gb4) (cN+1) gc4)/\w'.cell? ⟨d4,4,none⟩=some (.slice cA cN cC)/\w'.cell? ⟨gb4,cN*4,none⟩=some (.bool z.num.ng)/\w'.cell? ⟨gb4,cN*4+1,none⟩=some (.slice z.num.A z.num.n z.num.c)/\w'.cell? ⟨gb4,cN*4+2,none⟩=some (.bool z.den.ng)/\w'.cell? ⟨gb4,cN*4+3,none⟩=some (.slice z.den.A z.den.n z.den.c))/\(f=false->w'.cell? sb=some (.slice vA vN vC))) kj ?_;have hS0:(w2.drew.cell? ⟨d4,6,none⟩=some (.slice (some gb4) (cN+1) gc4)/\w2.drew.cell? ⟨d4,4,none⟩=some (.slice cA cN cC)/\w2.drew.cell? ⟨gb4,cN*4,none⟩=some (.bool z.num.ng)/\w2.drew.cell? ⟨gb4,cN*4+1,none⟩=some (.slice z.num.A z.num.n z.num.c)/\w2.drew.cell? ⟨gb4,cN*4+2,none⟩=some (.bool z.den.ng)/\w2.drew.cell? ⟨gb4,cN*4+3,none⟩=some (.slice z.den.A z.den.n z.den.c))/\(false=false->w2.drew.cell? sb=some (.slice vA vN vC)):=⟨⟨k6,k4,z0,z1,z2,z3⟩,fun _=>b0⟩;refine tx1 0 hS0 ?_;refine tkW 1 (.slice vA vN vC) (fun w' hSw=>?_) (hS0) ?_
    ·have:=hSw.2 rfl; go_simp
    simp only [zz];refine tx4 2 3 4 5 hS0 ?_;refine tx4 6 7 8 9 hS0 ?_;refine tx1 10 hS0 ?_;refine tx1 11 hS0 ?_;refine tx1 12 hS0 ?_;refine tk1 13 ?_;intro K hK;go_simp;refine hK.out _ _ ⟨⟨by go_simp,by go_simp,by go_simp,by go_simp,by go_simp,by go_simp⟩,fun _=>by go_simp⟩ ?_;clear hK K;refine tk1 14 ?_;intro K hK;refine zAq _ _ 23 rfl W0 30 iq0 (.agg #[false,(),false,()]) 4 64 Tryz.underlying23 hiq hzq0 hzq1 hzq2 rfl dj (.slice vA vN vC) N (qs.flatMap cells4q) rfl (HI4.out.1.own.alloc _) ⟨w2,0,none⟩ 1 1 (cells4q z) rfl rfl (zA1 _ _) (by intro u hu; simp [cells4q] at hu; rcases hu with rfl | rfl | rfl | rfl <;> rfl) (by have:=HKK.out; simp [maxLen]; omega) (by have:=HKK.out; omega) (by simp; omega) ?_;intro v' W5 hown5 hg5 hnil5 hat5;have hg:(w2.alloc (.cells #[z.num.ng,z.num,z.den.ng,z.den] 30)).grownBy W5 (Value.slice vA vN vC).ownBlock:=⟨hg5.1,hg5.2,hg5.3,hg5.size,hg5.block⟩;obtain ⟨g5,c5,rfl⟩:=ownsRow_succ hown5;obtain ⟨hV4,hd4,hf4,hbx4,hM4',hL4',hl4,hT4,hG4,hFe4,hb1'⟩:=HI4.out;have hkb:∀ y,y<w2.heap.size->(Value.slice vA vN vC).ownBlock ≠ some y->W5.heap[y]?=w2.heap[y]?:=(fun y hy h2=>(hg.block y (by simp; omega) fun e=>h2 e.symm).trans (Below.heap_alloc _ _ _ hy));have kd:=hkb d4 hd4l fun e=>hd4 _ e (.inl rfl)
    have kg:=hkb gb4 hgl fun e=>hd4 _ e (.inr (.inr (.inr ⟨rfl,rfl⟩)))
    have ks:=hkb sb hsl fun e=>by have:=(hV4.lt e).1; omega
    have hApp:=hdq (OpI.app hM4' hL4' hT4 ⟨hG4,hFe4,hb1'⟩ hV4 hd4 hl4 hf4 hbx4 hnH hsr HGs.out.1 HZ.out hown5 hg hat5);have y6:=(cob (a:=⟨d4,6,none⟩) kd).trans k6;have y4:=(cob (a:=⟨d4,4,none⟩) kd).trans k4;have w0':=(cob (a:=⟨gb4,cN*4,none⟩) kg).trans z0;have w1':=(cob (a:=⟨gb4,cN*4+1,none⟩) kg).trans z1;have w2':=(cob (a:=⟨gb4,cN*4+2,none⟩) kg).trans z2;have w3':=(cob (a:=⟨gb4,cN*4+3,none⟩) kg).trans z3;obtain ⟨x0,x1,x2,x3⟩:=hbx4.heap ks;have nd:sb ≠ d4:=(fun e=>(hL4' sb (.inl e)).elim hnH fun h=>om);have ng:sb ≠ gb4:=(fun e=>(hL4' sb (.inr (.inr (.inr ⟨rfl,e⟩)))).elim hnH fun h=>om);have Hfin:Hid (BOp1 W0 G0 HH B av d4 V cN m L sb base (.int .i64 ((N:Int)+1)) (W5.setCell sb (.slice (some g5) (N+1) c5))):=hdq ⟨N+1,_,om,si,hApp.out⟩;clear hV4 hd4 hf4 hbx4 hM4' hL4' hl4 hT4 hG4 hFe4 hb1' hApp hown5 hg5 hnil5 hat5 hg HI4 HZ kd kg ks hkb;simp only [Act.put,zz];refine hK.out _ _ ⟨⟨y6,y4,w0',w1',w2',w3'⟩,fun h=>absurd h dj⟩ ?_;clear hK K;refine tk1 15 ?_;intro K hK;go_simp;refine hK.out _ _ ⟨⟨y6,y4,w0',w1',w2',w3'⟩,fun h=>absurd h dj⟩ ?_;clear hK K;refine tk1 16 ?_;intro K hK;go_simp;refine hK.out _ _ ⟨⟨(World.cell?_setCell_far _ _ _ _ nd).trans y6,(World.cell?_setCell_far _ _ _ _ nd).trans y4,(World.cell?_setCell_far _ _ _ _ ng).trans w0',(World.cell?_setCell_far _ _ _ _ ng).trans w1',(World.cell?_setCell_far _ _ _ _ ng).trans w2',(World.cell?_setCell_far _ _ _ _ ng).trans w3'⟩,fun h=>absurd h dj⟩ ?_;clear hK K;refine zAf kj ?_ _;clear hS0 z0 z1 z2 z3 k4 k6 kf b0 b1 b2 b3 y6 y4 w0' w1' w2' w3' x0 x1 x2 x3;go_wp2;go_roundw;case rel=>exact fn_ Hfin.out
    case measure=>simp [intOf]; omega
  ·(obtain rfl:N=B.K:=om);obtain ⟨⟨vA,vN,vC⟩,hvv,-,-⟩:=hVs.vec;subst hvv;dsimp only [SV.val] at hbox hVs hdj;have H2:BOp2 W0 G0 HH B av d2 V n m L sb base (.slice vA vN vC) (.int .i64 0) wr:=⟨0,nzl _,rfl,⟨⟨D2,G2,_,lv2,g2,qs,l,rfl,hM,hLs,hT,hGd,hVs,hdj,hl⟩,hfr,hbox⟩⟩;obtain ⟨k0,k1,k2,k3,k4,k5,k6,kf⟩:=hT.cells;dsimp only [SV.val] at k0 k1 k2 k3 k4 k5 k6;have hd2l:=hT.dlt;dsimp only at hd2l;clear hT hGd hM hLs hVs hdj hl hfr hbox k1 k2 k3 k4 k5 k6;go_wp2;clear k0 kf;(go_loopw [45] (fun t W=>BOp2 W0 G0 HH B av d2 V n m L sb base (.slice vA vN vC) t W) (fun t _=>V-(intOf t).toNat));case atStart=>exact H2
   case round=>
    clear H2;obtain ⟨k,hk,rfl,HI⟩:=hrel;have eV:=HE.out.1;by_cases hlt:k<V
    ·have hki:(k:Int)<(V:Int):=om;have hlk:B.K+k<B.K+B.V:=om
     have hd0:wr.cell? d2=some (.int .i64 (V:Int)):=by
      obtain ⟨⟨D2,G2,x2,lv2,g2,qs,l,hxd,-,-,hT,-⟩,-⟩:=HI;rw [<-hxd]; exact hT.cells.1
     have hd2r:=zAb hd0;dsimp only at hd2r;have HI:=hdq HI;(go_upto_region 14 with fail);refine zAp 1000 (fun _ w'=>w'.cell? d2=some (.int .i64 (V:Int))) kj ?_;have hS0:wr.drew.cell? d2=some (.int .i64 (V:Int)):=hd0;refine tx4 0 2 3 4 hS0 ?_;refine tx1 5 hS0 ?_;refine tx1 6 hS0 ?_;refine tk1 1 ?_;intro K hK;go_simp;refine (zAN (-1) dj dj _).mono ?_;rintro e w1 ⟨⟨z,rfl,hz⟩,hb1⟩;have h01:Below wr wr w1:=(brf _ _).drew.trans hb1;refine hK.out _ _ ((h01.cell (p:=d2) hd2r).trans hd0) ?_;clear hK K hb1;refine tk1 7 ?_;intro K hK;go_simp;refine (zLf V k om hV om).mono ?_;rintro e w2 ⟨⟨rfl,hR⟩,hb2⟩;have h02:=h01.trans (hb2.mono h01.size);refine hK.out _ _ ((h02.cell (p:=d2) hd2r).trans hd0) ?_;clear hK K;refine tk1 8 ?_;intro K hK;go_simp;refine (zLH (k:=z) (s:=⟨some ⟨w1,0,none⟩,V,V⟩) (l:=uL V k) ((hz.below hb2).qis (qfit01 (.inr (.inr (by decide +kernel))))) (zL4 hR hV) (by show V<=1000000; omega) (by rw [zAZ]; omega) (by rw [zAZ]; omega)).mono ?_;rintro e w3 ⟨⟨sc,rfl,hsc⟩,hb3⟩;have h03:=h02.trans (hb3.mono h02.size);refine hK.out _ _ ((h03.cell (p:=d2) hd2r).trans hd0) ?_;clear hK K;obtain ⟨⟨D2,G2,⟨d3,bs2,row2,bas2,cols2,lvs2,rb2,rc2,gb2,gc2⟩,lv2,g2,qs,l,hxd,hM,hLs,hT,hGd,hVs,hdj,hl⟩,hfr,hbox⟩:=HI.out.below h03;dsimp only at hxd;subst hxd;have hgn:∀ v,((uL V k).map (((-1:Int):Rat)*·)).getD v 0=B.lev (B.K+k) v:=fun v=>by rw [<-eV]; exact zM5 om v
     have HSC:Hid (VecIs w3 (New w2) (New w2) 1 sc ((uL V k).map (((-1:Int):Rat)*·))):=hdq (hsc.loose fun v=>qfit01 (by
      rw [hgn v];unfold Lin.BP.lev;rw [if_neg om]
      split <;> simp))
     have HT:=hdq hT;have HGd:=hdq hGd;have HJ:=hdq (And.intro hM (And.intro hLs (And.intro hVs (And.intro hdj (And.intro hl (And.intro hfr hbox))))));clear hT hGd hM hLs hVs hdj hl hfr hbox hsc hR hz hb2 hb3 h01 h02 h03 HI hS0 hd0 hd2r;refine tk1 9 ?_;intro K hK;go_simp;refine (zK0 (s:=sc) (l:=B.K+k) HT.out HE.out HGd.out.1 HB.out.2.2 HSC.out hlk hgn (by rw [List.length_map,zLF]; exact nlr _) HBs.out hV hn hm (by rw [zAZ]; omega) HK.out).mono ?_;rintro e w5 ⟨⟨u,rfl⟩,G3,⟨d4,bs3,row3,bas3,cols3,lvs3,rb3,rc3,gb3,gc3⟩,hx3,hM3,hL3,hF3,hT3⟩;dsimp only at hx3;subst hx3;refine hK.out _ _ hT3.cells.1 ?_;clear hK K;refine zAf kj ?_ _;have HT3:=hdq hT3;have HI3:=hdq (And.intro hM3 (And.intro hL3 hF3));clear hT3 hM3 hL3 hF3;(go_wp2_with fail);refine (zKR HT3.out HE.out HGd.out hlk hn hm HK.out).mono ?_;rintro e w6 ⟨D5,G5,⟨d5,bs5,row5,bas5,cols5,lvs5,rb5,rc5,gb5,gc5⟩,lv5,b,rfl,hx5,hM5,hL5,hF5,hT5,hG5,hFe5,hc5,hb1,hb0⟩;dsimp only at hx5;subst hx5
     have hbt:b=true:=by
      cases b with
      | true=>rfl
      | false=>
       obtain ⟨c1,s,c2,c3,c4,c5⟩:=hb0 rfl;have:=(Lin.BP.ray_of HB.out.1 hG5 hFe5 hlk c1 (by have:=HE.out.2.1; omega) c3 c4 fun i hi=>c5 i (by have:=HE.out.2.2; omega)).1;omega
     obtain ⟨i1,i2,i3,i4,i5,i6,i7⟩:=HJ.out;obtain ⟨j1,j2,j3⟩:=HI3.out;have hnH:¬ HH sb:=fun h=>by have:=HHl.out _ h; have:=hsb.out; omega
     have hI:=OpI.level i1 i2 i3 i4 i5 (Nat.le_add_right _ _) i6 i7 hnH hsr HT.out (j1.trans hM5 j3.size) (j2.trans hL5 j3.size) (j3.more hF5 j2) hT5 ⟨hG5,hFe5,hb1 hbt⟩ hc5;have Hfin:Hid (BOp2 W0 G0 HH B av d5 V n m L sb base (.slice vA vN vC) (.int .i64 ((k:Int)+1)) w6):=hdq ⟨k+1,om,si,hI⟩;clear hI i1 i2 i3 i4 i5 i6 i7 j1 j2 j3 hT5 hG5 hFe5 hc5 hb1 hb0 hM5 hL5 hF5 HI3 HJ HT HT3 HGd HSC hgn;go_wp2;go_roundw;case rel=>exact fn_ Hfin.out
     case measure=>simp [intOf]; omega
    ·(obtain rfl:k=V:=om);obtain ⟨⟨D2,G2,⟨d3,bs2,row2,bas2,cols2,lvs2,rb2,rc2,gb2,gc2⟩,lv2,g2,qs,l,hxd,hM,hLs,hT,hGd,hVs,hdj,hl⟩,hfr,hbox⟩:=HI;dsimp only at hxd;subst hxd;obtain ⟨hGd1,hGd2,hGd3⟩:=hGd;have vinj:∀ u v,B.vn av u=B.vn av v->u=v:=(fun u v e=>Nat.le_antisymm (Lin.BP.vn_le.1 (Nat.le_of_eq e)) (Lin.BP.vn_le.1 (Nat.le_of_eq e.symm)));have HPt:=hdq (zLx hT (fun i j hi hj e=>hGd1.bInj i j (by have:=HE.out.2.2; omega) (by have:=HE.out.2.2; omega) (vinj _ _ e)) (fun i hi=>by have:=zNc (B:=B) (av:=av) (hGd1.bLt i (by have:=HE.out.2.2; omega)); have:=HE.out; omega) hV hn hm HK.out.l1);rw [zNb HE.out HB.out.1 hGd1 HBs.out.2] at HPt;have HLi:=hdq hl;rw [zMH HE.out.2.1 hGd1] at HLi;have HBest:Hid (B.Out av (some (B.lift av (D2.point (B.prob av))))):=hdq (Lin.BP.best_of HB.out.1 HB.out.2.1 hGd1 hGd2 (by rw [eV]; exact hGd3));have HFit:=hdq (fun v=>zMQ (v:=v) (L:=L) HB.out.2.1 (HK.out.fit D2 hGd1) (by have:=HK.out.le; have:=HK.out.l2; omega));have hno:¬ Ow ⟨d3,bs2,row2,bas2,cols2,lvs2,rb2,rc2,gb2,gc2⟩ m g2.isSome sb:=(fun h=>(hLs sb h).elim (fun h=>by have:=HHl.out _ h; have:=hsb.out; omega) fun e=>om);have hg1:G2 sb:=hM.old sb HGs.out.1;have hg2:G2 (w+1):=hM.old _ HGs.out.2;have hne:sb ≠ w.heap.size+1:=by have:=hsb.out; omega
     have hw0:=hfr.size;have hrb0:=hfr.block (w+1) om fun h=>h.elim (fun h=>by have:=HHl.out _ h; omega) fun e=>hne e.symm
     have HJ:=hdq (And.intro hVs (And.intro hfr (And.intro hbox (HRb.out.heap hrb0))));generalize B.lift av (D2.point (B.prob av))=xs at *;clear hVs hfr hbox hT hGd1 hGd2 hGd3 hM hLs hdj hl hno hrb0 vinj;have hki:¬ (k:Int)<(k:Int):=om;(go_wp2_with fail);refine HPt.out.mono ?_;rintro e w2 ⟨⟨⟨pA,pN,pC⟩,rfl,hps⟩,hb2⟩;obtain ⟨j1,j2,j3,j4⟩:=HJ.out;have hsl:=zAb j3.1;have hrl:=zAb j4.1;dsimp only at hsl hrl;obtain ⟨b0,b1,b2,b3⟩:=j3.heap (hb2.block sb hsl);obtain ⟨r0,r1,r2,r3⟩:=j4.heap (hb2.block _ hrl);have hV2:=hdq (j1.keep (Fr.of_below (G:=fun _=>False) hb2) (fun _ _ h=>h) (fun _ h=>h.elim) (More.refl _ _));have hF2:=hdq (j2.call hb2);have hPs:=hdq hps;have hw2:=hb2.size;clear j1 j2 j3 j4 hps hb2 HJ HPt;dsimp only [SV.val];go_wp2;have hFs:Fr (fun y=>y=sb\/y=w.heap.size+1) w2 ((((w2.setCell ⟨sb,2,none⟩ (.slice pA pN pC)).setCell ⟨w+1,0,none⟩ (.slice vA vN vC)).setCell ⟨w.heap.size+1,1,none⟩ false).setCell ⟨w.heap.size+1,2,none⟩ (.slice pA pN pC)):=((((Fr.refl _ w2).set (p:=⟨sb,2,none⟩) (.inl rfl) _).set (p:=⟨w+1,0,none⟩) (.inr rfl) _).set (p:=⟨w.heap.size+1,1,none⟩) (.inr rfl) _).set (p:=⟨w.heap.size+1,2,none⟩) (.inr rfl) _;have hvf:=hV2.out.keep hFs (fun j hj e=>by have:=(hV2.out.lt hj).1; have:=hsb.out; omega) (fun y hy=>hy.elim (fun e=>by rw [e]; exact hg1) fun e=>by rw [e]; exact hg2) (More.refl _ _);have hFf:=(Fr.of_below (G:=HH) al).more ((hF2.out.mono (H:=fun y=>HH y\/y=sb\/y=w.heap.size+1) fun y hy=>hy.imp id .inl).trans (hFs.mono fun y hy=>.inr hy)) fun y hy=>hy.imp id fun e=>by have:=hsb.out; omega
     obtain ⟨sv,hsv,-,hvec⟩:=hvf.vec;have hkeep:∀ p:Addr,New wr p.block->p.block<w2->World.cell? _ p=w2.cell? p:=fun p hp hl=>hFs.cell hl fun h=>by simp only [New] at hp; rcases h with h | h <;> omega
     have HPc:=hdq (VecAt.keep hPs.out hkeep fun _ _ hq=>QCan.keep hq hkeep)
     have HPf:=hdq (VecAt.loose HPc.out (L:=L) fun v=>by
      by_cases hv:v<B.V
      ·rw [zAS _ _ hv]; exact HFit.out v
      ·rw [zAw _ _ _ (by simpa using hv)]; exact (qfit01 (.inl rfl)).up (by have:=HK.out.l2; omega))
     have HVf:=hdq hvec;have HFf:=hdq hFf;obtain ⟨q0,q1,q2,-⟩:Box3 ((((w2.setCell ⟨sb,2,none⟩ (.slice pA pN pC)).setCell ⟨w+1,0,none⟩ (.slice vA vN vC)).setCell ⟨w.heap.size+1,1,none⟩ false).setCell ⟨w.heap.size+1,2,none⟩ (.slice pA pN pC)) (w+1) (.slice vA vN vC) false (.slice pA pN pC):=⟨by go_simp,by go_simp,by go_simp,by intro o; go_simp⟩;have hH:=hHH.out;subst hH;clear hvf hFf hFs hvec hkeep;refine bodyPost_ret (v:=.agg #[.slice vA vN vC,false,.slice pA pN pC]) (by simp [results,Tryz.results74,go_sem,q0,q1,q2]) rfl ⟨sv,⟨pA,pN,pC⟩,false,some xs,by rw [<-hsv],⟨rfl,by rw [<-HLi.out]; exact HVf.out.imp (fun _ _ h=>h) fun _ _ hq=>hq.imp fun _ _ _=>trivial,HPf.out.imp (fun _ _ _=>trivial) fun _ _ hq=>hq.imp fun _ _ _=>trivial,VecAt.imp HPc.out (fun _ _ _=>trivial) fun _ _ hq=>hq.imp fun _ _ _=>trivial⟩,HBest.out,HFf.out⟩
def uft (f:Nat):TypeId:=if f=1 then 23 else if f<=3 then 3 else 4
structure UT (w:World) (B d:Nat) (n:Int) (bv:Value) (va vb vc vd:Value) (al:Nat->List Value) (cnt:Nat->Nat) (G:Nat->Prop) (W:World):Prop where
 bel:Below w w W
 blk:W.heap[d]?=some (.cells #[.int .i64 n,bv,va,vb,vc,vd,.slice none 0 0] 186 (0,0))
 own:∀ f,1<=f->f<=4->W.ownsRow B (uft f) 1 (four va vb vc vd f) (cnt f) (al f)
 apart:∀ f g j,f ≠ g->1<=f->f<=4->1<=g->g<=4->(four va vb vc vd f).ownBlock=some j->(four va vb vc vd g).ownBlock ≠ some j
 nod:∀ f j,1<=f->f<=4->(four va vb vc vd f).ownBlock=some j->j ≠ d
 gin:∀ x,G x->B<=x/\x<W.heap.size
 gd:G d
 gf:∀ f j,1<=f->f<=4->(four va vb vc vd f).ownBlock=some j->G j
 ge:w.heap.size<=B
 dB:B<=d
section
variable {w W W':World} {B d:Nat} {n:Int} {bv va vb vc vd:Value} {al:Nat->List Value} {cnt:Nat->Nat} {G:Nat->Prop}
theorem UT.dlt (h:UT w B d n bv va vb vc vd al cnt G W):d<W.heap.size:=zAa h.blk
theorem UT.call (h:UT w B d n bv va vb vc vd al cnt G W) (hb:Below W W W'):UT w B d n bv va vb vc vd al cnt G W':=
 ⟨h.bel.trans (hb.mono h.bel.size),(hb.block d h.dlt).trans h.blk,
  fun f h1 h2=>zAr (h.own f h1 h2) fun j hj=>by
   obtain ⟨_,cs,hh⟩:=zAc (h.own f h1 h2) hj;exact hb.block j (zAa hh),
  h.apart,h.nod,fun x hx=>⟨(h.gin x hx).1,ltl (h.gin x hx).2 hb.size⟩,h.gd,h.gf,h.ge,h.dB⟩
theorem UT.cells (h:UT w B d n bv va vb vc vd al cnt G W):W.cell? d=some (.int .i64 n)/\W.cell? ⟨d,1,none⟩=some bv/\W.cell? ⟨d,2,none⟩=some va/\W.cell? ⟨d,3,none⟩=some vb/\W.cell? ⟨d,4,none⟩=some vc/\W.cell? ⟨d,5,none⟩=some vd/\W.cell? ⟨d,6,none⟩=some (.slice none 0 0)/\∀ o,W.frozen? ⟨d,o,none⟩=false:=by
 simp [World.cell?,World.frozen?,h.blk]
theorem UT.app_blk (h:UT w B d n bv va vb vc vd al cnt G W) {f:Nat} (h1:1<=f) (h2:f<=4) {o:Obj} (hg:(W.alloc o).grownBy W2 (four va vb vc vd f).ownBlock) {x:Nat} (hx:x<W.heap.size) (hgx:¬ G x\/x=d):W2.heap[x]?=W.heap[x]?:=
 (hg.block x (by simp; omega) (fun e=>by
  rcases hgx with hgx | rfl
  ·exact hgx (h.gf f x h1 h2 e.symm)
  ·exact h.nod f x h1 h2 e.symm rfl)).trans (Below.heap_alloc _ _ _ hx)
theorem UT.append (h:UT w B d n bv va vb vc vd al cnt G W) {f:Nat} (h1:1<=f) (h2:f<=4) {o:Obj} 
  (hown:W2.ownsRow B (uft f) 1 v' (cnt f+1) (al f++xs)) (hg:(W.alloc o).grownBy W2 (four va vb vc vd f).ownBlock)
  (hat:v'.ownBlock=(four va vb vc vd f).ownBlock\/v'.ownBlock=some (W.alloc o).heap.size) :
  UT w B d n bv (if f=1 then v' else va) (if f=2 then v' else vb) (if f=3 then v' else vc) (if f=4 then v' else vd) (fun g=>if g=f then al f++xs else al g) (fun g=>if g=f then cnt f+1 else cnt g) (fun y=>G y\/v'.ownBlock=some y) (W2.setCell ⟨d,f+1,none⟩ v')/\
  Step W (W2.setCell ⟨d,f+1,none⟩ v') G (fun y=>G y\/v'.ownBlock=some y):=by
 have hsz:W.heap.size<W2.heap.size:=by have:=hg.size; simp at this; omega
 have hnd:=h.nod
 have keep:∀ k,k<W.heap.size->(four va vb vc vd f).ownBlock ≠ some k->W2.heap[k]?=W.heap[k]?:=fun k hk hne=>
  (hg.block k (by simp; omega) (fun e=>hne e.symm)).trans (Below.heap_alloc _ _ _ hk)
 have hblk2:W2.heap[d]?=_:=(keep d h.dlt (fun e=>hnd f d h1 h2 e rfl)).trans h.blk;have kset:∀ k,k ≠ d->(W2.setCell ⟨d,f+1,none⟩ v').heap[k]?=W2.heap[k]?:=fun k hk=>bhs _ _ _ _ hk
 have hdW:=h.dlt
 have hvd:∀ j,v'.ownBlock=some j->j ≠ d/\j<W2.heap.size/\B<=j:=fun j hj=>by
  obtain ⟨g1,cs,hh⟩:=zAc hown hj;refine ⟨?_,zAa hh,g1⟩;rcases hat with e | e
  ·exact h.nod f j h1 h2 (e.symm.trans hj)
  ·rw [e] at hj; cases hj; simp; omega
 refine ⟨⟨?_,?_,?_,?_,?_,?_,.inl h.gd,?_,h.ge,h.dB⟩,⟨by simp [World.setCell]; omega,fun b hb hgb=>?_,fun b hb hgb=>?_⟩⟩
 ·have h3:Below w (W.alloc o) W2:=(brf _ _).grown hg (by have:=h.bel.size; simp; omega) (fun j hj=>by have:=(zAc (h.own f h1 h2) hj).1; have:=h.ge; omega);exact ((h.bel.alloc h.bel.size _).trans h3).setCell (p:=⟨d,f+1,none⟩) (nlt h.ge h.dB) _
 ·rw [zAe _ hblk2];rcases (by omega:f=1\/f=2\/f=3\/f=4) with rfl | rfl | rfl | rfl <;> simp
 ·intro g g1 g2;rw [zBk va vb vc vd v' f g h1 h2 g1 g2];by_cases e:g=f
  ·subst e;simp only [if_true];exact zAr hown fun j hj=>kset j (hvd j hj).1
  ·simp only [if_neg e];(refine zAr (h.own g g1 g2) fun j hj=>?_);obtain ⟨_,cs,hh⟩:=zAc (h.own g g1 g2) hj;exact (kset j (hnd g j g1 g2 hj)).trans (keep j (zAa hh) (h.apart g f j e g1 g2 h1 h2 hj))
 ·intro g k j hgk g1 g2 k1 k2;rw [zBk va vb vc vd v' f g h1 h2 g1 g2,zBk va vb vc vd v' f k h1 h2 k1 k2]
  have old:∀ g j,1<=g->g<=4->(four va vb vc vd g).ownBlock=some j->j<W.heap.size:=fun g j g1 g2 hj=>by
   obtain ⟨_,cs,hh⟩:=zAc (h.own g g1 g2) hj;exact zAa hh
  by_cases eg:g=f
  ·by_cases ek:k=f
   ·omega
   ·rw [if_pos eg,if_neg ek];intro hj hk;rcases hat with e | e
    ·rw [e] at hj; exact h.apart f k j om h1 h2 k1 k2 hj hk
    ·rw [e] at hj; cases hj
     have:=old k _ k1 k2 hk; simp at this; omega
  ·rw [if_neg eg];by_cases ek:k=f
   ·rw [if_pos ek];intro hj hk;rcases hat with e | e
    ·rw [e] at hk; exact h.apart g f j om g1 g2 h1 h2 hj hk
    ·rw [e] at hk; cases hk
     have:=old g _ g1 g2 hj; simp at this; omega
   ·rw [if_neg ek]; exact h.apart g k j hgk g1 g2 k1 k2
 ·intro g j g1 g2;rw [zBk va vb vc vd v' f g h1 h2 g1 g2]
  split
  ·intro hj; exact (hvd j hj).1
  ·intro hj; exact h.nod g j g1 g2 hj
 ·intro x hx;rcases hx with hx | hx
  ·have:=h.gin x hx; exact ⟨this.1,by simp [World.setCell]; omega⟩
  ·have:=hvd x hx; exact ⟨om,by simp [World.setCell]; omega⟩
 ·intro g j g1 g2;rw [zBk va vb vc vd v' f g h1 h2 g1 g2]
  split
  ·intro hj; exact .inr hj
  ·intro hj; exact .inl (h.gf g j g1 g2 hj)
 ·exact (kset b (fun e=>hgb (by rw [e]; exact h.gd))).trans (keep b hb fun e=>hgb (h.gf f b h1 h2 e))
 ·rcases hgb with hgb | hgb
  ·exact hgb
  ·rcases hat with e | e
   ·rw [e] at hgb; exact h.gf f b h1 h2 hgb
   ·rw [e] at hgb; cases hgb; simp at hb; omega
end
def ulists (sr:List Nat) (n:Nat) (bl cl:List Nat) (ll f:Nat):List Value:=if f=1 then sr.map (rowVal (n+1)) else if f=2 then iv bl else if f=3 then iv cl else if f=4 then List.replicate ll (.bool true) else []
def ucnt (a b c d f:Nat):Nat:=if f=1 then a else if f=2 then b else if f=3 then c else if f=4 then d else 0
structure UM (w:World) (B d V:Nat) (bs:SV) (base:List Rat) (sr bl cl:List Nat) (ll n L:Nat) (rf:Nat->Nat->Rat) (va vb vc vd:Value) (G:Nat->Prop) (W:World):Prop where
 pt:UT w B d V bs.val va vb vc vd (ulists sr n bl cl ll) (ucnt sr.length bl.length cl.length ll) G W
 base:VecIs W (fun b=>¬ G b) (fun b=>¬ G b) 1 bs base
 row:∀ i,i<sr.length->RowB W G L (sr.getD i 0) (rowL n (rf i))
 rinj:∀ i j,i<sr.length->j<sr.length->sr.getD i 0=sr.getD j 0->i=j
section
variable {W W':World} {G G':Nat->Prop} {L:Nat}
theorem Step.vecB (s:Step W W' G G') (h:VecIs W (fun b=>¬ G b) (fun b=>¬ G b) M sv l):VecIs W' (fun b=>¬ G' b) (fun b=>¬ G' b) M sv l:=
 (VecAt.keep (h.imp (X':=fun b=>¬ G b/\¬ G' b) (fun b hb hx=>⟨hx,fun hg=>hx (s.back b hb hg)⟩) fun _ _ hq=>hq) (fun _a ha hl=>s.cell hl ha.1) fun _ _ hq=>s.qis hq).imp (fun _ _ h=>h.2) fun _ _ h=>h
theorem RowB.step (h:RowB W G L b l) (s:Step W W' G G') (hG:∀ x,G x->G' x) (hb:W'.heap[b]?=W.heap[b]?):RowB W' G' L b l:=
 (h.grow hG fun x hx hg=>s.back x hx hg).keep hb fun _p hp hl=>s.cell hl fun hg=>hp (hG _ hg)
end
section
variable {w W W1 W2:World} {B d V:Nat} {bs:SV} {base:List Rat} {sr bl cl:List Nat} {ll n L:Nat} {rf:Nat->Nat->Rat} {va vb vc vd v':Value} {G:Nat->Prop} {o:Obj}
theorem UM.call (h:UM w B d V bs base sr bl cl ll n L rf va vb vc vd G W) (hb:Below W W W1):UM w B d V bs base sr bl cl ll n L rf va vb vc vd G W1:=
 ⟨h.pt.call hb,h.base.below hb,fun i hi=>(h.row i hi).below hb,h.rinj⟩
theorem UM.grow (h:UM w B d V bs base sr bl cl ll n L rf va vb vc vd G W) (hb:Below W W W1) (h1:W.heap.size<=b) (h2:b<W1.heap.size) (h3:B<=b):UM w B d V bs base sr bl cl ll n L rf va vb vc vd (fun y=>G y\/y=b) W1:=by
 have hp:=h.pt.call hb;have off:∀ y,y<W.heap.size->¬ G y->¬ (G y\/y=b):=fun y hy hg hg'=>hg'.elim hg fun e=>om
 refine ⟨⟨hp.bel,hp.blk,hp.own,hp.apart,hp.nod,fun x hx=>?_,.inl hp.gd,fun f j a c e=>.inl (hp.gf f j a c e),hp.ge,hp.dB⟩,(h.base.imp off fun _ _ hq=>hq.imp off).below hb,fun i hi=>((h.row i hi).grow (fun x hx=>.inl hx) fun x hx hg=>hg.resolve_right fun e=>om).below hb,h.rinj⟩;rcases hx with hx | rfl
 ·exact hp.gin x hx
 ·exact ⟨h3,h2⟩
theorem UM.rowKeep (h:UM w B d V bs base sr bl cl ll n L rf va vb vc vd G W) {f:Nat} (f1:1<=f) (f4:f<=4) (hg:(W.alloc o).grownBy W2 (four va vb vc vd f).ownBlock) (hR:RowB W G L b l) :
  (W2.setCell ⟨d,f+1,none⟩ v').heap[b]?=W.heap[b]?:=by
 obtain ⟨cs,e,_⟩:=hR.blk;have hbd:b ≠ d:=(zKG h.pt.blk e dj).symm;have hbl:=hR.lt
 have hno:(four va vb vc vd f).ownBlock ≠ some b:=by
  intro hj;obtain ⟨_,cs',hh⟩:=zAc (h.pt.own f f1 f4) hj;refine zKG hh e ?_ rfl;unfold uft
  split
  ·decide
  ·split <;> decide
 exact (bhs _ _ _ _ hbd).trans ((hg.block b (by simp; omega) fun e=>hno e.symm).trans (Below.heap_alloc _ _ _ hbl))
theorem UM.addC {x:Nat} (h:UM w B d V bs base sr bl cl ll n L rf va vb vc vd G W) (hown:W2.ownsRow B 3 1 v' (cl.length+1) (iv cl++[.int .i64 (x:Int)])) (hg:(W.alloc o).grownBy W2 vc.ownBlock) (hat:v'.ownBlock=vc.ownBlock\/v'.ownBlock=some (W.alloc o).heap.size) :
  UM w B d V bs base sr bl (cl++[x]) ll n L rf va vb v' vd (fun y=>G y\/v'.ownBlock=some y) (W2.setCell ⟨d,4,none⟩ v'):=by
 obtain ⟨hQ2,st⟩:=h.pt.append (f:=3) om om (xs:=[.int .i64 (x:Int)]) (v':=v') hown hg hat;have hG:∀ x,G x->G x\/v'.ownBlock=some x:=fun x hx=>.inl hx
 have ea:(fun g=>if g=3 then ulists sr n bl cl ll 3++[.int .i64 (x:Int)] else ulists sr n bl cl ll g)=ulists sr n bl (cl++[x]) ll:=by
  funext g; unfold ulists; by_cases h1:g=1 <;> by_cases h2:g=2 <;> by_cases h3:g=3 <;> by_cases h4:g=4 <;> simp_all [iv]
 have ec:(fun g=>if g=3 then ucnt sr.length bl.length cl.length ll 3+1 else ucnt sr.length bl.length cl.length ll g)=ucnt sr.length bl.length (cl++[x]).length ll:=by
  funext g; unfold ucnt; by_cases h1:g=1 <;> by_cases h2:g=2 <;> by_cases h3:g=3 <;> by_cases h4:g=4 <;> simp_all
 rw [ea,ec] at hQ2;exact ⟨hQ2,st.vecB h.base,fun i hi=>(h.row i hi).step st hG (h.rowKeep (f:=3) om om hg (h.row i hi)),h.rinj⟩
theorem UM.addL (h:UM w B d V bs base sr bl cl ll n L rf va vb vc vd G W) (hown:W2.ownsRow B 4 1 v' (ll+1) (List.replicate ll (.bool true)++[.bool true])) (hg:(W.alloc o).grownBy W2 vd.ownBlock) (hat:v'.ownBlock=vd.ownBlock\/v'.ownBlock=some (W.alloc o).heap.size) :
  UM w B d V bs base sr bl cl (ll+1) n L rf va vb vc v' (fun y=>G y\/v'.ownBlock=some y) (W2.setCell ⟨d,5,none⟩ v'):=by
 obtain ⟨hQ2,st⟩:=h.pt.append (f:=4) om om (xs:=[.bool true]) (v':=v') hown hg hat;have hG:∀ x,G x->G x\/v'.ownBlock=some x:=fun x hx=>.inl hx
 have ea:(fun g=>if g=4 then ulists sr n bl cl ll 4++[.bool true] else ulists sr n bl cl ll g)=ulists sr n bl cl (ll+1):=by
  funext g; unfold ulists; by_cases h1:g=1 <;> by_cases h2:g=2 <;> by_cases h3:g=3 <;> by_cases h4:g=4 <;> simp_all [List.replicate_succ']
 have ec:(fun g=>if g=4 then ucnt sr.length bl.length cl.length ll 4+1 else ucnt sr.length bl.length cl.length ll g)=ucnt sr.length bl.length cl.length (ll+1):=by
  funext g; unfold ucnt; by_cases h1:g=1 <;> by_cases h2:g=2 <;> by_cases h3:g=3 <;> by_cases h4:g=4 <;> simp_all
 rw [ea,ec] at hQ2;exact ⟨hQ2,st.vecB h.base,fun i hi=>(h.row i hi).step st hG (h.rowKeep (f:=4) om om hg (h.row i hi)),h.rinj⟩
theorem UM.addB {x:Nat} (h:UM w B d V bs base sr bl cl ll n L rf va vb vc vd G W) (hown:W2.ownsRow B 3 1 v' (bl.length+1) (iv bl++[.int .i64 (x:Int)])) (hg:(W.alloc o).grownBy W2 vb.ownBlock) (hat:v'.ownBlock=vb.ownBlock\/v'.ownBlock=some (W.alloc o).heap.size) :
  UM w B d V bs base sr (bl++[x]) cl ll n L rf va v' vc vd (fun y=>G y\/v'.ownBlock=some y) (W2.setCell ⟨d,3,none⟩ v'):=by
 obtain ⟨hQ2,st⟩:=h.pt.append (f:=2) om om (xs:=[.int .i64 (x:Int)]) (v':=v') hown hg hat;have hG:∀ x,G x->G x\/v'.ownBlock=some x:=fun x hx=>.inl hx
 have ea:(fun g=>if g=2 then ulists sr n bl cl ll 2++[.int .i64 (x:Int)] else ulists sr n bl cl ll g)=ulists sr n (bl++[x]) cl ll:=by
  funext g; unfold ulists; by_cases h1:g=1 <;> by_cases h2:g=2 <;> by_cases h3:g=3 <;> by_cases h4:g=4 <;> simp_all [iv]
 have ec:(fun g=>if g=2 then ucnt sr.length bl.length cl.length ll 2+1 else ucnt sr.length bl.length cl.length ll g)=ucnt sr.length (bl++[x]).length cl.length ll:=by
  funext g; unfold ucnt; by_cases h1:g=1 <;> by_cases h2:g=2 <;> by_cases h3:g=3 <;> by_cases h4:g=4 <;> simp_all
 rw [ea,ec] at hQ2;exact ⟨hQ2,st.vecB h.base,fun i hi=>(h.row i hi).step st hG (h.rowKeep (f:=2) om om hg (h.row i hi)),h.rinj⟩
theorem UM.addR (h:UM w B d V bs base sr bl cl ll n L rf va vb vc vd G W) (hR:RowB W G L b (rowL n (rf sr.length))) (hne:∀ i,i<sr.length->sr.getD i 0 ≠ b)
  (hown:W2.ownsRow B 23 1 v' (sr.length+1) (sr.map (rowVal (n+1))++[rowVal (n+1) b])) (hg:(W.alloc o).grownBy W2 va.ownBlock) (hat:v'.ownBlock=va.ownBlock\/v'.ownBlock=some (W.alloc o).heap.size) :
  UM w B d V bs base (sr++[b]) bl cl ll n L rf v' vb vc vd (fun y=>G y\/v'.ownBlock=some y) (W2.setCell ⟨d,2,none⟩ v'):=by
 obtain ⟨hQ2,st⟩:=h.pt.append (f:=1) om om (xs:=[rowVal (n+1) b]) (v':=v') hown hg hat;have hG:∀ x,G x->G x\/v'.ownBlock=some x:=fun x hx=>.inl hx
 have ea:(fun g=>if g=1 then ulists sr n bl cl ll 1++[rowVal (n+1) b] else ulists sr n bl cl ll g)=ulists (sr++[b]) n bl cl ll:=by
  funext g; unfold ulists; by_cases h1:g=1 <;> by_cases h2:g=2 <;> by_cases h3:g=3 <;> by_cases h4:g=4 <;> simp_all
 have ec:(fun g=>if g=1 then ucnt sr.length bl.length cl.length ll 1+1 else ucnt sr.length bl.length cl.length ll g)=ucnt (sr++[b]).length bl.length cl.length ll:=by
  funext g; unfold ucnt; by_cases h1:g=1 <;> by_cases h2:g=2 <;> by_cases h3:g=3 <;> by_cases h4:g=4 <;> simp_all
 rw [ea,ec] at hQ2;refine ⟨hQ2,st.vecB h.base,fun i hi=>?_,fun i j hi hj e=>?_⟩
 ·rw [zBG];by_cases h1:i<sr.length
  ·rw [if_pos h1]; exact (h.row i h1).step st hG (h.rowKeep (f:=1) om om hg (h.row i h1))
  ·rw [List.length_append,List.length_singleton] at hi;(obtain rfl:i=sr.length:=om);rw [if_neg h1,if_pos rfl];exact hR.step st hG (h.rowKeep (f:=1) om om hg hR)
 ·rw [zBG,zBG] at e;rw [List.length_append,List.length_singleton] at hi hj;by_cases h1:i<sr.length <;> by_cases h2:j<sr.length
  ·rw [if_pos h1,if_pos h2] at e; exact h.rinj i j h1 h2 e
  ·rw [if_pos h1,if_neg h2,if_pos om] at e; exact absurd e (hne i h1)
  ·rw [if_neg h1,if_pos om,if_pos h2] at e; exact absurd e.symm (hne j h2)
  ·omega
theorem UM.tb (h:UM w B d V bs base sr bl cl ll n L rf va vb vc vd G W) (hc:cl.length=n) (hl:ll=n) (hb:bl.length=m) (hs:sr.length=m) (hn:n<=1000) :
  ∃ x:TV,x.d=d/\x.bs=bs/\TB W G x V n m L base (fun i=>bl.getD i 0) (fun j=>cl.getD j 0) rf (fun _=>true) none:=by
 have o1:=h.pt.own 1 om om;have o2:=h.pt.own 2 om om;have o3:=h.pt.own 3 om om;have o4:=h.pt.own 4 om om;rw [show four va vb vc vd 1=va from rfl,show uft 1=23 from rfl,show ucnt sr.length bl.length cl.length ll 1=sr.length from rfl,show ulists sr n bl cl ll 1=sr.map (rowVal (n+1)) from rfl] at o1;rw [show four va vb vc vd 2=vb from rfl,show uft 2=3 from rfl,show ucnt sr.length bl.length cl.length ll 2=bl.length from rfl,show ulists sr n bl cl ll 2=iv bl from rfl] at o2;rw [show four va vb vc vd 3=vc from rfl,show uft 3=3 from rfl,show ucnt sr.length bl.length cl.length ll 3=cl.length from rfl,show ulists sr n bl cl ll 3=iv cl from rfl] at o3;rw [show four va vb vc vd 4=vd from rfl,show uft 4=4 from rfl,show ucnt sr.length bl.length cl.length ll 4=ll from rfl,show ulists sr n bl cl ll 4=List.replicate ll (.bool true) from rfl] at o4;obtain ⟨s1,e1,a1,b1⟩:=own_arr' (f:=fun i=>.slice (some ⟨sr.getD i 0,0,none⟩) (n+1) (n+1)) o1 fun k hk=>by simp [rowVal,hk]
 obtain ⟨s2,e2,a2,b2⟩:=own_arr' (f:=fun i=>.int .i64 ((bl.getD i 0:Nat):Int)) o2 fun k hk=>by simp [iv,hk]
 obtain ⟨s3,e3,a3,b3⟩:=own_arr' (f:=fun i=>.int .i64 ((cl.getD i 0:Nat):Int)) o3 fun k hk=>by simp [iv,hk]
 obtain ⟨s4,e4,a4,b4⟩:=own_arr' (f:=fun _=>.bool true) o4 fun k hk=>by simp [hk]
 have f1:va=s1.val:=e1;have f2:vb=s2.val:=e2;have f3:vc=s3.val:=e3;have f4:vd=s4.val:=e4;have hk:=h.pt.blk;rw [f1,f2,f3,f4] at hk;rw [hs] at a1;rw [hb] at a2;rw [hc] at a3;rw [hl] at a4
 refine ⟨⟨d,bs,s1,s2,s3,s4,fun i=>sr.getD i 0,fun _=>n+1,0,0⟩,rfl,rfl,⟨hk,h.base,a1,a2,a3,a4,fun i hi=>h.row i om,fun i hi=>⟨nlr _,by show n+1<=_; omega⟩,(fun f e=>by cases e),fun i j hi hj e=>h.rinj i j om om e,fun g e e'=>?_,fun b hg=>(h.pt.gin b hg).2,h.pt.gd,
  fun g e=>h.pt.gf 1 g om om (b1 g e),fun g e=>h.pt.gf 2 g om om (b2 g e),fun g e=>h.pt.gf 3 g om om (b3 g e),fun g e=>h.pt.gf 4 g om om (b4 g e)⟩⟩
 exact h.pt.apart 2 3 g om om om om om (b2 g e) (b3 g e')
end
def addF (f:Nat->Rat) (k j:Nat):Rat:=if j<k then f j else 0
theorem zMj (n:Nat) (f:Nat->Rat):List.replicate (n+1) (0:Rat)=rowL n (addF f 0):=by
 apply List.ext_getElem
 ·simp [rowL]
 ·intro i h1 h2; simp [rowL,addF]
theorem zLr :(rowL n (addF f k)).set k (f k)=rowL n (addF f (k+1)):=by
 rw [zD1];refine zBs fun j _=>?_
 show (if j=k then _ else addF f k j)=addF f (k+1) j;unfold addF;by_cases e:j=k
 ·subst e; rw [if_pos rfl,if_pos om]
 ·rw [if_neg e];by_cases h:j<k
  ·rw [if_pos h,if_pos om]
  ·rw [if_neg h,if_neg om]
theorem zMi :rowL n (addF f (n+1))=rowL n f:=zBs fun j hj=>if_pos om
theorem UM.put4 {bs:SV} {sr bl cl:List Nat} {ll:Nat} {rf:Nat->Nat->Rat} {vd:Value} (h:UM w B d V bs base sr bl cl ll n L rf va vb vc vd G W) (hR:RowB W G L b l) (hne:∀ i,i<sr.length->sr.getD i 0 ≠ b) (k:Nat) (v:QV) :
  UM w B d V bs base sr bl cl ll n L rf va vb vc vd G (Proofs.YtbpngececjihlaaGreat.put4 W b k v):=by
 obtain ⟨cs,e,-⟩:=hR.blk;have hd:d ≠ b:=zKG h.pt.blk e dj;have hc:∀ p:Addr,¬ G p.block->p.block<W->(Proofs.YtbpngececjihlaaGreat.put4 W b k v).cell? p=W.cell? p:=fun p hp _=>zCq _ _ _ _ fun e=>hp (by rw [e]; exact hR.mem)
 refine ⟨⟨zBq h.pt.bel (nlt h.pt.ge (h.pt.gin b hR.mem).1) k v,(zAx W b k v hd).trans h.pt.blk,fun f f1 f4=>zAr (h.pt.own f f1 f4) fun j hj=>zAx W b k v ?_,h.pt.apart,h.pt.nod,fun x hx=>by rw [zBI]; exact h.pt.gin x hx,h.pt.gd,h.pt.gf,h.pt.ge,h.pt.dB⟩,
  VecAt.keep h.base hc fun _ _ hq=>hq.keep hc,fun i hi=>(h.row i hi).put4_other hR.mem (Ne.symm (hne i hi)) k v,h.rinj⟩
 obtain ⟨_,cs',hh⟩:=zAc (h.pt.own f f1 f4) hj;refine zKG hh e ?_;unfold uft
 split
 ·decide
 ·split <;> decide
def BAddLoop (w:World) (G:Nat->Prop) (n L b:Nat) (f:Nat->Rat) (q:QV) (t:Value) (W:World):Prop:=
 ∃ k:Nat,k<=n/\t = .int .i64 (k:Int)/\RowB W (fun y=>G y\/y=b) L b (rowL n (addF f k))/\Below w w W/\Box4 W w (.bool q.num.ng) (.slice q.num.A q.num.n q.num.c) (.bool q.den.ng) (.slice q.den.A q.den.n q.den.c)
def BAddRet (w0 w:World) (G0:Nat->Prop) (B d V:Nat) (bs:SV) (base:List Rat) (sr bl cl:List Nat) (n L:Nat) (rf:Nat->Nat->Rat) (vc vd:Value) (w':World):Prop:=
 ∃ (va vb:Value) (b x:Nat) (G:Nat->Prop),x=V+sr.length/\UM w0 B d V bs base (sr++[b]) (bl++[x]) cl n n L rf va vb vc vd G w'/\Step w w' G0 G
theorem zLd {Lr Lm:Nat} {bs:SV} {rl:List Rat} {sr bl cl:List Nat} {rf:Nat->Nat->Rat} {vd:Value} {q:QV} {most:Rat} (h:UM w0 B d V bs base sr bl cl n n L rf va vb vc vd G w) (hcl:cl.length=n) (hbl:bl.length=sr.length)
  (hrow:VecIs w X Y Lr s rl) (hY:∀ y,Y y->¬ G y) (hm:QIs w Z Lm q most) (hZ:∀ y,Z y->¬ G y) (hLr:Lr<=L) (hLm:Lm<=L) (hL1:1<=L) (hf:∀ j,j<n->rf sr.length j=rl.getD (cl.getD j 0) 0) (hfn:rf sr.length n=most)
  (hi:sr.length<=1000) (hV:V<=1000) (hn:n<=1000) (hcv:∀ j,j<n->cl.getD j 0<=1000000) :
  Calls Tryz.prog 148 #[.pointer (some d),s.val,q.val] w fun e w'=>(∃ v,e = .returned v)/\BAddRet w0 w G B d V bs base sr bl cl n L rf vc vd w':=by
 obtain ⟨i0,hiI,hz0,hz1,hz2⟩:=info_parts zG1;obtain ⟨j0,hj,hy0,hy1,hy2⟩:=info_parts zFA;have H:=hdq h;have HF:=hdq hf;have HFn:=hdq hfn;have HCV:=hdq hcv;have HL1:=hdq hL1;have HLm:=hdq hLm;have HLr:=hdq hLr;have HR:Hid (VecIs w X (fun y=>¬ G y/\y<w.heap.size) Lr s rl):=hdq (hrow.imp (fun _ _ h=>h) fun _ _ hq=>hq.imp fun b hl hy=>⟨hY b hy,hl⟩);have HM:Hid (QIs w (fun y=>¬ G y/\y<w.heap.size) Lm q most):=hdq (hm.imp fun b hl hy=>⟨hZ b hy,hl⟩);have hdl:=h.pt.dlt;have o3:=h.pt.own 3 om om;rw [show four va vb vc vd 3=vc from rfl,show uft 3=3 from rfl,show ucnt sr.length bl.length cl.length n 3=cl.length from rfl,show ulists sr n bl cl n 3=iv cl from rfl] at o3;obtain ⟨⟨cA,cN,cC⟩,e3,a3,-⟩:=own_arr' (f:=fun i=>.int .i64 ((cl.getD i 0:Nat):Int)) o3 fun k hk=>by simp [iv,hk]
 dsimp only [SV.val] at e3;subst e3;have ec:cN=cl.length:=a3.len;have ec2:cN<=cC:=a3.le;have ec3:cC<=9223372036854775807:=a3.cap;have HCl:=hdq hcl;rw [hcl] at ec a3;subst ec;obtain ⟨c0,c1,c2,c3,c4,c5,c6,cf⟩:=h.pt.cells
 have hmk:∀ w,(Instr.makeSlice 23 (.int .i64 ((cN:Int)+1)) (.int .i64 ((cN:Int)+1))).run Tryz.prog w = .ok (.slice (some ⟨w,0,none⟩) (cN+1) (cN+1)) (w.alloc (.cells (zeroQ (cN+1)) 30)):=by
  intro w;have:=zBZ (cN+1) om w;simpa using this
 have HA3:=hdq a3;have hbl3:bl.length<=1000:=om
 clear hbl h hf hfn hcv hL1 hLm hLr hrow hY hm hZ hcl o3 a3;obtain ⟨sA,sN,sC⟩:=s;dsimp only [SV.val];go_enter Tryz.func148,Tryz.ntmps148
 go_wp2;have al:Below w w ((w.alloc (.cells #[q.num.ng,q.num,q.den.ng,q.den] 30)).alloc (.cells (zeroQ (cN+1)) 30)):=(bal).alloc si _;have bM:Box4 ((w.alloc (.cells #[q.num.ng,q.num,q.den.ng,q.den] 30)).alloc (.cells (zeroQ (cN+1)) 30)) w q.num.ng q.num q.den.ng q.den:=bx4;obtain ⟨Bk,hBk⟩:∃ Bk,Hid (Bk=w.heap.size+1):=⟨_,hdq rfl⟩
 have hR0:RowB ((w.alloc (.cells #[q.num.ng,q.num,q.den.ng,q.den] 30)).alloc (.cells (zeroQ (cN+1)) 30)) (fun y=>G y\/y=Bk) L Bk (rowL cN (addF (rf sr.length) 0)):=by
  have:=(RowAt.made (w.alloc (.cells #[q.num.ng,q.num,q.den.ng,q.den] 30)) (cN+1) (fun y=>G y\/y=Bk) (.inr (by rw [hBk.out]; simp))).room.rowB (L:=L) fun k=>by
   have e:(List.replicate (cN+1) (0:Rat)).getD k 0=0:=by
    by_cases hk:k<cN+1
    ·simp [hk]
    ·rw [zAw _ _ _ (by simpa using hk)]
   rw [e]; exact (qfit01 (.inl rfl)).up HL1.out
  rw [zMj,World.size_alloc] at this;rw [hBk.out]; rw [hBk.out] at this; exact this
 have hsz:((w.alloc (.cells #[q.num.ng,q.num,q.den.ng,q.den] 30)).alloc (.cells (zeroQ (cN+1)) 30)).heap.size=w.heap.size+2:=si
 have H0:BAddLoop w G cN L Bk (rf sr.length) q (.int .i64 0) ((w.alloc (.cells #[q.num.ng,q.num,q.den.ng,q.den] 30)).alloc (.cells (zeroQ (cN+1)) 30)):=⟨0,nzl _,rfl,hR0,al,bM⟩;clear hR0 bM hmk c0 c1 c2 c3 c4 c5 c6 cf;generalize (w.alloc (.cells #[q.num.ng,q.num,q.den.ng,q.den] 30)).alloc (.cells (zeroQ (cN+1)) 30)=W0 at *;rw [<-hBk.out];have hGl:∀ y,G y->y<w.heap.size:=fun y hy=>(H.out.pt.gin y hy).2
 go_loopw [21] (fun t W=>BAddLoop w G cN L Bk (rf sr.length) q t W) (fun t _=>cN-(intOf t).toNat)
 case atStart=>exact H0
 case round=>
  clear H0;obtain ⟨k,hk,rfl,hR,hBl,bM⟩:=hrel;have hsw:=hBl.size;have hRl:=hR.lt;by_cases hlt:k<cN
  ·obtain ⟨gcA,eC,x0,-,x2⟩:=(HA3.out.below hBl).elem hlt;dsimp only at eC x0;subst eC;have hki:(k:Int)<(cN:Int):=om;have hki1:(k:Int)<(cN:Int)+1:=om;have hkn:k<cN+1:=om;have hk0:(0:Int)<=(k:Int):=om;have HRR:=hdq hR;clear hR;(go_wp2_with fail);refine (zKH (k:=cl.getD k 0) (s:=⟨sA,sN,sC⟩) (HR.out.below hBl) (HCV.out k hlt)).mono ?_;rintro e w2 ⟨⟨v,rfl,hv⟩,hb2⟩;have hR2:=HRR.out.below hb2;obtain ⟨zv,⟨d0,d1,d2,d3⟩,-⟩:=hR2.elem k (by rw [zAm]; omega);have fz:=hR2.frozen;dsimp only at d1 d2 d3
   have Hfin:Hid (BAddLoop w G cN L Bk (rf sr.length) q (.int .i64 ((k:Int)+1)) (put4 w2 Bk k v)):=hdq ⟨k+1,om,si,by
    rw [<-zLr,HF.out k hlt];refine hR2.put4 (by rw [zAm]; omega) ((hv.mono HLr.out).imp fun y _ hy hg=>hg.elim hy.1 fun e=>by have:=hBk.out; omega),zBq (hBl.trans (hb2.mono hsw)) (by have:=hBk.out; omega) _ _,(bM.below hb2 (zAb bM.1)).heap (zAx _ _ _ _ (by have:=hBk.out; omega))⟩
   clear hR2 hv hb2 hBl HRR x0 bM;go_wp2;go_roundw;case rel=>exact fn_ Hfin.out
   case measure=>simp [intOf]; omega
  ·(obtain rfl:k=cN:=om);have hU:=H.out.grow hBl (b:=Bk) (by have:=hBk.out; omega) hRl (by have:=H.out.pt.dB; have:=hBk.out; omega);obtain ⟨c0,c1,c2,c3,c4,c5,c6,cf⟩:=hU.pt.cells;have hd2:d<wr.heap.size:=om;obtain ⟨zv,⟨d0,d1,d2,d3⟩,-⟩:=hR.elem k (by rw [zAm]; omega);have fz:=hR.frozen;dsimp only at d1 d2 d3;obtain ⟨b0,b1,b2,b3,b4⟩:=bM;have hbl0:w.heap.size<wr.heap.size:=zAb b0;have hkn:k<k+1:=om;have hki:(k:Int)<(k:Int)+1:=om;have hk0:(0:Int)<=(k:Int):=om;have m1:¬ (d=Bk):=by have:=hBk.out; omega
   have m2:¬ (w.heap.size=Bk):=by have:=hBk.out; omega
   have HU:=hdq hU;have HRR:=hdq hR;clear hU hR;have hB1:w.heap.size<=Bk:=by have:=hBk.out; omega
   go_upto_region 7 with fail
   go_region_held3 (Sees w [Bk] wr) (exact kp)
    (fail)
   rename_i hS;have hneB:∀ i,i<sr.length->sr.getD i 0 ≠ Bk:=fun i hi e=>by have:=(H.out.row i hi).lt; have:=hBk.out; omega
   have hU3:=(HU.out.put4 HRR.out hneB k q).call (brf _ _).drew
   have hR3:RowB (put4 wr Bk k q).drew (fun y=>G y\/y=Bk) L Bk (rowL k (rf sr.length)):=by
    rw [<-zMi,<-zLr,HFn.out];exact (HRR.out.put4 (by rw [zAm]; omega) ((((HM.out.below hBl).mono HLm.out)).imp fun y _ hy hg=>hg.elim hy.1 fun e=>om)).below (brf _ _).drew
   have hst:Step w (put4 wr Bk k q).drew G (fun y=>G y\/y=Bk):=⟨by rw [World.size_drew,zBI]; exact hsw,fun b hb hg=>(zAx wr Bk k q om).trans (hBl.block b hb),fun b hb hg=>hg.resolve_right om⟩;clear hS HU HRR d0 d1 d2 d3 fz b0 b1 b2 b3 b4 c0 c1 c2 c3 c4 c5 c6 cf hbl0 hBl HM HR;show Exit.then _ _ Exit.normal _ (put4 wr Bk k q).drew;generalize (put4 wr Bk k q).drew=W3 at *;have HU3:=hdq hU3;have HR3:=hdq hR3;have o1:=hU3.pt.own 1 om om;rw [show four va vb (Value.slice cA k cC) vd 1=va from rfl,show uft 1=23 from rfl,show ucnt sr.length bl.length cl.length k 1=sr.length from rfl,show ulists sr k bl cl k 1=sr.map (rowVal (k+1)) from rfl] at o1;(obtain ⟨⟨vA,vN,vC⟩,e1,a1,-⟩:=own_arr' (f:=fun i=>.slice (some ⟨sr.getD i 0,0,none⟩) (k+1) (k+1)) o1 fun j hj=>by simp [rowVal,hj]);dsimp only [SV.val] at e1;subst e1;have en:vN=sr.length:=a1.len;subst en;have hv2:sr.length<=vC:=a1.le;have hv3:vC<=9223372036854775807:=a1.cap;have o2:=hU3.pt.own 2 om om;rw [show four (Value.slice vA sr.length vC) vb (Value.slice cA k cC) vd 2=vb from rfl,show uft 2=3 from rfl,show ucnt sr.length bl.length cl.length k 2=bl.length from rfl,show ulists sr k bl cl k 2=iv bl from rfl] at o2;obtain ⟨c0,c1,c2,c3,c4,c5,c6,cf⟩:=hU3.pt.cells;have hd3:=hU3.pt.dlt;have hBW:B<=W3.heap.size:=nlt hU3.pt.dB (Nat.le_of_lt hd3);have HO1:=hdq o1;have HO2:=hdq o2;clear hU3 hR3 a1 o1 o2 c1 c4 c5 c6 hd2 m1 m2 hRl;have hsum:IntKind.i64.wrap ((V:Int)+(sr.length:Int))=(V:Int)+(sr.length:Int):=IntWalk.i64_in _ om;(go_upto_region 8 with fail);refine zAp 16 (fun f w'=>(w'.cell? d=some (.int .i64 (V:Int))/\w'.cell? ⟨d,2,none⟩=some (.slice vA sr.length vC))/\(f=false->w'.cell? ⟨d,3,none⟩=some vb)) kj ?_;have hS0:(W3.drew.cell? d=some (.int .i64 (V:Int))/\W3.drew.cell? ⟨d,2,none⟩=some (.slice vA sr.length vC))/\(false=false->W3.drew.cell? ⟨d,3,none⟩=some vb):=⟨⟨c0,c2⟩,fun _=>c3⟩;refine tx4 0 1 2 3 hS0 ?_;refine tkW 4 (vb) (fun w' hSw=>?_) (hS0) ?_
   ·have:=hSw.2 rfl; go_simp
   simp only [zz];refine tx4 5 6 7 8 hS0 ?_;refine tx4 9 10 11 12 hS0 ?_;refine tx1 13 hS0 ?_;refine tx1 14 hS0 ?_;refine tk1 15 ?_;intro K hK;go_simp;have alx:Below W3 W3 (W3.alloc (.cells #[.int .i64 ((V:Int)+(sr.length:Int))] 3)).drew:=(bal).drew;refine hK.out _ _ ⟨⟨(alx.cell (p:=d) hd3).trans c0,(alx.cell (p:=⟨d,2,none⟩) hd3).trans c2⟩,fun _=>(alx.cell (p:=⟨d,3,none⟩) hd3).trans c3⟩ ?_;clear hK K;refine tk1 16 ?_;intro K hK;refine zAq _ _ 48 rfl B 3 i0 (.int .i64 0) 1 8 Tryz.underlying48 hiI hz0 hz1 hz2 rfl dj vb bl.length (iv bl) rfl (HO2.out.alloc _) ⟨W3,0,none⟩ 1 1 [.int .i64 ((V:Int)+(sr.length:Int))] rfl rfl (cell_one_new _ _ _) (by intro u hu; simp at hu; subst hu; rfl) (by simp [maxLen]; omega) om (by simp; omega) ?_;intro v' W5 hown5 hg5 hnil5 hat5;obtain ⟨g5,c5',rfl⟩:=ownsRow_succ hown5;have hg:(W3.alloc (.cells #[.int .i64 ((V:Int)+(sr.length:Int))] 3)).grownBy W5 vb.ownBlock:=⟨hg5.1,hg5.2,hg5.3,hg5.size,hg5.block⟩;have kd:=HU3.out.pt.app_blk (f:=2) (x:=d) om om hg hd3 (.inr rfl);have y0:=(cob (a:=d) kd).trans c0;have y2:=(cob (a:=⟨d,2,none⟩) kd).trans c2;have y3:=(cob (a:=⟨d,3,none⟩) kd).trans c3;have yf:∀ o,W5.frozen? ⟨d,o,none⟩=false:=(fun o=>(World.frozen?_of_block (a:=⟨d,o,none⟩) kd).trans (cf o));have hU5:=HU3.out.addB (x:=V+sr.length) hown5 hg (hat5.imp id fun e=>by rw [e]; simp);have hR5:=HR3.out.step (W':=W5.setCell ⟨d,3,none⟩ (.slice (some g5) (bl.length+1) c5')) (G':=fun y=>(G y\/y=Bk)\/(Value.slice (some g5) (bl.length+1) c5').ownBlock=some y) (HU3.out.pt.append (f:=2) (xs:=[.int .i64 ((V:Int)+(sr.length:Int))]) om om hown5 hg (hat5.imp id fun e=>by rw [e]; simp)).2 (fun _ h=>.inl h) (HU3.out.rowKeep (f:=2) om om hg HR3.out);have hst5:=hdq (hst.trans (HU3.out.pt.append (f:=2) (xs:=[.int .i64 ((V:Int)+(sr.length:Int))]) om om hown5 hg (hat5.imp id fun e=>by rw [e]; simp)).2);have HU5:=hdq hU5;have HR5:=hdq hR5;clear hU5 hR5 hg hg5 hnil5 hat5 hown5 kd HU3 HR3 HO2 HO1;simp only [Act.put,zz];refine hK.out _ _ ⟨⟨y0,y2⟩,fun h=>absurd h dj⟩ ?_;clear hK K;refine tk1 17 ?_;intro K hK;go_simp;refine hK.out _ _ ⟨⟨y0,y2⟩,fun h=>absurd h dj⟩ ?_;clear hK K;refine tk1 18 ?_;intro K hK;go_simp;refine hK.out _ _ ⟨⟨y0,y2⟩,fun h=>absurd h dj⟩ ?_;clear hK K;refine tk1 19 ?_;intro K hK;go_simp;refine hK.out _ _ ⟨⟨by go_simp,by go_simp⟩,fun h=>absurd h dj⟩ ?_;clear hK K;refine zAf kj ?_ _;clear hS0 c0 c2 c3 cf y0 y2 y3 yf;generalize W5.setCell ⟨d,3,none⟩ (.slice (some g5) (bl.length+1) c5')=W6 at *;obtain ⟨G6,hG6⟩:∃ G6:Nat->Prop,Hid (G6=fun y=>(G y\/y=Bk)\/(Value.slice (some g5) (bl.length+1) c5').ownBlock=some y):=⟨_,hdq rfl⟩;have hU6:=HU5.out;have hR6:=HR5.out;rw [<-hG6.out] at hU6 hR6;have hst6:=hst5.out;rw [<-hG6.out] at hst6;have o1:=hU6.pt.own 1 om om;rw [show four (Value.slice vA sr.length vC) (Value.slice (some g5) (bl.length+1) c5') (Value.slice cA k cC) vd 1=Value.slice vA sr.length vC from rfl,show uft 1=23 from rfl,show ucnt sr.length (bl++[V+sr.length]).length cl.length k 1=sr.length from rfl,show ulists sr k (bl++[V+sr.length]) cl k 1=sr.map (rowVal (k+1)) from rfl] at o1;obtain ⟨c0,c1,c2,c3,c4,c5,c6,cf⟩:=hU6.pt.cells;have hd6:=hU6.pt.dlt;have hBW6:B<=W6.heap.size:=nlt hU6.pt.dB (Nat.le_of_lt hd6);have HU6:=hdq hU6;have HR6:=hdq hR6;have HO1:=hdq o1;clear hU6 hR6 o1 HU5 HR5 c0 c1 c3 c4 c5 c6;(go_wp2_with (at_builtin; refine wpList_append_own_at _ rfl _ _ 22 rfl B 23 j0 () 1 24 Tryz.underlying22 hj hy0 hy1 hy2 rfl dj (.slice vA sr.length vC) sr.length (sr.map (rowVal (k+1))) rfl (HO1.out.alloc _) ⟨W6,0,none⟩ 1 1 [rowVal (k+1) Bk] rfl rfl ?cells ?one ?b1 ?b2 ?b3 ?_));case cells=>exact cell_one_new _ _ _
   case one=>intro u hu; simp at hu; subst hu; rfl
   case b1=>simp [maxLen]; omega
   case b2=>omega
   case b3=>simp; omega
   intro v' W7 hown7 hg7 hnil7 hat7;obtain ⟨g7,c7,rfl⟩:=ownsRow_succ hown7;have kd:=HU6.out.pt.app_blk (f:=1) (x:=d) om om hg7 hd6 (.inr rfl);have y2:=(cob (a:=⟨d,2,none⟩) kd).trans c2;have yf:∀ o,W7.frozen? ⟨d,o,none⟩=false:=(fun o=>(World.frozen?_of_block (a:=⟨d,o,none⟩) kd).trans (cf o));have HU7:=hdq (HU6.out.addR HR6.out hneB hown7 hg7 (hat7.imp id fun e=>by rw [e]; simp));have HS7:=hdq (hst6.trans (HU6.out.pt.append (f:=1) (xs:=[rowVal (k+1) Bk]) om om hown7 hg7 (hat7.imp id fun e=>by rw [e]; simp)).2);clear hown7 hg7 hnil7 hat7 kd c2 cf HU6 HR6 HO1;go_wp2;exact bodyPost_end (results_none rfl _ _ _) rfl ⟨⟨_,rfl⟩,_,_,Bk,_,_,rfl,HU7.out,HS7.out⟩
end Go.Proofs.YtbpngececjihlaaGreat
