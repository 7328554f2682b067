/- Texts BnN BnP of this claim. -/
import Derived.Test.YtbpngececjihlaaGreatB25
set_option maxHeartbeats 4000000
set_option maxRecDepth 40000
namespace Go.Proofs.YtbpngececjihlaaGreat
open Go.RowKit Go.Shelf
variable {G G':Nat->Prop} {w w':World} {r V n m L kb i:Nat} {lv:Nat->Bool} {D:Lin.Dict} {base l:List Rat} {bn cn:Nat->Nat}
abbrev TD (W:World) (G:Nat->Prop) (x:TV) (V n m L:Nat) (base:List Rat) (vn:Nat->Nat) (D:Lin.Dict) (lv:Nat->Bool) (g:Option (Nat->Rat)):Prop:=TB W G x V n m L base (fun i=>vn (D.basic i)) (fun j=>vn (D.free j)) D.a lv g
theorem More.refl (w:World) (G:Nat->Prop):More w G G:=⟨fun _ h=>h,fun _ h=>.inl h⟩
theorem More.trans {G'':Nat->Prop} (h:More w G G') (h':More w' G' G'') (hs:w.heap.size<=w'.heap.size):More w G G'':=
 ⟨fun y hy=>h'.old y (h.old y hy),fun y hy=>(h'.new y hy).elim (h.new y) fun e=>.inr (nlt hs e)⟩
theorem More.lower (h:More w' G G') (hs:w.heap.size<=w'.heap.size):More w G G':=⟨h.old,fun y hy=>(h.new y hy).imp id fun e=>nlt hs e⟩
theorem zL3 {vn f:Nat->Nat} {v:Nat}:Lin.turn (fun i=>vn (f i)) r (vn v)=fun i=>vn (Lin.turn f r v i):=by
 funext i;unfold Lin.turn
 split <;> rfl
theorem BPvRet.dict {x:TV} {s:Nat} {vn:Nat->Nat} {g:Option (Nat->Rat)}
  (h:BPvRet w G x V n m L base (Lin.turn (fun i=>vn (D.basic i)) r (vn (D.free s))) (Lin.turn (fun j=>vn (D.free j)) s (vn (D.basic r))) (fun i=>if i=r then Lin.scaled s (D.a r) else Lin.elim s (Lin.scaled s (D.a r)) (D.a i)) lv g w') :
  ∃ G' x',x'.d=x.d/\More w G G'/\Less w (Ow x m g.isSome) (Ow x' m g.isSome)/\Fr (Ow x m g.isSome) w w'/\TD w' G' x' V n m L base vn (D.pivot r s) lv g:=by
 obtain ⟨G',x',h1,h2,h5,h3,h4⟩:=h;rw [zL3,zL3] at h4;exact ⟨G',x',h1,h2,h5,h3,h4⟩
def BRLoop (w:World) (G H:Nat->Prop) (d V n m L:Nat) (base:List Rat) (vn:Nat->Nat) (lv:Nat->Bool) (P:Lin.Prob) (rank:Lin.Dict->Nat) (k:Nat) (W:World):Prop:=
 ∃ (D:Lin.Dict) (G':Nat->Prop) (x:TV),k=rank D/\x.d=d/\More w G G'/\Less w H (Ow x m false)/\Fr H w W/\TD W G' x V n m L base vn D lv none/\Lin.Good P D
def BRestRet (w:World) (G:Nat->Prop) (x0:TV) (V n m L:Nat) (base:List Rat) (vn:Nat->Nat) (lv:Nat->Bool) (P:Lin.Prob) (e:Ending) (w':World):Prop:=
 ∃ (D:Lin.Dict) (G':Nat->Prop) (x:TV) (b:Bool),e = .returned (.bool b)/\x.d=x0.d/\More w G G'/\Less w (Ow x0 m false) (Ow x m false)/\Fr (Ow x0 m false) w w'/\TD w' G' x V n m L base vn D lv none/\Lin.Good P D/\(b=true->Lin.Feas P D)/\(b=false->∀ y,¬ P.Feasible y)
theorem zK9 {x:TV} {vn:Nat->Nat} {P:Lin.Prob} (h:TD w G x V n m L base vn D lv none) (e1:P.n=n) (e2:P.m=m) (hg:Lin.Good P D) (hvn:∀ u v,vn u<=vn v->u<=v) (hn:n<=1000) (hm:m<=1000)
  (hL:L<=LM) (hkL:kb+1<=L) (hk:2*kb+1<=LM) (hfit:∀ D,Lin.Good P D->D.Fits P kb) :
  Calls Tryz.prog 73 #[.pointer (some x.d)] w fun e w'=>BRestRet w G x V n m L base vn lv P e w':=by
 obtain ⟨rank,hrank⟩:=Lin.zF2 P;have HR:=hdq hrank;have HK:=hdq hk;have HL:=hdq hL;have HKL:=hdq hkL;have HFit:=hdq hfit;have HVN:=hdq hvn;have HE:Hid (P.n=n/\P.m=m):=⟨e1,e2⟩;have HG:=hdq hg;have HGl:=hdq h.gin;clear hrank hk hL hkL hfit hvn e1 e2 hg;obtain ⟨d,bs,row,bas,cols,lvs,rb,rc,gb,gc⟩:=x;have ec:cols.n=n:=h.cols.len;have hc2:cols.n<=cols.c:=h.cols.le;have hc3:cols.c<=9223372036854775807:=h.cols.cap;obtain ⟨cA,cnn,cc⟩:=cols;dsimp only at ec hc2 hc3;subst ec;obtain ⟨k0,k1,k2,k3,k4,k5,k6,kf⟩:=h.cells;dsimp only [SV.val] at k0 k1 k2 k3 k4 k5 k6;have hdl:=h.dlt;dsimp only at hdl;have H:=hdq h;clear h;obtain ⟨HO,hHO⟩:∃ HO,Hid (HO=Ow ⟨d,bs,row,bas,⟨cA,cnn,cc⟩,lvs,rb,rc,gb,gc⟩ m false):=⟨_,hdq rfl⟩;have HOG:Hid (∀ y,HO y->G y):=hdq fun y hy=>H.out.ow (by rw [hHO.out] at hy; exact hy)
 go_enter Tryz.func73,Tryz.ntmps73
 go_wp2;obtain ⟨n,hne⟩:∃ n,n=cnn:=⟨_,rfl⟩;subst hne;have al:Below w w ((w.alloc (.cells #[.pointer (some d)] 121)).alloc (.cells #[.int .i64 (n:Int)] 3)):=(bal).alloc si _;have y1:((w.alloc (.cells #[.pointer (some d)] 121)).alloc (.cells #[.int .i64 (n:Int)] 3)).cell? w=some (.pointer (some d)):=by go_simp
 have y2:((w.alloc (.cells #[.pointer (some d)] 121)).alloc (.cells #[.int .i64 (n:Int)] 3)).cell? ⟨w+1,0,none⟩=some (.int .i64 (n:Int)):=by go_simp
 have hls:w.heap.size+1<((w.alloc (.cells #[.pointer (some d)] 121)).alloc (.cells #[.int .i64 (n:Int)] 3)).heap.size:=si
 clear k0 k1 k2 k3 k4 k5 k6 kf;generalize (w.alloc (.cells #[.pointer (some d)] 121)).alloc (.cells #[.int .i64 (n:Int)] 3)=W0 at *;have H0:BRLoop W0 G HO d V n m L base vn lv P rank (rank D) W0:=⟨D,G,_,rfl,rfl,More.refl _ _,by rw [hHO.out]; exact Less.refl _ _,Fr.refl _ _,H.out.below al,HG.out⟩;clear H HG;go_loopg [] (rank D) (fun k W=>BRLoop W0 G HO d V n m L base vn lv P rank k W)
 case atStart=>exact H0
 case round=>
  clear H0;obtain ⟨D,G',⟨d',bs',row',bas',cols',lvs',rb',rc',gb',gc'⟩,hgk,hxd,hMo,hLs,hF,hD,hG⟩:=hrel;dsimp only at hxd;subst hxd;have z1:wr.cell? w=some (.pointer (some d')):=(hF.cell (p:=w) (by show w.heap.size<_; omega) fun hg=>by have:=HGl.out _ (HOG.out _ hg); dsimp only at this; omega).trans y1;have z2:wr.cell? ⟨w+1,0,none⟩=some (.int .i64 (n:Int)):=(hF.cell (p:=⟨w+1,0,none⟩) (by show w.heap.size+1<_; omega) fun hg=>by have:=HGl.out _ (HOG.out _ hg); dsimp only at this; omega).trans y2;have hsz:=hF.size;have hfit:=HFit.out D hG;obtain ⟨E1,E2⟩:=HE.out;unfold Lin.Dict.Fits at hfit;rw [E1,E2] at hfit;have HFA:=hdq hfit.1;have HGk:=hdq hgk;clear hfit E1 E2 hgk;obtain ⟨k0,k1,k2,k3,k4,k5,k6,kf⟩:=hD.cells;dsimp only [SV.val] at k0 k1 k2 k3 k4 k5 k6;have hdl2:=hD.dlt;dsimp only at hdl2;have HD:=hdq hD;clear hD k0 k1 k2 k5 k6;go_wp2_with fail
  refine (zKQ (fn:=150) (p:=fun i=>decide (D.a i n<0)) HD.out.bas (fun _ _=>rfl) fun W i hi hb=>?_).mono ?_
  ·exact zMf (HD.out.below hb) hi (nlr _) ((hb.cell (p:=w) (by show w.heap.size<_; omega)).trans z1) ((hb.cell (p:=⟨w+1,0,none⟩) (by show w.heap.size+1<_; omega)).trans z2)
  rintro e w1 ⟨⟨r,is,rfl,hL⟩,hb1⟩;have HL1:=hdq hL;clear hL;have hD1:=HD.out.below hb1;have hF1:=hF.call hb1;have x1:w1.cell? w=some (.pointer (some d')):=(hb1.cell (p:=w) (by show w.heap.size<_; omega)).trans z1;have x2:w1.cell? ⟨w+1,0,none⟩=some (.int .i64 (n:Int)):=(hb1.cell (p:=⟨w+1,0,none⟩) (by show w.heap.size+1<_; omega)).trans z2;have hs1:=hb1.size
  cases is with
  | false=>
   have HFe:Hid (Lin.Feas P D):=hdq fun i hi=>by
    obtain ⟨E1,E2⟩:=HE.out;rw [E2] at hi; rw [E1]
    rcases HL1.out with ⟨-,-,h⟩ | ⟨h,-⟩
    ·have:=h i hi; simp at this; grind
    ·cases h
   have al2:Below w1 w1 (w1.alloc (.cells #[r] 3)):=bal;have HR1:=hdq (hD1.below al2);have HF1:=hdq ((Fr.of_below (G:=HO) al).trans (hF1.call al2));have HM1:=hdq (hMo.lower al.size);have HLs:=hdq (hLs.lower al.size);clear hD1 hF1 hF hMo HD;go_wp2;(try rw [Exit.noGoto_ret]);go_ret;have hH:=hHO.out;subst hH
   exact ⟨D,G',⟨_,bs',row',bas',cols',lvs',rb',rc',gb',gc'⟩,true,rfl,rfl,HM1.out,HLs.out,HF1.out,HR1.out,hG,fun _=>HFe.out,fun h=>by cases h⟩
  | true=>
   have hsel:r<m/\D.a r n<0/\∀ i,i<m->D.a i n<0->D.basic r<=D.basic i:=by
    rcases HL1.out with ⟨h,-⟩ | ⟨-,h1,h2,h3⟩
    ·cases h
    ·exact ⟨h1,by simpa using h2,fun i hi h=>HVN.out _ _ (h3 i hi (by simpa using h))⟩
   obtain ⟨hr,hneg,hmin⟩:=hsel;have Hneg:=hdq hneg;have Hmin:=hdq hmin;clear hneg hmin;obtain ⟨k0,k1,k2,k3,k4,k5,k6,kf⟩:=hD1.cells;dsimp only [SV.val] at k0 k1 k2 k3 k4 k5 k6;have HD1:=hdq hD1;clear hD1 HD k0 k1 k2 k3 k5 k6 z1 z2 hF;have hdl3:d'<w1.heap.size:=om;have hxl3:w.heap.size<w1.heap.size:=om;have hxl4:w.heap.size+1<w1.heap.size:=om;(go_wp2_with fail);have al2:Below w1 w1 (w1.alloc (.cells #[r] 3)):=bal;refine (zKQ (fn:=151) (p:=fun j=>decide (D.a r j<0)) (HD1.out.below al2).cols (fun _ _=>rfl) fun W j hj hb=>?_).mono ?_
   ·exact zMg ((HD1.out.below al2).below hb) hr (show j<=n by omega) ((hb.cell (p:=w) (by simp; omega)).trans (by go_simp)) ((hb.cell (p:=w1) si).trans (by go_simp))
   rintro e w2 ⟨⟨c,is,rfl,hL⟩,hb2⟩;have HL2:=hdq hL;clear hL;have h12:=al2.trans (hb2.mono al2.size);have hD2:=HD1.out.below h12;have hF2:=hF1.call h12;have v1:w2.cell? w=some (.pointer (some d')):=(h12.cell (p:=w) hxl3).trans x1;have v2:w2.cell? w1=some (.int .i64 (r:Int)):=(hb2.cell (p:=w1) si).trans (by go_simp);have hs2:=h12.size;clear hb2 k4 kf HD1 hF1 x1 x2
   cases is with
   | false=>
    have HFe:Hid (∀ y,¬ P.Feasible y):=hdq fun y=>by
     obtain ⟨E1,E2⟩:=HE.out;refine Lin.zB6 hG (r:=r) om (by rw [E1]; exact Hneg.out) (fun j hj=>?_) y;rw [E1] at hj;rcases HL2.out with ⟨-,-,h⟩ | ⟨h,-⟩
     ·have:=h j hj; simp at this; grind
     ·cases h
    have HR1:=hdq hD2;have HF1:=hdq ((Fr.of_below (G:=HO) al).trans hF2);have HM1:=hdq (hMo.lower al.size);have HLs:=hdq (hLs.lower al.size);clear hD2 hF2 hMo;go_wp2;(try rw [Exit.noGoto_ret]);go_ret;have hH:=hHO.out;subst hH
    exact ⟨D,G',⟨_,bs',row',bas',cols',lvs',rb',rc',gb',gc'⟩,false,rfl,rfl,HM1.out,HLs.out,HF1.out,HR1.out,hG,(fun h=>by cases h),fun _=>HFe.out⟩
   | true=>
    have hsel:Lin.RSel P D r c:=by
     obtain ⟨E1,E2⟩:=HE.out;rcases HL2.out with ⟨h,-⟩ | ⟨-,h1,h2,h3⟩
     ·cases h
     ·exact ⟨om,by rw [E1]; exact Hneg.out,fun i hi h=>Hmin.out i om (by rw [E1] at h; exact h),om,by simpa using h2,fun j hj h=>HVN.out _ _ (h3 j om (by simpa using h))⟩
    have hcn:c<n:=by have:=hsel.hs; have:=HE.out.1; omega
    have hGp:=hG.pivot hsel.hr hsel.hs hsel.ne;have hfp:=HFit.out _ hGp;unfold Lin.Dict.Fits at hfp;rw [HE.out.1,HE.out.2] at hfp;have Hlt:Hid (rank (D.pivot r c)<gk):=by show _<_; rw [HGk.out]; exact HR.out D r c hG hsel
    have HFP:=hdq hfp.1;have HS:=hdq hsel;clear hfp hsel
    have hE1:∀ i j,i<m->i ≠ r->j<=n->Lin.Fits kb (Lin.elim c (Lin.scaled c (D.a r)) (D.a i) j):=fun i j hi hne hj=>by
     have:=HFP.out i j hi hj;simp only [Lin.Dict.pivot,if_neg hne] at this;exact this
    have hE2:∀ j,j<=n->Lin.Fits kb (Lin.scaled c (D.a r) j):=fun j hj=>by
     have:=HFP.out r j hr hj;simp only [Lin.Dict.pivot,if_true] at this;exact this
    have HE1:=hdq hE1;have HE2:=hdq hE2;clear hE1 hE2;(go_wp2_with fail);refine (zKY (kb:=kb) hD2 hr hcn hn hm HL.out HS.out.ne HFA.out HE2.out (fun i j hi hne hj=>(zAv (HE1.out i j hi hne hj)).up HKL.out) (fun j hj=>(zAv (HE2.out j hj)).up HKL.out) (fun f hf=>by cases hf) HK.out).mono ?_;rintro e w3 ⟨⟨v,rfl⟩,hret⟩;obtain ⟨G3,x3,hx3,hM3,hL3,hF3,hD3⟩:=hret.dict;have Hfin:Hid (BRLoop W0 G HO d' V n m L base vn lv P rank (rank (D.pivot r c)) w3):=hdq ⟨_,G3,x3,rfl,hx3,hMo.trans hM3 hF2.size,hLs.trans hL3 hF2.size,hF2.more hF3 hLs,hD3,hGp⟩;clear hD2 hF2 hD3 hF3 hM3 hMo hret;go_wp2;(go_roundg (rank (D.pivot r c)));case measure=>exact Hlt.out
    case rel=>exact Hfin.out
def bptTo (n:Nat) (bn:Nat->Nat) (a:Nat->Nat->Rat) (base:Nat->Rat) (i v:Nat):Rat:=if Lin.find bn v i<i then a (Lin.find bn v i) n else base v
theorem zLe {a:Nat->Nat->Rat} {base:Nat->Rat} (inj:∀ j,j<i->bn j ≠ bn i):bptTo n bn a base (i+1)=Lin.turn (bptTo n bn a base i) (bn i) (a i n):=by
 funext v;show (if Lin.find bn v (i+1)<i+1 then _ else _)=if v=bn i then _ else if Lin.find bn v i<i then _ else _
 by_cases hv:v=bn i
 ·subst hv;have h1:¬ Lin.find bn (bn i) i<i:=Lin.zCQ inj;have h2:Lin.find bn (bn i) (i+1)=i:=by simp [Lin.find,h1]
  rw [h2,if_pos om,if_pos rfl]
 ·rw [if_neg hv];by_cases h1:Lin.find bn v i<i
  ·have h2:Lin.find bn v (i+1)=Lin.find bn v i:=(by simp [Lin.find,h1]);rw [h2,if_pos om,if_pos h1]
  ·have h2:Lin.find bn v (i+1)=i+1:=(by simp [Lin.find,h1,Ne.symm hv]);rw [h2,if_neg om,if_neg h1]
def PtAt (w:World) (V:Nat) (A:Option Addr) (f:Nat->Rat) (W:World):Prop:=
 (V=0/\A=none)\/∃ b,A=some ⟨b,0,none⟩/\w.heap.size<=b/\RowAt W (fun y=>y<w.heap.size\/y=b) b ((List.range V).map f)
theorem RsRet.pt {e:Ending} (h:RsRet w (resize l V) V e w'):∃ A,e = .returned (.slice A V V)/\PtAt w V A (fun k=>l.getD k 0) w':=by
 rcases h with ⟨rfl,rfl⟩ | ⟨b,rfl,hb,hR⟩
 ·exact ⟨none,rfl,.inl ⟨rfl,rfl⟩⟩
 ·exact ⟨some ⟨b,0,none⟩,by rw [zMD],.inr ⟨b,rfl,hb,hR⟩⟩
def BPtLoop (w:World) (V n m:Nat) (bn:Nat->Nat) (a:Nat->Nat->Rat) (base:Nat->Rat) (A:Option Addr) (t:Value) (W:World):Prop:=
 ∃ i:Nat,i<=m/\t = .int .i64 i/\PtAt w V A (bptTo n bn a base i) W/\Below w w W
theorem zLx {x:TV} {a:Nat->Nat->Rat} {g:Option (Nat->Rat)} (h:TB w G x V n m L base bn cn a lv g) (inj:∀ i j,i<m->j<m->bn i=bn j->i=j) (hB:∀ i,i<m->bn i<=1000000) (hV:V<=1000) (hn:n<=1000) (hm:m<=1000) (hL:L<=LM) :
  Calls Tryz.prog 155 #[.pointer (some x.d)] w fun e w'=>VRet w ((List.range V).map (bptTo n bn a (fun k=>base.getD k 0) m)) e w'/\Below w w w':=by
 have HL:=hdq hL;have HL1:Hid (1<=LM):=by show _<=_; rw [zAZ]; omega
 have HI:=hdq inj;have HB:=hdq hB;clear hL inj hB;obtain ⟨d,bs,row,bas,cols,lvs,rb,rc,gb,gc⟩:=x;have er:row.n=m:=h.row.len;have hr2:row.n<=row.c:=h.row.le;have hr3:row.c<=9223372036854775807:=h.row.cap;have ec:cols.n=n:=h.cols.len;have hc2:cols.n<=cols.c:=h.cols.le;have hc3:cols.c<=9223372036854775807:=h.cols.cap;have eb:bas.n=m:=h.bas.len;have hb2:bas.n<=bas.c:=h.bas.le;have hb3:bas.c<=9223372036854775807:=h.bas.cap;obtain ⟨cA,cnn,cc⟩:=cols;obtain ⟨bA,bnn,bcc⟩:=bas;obtain ⟨rA,rn,rcc⟩:=row;dsimp only at er hr2 hr3 ec hc2 hc3 eb hb2 hb3;subst er ec eb;obtain ⟨k0,k1,k2,k3,k4,k5,k6,kf⟩:=h.cells;dsimp only [SV.val] at k0 k1 k2 k3 k4 k5 k6;have hdl:=h.dlt;dsimp only at hdl;have H:=hdq h;clear h;go_enter Tryz.func155,Tryz.ntmps155
 have hbs:=H.out.base;have hdl0:d<w.heap.size:=hdl;go_upto_region 1 with fail
 refine zAp 1000 (fun _ w'=>Sees w [] w w') kj ?_;have hS0:Sees w [] w w.drew:=Sees.st si (nlr _);refine tx4 0 1 2 3 hS0 ?_;refine tx4 4 5 6 7 hS0 ?_;refine tk1 8 ?_;intro K hK;go_simp;refine (zLn (s:=bs) (hbs.below (brf _ _).drew) V hV HL1.out).mono ?_;rintro e w1 ⟨hrs,hb1⟩;obtain ⟨A,rfl,hP⟩:=hrs.pt;have hS1:=Kept.call2 hb1 hS0;have hbl1:=hS1.kept.whole;refine hK.out _ _ hS1 ?_;clear hK K hS0 hb1 hrs;refine tx1 9 hS1 ?_;refine zAf kj ?_ _;have H0:BPtLoop w V cnn bnn bn a (fun k=>base.getD k 0) A (.int .i64 0) w1:=⟨0,nzl _,rfl,hP,hbl1⟩;rw [<-hbl1.cell (p:=⟨d,3,none⟩) hdl] at k3;have hdl1:d<w1.heap.size:=ltl hdl hbl1.size;clear hP hbl1 hS1 hbs k0 k1 k2 k4 k5 k6 kf;go_wp2;clear k3;go_loopw [20] (fun t W=>BPtLoop w V cnn bnn bn a (fun k=>base.getD k 0) A t W) (fun t _=>bnn-(intOf t).toNat)
 case atStart=>exact H0
 case round=>
  clear H0;obtain ⟨i,hi,rfl,hP,hBl⟩:=hrel;have hsw:=hBl.size;by_cases hlt:i<bnn
  ·have hD:=H.out.below hBl;obtain ⟨gbA,eB,b0,-,b2⟩:=hD.bas.elem hlt;obtain ⟨gr,eR,hr,-,tr⟩:=hD.row.elem hlt;obtain ⟨hca,hcb⟩:=hD.caps i hlt;obtain ⟨v,⟨v0,v1,v2,v3⟩,hv⟩:=(H.out.rows i hlt).elem cnn (by rw [zAm]; omega);rw [zAL _ (nlr _)] at hv;have hrl:=(H.out.rows i hlt).lt;dsimp only at eB b0 b2 eR hr tr hca hcb v0 v1 v2 v3 hrl;subst eB eR;have hio:=HI.out;have hgrw:gr<w.heap.size:=by obtain ⟨cs,e⟩:=H.out.row.block rfl; exact zAa e
   have hnv:cnn<cnn+1:=om;have hnvi:(cnn:Int)<(cnn:Int)+1:=om;have hn0:(0:Int)<=(cnn:Int):=om;have hii:(i:Int)<(bnn:Int):=om;have hi0:(0:Int)<=(i:Int):=om;rw [<-hBl.cell (p:=⟨rb i,cnn*4,none⟩) hrl] at v0;rw [<-hBl.cell (p:=⟨rb i,cnn*4+1,none⟩) hrl] at v1;rw [<-hBl.cell (p:=⟨rb i,cnn*4+2,none⟩) hrl] at v2;rw [<-hBl.cell (p:=⟨rb i,cnn*4+3,none⟩) hrl] at v3;have HV:=hdq (hv.old.below hBl);obtain ⟨k0,k1,k2,k3,k4,k5,k6,kf⟩:=hD.cells;dsimp only [SV.val] at k0 k1 k2 k3 k4 k5 k6;have hst:∀ j,j<i->bn j ≠ bn i:=fun j hj e=>by have:=HI.out j i om hlt e; omega
   by_cases hbv:bn i<V
   ·have hbvi:(bn i:Int)<(V:Int):=om;rcases hP with ⟨h,-⟩ | ⟨b,rfl,hb,hR⟩
    ·omega
    ·obtain ⟨zv,⟨d0,d1,d2,d3⟩,-⟩:=hR.elem (bn i) (by simpa using hbv);have fz:=hR.frozen;have hbb:=hR.lt;dsimp only at d1 d2 d3;have HR:=hdq hR;have t1:d<wr.heap.size:=om;have t2:gr<wr.heap.size:=om;have t3:rb i<wr.heap.size:=om;have m1:¬ (d=b):=om;have m2:¬ (gr=b):=om;have m3:¬ (rb i=b):=om;clear hR hD hv;go_upto_region 6 with fail
     go_region_held3 (Sees w [b] wr) (exact kp)
      (first
       | (go_at_call 99; ((with_reducible refine (zAT (a:=v) (HV.out.keptOld sk) HL.out).mono ?_); rintro e w3 ⟨⟨z,rfl,hz⟩,hb3⟩))
       | fail)
     all_goals
      rename_i hS;have h2:Below wr wr w3:=(brf _ _).drew.trans hb3
      have Hfin:Hid (BPtLoop w V cnn bnn bn a (fun k=>base.getD k 0) (some ⟨b,0,none⟩) (.int .i64 ((i:Int)+1)) (put4 w3 b (bn i) z)):=
       hdq ⟨i+1,om,si,.inr ⟨b,rfl,hb,by
        rw [zLe hst,<-zOd];refine (HR.out.below h2).put4 (by simpa using hbv) (hz.imp fun y _ hy hg=>?_);simp only [New,World.size_drew] at hy;rcases hg with h | h <;> omega⟩,zBq (hBl.trans (h2.mono hBl.size)) hb _ _⟩
      clear hS HR hz h2 hb3 d0 d1 d2 d3 fz v0 v1 v2 v3 k0 k1 k2 k3 k4 k5 k6 kf hr b0;go_wp2;go_roundw;case rel=>exact fn_ Hfin.out
      case measure=>simp [intOf]; omega
   ·have hbvi:¬ (bn i:Int)<(V:Int):=om
    have Hfin:Hid (BPtLoop w V cnn bnn bn a (fun k=>base.getD k 0) A (.int .i64 ((i:Int)+1)) wr):=
     hdq ⟨i+1,om,si,by
      rcases hP with h | ⟨b,e,hb,hR⟩
      ·exact .inl h
      ·exact .inr ⟨b,e,hb,by rw [zLe hst,zMY _ _ om]; exact hR⟩,hBl⟩
    clear hP hv hD;go_wp2;go_roundw;case rel=>exact fn_ Hfin.out
    case measure=>simp [intOf]; omega
  ·obtain rfl:i=bnn:=om
   have hV:VRet w ((List.range V).map (bptTo cnn bn a (fun k=>base.getD k 0) i)) (.returned (.slice A V V)) wr:=by
    rcases hP with ⟨rfl,rfl⟩ | ⟨b,rfl,hb,hR⟩
    ·exact ⟨⟨none,0,0⟩,rfl,⟨rfl,nlr _,nzl _,fun k hk=>absurd hk si⟩⟩
    ·exact VRet.of si om hb hR
   have HVR:=hdq hV;clear hP hV;go_wp2;go_ret;exact ⟨HVR.out,hBl⟩
end Go.Proofs.YtbpngececjihlaaGreat
