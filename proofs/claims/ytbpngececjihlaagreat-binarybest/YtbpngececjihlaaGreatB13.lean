/- Texts Elim RowP Pelim of this claim. -/
import Derived.Test.YtbpngececjihlaaGreatB11
set_option maxHeartbeats 4000000
set_option maxRecDepth 40000
namespace Go.Proofs.YtbpngececjihlaaGreat
open Go.RowKit Go.Shelf
variable {q:Rat} {k r col V b kb:Nat} {G:Nat->Prop} {w w' w1 w2:World} {f:Nat->Rat} {l:List Rat}
theorem zAv (h:Lin.Fits k q):QFit (k+1) q:=by
 have h1:2 ^ k<Num.base ^ (k+1):=ltl (Nat.pow_lt_pow_right om om) (Nat.pow_le_pow_left (show 2<=Num.base by decide) (k+1));exact ⟨Nat.lt_of_le_of_lt h.1 h1,Nat.lt_of_le_of_lt h.2 h1⟩
theorem zPJ :(qsign q == 0)=decide (q=0):=by
 by_cases h:q=0
 ·subst h; simp [qsign]
 ·rw [zDd h]; simp [h]
theorem QCan.fr {v:QV} (h:QCan w (fun x=>¬ G x) v q) (hW:Fr (fun y=>y=r) w w') (hr:G r):QCan w' (fun x=>¬ G x) v q:=
 h.keep fun _ hp hl=>hW.cell hl fun e=>hp (by rw [e]; exact hr)
def elimTo (col:Nat) (g f:Nat->Rat) (k:Nat):Nat->Rat:=fun j=>if j<k then Lin.elim col g f j else if j=col then 0 else f j
theorem zGt (col:Nat) (g f:Nat->Rat):elimTo col g f 0=Lin.turn f col 0:=by funext j; simp [elimTo,Lin.turn]
theorem zEd {g:Nat->Rat} :Lin.turn (elimTo col g f k) k ((if k=col then 0 else f k)-f col*g k)=elimTo col g f (k+1):=by
 funext j;unfold Lin.turn elimTo Lin.elim;grind
theorem zGs {g:Nat->Rat} (h0:g k=0):elimTo col g f k=elimTo col g f (k+1):=by
 rw [<-zEd,h0];funext j;unfold Lin.turn elimTo;by_cases h:j=k
 ·subst h; rw [if_neg om,if_pos rfl]; grind
 ·rw [if_neg h]
theorem zGr {g:Nat->Rat}:rowL V (elimTo col g f (V+1))=rowL V (Lin.elim col g f):=zBs fun k hk=>by unfold elimTo; rw [if_pos om]
theorem zIh {g:Nat->Rat} :elimTo col g f k k=if k=col then 0 else f k:=by unfold elimTo; rw [if_neg om]
theorem zIi {g:Nat->Rat} (h:f col=0):rowL V f=rowL V (Lin.elim col g f):=zBs fun k _=>by
 unfold Lin.elim; rw [h]
 by_cases e:k=col
 ·subst e; rw [if_pos rfl,h]; grind
 ·rw [if_neg e]; grind
theorem RowP.fr (h:RowP w G b l) (hW:Fr (fun y=>y=r) w w') (hr:G r) (hne:b ≠ r):RowP w' G b l:=
 h.keep (hW.block b h.lt hne) fun _ hp hl=>hW.cell hl fun e=>hp (by rw [e]; exact hr)
def Siz (w w':World) (r:Nat):Prop:=∀ cs t f,w.heap[r]?=some (.cells cs t f)->∃ cs',w'.heap[r]?=some (.cells cs' t f)/\cs'.size=cs.size
theorem Siz.refl :Siz w w r:=fun cs _ _ e=>⟨cs,e,rfl⟩
theorem Siz.below (h:Siz w w1 r) (hb:Below w1 w1 w2):Siz w w2 r:=fun cs t f e=>by
 obtain ⟨cs',e',hs⟩:=h cs t f e;exact ⟨cs',(hb.block r (zAa e')).trans e',hs⟩
theorem Siz.put4 {v:QV} (h:Siz w w1 r):Siz w (put4 w1 r k v) r:=fun cs t f e=>by
 obtain ⟨cs',e',hs⟩:=h cs t f e;obtain ⟨c2,e2,h2⟩:=zQV e' k v;exact ⟨c2,e2,h2.trans hs⟩
def ELoop (w:World) (G:Nat->Prop) (r V col:Nat) (g f:Nat->Rat) (v:QV) (t:Value) (W:World):Prop:=
 ∃ k:Nat,k<=V+1/\t = .int .i64 k/\RowP W G r (rowL V (elimTo col g f k))/\Fr (fun y=>y=r) w W/\Box4 W w (.bool v.num.ng) (.slice v.num.A v.num.n v.num.c) (.bool v.den.ng) (.slice v.den.A v.den.n v.den.c)/\w.heap.size<W.heap.size/\Siz w W r
theorem zQU (x:Bool) {cr cb:Nat} {g:Nat->Rat} (hr:RowP w G r (rowL V f)) (hb:RowP w G b (rowL V g)) (hne:b ≠ r) (hG:∀ x,G x->x<w.heap.size) (hc:col<=V) (_hV:V<=1000)
  (hf:∀ j,j<=V->Lin.Fits kb (f j)) (hg:∀ j,j<=V->Lin.Fits kb (g j)) (hk:2*kb+1<=LM) (m1:V+1<=cr) (m2:cr<=9223372036854775807) (_m3:V+1<=cb) (_m4:cb<=9223372036854775807) :
  Calls Tryz.prog (if x then 209 else 181) #[.slice (some r) (V+1) cr,.slice (some b) (V+1) cb,.int .i64 (col:Int)] w fun e w'=>(∃ v,e = .returned v)/\RowP w' G r (rowL V (Lin.elim col g f))/\Fr (fun y=>y=r) w w'/\Siz w w' r:=by
 have HK:=hdq hk;have HK1:Hid (kb+1<=LM):=by show kb+1<=LM; omega
 have HF:=hdq hf;have HG:=hdq hg;clear hk hf hg;obtain ⟨v,⟨c0,c1,c2,c3⟩,hv⟩:=hr.elem col (by rw [zAm]; omega);rw [zAL f hc] at hv;dsimp only at c1 c2 c3;have hcl:col<V+1:=om
 have hrl:=hr.lt;cases x
 focus
  go_enter Tryz.func181,Tryz.ntmps181
 rotate_left
 focus
  go_enter Tryz.func209,Tryz.ntmps209
 all_goals
  go_wp2_with fail
  refine zAg (fun W=>Below w w W/\Box4 W w (.bool v.num.ng) (.slice v.num.A v.num.n v.num.c) (.bool v.den.ng) (.slice v.den.A v.den.n v.den.c)/\w.heap.size<W.heap.size) ⟨(az (brf _ _)),bx4,by simp <;> omega⟩ ?_;rintro W ⟨hbW,bF,s0⟩;have hBW:=hbW.size;have hv1:=hv.below hbW;refine (zAn (hv1.qis (zAv (HF.out col hc)))).mono ?_; rintro e w1 ⟨rfl,hb1⟩
  have h01:=hbW.trans (hb1.mono hBW);by_cases h0:f col=0
  ·have hq:qsign (f col)=0:=by rw [h0]; rfl
   have HE:=hdq (zIi (V:=V) (g:=g) h0);rw [hq];clear hq h0;go_wp2;refine bodyPost_ret (results_none rfl _ _ _) rfl ⟨⟨_,rfl⟩,by rw [<-HE.out]; exact hr.below h01,Fr.of_below h01,Siz.refl.below h01⟩
  ·have hq:(qsign (f col) == 0)=false:=zDd h0;clear h0;have hr1:=hr.below h01;obtain ⟨zv,⟨d0,d1,d2,d3⟩,-⟩:=hr1.elem col (by rw [zAm]; omega);have fz:=hr1.frozen;dsimp only at d1 d2 d3;clear c0 c1 c2 c3;go_wp2;have hz0:QCan w1 (fun x=>¬ G x) ⟨⟨false,none,0,0⟩,⟨false,none,0,0⟩⟩ 0:=QCan.zero _ _
   have H0:ELoop w G r V col g f v (.int .i64 0) (put4 w1 r col ⟨⟨false,none,0,0⟩,⟨false,none,0,0⟩⟩):=
    ⟨0,nzl _,rfl,by
     rw [zGt,<-zD1];exact hr1.put4 (by rw [zAm]; omega) hz0,(Fr.of_below (G:=fun y=>y=r) h01).put4 rfl _ _,((bF.below hb1 s0).heap (zAx _ _ _ _ om)),by rw [zBI]; have:=hb1.size; omega,(Siz.refl.below h01).put4⟩
   have hrb:=hb.lt;clear d0 d1 d2 d3 fz hr1 h01 hb1 hz0 hv1 bF hbW hBW s0 hq;show Code.wp _ _ _ _ (put4 w1 r col ⟨⟨false,none,0,0⟩,⟨false,none,0,0⟩⟩);generalize put4 w1 r col ⟨⟨false,none,0,0⟩,⟨false,none,0,0⟩⟩=W0 at *;(go_loopw [22] (fun t W=>ELoop w G r V col g f v t W) (fun t _=>V+1-(intOf t).toNat));case atStart=>exact H0
   case round=>
    clear H0;obtain ⟨k,hk,rfl,hR,hFr,bF,t0,hSz⟩:=hrel;have hRl:=hR.lt;by_cases hlt:k<V+1
    ·have hbR:=hb.fr hFr hr.mem hne;obtain ⟨u,⟨c0,c1,c2,c3⟩,hu⟩:=hbR.elem k (by rw [zAm]; omega);rw [zAL g om] at hu;dsimp only at c1 c2 c3;have hv1:=hv.fr hFr hr.mem;have al:Below wr wr (wr.alloc (.cells #[u.num.ng,u.num,u.den.ng,u.den] 30)):=bal;have bU0:Box4 (wr.alloc (.cells #[u.num.ng,u.num,u.den.ng,u.den] 30)) wr u.num.ng u.num u.den.ng u.den:=bx4;(go_wp2_with fail);refine (zAn ((hu.below al).qis (zAv (HG.out k om)))).mono ?_; rintro e w2 ⟨rfl,hb2⟩
     have h2:Below wr wr w2:=al.trans (hb2.mono al.size);have bU:=bU0.below hb2 si;have bF2:=bF.below h2 t0;have hR2:=hR.below h2;have hs2:=h2.size;have t1:wr.heap.size<w2.heap.size:=by have:=hb2.size; simp at this; omega
     have hu2:=hu.below h2;have hv2:=hv1.below h2;have hF2:=hFr.call h2;clear hbR hu hv1 hR bF bU0 al hb2 c0 c1 c2 c3 hFr;by_cases h0:g k=0
     ·have hq:qsign (g k)=0:=by rw [h0]; rfl
      have HE:=hdq (zGs (col:=col) (f:=f) h0);rw [hq];clear hq h0;go_wp2;go_roundw;case rel=>exact ⟨k+1,om,by go_num,by rw [<-HE.out]; exact hR2,hF2,bF2,om,hSz.below h2⟩
      case measure=>simp [intOf]; omega
     ·have hq:(qsign (g k) == 0)=false:=zDd h0;clear h0;go_wp2;obtain ⟨z,⟨d0,d1,d2,d3⟩,hz⟩:=hR2.elem k (by rw [zAm]; omega);rw [zAL _ om,zIh] at hz;have fz:=hR2.frozen;dsimp only at d1 d2 d3;have n0:w.heap.size ≠ r:=om;have n1:wr.heap.size ≠ r:=om;obtain ⟨u0,u1,u2,u3,u4⟩:=bU;obtain ⟨f0,f1,f2,f3,f4⟩:=bF2;refine zAp 11 (fun fl w'=>(Box4 w' w (.bool v.num.ng) (.slice v.num.A v.num.n v.num.c) (.bool v.den.ng) (.slice v.den.A v.den.n v.den.c)/\Box4 w' wr u.num.ng u.num u.den.ng u.den)/\(fl=false->w'.cell? ⟨r,k*4,none⟩=some (.bool z.num.ng)/\w'.cell? ⟨r,k*4+1,none⟩=some (.slice z.num.A z.num.n z.num.c)/\w'.cell? ⟨r,k*4+2,none⟩=some (.bool z.den.ng)/\w'.cell? ⟨r,k*4+3,none⟩=some (.slice z.den.A z.den.n z.den.c))) kj ?_
      have hS0:(Box4 w2.drew w (.bool v.num.ng) (.slice v.num.A v.num.n v.num.c) (.bool v.den.ng) (.slice v.den.A v.den.n v.den.c)/\Box4 w2.drew wr u.num.ng u.num u.den.ng u.den)/\(false=false->w2.drew.cell? ⟨r,k*4,none⟩=some (.bool z.num.ng)/\w2.drew.cell? ⟨r,k*4+1,none⟩=some (.slice z.num.A z.num.n z.num.c)/\w2.drew.cell? ⟨r,k*4+2,none⟩=some (.bool z.den.ng)/\w2.drew.cell? ⟨r,k*4+3,none⟩=some (.slice z.den.A z.den.n z.den.c)):=
       ⟨⟨⟨f0,f1,f2,f3,f4⟩,⟨u0,u1,u2,u3,u4⟩⟩,fun _=>⟨d0,d1,d2,d3⟩⟩
      refine tx4 0 1 2 3 hS0 ?_;refine tx1 4 hS0 ?_;refine tkV 5 9 (.agg #[z.num.ng,z.num,z.den.ng,z.den]) (fun w' hSw=>?_) (hS0) ?_
      ·obtain ⟨a0,a1,a2,a3⟩:=hSw.2 rfl; go_simp
      simp only [zz];refine tx1 6 hS0 ?_;refine tx1 7 hS0 ?_;refine tk1 8 ?_;intro K hK;go_simp;have hdr:Below w2 w2 w2.drew:=(brf _ _).drew;refine (zBb (a:=v) (b:=u) ((hv2.below hdr).qis (zAv (HF.out col hc))) ((hu2.below hdr).qis (zAv (HG.out k om))) HK1.out HK1.out).mono ?_; rintro e w3 ⟨⟨y,rfl,hy⟩,hb3⟩
      dsimp only;have h3:Below w2 w2 w3:=hdr.trans hb3;obtain ⟨bf3,bu3⟩:=hS0.1;have bf3:=bf3.below hb3 (show w.heap.size<w2.heap.size by omega);have bu3:=bu3.below hb3 t1
      obtain ⟨q0,q1,q2,q3⟩:w3.cell? ⟨r,k*4,none⟩=some (.bool z.num.ng)/\w3.cell? ⟨r,k*4+1,none⟩=some (.slice z.num.A z.num.n z.num.c)/\w3.cell? ⟨r,k*4+2,none⟩=some (.bool z.den.ng)/\w3.cell? ⟨r,k*4+3,none⟩=some (.slice z.den.A z.den.n z.den.c):=by
       have hl:r<w2.heap.size:=om;exact ⟨(h3.cell (p:=⟨r,_,none⟩) hl).trans d0,(h3.cell (p:=⟨r,_,none⟩) hl).trans d1,(h3.cell (p:=⟨r,_,none⟩) hl).trans d2,(h3.cell (p:=⟨r,_,none⟩) hl).trans d3⟩
      refine hK.out _ _ ⟨⟨bf3,bu3⟩,fun _=>⟨q0,q1,q2,q3⟩⟩ ?_;clear hK K;refine tk1 9 ?_;intro K hK;go_simp;have hfz:Lin.Fits kb (if k=col then 0 else f k):=by split; exact Lin.Fits.zero _; exact HF.out k om
      have hfy:Lin.Fits (2*kb) (f col*g k):=by have:=(HF.out col hc).mul (HG.out k om); rwa [<-Nat.two_mul] at this
      refine (zDx (a:=z) (b:=y) ((hz.below h3).qis (zAv hfz)) (hy.qis (zAv hfy)) HK1.out HK.out).mono ?_; rintro e w4 ⟨⟨s,rfl,hs⟩,hb4⟩
      dsimp only;have h4:Below w2 w2 w4:=h3.trans (hb4.mono h3.size);have bf4:=bf3.below hb4 (by have:=h3.size; omega);have bu4:=bu3.below hb4 (by have:=h3.size; omega);refine hK.out _ _ ⟨⟨bf4,bu4⟩,fun _=>?_⟩ ?_
      ·have hl:r<w3.heap.size:=by have:=h3.size; omega
       exact ⟨(hb4.cell (p:=⟨r,_,none⟩) hl).trans q0,(hb4.cell (p:=⟨r,_,none⟩) hl).trans q1,(hb4.cell (p:=⟨r,_,none⟩) hl).trans q2,(hb4.cell (p:=⟨r,_,none⟩) hl).trans q3⟩
      clear hK K;have hR4:=hR2.below h4;obtain ⟨z',⟨p0,p1,p2,p3⟩,-⟩:=hR4.elem k (by rw [zAm]; omega);have fz4:=hR4.frozen;dsimp only at p1 p2 p3;refine tk1 10 ?_;intro K hK;go_simp;refine hK.out _ _ ⟨⟨bf4,bu4⟩,fun _=>?_⟩ ?_
      ·have hl:r<w3.heap.size:=by have:=h3.size; omega
       exact ⟨(hb4.cell (p:=⟨r,_,none⟩) hl).trans q0,(hb4.cell (p:=⟨r,_,none⟩) hl).trans q1,(hb4.cell (p:=⟨r,_,none⟩) hl).trans q2,(hb4.cell (p:=⟨r,_,none⟩) hl).trans q3⟩
      clear hK K;refine tk1 11 ?_;intro K hK;go_simp;refine hK.out _ _ ⟨⟨bf4.heap (zAx w4 r k s n0),bu4.heap (zAx w4 r k s n1)⟩,fun h=>absurd h dj⟩ ?_;clear hK K;refine zAf kj ?_ _
      have Hfin:Hid (ELoop w G r V col g f v (.int .i64 ((k:Int)+1)) (put4 w4 r k s)):=
       ⟨k+1,om,si,by
        rw [<-zEd,<-zD1];exact hR4.put4 (by rw [zAm]; omega) (hs.imp fun x _ hx hg=>by have:=hG x hg; have:=h3.size; simp only [New] at hx; omega),
        (hF2.call h4).put4 rfl _ _,bf4.heap (zAx w4 r k s n0),by rw [zBI]; have:=h4.size; omega,((hSz.below h2).below h4).put4⟩
      clear q0 q1 q2 q3 p0 p1 p2 p3 d0 d1 d2 d3 hR4 hR2 hs hy hz bf4 bu4 bf3 bu3 hS0 f0 f1 f2 f3 f4 u0 u1 u2 u3 u4 h4 h3 hb3 hb4 hu2 hv2 hF2;go_wp2;go_roundw;case rel=>exact Hfin.out
      case measure=>simp [intOf]; omega
    ·(obtain rfl:k=V+1:=om);rw [zGr] at hR;go_wp2;exact bodyPost_end (results_none rfl _ _ _) rfl ⟨⟨_,rfl⟩,hR,hFr,hSz⟩
theorem zO7 {g:Nat->Rat} (hr:RowAt w G r (rowL V f)) (hb:RowAt w G b (rowL V g)) (hne:b ≠ r) (hG:∀ x,G x->x<w.heap.size) (hc:col<=V) (hV:V<=1000)
  (hf:∀ j,j<=V->Lin.Fits kb (f j)) (hg:∀ j,j<=V->Lin.Fits kb (g j)) (hk:2*kb+1<=LM) :
  Calls Tryz.prog 209 #[rowVal (V+1) r,rowVal (V+1) b,.int .i64 (col:Int)] w fun e w'=>(∃ v,e = .returned v)/\RowAt w' G r (rowL V (Lin.elim col g f))/\Fr (fun y=>y=r) w w':=by
 refine (zQU true (cr:=V+1) (cb:=V+1) hr.room hb.room hne hG hc hV hf hg hk om om om om).mono ?_;rintro e w' ⟨he,hR,hF,hS⟩;obtain ⟨cs,e1,hs⟩:=hr.blk;obtain ⟨cs',e',hs'⟩:=hS _ _ _ e1;exact ⟨he,⟨hR.mem,⟨cs',e',by rw [hs',hs,zAm,zAm]⟩,hR.elem⟩,hF⟩
end Go.Proofs.YtbpngececjihlaaGreat


