/- Texts BnG BnO of this claim. -/
import Derived.Test.YtbpngececjihlaaGreatB26
set_option maxHeartbeats 4000000
set_option maxRecDepth 40000
namespace Go.Proofs.YtbpngececjihlaaGreat
open Go.RowKit Go.Shelf
variable {n c i r V m L kb N j k:Nat} {D:Lin.Dict} {lv:Nat->Bool} {bn cn:Nat->Nat} {base:List Rat} {G:Nat->Prop} {w W:World} {kz:Rat} {f:Nat->Rat}
abbrev tabD (bn cn:Nat->Nat) (a:Nat->Nat->Rat):Lin.Dict:=⟨bn,cn,a,fun _ _=>0⟩
def BPick (D:Lin.Dict) (n c i:Nat) (r:Nat) (is:Bool):Prop:=(is=false/\r=0/\LPick D n c i (.int .i64 (-1)))\/(is=true/\LPick D n c i (.int .i64 (r:Int)))
def BLvRet (D:Lin.Dict) (n c m:Nat) (e:Ending):Prop:=∃ (r:Nat) (is:Bool),e = .returned (.tuple #[.int .i64 (r:Int),.bool is])/\BPick D n c m r is
def BLvLoop (w:World) (D:Lin.Dict) (n c m L:Nat) (pl is t:Value) (W:World):Prop:=
 ∃ (i r:Nat) (b:Bool),i<=m/\t = .int .i64 (i:Int)/\pl = .int .i64 (r:Int)/\is = .bool b/\BPick D n c i r b/\Below w w W/\∃ (z:QV) (q:Rat),Box4 W w (.bool z.num.ng) (.slice z.num.A z.num.n z.num.c) (.bool z.den.ng) (.slice z.den.A z.den.n z.den.c)/\QIs W (fun y=>y ≠ w.heap.size) L z q/\(b=true->q=ratio D n c r)
theorem BPick.none (h:BPick D n c i r false):r=0/\∀ j,j<i->¬ 0<D.a j c:=by
 rcases h with ⟨_,h0,h⟩ | ⟨h,_⟩
 ·rcases h with ⟨_,h⟩ | ⟨s,_,e,_⟩
  ·exact ⟨h0,h⟩
  ·simp at e
 ·cases h
theorem BPick.some (h:BPick D n c i r true):r<i/\0<D.a r c/\(∀ j,j<i->0<D.a j c->ratio D n c r<=ratio D n c j)/\∀ j,j<i->0<D.a j c->ratio D n c r=ratio D n c j->D.basic r<=D.basic j:=by
 rcases h with ⟨h,_⟩ | ⟨_,h⟩
 ·cases h
 ·rcases h with ⟨e,_⟩ | ⟨s,h1,e,h2,h3,h4⟩
  ·have e':(r:Int)=(-1:Int):=(by simp at e);omega
  ·have e':(r:Int)=(s:Int):=(by simpa using e);(obtain rfl:r=s:=om);exact ⟨h1,h2,h3,h4⟩
theorem BPick.skip {b:Bool} (h:BPick D n c i r b) (hp:¬ 0<D.a i c):BPick D n c (i+1) r b:=by
 rcases h with ⟨e1,e2,h⟩ | ⟨e1,h⟩
 ·exact .inl ⟨e1,e2,h.skip hp⟩
 ·exact .inr ⟨e1,h.skip hp⟩
theorem zK7 {x:TV} {a:Nat->Nat->Rat} {g:Option (Nat->Rat)} (h:TB w G x V n m L base bn cn a lv g) (hc:c<n) (hn:n<=1000) (hm:m<=1000)
  (hL:L<=LM) (hfa:∀ i j,i<m->j<=n->Lin.Fits kb (a i j)) (hk:2*kb+1<=LM) :
  Calls Tryz.prog 206 #[.pointer (some x.d),.int .i64 (c:Int)] w fun e w'=>BLvRet (tabD bn cn a) n c m e/\Below w w w':=by
 have HK:=hdq hk;have HK1:Hid (kb+1<=LM):=by show kb+1<=LM; omega
 have HFA:=hdq hfa;have HL:=hdq hL;clear hfa hk hL;have er:x.row.n=m:=h.row.len;have ec:x.cols.n=n:=h.cols.len;have hr2:x.row.n<=x.row.c:=h.row.le;have hr3:x.row.c<=9223372036854775807:=h.row.cap;have hb1:x.bas.n=m:=h.bas.len;have hb2:x.bas.n<=x.bas.c:=h.bas.le;have hb3:x.bas.c<=9223372036854775807:=h.bas.cap;obtain ⟨d,bs,⟨rA,rn,rcc⟩,⟨sA,sn,sc⟩,⟨cA,cnn,cc⟩,lvs,rb,rc,gb,gc⟩:=x;dsimp only at er ec hr2 hr3 hb1 hb2 hb3;subst er;subst ec;subst hb1;obtain ⟨k0,k1,k2,k3,k4,k5,k6,kf⟩:=h.cells;dsimp only [SV.val] at k0 k1 k2 k3 k4 k5 k6;have hdl:=h.dlt;dsimp only at hdl;have hcv:c<cnn+1:=om
 have hcvi:(c:Int)<(cnn:Int)+1:=om
 have hc0:(0:Int)<=(c:Int):=om
 have hnv:cnn<cnn+1:=om
 have hnvi:(cnn:Int)<(cnn:Int)+1:=om
 have hn0:(0:Int)<=(cnn:Int):=om
 have H0:BLvLoop w (tabD bn cn a) cnn c sn (2*kb+1) (.int .i64 0) false (.int .i64 0) (w.alloc (.cells #[false,(),false,()] 30)):=
  ⟨0,0,false,nzl _,rfl,rfl,rfl,.inl ⟨rfl,rfl,.inl ⟨rfl,fun j hj=>om⟩⟩,bal,⟨⟨false,none,0,0⟩,⟨false,none,0,0⟩⟩,0,bx4,⟨0,0,⟨[],WordsAt.nil _ _ _ _ (nzl _),nzl _,rfl⟩,⟨[],WordsAt.nil _ _ _ _ (nzl _),nzl _,rfl⟩,by simp [qv]⟩,fun h=>by cases h⟩
 go_enter Tryz.func206,Tryz.ntmps206
 go_wp2;clear k0 k1 k2 k3 k4 k5 k6 kf;generalize w.alloc (.cells #[false,(),false,()] 30)=W0 at *;go_loopw [4,5,23] (fun pl is t W=>BLvLoop w (tabD bn cn a) cnn c sn (2*kb+1) pl is t W) (fun _ _ t _=>sn-(intOf t).toNat)
 case atStart=>exact H0
 case round=>
  clear H0;obtain ⟨i,r,b,hi,rfl,rfl,rfl,hpick,hbl,z,q,bZ,hz,hzq⟩:=hrel;by_cases hlt:i<sn
  ·have hD:=h.below hbl;obtain ⟨gr,eR,hr,-,tr⟩:=hD.row.elem hlt;dsimp only at eR;subst eR;obtain ⟨hca,hcb⟩:=hD.caps i hlt;obtain ⟨u,⟨q0,q1,q2,q3⟩,hu⟩:=(hD.rows i hlt).elem c (by rw [zAm]; omega);obtain ⟨v,⟨v0,v1,v2,v3⟩,hv⟩:=(hD.rows i hlt).elem cnn (by rw [zAm]; omega);rw [zAL _ om] at hu hv;dsimp only at q1 q2 q3 v1 v2 v3;have hrl:=(hD.rows i hlt).lt;have Hu:=hdq hu;have Hv:=hdq hv;have HD:=hdq hD;have hzl:w.heap.size<wr.heap.size:=zAb bZ.1;obtain ⟨k0,k1,k2,k3,k4,k5,k6,kf⟩:=hD.cells;dsimp only [SV.val] at k0 k1 k2 k3 k4 k5 k6;have hii:(i:Int)<(sn:Int):=om;have hi0:(0:Int)<=(i:Int):=om;dsimp only at hr hca hcb hrl;clear hu hv hD;by_cases hpos:0<a i c
   ·(go_wp2_with fail);refine (zAn Hu.out).mono ?_; rintro e w2 ⟨rfl,hb2⟩
    rw [zLD hpos];obtain ⟨hc2,hf2⟩:=bcell hb2;(go_upto_region 7 with fail);have hsz2:=hb2.size;have hrl2:rb i<w2.heap.size:=om;rw [<-hc2 _ _ hrl] at q0 q1 q2 q3 v0 v1 v2 v3;have Hu2:=hdq (Hu.out.below hb2);have Hv2:=hdq (Hv.out.below hb2);have HD2:=hdq (HD.out.below hb2);have hBW2:w.heap.size<=w2.heap.size:=by have:=hbl.size; omega
    have hb02:=hbl.trans (hb2.mono hbl.size);have bZ2:=bZ.below hb2 hzl;have hz2:=hz.below hb2;have hwl2:w.heap.size<w2.heap.size:=om;have hdl2:d<w2.heap.size:=by have:=HD2.out.dlt; dsimp only at this; omega
    clear hc2 hf2 hbl hb2 bZ hz Hu Hv HD k0 k1 k2 k3 k4 k5 k6 kf hr hzl tr;go_cut [10,23] from 23 to 78 (fun p t W=>∃ (g:Nat) (y:QV),t = .int .i64 (i:Int)/\p = .pointer (some g)/\w2.heap.size<=g/\Box4 W g (.bool y.num.ng) (.slice y.num.A y.num.n y.num.c) (.bool y.den.ng) (.slice y.den.A y.den.n y.den.c)/\QCan W (New w2) y (ratio (tabD bn cn a) cnn c i)/\Below w2 w2 W)
    case first=>
     go_region_held3 (Sees w [] w2) (exact kp)
      (first
       | (go_at_call 109; ((with_reducible refine (zEY (a:=v) (b:=u) (Hv2.out.keptNil sk) (Hu2.out.keptNil sk) HL.out HL.out (Rat.ne_of_gt hpos)).mono ?_); rintro e w4 ⟨⟨y,rfl,hy⟩,hb4⟩; (have sz4:w2.heap.size<=w4.heap.size:=by exact nlt (Sees.kept (by assumption):Kept w [] w2 _).size hb4.size); (obtain ⟨hc4,hf4⟩:=bcell hb4); (have lt4:=fun (b:Nat) h=>ltl (n:=b) h hb4.size)))
       | fail)
     ·rename_i hS;(go_wp2_with fail);go_meet;case rel=>exact ⟨_,y,rfl,rfl,sz4,bx4,(hy.below (bal)).lower si,hS.kept.whole⟩
     ·rename_i hS;(go_wp2_with fail);go_meet
      case rel=>
       have b0:Box4 (w2.alloc (.cells #[false,(),false,()] 30)).drew w2 false () false ():=bx4;exact ⟨_,y,rfl,rfl,nlr _,(b0.below hb4 si).stored _ _ _ _,(hy.set4 si).lower si,hS.kept.whole⟩
    case rest=>
     obtain ⟨gy,y,rfl,rfl,hgw,bYc,hyc,hbc⟩:=hcut;have hbwc:=hb02.trans (hbc.mono hb02.size);have bZc:=bZ2.below hbc hwl2;have hzc:=hz2.below hbc;have hD3:=HD2.out.below hbc;clear q0 q1 q2 q3 v0 v1 v2 v3
     have HFR:Hid (Lin.Fits (2*kb) (ratio (tabD bn cn a) cnn c i)):=by
      have:=(HFA.out i cnn hlt (nlr _)).mul (HFA.out i c hlt om).inv;unfold ratio; rw [Rat.div_def,Nat.two_mul]; exact this
     (go_wp2_with fail);refine (zBg (a:=y) (b:=z) (hyc.qis (zAv HFR.out)) hzc HK.out HK.out).mono ?_; rintro e wd ⟨rfl,hbd⟩
     have bY:=bYc.below hbd (zAb bYc.1);have bZd:=bZc.below hbd (zAb bZc.1);have hy:=hyc.below hbd;have hzd:=hzc.below hbd;have hbwd:=hbwc.trans (hbd.mono hbwc.size);have hD4:=hD3.below hbd;have hBwd:w.heap.size<=wd.heap.size:=hbwd.size;clear bYc bZc hyc hzc hbwc hD3 hbc hbd;obtain ⟨k0,k1,k2,k3,k4,k5,k6,kf⟩:=hD4.cells;dsimp only [SV.val] at k0 k1 k2 k3 k4 k5 k6;have hdl0:d<wd.heap.size:=hD4.dlt;obtain ⟨gbb,e,b0,b1,b2⟩:=hD4.bas.elem hlt;dsimp only at e b0;subst e;cases b
     focus
      obtain ⟨rfl,hp⟩:=hpick.none;(go_upto_region 9 with fail);refine zAp 1000 (fun _ w'=>Sees w [] wd w') kj ?_;have hS0:Sees w [] wd wd.drew:=Sees.st si hBwd;refine tx1 0 hS0 ?_;refine tx1 1 hS0 ?_;refine tx1 2 hS0 ?_;refine tn1 3 hS0 ?_;refine tn1 4 hS0 ?_;refine tx1 5 hS0 ?_;refine tx1 6 hS0 ?_;refine tn4 7 8 9 10 hS0 ?_;refine tn4 11 12 13 14 hS0 ?_;refine tn4 15 16 17 18 hS0 ?_;refine tn4 19 20 21 22 hS0 ?_;refine tn1 23 hS0 ?_;refine tn1 24 hS0 ?_;refine tn1 25 hS0 ?_;refine tx1 26 hS0 ?_;refine zAf kj ?_ _;clear hS0;have HPk:=hdq (LPick.first (D:=tabD bn cn a) (V:=cnn) hp hpos)
     rotate_left
     focus
      obtain ⟨hr,hpr,hmin,hles⟩:=hpick.some;have eq:q=ratio (tabD bn cn a) cnn c r:=hzq rfl;obtain ⟨gb',e',b0r,-,-⟩:=hD4.bas.elem (show r<sn by omega);cases e';(try dsimp only at b0r);have hr0:(0:Int)<=(r:Int):=om;have hrM:r<sn:=om;have hrMi:(r:Int)<(sn:Int):=om;rw [eq];have HE:=hdq eq;clear eq;rcases zKD (ratio (tabD bn cn a) cnn c i) (ratio (tabD bn cn a) cnn c r) with ⟨hl,ho⟩ | ⟨hl,ho⟩ | ⟨hl,ho⟩
      focus
       rw [ho];(go_upto_region 9 with fail);refine zAp 1000 (fun _ w'=>Sees w [] wd w') kj ?_;have hS0:Sees w [] wd wd.drew:=Sees.st si hBwd;refine tx4 0 1 2 3 hS0 ?_;refine tx1 4 hS0 ?_;refine tx1 5 hS0 ?_;refine tx1 6 hS0 ?_;refine tn4 7 8 9 10 hS0 ?_;refine tn4 11 12 13 14 hS0 ?_;refine tn4 15 16 17 18 hS0 ?_;refine tn4 19 20 21 22 hS0 ?_;refine tn1 23 hS0 ?_;refine tn1 24 hS0 ?_;refine tn1 25 hS0 ?_;refine tx1 26 hS0 ?_;refine zAf kj ?_ _;clear hS0;have HPk:=hdq (LPick.less hmin hpos hl)
      rotate_left
      focus
       rw [ho];by_cases hkey:bn i<bn r
       focus
        have hki:(bn i:Int)<(bn r:Int):=om;(go_upto_region 9 with fail);refine zAp 1000 (fun _ w'=>Sees w [] wd w') kj ?_;have hS0:Sees w [] wd wd.drew:=Sees.st si hBwd;refine tx4 0 1 2 3 hS0 ?_;refine tx4 4 5 6 7 hS0 ?_;refine tx4 8 9 10 11 hS0 ?_;refine tx4 12 13 14 15 hS0 ?_;refine tx4 16 17 18 19 hS0 ?_;refine tx4 20 21 22 23 hS0 ?_;refine tx1 24 hS0 ?_;refine tx1 25 hS0 ?_;refine tx1 26 hS0 ?_;refine zAf kj ?_ _;clear hS0;have HPk:=hdq (LPick.same hmin hles hpos hl hkey)
       rotate_left
       focus
        have hki:¬ (bn i:Int)<(bn r:Int):=om;(go_upto_region 9 with fail);refine zAp 1000 (fun _ w'=>Sees w [] wd w') kj ?_;have hS0:Sees w [] wd wd.drew:=Sees.st si hBwd;refine tx4 0 1 2 3 hS0 ?_;refine tx4 4 5 6 7 hS0 ?_;refine tx4 8 9 10 11 hS0 ?_;refine tx4 12 13 14 15 hS0 ?_;refine tx4 16 17 18 19 hS0 ?_;refine tx4 20 21 22 23 hS0 ?_;refine tx1 24 hS0 ?_;refine tx1 25 hS0 ?_;refine tx1 26 hS0 ?_;refine zAf kj ?_ _;clear hS0;have HPk:=hdq (LPick.stay hr hpr hmin hles (.inr ⟨hl,hkey⟩))
      rotate_left 2
      focus
       rw [ho];(go_upto_region 9 with fail);refine zAp 1000 (fun _ w'=>Sees w [] wd w') kj ?_;have hS0:Sees w [] wd wd.drew:=Sees.st si hBwd;refine tx4 0 1 2 3 hS0 ?_;refine tx4 4 5 6 7 hS0 ?_;refine tx1 8 hS0 ?_;refine tx1 9 hS0 ?_;refine tn4 10 11 12 13 hS0 ?_;refine tn4 14 15 16 17 hS0 ?_;refine tn4 18 19 20 21 hS0 ?_;refine tn1 22 hS0 ?_;refine tn1 23 hS0 ?_;refine tn1 24 hS0 ?_;refine tx1 25 hS0 ?_;refine tx1 26 hS0 ?_;refine zAf kj ?_ _;clear hS0;have HPk:=hdq (LPick.stay hr hpr hmin hles (.inl hl))
     all_goals
      first
      | focus
        replace HPk:Hid (LPick (tabD bn cn a) cnn c (i+1) (.int .i64 (i:Int))):=HPk;obtain ⟨W3,hW3⟩:∃ W3:World,W3=wd.drew:=⟨_,rfl⟩;have bY3:Box4 W3 gy (.bool y.num.ng) (.slice y.num.A y.num.n y.num.c) (.bool y.den.ng) (.slice y.den.A y.den.n y.den.c):=by rw [hW3]; exact bY
        have bZ3:Box4 W3 w z.num.ng z.num z.den.ng z.den:=by rw [hW3]; exact bZd
        have hy3:QCan W3 (New w2) y (ratio (tabD bn cn a) cnn c i):=by rw [hW3]; exact hy.below (brf _ _).drew
        have hb3:Below w w W3:=by rw [hW3]; exact hbwd.drew
        have hgl:gy<W3.heap.size:=zAb bY3.1;have hBW:w.heap.size<=W3.heap.size:=hb3.size;have hwl:w.heap.size<W3.heap.size:=zAb bZ3.1;have n1:¬ (gy=w.heap.size):=om;obtain ⟨y0,y1,y2,y3,y4⟩:=bY3;obtain ⟨z0,z1,z2,z3,z4⟩:=bZ3;rw [<-hW3];clear hW3 k0 k1 k2 k3 k4 k5 k6 kf b0 b1 b2;go_upto_region 10 with fail
        go_region_held3 (Sees w [w.heap.size] W3) (exact kp)
         (fail)
        all_goals
         rename_i hS
         have Hfin:Hid (BLvLoop w (tabD bn cn a) cnn c sn (2*kb+1) (.int .i64 (i:Int)) true (.int .i64 ((i:Int)+1)) ((((W3.setCell w (.bool y.num.ng)).setCell ⟨w.heap.size,1,none⟩ (.slice y.num.A y.num.n y.num.c)).setCell ⟨w.heap.size,2,none⟩ (.bool y.den.ng)).setCell ⟨w.heap.size,3,none⟩ (.slice y.den.A y.den.n y.den.c)).drew):=
          ⟨i+1,i,true,om,si,rfl,rfl,.inr ⟨rfl,HPk.out⟩,hb3.trans hS.kept.below,y,ratio (tabD bn cn a) cnn c i,Box4.stored (u0:=.bool z.num.ng) (u1:=.slice z.num.A z.num.n z.num.c) (u2:=.bool z.den.ng) (u3:=.slice z.den.A z.den.n z.den.c) ⟨z0,z1,z2,z3,z4⟩ _ _ _ _,
           (((hy3.set4 (show w.heap.size<w2.heap.size by omega)).imp (Y:=fun y=>y ≠ w.heap.size) fun b _ hb=>by simp only [New] at hb; omega).below (brf _ _).drew).qis (zAv HFR.out),fun _=>rfl⟩
         clear hS hy3 z0 z1 z2 z3 z4 y0 y1 y2 y3 y4 hb3;go_wp2;go_roundw;case rel=>exact Hfin.out
         case measure=>simp [intOf]; omega
      | focus
        have Hfin:Hid (BLvLoop w (tabD bn cn a) cnn c sn (2*kb+1) r true (.int .i64 ((i:Int)+1)) wd.drew):=⟨i+1,r,true,om,si,rfl,rfl,.inr ⟨rfl,HPk.out⟩,hbwd.drew,z,q,bZd,hzd.below (brf _ _).drew,fun _=>HE.out⟩;clear hzd bZd hbwd;go_wp2;go_roundw;case rel=>exact Hfin.out
        case measure=>simp [intOf]; omega
      | fail
   ·have hq:=zL1 hpos;(go_wp2_with fail);refine (zAn Hu.out).mono ?_; rintro e w2 ⟨rfl,hb2⟩
    have Hfin:Hid (BLvLoop w (tabD bn cn a) cnn c sn (2*kb+1) r (.bool b) (.int .i64 ((i:Int)+1)) w2):=⟨i+1,r,b,om,si,rfl,rfl,hpick.skip hpos,hbl.trans (hb2.mono hbl.size),z,q,bZ.below hb2 hzl,hz.below hb2,hzq⟩;clear hpick hbl hz bZ;go_wp2;go_roundw;case rel=>exact Hfin.out
    case measure=>simp [intOf]; omega
  ·have hiM:i=sn:=om;rw [hiM] at hpick;have Hp:=hdq hpick;clear hpick hz bZ hiM;go_wp2;(try rw [Exit.noGoto_ret]);exact bodyPost_ret (v:=.tuple #[r,.bool b]) (by simp [results,Tryz.results206,go_sem]) rfl ⟨⟨r,b,rfl,Hp.out⟩,hbl⟩
def glR (n N:Nat) (D:Lin.Dict) (kz:Rat) (j:Nat):Rat:=if j=n then D.c N n+kz else D.c N j
theorem zLz {s:Nat} (hs:s<n) (j:Nat):Lin.elim s (Lin.scaled s (D.a r)) (glR n N D kz) j=glR n N (D.pivot r s) kz j:=by
 have h:glR n N D kz s=D.c N s:=if_neg om;show (if j=s then 0 else glR n N D kz j)-glR n N D kz s*_=_;rw [h];unfold glR;by_cases e:j=n
 ·subst e;rw [if_neg om,if_pos rfl,if_pos rfl];show _=((if j=s then 0 else D.c N j)-D.c N s*Lin.scaled s (D.a r) j)+kz;rw [if_neg om]; grind
 ·rw [if_neg e,if_neg e]; rfl
theorem zMh {x:TV} {a:Nat->Nat->Rat} {b1:Nat} (h:TB W G x V n m L base bn cn a lv (some f)) (hj:j<n)
  (h1:W.cell? b1=some (.pointer (some x.d))) :
  Calls Tryz.prog 205 #[.int .i64 (j:Int),.pointer (some b1)] W fun e w'=>e = .returned (.bool (lv j && decide (f j<0)))/\Below W W w':=by
 obtain ⟨k0,k1,k2,k3,k4,k5,k6,-⟩:=h.cells;obtain ⟨gl,eL,hl,-,tl⟩:=h.live.elem hj;obtain ⟨hR,hc1,hc2,-⟩:=h.aim f rfl;obtain ⟨v,⟨v0,v1,v2,v3⟩,hv⟩:=hR.elem j (by rw [zAm]; omega);rw [zAL _ om] at hv;have hm1:x.lv.n=n:=h.live.len;have hm2:x.lv.n<=x.lv.c:=h.live.le;have hm3:x.lv.c<=9223372036854775807:=h.live.cap;have tb:=hR.lt;have td:=h.dlt;have t1:=zAb h1;have HV:=hdq hv;obtain ⟨d,bs,row,bas,cols,⟨lA,ln,lc⟩,rb,rc,gb,gc⟩:=x;dsimp only [SV.val,TV.goal] at *;subst eL;subst hm1;have hji:(j:Int)<(ln:Int):=om
 have hji1:(j:Int)<(ln:Int)+1:=om
 have hj0:(0:Int)<=(j:Int):=om
 have hjn:j<ln+1:=om
 clear h hv hR;go_enter Tryz.func205,Tryz.ntmps205
 cases hlv:lv j with
 | false=>
  rw [hlv] at hl;go_wp2;try rw [Exit.noGoto_ret]
  go_ret
  exact ⟨rfl,brf _ _⟩
 | true=>
  rw [hlv] at hl;go_wp2_with fail
  refine (zAn HV.out).mono ?_;rintro e w1 ⟨rfl,hb1⟩;have HQ:=hdq (zLm (f j));generalize qsign (f j)=s at *;go_wp2;go_ret;exact ⟨by rw [<-HQ.out]; rfl,hb1⟩
def BCLoop (w:World) (G H:Nat->Prop) (d V n m L:Nat) (base:List Rat) (vn:Nat->Nat) (lv:Nat->Bool) (P:Lin.Prob) (N:Nat) (kz:Rat) (rank:Lin.Dict->Nat) (c0:Nat->Rat) (k:Nat) (W:World):Prop:=
 ∃ (D:Lin.Dict) (G':Nat->Prop) (x:TV),k=rank D/\x.d=d/\More w G G'/\Less w H (Ow x m true)/\Fr H w W/\TD W G' x V n m L base vn D lv (some (glR n N D kz))/\Lin.Good P D/\Lin.Feas P D/\Lin.LInv P N lv D/\∀ l,l<N->D.c l n=c0 l
def lvTo (N:Nat) (D:Lin.Dict) (lv:Nat->Bool) (k j:Nat):Bool:=if j<k then lv j && ! decide (0<D.c N j) else lv j
theorem zMS (h:0<D.c N k) (j:Nat):Lin.turn (lvTo N D lv k) k false j=lvTo N D lv (k+1) j:=by
 by_cases e:j=k
 ·subst e; rw [Lin.zBL]; unfold lvTo; rw [if_pos om,decide_eq_true h]; simp
 ·rw [Lin.zBh _ e]; unfold lvTo
  by_cases h:j<k
  ·rw [if_pos h,if_pos om]
  ·rw [if_neg h,if_neg om]
theorem zMR (h:¬ 0<D.c N k) (j:Nat):lvTo N D lv k j=lvTo N D lv (k+1) j:=by
 unfold lvTo;by_cases e:j=k
 ·subst e; rw [if_neg om,if_pos om,decide_eq_false h]; simp
 ·by_cases h:j<k
  ·rw [if_pos h,if_pos om]
  ·rw [if_neg h,if_neg om]
def BCLoop2 (w:World) (G H:Nat->Prop) (d V n m L:Nat) (base:List Rat) (vn:Nat->Nat) (lv:Nat->Bool) (D:Lin.Dict) (N:Nat) (kz:Rat) (t:Value) (W:World):Prop:=
 ∃ (k:Nat) (G':Nat->Prop) (x:TV),k<=n/\t = .int .i64 (k:Int)/\x.d=d/\More w G G'/\Less w H (Ow x m true)/\Fr H w W/\TD W G' x V n m L base vn D (lvTo N D lv k) (some (glR n N D kz))
def BClRet (w:World) (G:Nat->Prop) (x0:TV) (V n m L:Nat) (base:List Rat) (vn:Nat->Nat) (P:Lin.Prob) (N:Nat) (kz:Rat) (c0:Nat->Rat) (e:Ending) (w':World):Prop:=
 ∃ (D:Lin.Dict) (G':Nat->Prop) (x:TV) (lv:Nat->Bool) (b:Bool),e = .returned (.bool b)/\x.d=x0.d/\More w G G'/\Less w (Ow x0 m true) (Ow x m true)/\Fr (Ow x0 m true) w w'/\TD w' G' x V n m L base vn D lv (some (glR n N D kz))/\Lin.Good P D/\Lin.Feas P D/\(∀ l,l<N->D.c l n=c0 l)/\
  (b=true->Lin.LInv P (N+1) lv D)/\(b=false->Lin.LInv P N lv D/\∃ s,s<n/\lv s=true/\D.c N s<0/\∀ i,i<m->D.a i s<=0)
theorem zLu {x:TV} {vn:Nat->Nat} {P:Lin.Prob} (h:TD w G x V n m L base vn D lv (some (glR n N D kz))) (e1:P.n=n) (e2:P.m=m) (hN:N<P.K) (hg:Lin.Good P D) (hF:Lin.Feas P D) (hI:Lin.LInv P N lv D)
  (hvn:∀ u v,vn u<=vn v->u<=v) (hn:n<=1000) (hm:m<=1000) (hL:L<=LM) (hkL:kb+1<=L) (hk:2*kb+1<=LM) (hfit:∀ D,Lin.Good P D->D.Fits P kb) (hfg:∀ D,Lin.Good P D->∀ j,j<=n->Lin.Fits kb (glR n N D kz j)) :
  Calls Tryz.prog 154 #[.pointer (some x.d)] w fun e w'=>BClRet w G x V n m L base vn P N kz (fun l=>D.c l n) e w':=by
 obtain ⟨rank,hrank⟩:=Lin.zMa P (N:=N+1) om;have HR:=hdq hrank;have HK:=hdq hk;have HL:=hdq hL;have HKL:=hdq hkL;have HFit:=hdq hfit;have HFG:=hdq hfg;have HVN:=hdq hvn;have HE:Hid (P.n=n/\P.m=m/\N<P.K):=⟨e1,e2,hN⟩;have HG:=hdq (And.intro hg (And.intro hF hI));have HGl:=hdq h.gin;have hdl:=h.dlt;have H:=hdq h;clear hrank hk hL hkL hfit hvn e1 e2 hN hg hF hI hfg h;obtain ⟨HO,hHO⟩:∃ HO,Hid (HO=Ow x m true):=⟨_,hdq rfl⟩;have HOG:Hid (∀ y,HO y->G y):=hdq fun y hy=>H.out.ow (by rw [hHO.out] at hy; exact hy)
 obtain ⟨d,bs,row,bas,cols,lvs,rb,rc,gb,gc⟩:=x;dsimp only at hdl;go_enter Tryz.func154,Tryz.ntmps154
 go_wp2;have al:Below w w (w.alloc (.cells #[.pointer (some d)] 121)):=bal;have y1:(w.alloc (.cells #[.pointer (some d)] 121)).cell? w=some (.pointer (some d)):=by go_simp
 have hls:w.heap.size<(w.alloc (.cells #[.pointer (some d)] 121)).heap.size:=si
 generalize w.alloc (.cells #[.pointer (some d)] 121)=W0 at *;obtain ⟨c0,hc0⟩:∃ c0,Hid (c0=fun l=>D.c l n):=⟨_,hdq rfl⟩;have H0:BCLoop W0 G HO d V n m L base vn lv P N kz rank c0 (rank D) W0:=⟨D,G,_,rfl,rfl,More.refl _ _,by rw [hHO.out]; exact Less.refl _ _,Fr.refl _ _,H.out.below al,HG.out.1,HG.out.2.1,HG.out.2.2,fun l _=>by rw [hc0.out]⟩;clear H HG;go_loopg [] (rank D) (fun k W=>BCLoop W0 G HO d V n m L base vn lv P N kz rank c0 k W)
 case atStart=>exact H0
 case round=>
  clear H0;obtain ⟨D,G',⟨d',bs',row',bas',cols',lvs',rb',rc',gb',gc'⟩,hgk,hxd,hMo,hLs,hF,hD,hG⟩:=hrel;dsimp only at hxd;subst hxd;have z1:wr.cell? w=some (.pointer (some d')):=(hF.cell (p:=w) (by show w.heap.size<_; omega) fun hg=>by have:=HGl.out _ (HOG.out _ hg); dsimp only at this; omega).trans y1;have hsz:=hF.size;have hfit:=HFit.out D hG.1;obtain ⟨E1,E2,-⟩:=HE.out;unfold Lin.Dict.Fits at hfit;rw [E1,E2] at hfit;have HFA:=hdq hfit.1;have HGk:=hdq hgk;have HG:=hdq hG;clear hfit E1 E2 hgk hG;obtain ⟨k0,k1,k2,k3,k4,k5,k6,kf⟩:=hD.cells;dsimp only [SV.val] at k0 k1 k2 k3 k4 k5 k6;have hdl2:=hD.dlt;dsimp only at hdl2;have HD:=hdq hD;clear hD k0 k1 k2 k3 k5 k6;go_wp2_with fail
  refine (zKQ (fn:=205) (p:=fun j=>lv j && decide (glR n N D kz j<0)) HD.out.cols (fun _ _=>rfl) fun W j hj hb=>?_).mono ?_
  ·exact zMh (HD.out.below hb) hj ((hb.cell (p:=w) (by show w.heap.size<_; omega)).trans z1)
  rintro e w1 ⟨⟨c,is,rfl,hL⟩,hb1⟩;have HL1:=hdq hL;clear hL;have hD1:=HD.out.below hb1;have hF1:=hF.call hb1;have x1:w1.cell? w=some (.pointer (some d')):=(hb1.cell (p:=w) (by show w.heap.size<_; omega)).trans z1;have hs1:=hb1.size;clear HD k4 kf z1 hF
  cases is with
  | false=>
   have hdone:∀ j,j<P.n->lv j=true->0<=D.c N j:=fun j hj hl=>by
    rw [HE.out.1] at hj;rcases HL1.out with ⟨-,-,h⟩ | ⟨h,-⟩
    ·have h1:=h j hj;dsimp only at h1;rw [hl] at h1;have h2:glR n N D kz j=D.c N j:=if_neg om;rw [h2] at h1;simp at h1; grind
    ·cases h
   have HNx:=hdq (HG.out.2.2.1.next hdone);have ln:lvs'.n=n:=hD1.live.len;have H2:BCLoop2 W0 G HO d' V n m L base vn lv D N kz (.int .i64 0) w1:=⟨0,G',_,nzl _,rfl,rfl,hMo,hLs,hF1,hD1.congr (fun _ _=>rfl) (fun _ _=>rfl) (fun _ _ _ _=>rfl) fun j _=>by unfold lvTo; rw [if_neg om]⟩;obtain ⟨k0,k1,k2,k3,k4,k5,k6,kf⟩:=hD1.cells;dsimp only [SV.val] at k0 k1 k2 k3 k4 k5 k6;clear hdone hD1 hF1 hMo HL1 k0 k1 k2 k3 k4 k6;have hdl3:d'<w1.heap.size:=om;go_wp2;clear k5 kf x1;(go_loopw [35] (fun t W=>BCLoop2 W0 G HO d' V n m L base vn lv D N kz t W) (fun t _=>n-(intOf t).toNat));case atStart=>exact H2
   case round=>
    clear H2;obtain ⟨k,G2,⟨d2,bs2,row2,bas2,cols2,lvs2,rb2,rc2,gb2,gc2⟩,hk,rfl,hxd,hM2,hL2,hF2,hD2⟩:=hrel;dsimp only at hxd;subst hxd;have z1:wr.cell? w=some (.pointer (some d2)):=(hF2.cell (p:=w) (by show w.heap.size<_; omega) fun hg=>by have:=HGl.out _ (HOG.out _ hg); dsimp only at this; omega).trans y1;by_cases hlt:k<n
    ·have hki:(k:Int)<(n:Int):=om;have hki1:(k:Int)<(n:Int)+1:=om;have hk0:(0:Int)<=(k:Int):=om;have hkn:k<n+1:=om;obtain ⟨k0,k1,k2,k3,k4,k5,k6,kf⟩:=hD2.cells;dsimp only [SV.val] at k0 k1 k2 k3 k4 k5 k6;obtain ⟨gl,eL,l0,l1,l2⟩:=hD2.live.elem hlt;obtain ⟨hR,hc1,hc2,-⟩:=hD2.aim _ rfl;obtain ⟨v,⟨v0,v1,v2,v3⟩,hv⟩:=hR.elem k (by rw [zAm]; omega);rw [zAL _ om,show glR n N D kz k=D.c N k from if_neg om] at hv;have hRl:=hR.lt;have hdl4:=hD2.dlt;have ln2:lvs2.n=n:=hD2.live.len;have lc2:lvs2.n<=lvs2.c:=hD2.live.le;have ll2:lvs2.c<=9223372036854775807:=hD2.live.cap;obtain ⟨lA,lN,lC⟩:=lvs2;dsimp only [TV.goal] at eL l0 v0 v1 v2 v3 hc1 hc2 hRl hdl4 k6 ln2 lc2 ll2;subst eL ln2;have HV:=hdq hv;have HD2:=hdq hD2;clear hv hR hD2;by_cases hpos:0<D.c N k
     ·have hq:0<qsign (D.c N k):=by rw [zLD hpos]; decide
      (go_wp2_with fail);refine (zAn HV.out).mono ?_;rintro e w2 ⟨rfl,hb2⟩;generalize qsign (D.c N k)=sg at *;obtain ⟨hc,hf⟩:=bcell hb2;have hDn:=((HD2.out.below hb2).setL (y:=gl) (s:=k) (v:=false) rfl).congr (lv':=lvTo N D lv (k+1)) (fun _ _=>rfl) (fun _ _=>rfl) (fun _ _ _ _=>rfl) fun j _=>zMS hpos j
      have Hfin:Hid (BCLoop2 W0 G HO d2 V lN m L base vn lv D N kz (.int .i64 ((k:Int)+1)) (w2.setCell ⟨gl,k,none⟩ false)):=hdq ⟨k+1,G2,_,om,si,rfl,hM2,hL2,(hF2.call hb2).more ((Fr.refl _ _).set (p:=⟨gl,k,none⟩) (.inr (.inl (.inr (.inr (.inr rfl))))) _) hL2,hDn⟩;have hl2:gl<w2.heap.size:=by have:=hb2.size; omega
      have hd4:d2<w2.heap.size:=by have:=hb2.size; omega
      rw [<-hc _ _ l2] at l0;rw [<-hc _ _ hdl4] at k5;have z2:w2.cell? w=some (.pointer (some d2)):=(hb2.cell (zAb z1)).trans z1;have l1':∀ o,w2.frozen? ⟨gl,o,none⟩=false:=(fun o=>(hf _ o l2).trans (l1 o));clear hDn hF2 hM2 v0 v1 v2 v3 k0 k1 k2 k3 k4 k6 kf hb2 hc hf z1 l1;go_wp2;go_roundw;case rel=>exact Hfin.out
      case measure=>simp [intOf]; omega
     ·have hq:¬ 0<qsign (D.c N k):=by have:=zL1 hpos; omega
      (go_wp2_with fail);refine (zAn HV.out).mono ?_;rintro e w2 ⟨rfl,hb2⟩;generalize qsign (D.c N k)=sg at *;have hDn:=(HD2.out.below hb2).congr (lv':=lvTo N D lv (k+1)) (fun _ _=>rfl) (fun _ _=>rfl) (fun _ _ _ _=>rfl) fun j _=>zMR hpos j
      have Hfin:Hid (BCLoop2 W0 G HO d2 V lN m L base vn lv D N kz (.int .i64 ((k:Int)+1)) w2):=hdq ⟨k+1,G2,_,om,si,rfl,hM2,hL2,hF2.call hb2,hDn⟩;clear hDn hF2 hM2 v0 v1 v2 v3 k0 k1 k2 k3 k4 k5 k6 kf hb2 z1 l1;go_wp2;go_roundw;case rel=>exact Hfin.out
      case measure=>simp [intOf]; omega
    ·(obtain rfl:k=n:=om);have hDn:=hdq (hD2.congr (lv':=fun j=>lv j && ! decide (0<D.c N j)) (fun _ _=>rfl) (fun _ _=>rfl) (fun _ _ _ _=>rfl) fun j hj=>by unfold lvTo; rw [if_pos hj]);have HF1:=hdq ((Fr.of_below (G:=HO) al).trans hF2);have HM1:=hdq (hM2.lower al.size);have HLs:=hdq (hL2.lower al.size);clear hD2 hF2 hM2;go_wp2;(try rw [Exit.noGoto_ret]);go_ret;have hH:=hHO.out;have hC:=hc0.out;subst hH hC
     exact ⟨D,G2,⟨_,bs2,row2,bas2,cols2,lvs2,rb2,rc2,gb2,gc2⟩,_,true,rfl,rfl,HM1.out,HLs.out,HF1.out,hDn.out,HG.out.1,HG.out.2.1,HG.out.2.2.2,fun _=>HNx.out,fun h=>by cases h⟩
  | true=>
   have hsel:c<n/\lv c=true/\D.c N c<0/\∀ j,j<n->lv j=true->D.c N j<0->D.free c<=D.free j:=by
    have ge:∀ j,j<n->glR n N D kz j=D.c N j:=(fun j hj=>if_neg om);rcases HL1.out with ⟨h,-⟩ | ⟨-,h1,h2,h3⟩
    ·cases h
    ·dsimp only at h2 h3;rw [ge c h1] at h2;simp only [Bool.and_eq_true,decide_eq_true_eq] at h2;exact ⟨h1,h2.1,h2.2,fun j hj hl hn=>HVN.out _ _ (h3 j hj (by rw [ge j hj]; simp [hl,hn]))⟩
   obtain ⟨hcn,hlc,hneg,hfirst⟩:=hsel;have Hneg:=hdq hneg;have Hfirst:=hdq hfirst;clear hneg hfirst HL1;have HD1:=hdq hD1;clear hD1;(go_wp2_with fail);refine (zK7 (kb:=kb) HD1.out hcn hn hm HL.out HFA.out HK.out).mono ?_;rintro e w2 ⟨⟨r,is,rfl,hp⟩,hb2⟩;have HP:=hdq hp;have hD2:=HD1.out.below hb2;have hF2:=hF1.call hb2;have z2:w2.cell? w=some (.pointer (some d')):=(hb2.cell (p:=w) (by show w.heap.size<_; omega)).trans x1;have hs2:=hb2.size;clear hp HD1 hF1 x1 hb2
   cases is with
   | false=>
    have HR1:=hdq hD2;have HF1:=hdq ((Fr.of_below (G:=HO) al).trans hF2);have HM1:=hdq (hMo.lower al.size);have HLs:=hdq (hLs.lower al.size);clear hD2 hF2 hMo;go_wp2;(try rw [Exit.noGoto_ret]);go_ret;have hH:=hHO.out;have hC:=hc0.out;subst hH hC
    exact ⟨D,G',⟨_,bs',row',bas',cols',lvs',rb',rc',gb',gc'⟩,lv,false,rfl,rfl,HM1.out,HLs.out,HF1.out,HR1.out,HG.out.1,HG.out.2.1,HG.out.2.2.2,(fun h=>by cases h),fun _=>⟨HG.out.2.2.1,c,hcn,hlc,Hneg.out,fun i hi=>by have:=HP.out.none.2 i hi; grind⟩⟩
   | true=>
    have hsel:Lin.CSel P N lv D r c:=by
     obtain ⟨E1,E2,-⟩:=HE.out;obtain ⟨p1,p2,p3,p4⟩:=HP.out.some;exact ⟨om,hlc,Hneg.out,fun j hj h1 h2=>Hfirst.out j om h1 h2,om,p2,fun i hi h=>by rw [E1]; exact p3 i om h,fun i hi h e=>HVN.out _ _ (p4 i om h (by rw [E1] at e; exact e))⟩
    have hr:r<m:=by have:=hsel.hr; have:=HE.out.2.1; omega
    have hns:=hsel.nsel HG.out.2.2.1 HE.out.2.2;have hGp:=HG.out.1.pivot hsel.hr hsel.hs hsel.ne;have hfp:=HFit.out _ hGp;unfold Lin.Dict.Fits at hfp;rw [HE.out.1,HE.out.2.1] at hfp;have Hlt:Hid (rank (D.pivot r c)<gk):=by show _<_; rw [HGk.out]; exact HR.out D r c HG.out.1 HG.out.2.1 hns
    have HFP:=hdq hfp.1;have HS:=hdq hsel;have HGn:Hid (Lin.Good P (D.pivot r c)/\Lin.Feas P (D.pivot r c)/\Lin.LInv P N lv (D.pivot r c)/\∀ l,l<N->(D.pivot r c).c l n=c0 l):=hdq ⟨hGp,hns.feas HG.out.2.1,HG.out.2.2.1.pivot hsel.hs hsel.lv,fun l hl=>(Lin.zLO ((HG.out.2.2.1 c hsel.hs).1 hsel.lv l hl)).trans (HG.out.2.2.2 l hl)⟩;clear hfp hsel hns hGp
    have hE1:∀ i j,i<m->i ≠ r->j<=n->Lin.Fits kb (Lin.elim c (Lin.scaled c (D.a r)) (D.a i) j):=fun i j hi hne hj=>by
     have:=HFP.out i j hi hj;simp only [Lin.Dict.pivot,if_neg hne] at this;exact this
    have hE2:∀ j,j<=n->Lin.Fits kb (Lin.scaled c (D.a r) j):=fun j hj=>by
     have:=HFP.out r j hr hj;simp only [Lin.Dict.pivot,if_true] at this;exact this
    have HE1:=hdq hE1;have HE2:=hdq hE2;clear hE1 hE2;go_wp2_with fail
    refine (zKY (kb:=kb) hD2 hr hcn hn hm HL.out HS.out.ne HFA.out HE2.out (fun i j hi hne hj=>(zAv (HE1.out i j hi hne hj)).up HKL.out) (fun j hj=>(zAv (HE2.out j hj)).up HKL.out) (fun f hf j hj=>by
     cases hf;exact ⟨HFG.out D HG.out.1 j hj,by rw [zLz hcn]; exact (zAv (HFG.out _ HGn.out.1 j hj)).up HKL.out⟩) HK.out).mono ?_
    rintro e w3 ⟨⟨v,rfl⟩,hret⟩;obtain ⟨G3,x3,hx3,hM3,hL3,hF3,hD3⟩:=hret.dict;have hD4:=hD3.goalEq (f':=glR n N (D.pivot r c) kz) fun j _=>zLz hcn j
    have Hfin:Hid (BCLoop W0 G HO d' V n m L base vn lv P N kz rank c0 (rank (D.pivot r c)) w3):=hdq ⟨_,G3,x3,rfl,hx3,hMo.trans hM3 hF2.size,hLs.trans hL3 hF2.size,hF2.more hF3 hLs,hD4,HGn.out.1,HGn.out.2.1,HGn.out.2.2.1,HGn.out.2.2.2⟩;clear hD2 hF2 hD3 hF3 hM3 hMo hret hD4;go_wp2;(go_roundg (rank (D.pivot r c)));case measure=>exact Hlt.out
    case rel=>exact Hfin.out
end Go.Proofs.YtbpngececjihlaaGreat
