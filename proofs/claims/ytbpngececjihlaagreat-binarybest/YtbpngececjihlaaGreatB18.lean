/- Texts Restore of this claim. -/
import Derived.Test.YtbpngececjihlaaGreatB14
set_option maxHeartbeats 4000000
set_option maxRecDepth 40000
namespace Go.Proofs.YtbpngececjihlaaGreat
open Go.RowKit Go.Shelf
variable {q:Rat} {r V M K kb:Nat} {pv rw cl:Int} {D:Lin.Dict} {G:Nat->Prop} {w:World}
theorem zDe (h:q<0):qsign q=-1:=if_pos h
theorem zD0 (h:¬ q<0):¬ (qsign q<0):=by unfold qsign; rw [if_neg h]; split <;> omega
def Pick (p:Nat->Prop) (key:Nat->Nat) (i:Nat) (v:Value):Prop:=
 (v = .int .i64 (-1)/\∀ j,j<i->¬ p j)\/∃ r:Nat,r<i/\v = .int .i64 (r:Int)/\p r/\∀ j,j<i->p j->key r<=key j
section
variable {p:Nat->Prop} {key:Nat->Nat} {i:Nat} {v:Value}
theorem Pick.start:Pick p key 0 (.int .i64 (-1)):=.inl ⟨rfl,fun j hj=>om⟩
theorem Pick.skip (h:Pick p key i v) (hp:¬ p i):Pick p key (i+1) v:=by
 rcases h with ⟨e,h⟩ | ⟨r,hr,e,h1,h2⟩
 ·exact .inl ⟨e,fun j hj=>by by_cases h':j=i; subst h'; exact hp; exact h j om⟩
 ·exact .inr ⟨r,om,e,h1,fun j hj hpj=>by by_cases h':j=i; subst h'; exact absurd hpj hp; exact h2 j om hpj⟩
theorem Pick.first (h:∀ j,j<i->¬ p j) (hp:p i):Pick p key (i+1) i:=
 .inr ⟨i,om,rfl,hp,fun j hj hpj=>by by_cases h':j=i; subst h'; exact nlr _; exact absurd hpj (h j om)⟩
theorem Pick.turn (h:∀ j,j<i->p j->key r<=key j) (hp:p i) (hk:key i<key r):Pick p key (i+1) i:=
 .inr ⟨i,om,rfl,hp,fun j hj hpj=>by by_cases h':j=i; subst h'; exact nlr _; have:=h j om hpj; omega⟩
theorem Pick.stay (hr:r<i) (hpr:p r) (h:∀ j,j<i->p j->key r<=key j) (hk:¬ key i<key r):Pick p key (i+1) r:=
 .inr ⟨r,om,rfl,hpr,fun j hj hpj=>by by_cases h':j=i; subst h'; omega; exact h j om hpj⟩
end
def RLoop0 (w:World) (G:Nat->Prop) (x:DV) (V M K:Nat) (P:Lin.Prob) (rank:Lin.Dict->Nat) (rw cl:Int) (k:Nat) (W:World):Prop:=
 ∃ (D:Lin.Dict) (pv:Int),k=rank D/\DA W G x V M K D pv rw cl/\Lin.Good P D/\Fr G w W
def RLoop1 (W:World) (p:Nat->Prop) (key:Nat->Nat) (n:Nat) (v t:Value) (W':World):Prop:=
 ∃ i:Nat,i<=n/\t = .int .i64 i/\Pick p key i v/\Below W W W'
def RestRet (w:World) (G:Nat->Prop) (x:DV) (V M K:Nat) (P:Lin.Prob) (cl:Int) (e:Ending) (w':World):Prop:=
 ∃ (D:Lin.Dict) (pv rw:Int) (b:Bool),e = .returned (.bool b)/\DA w' G x V M K D pv rw cl/\Lin.Good P D/\Fr G w w'/\(b=true->Lin.Feas P D)/\(b=false->∃ r,r<M/\rw=(r:Int)/\D.a r V<0/\∀ j,j<V->0<=D.a r j)
theorem zPr {x:DV} {P:Lin.Prob} (h:DA w G x V M K D pv rw cl) (e1:P.n=V) (e2:P.m=M) (e3:P.K=K) (hg:Lin.Good P D) (hV:V<=1000) (hM:M<=1000) (hKb:K<=1000)
  (hfit:∀ D,Lin.Good P D->D.Fits P kb) (hk:2*kb+1<=LM) :
  Calls Tryz.prog 82 #[.pointer (some x.d)] w fun e w'=>RestRet w G x V M K P cl e w':=by
 obtain ⟨rank,hrank⟩:=Lin.zF2 P;have HR:=hdq hrank;have HK:=hdq hk;have HFit:=hdq hfit;have HE:Hid (P.n=V/\P.m=M/\P.K=K):=⟨e1,e2,e3⟩;clear hrank hk hfit e1 e2 e3;obtain ⟨d,⟨bA,bn,bc⟩,⟨fA,fn,fc⟩,⟨rA,rn,rc⟩,⟨cA,cn,cc⟩,rb,cb⟩:=x;obtain ⟨hdl,rfl,rfl,rfl,rfl,l1,l1',l2,l2',l3,l3',l4,l4'⟩:=h.opn;have H0:RLoop0 w G ⟨d,⟨bA,M,bc⟩,⟨fA,V,fc⟩,⟨rA,M,rc⟩,⟨cA,K,cc⟩,rb,cb⟩ V M K P rank rw cl (rank D) w:=⟨D,pv,rfl,h,hg,Fr.refl _ _⟩;clear h hg;go_enter Tryz.func82,Tryz.ntmps82
 go_wp2;go_loopg [] (rank D) (fun k W=>RLoop0 w G ⟨d,⟨bA,M,bc⟩,⟨fA,V,fc⟩,⟨rA,M,rc⟩,⟨cA,K,cc⟩,rb,cb⟩ V M K P rank rw cl k W)
 case atStart=>exact H0
 case round=>
  clear H0;obtain ⟨D,pv,hgk,hD,hG,hF⟩:=hrel;have hBW:w.heap.size<=wr.heap.size:=hF.size;have hdl2:d<wr.heap.size:=om
  have hfit:=HFit.out D hG;obtain ⟨E1,E2,E3⟩:=HE.out;unfold Lin.Dict.Fits at hfit;rw [E1,E2,E3] at hfit;have HFA:=hdq hfit.1;have HFC:=hdq hfit.2;have HGk:=hdq hgk;clear hfit E1 E2 E3 hgk;obtain ⟨c0,c1,c2,c3,c4,c5,c6,c7,c8⟩:=hD.cells;dsimp only [SV.val] at c0 c1 c2 c3 c4 c5 c6 c7 c8;go_wp2;obtain ⟨w1,hw1⟩:∃ w1:World,w1=wr:=⟨_,rfl⟩;have H1:RLoop1 w1 (fun i=>D.a i V<0) D.basic M (.int .i64 (-1)) (.int .i64 0) wr:=⟨0,nzl _,rfl,Pick.start,by rw [hw1]; exact brf _ _⟩;rw [<-hw1] at hD hF c0 c1 c2 c3 c4 c5 c6 c7 c8 hBW hdl2;clear hw1;go_loopw [3,13] (fun v t W=>RLoop1 w1 (fun i=>D.a i V<0) D.basic M v t W) (fun _ t _=>M-(intOf t).toNat)
  case atStart=>exact H1
  case round=>
   clear H1;obtain ⟨i,hi,rfl,hpick,hbl⟩:=hrel;by_cases hlt:i<M
   ·have hD2:=hD.call hbl;have hBW2:w.heap.size<=wr.heap.size:=by have:=hbl.size; omega
    have hdl3:d<wr.heap.size:=by have:=hbl.size; omega
    obtain ⟨gb,e,b0,b1,b2⟩:=hD2.bas.elem hlt;dsimp only at e b0;subst e;obtain ⟨-,c1',-⟩:=hD2.cells;dsimp only [SV.val] at c1';have HD2:=hdq hD2;have hii:(i:Int)<(M:Int):=om;clear hD2;(go_upto_region 5 with fail);refine zAp 1000 (fun _ w'=>Sees w [] wr w') kj ?_;have hS0:Sees w [] wr wr.drew:=Sees.st si hBW2;refine tx1 0 hS0 ?_;refine tx1 1 hS0 ?_;refine tk1 2 ?_;intro K hK;go_simp;refine (zO2 (i:=i) (HD2.out.call hS0.kept.whole) hlt om om).mono ?_;rintro e w3 ⟨⟨v,rfl,hv⟩,hb3⟩;dsimp only;have hS3:=Kept.call2 hb3 hS0;refine hK.out _ _ hS3 ?_;clear hK K;refine tk1 3 ?_;intro K hK;go_simp;refine (zAn (hv.qis (zAv (HFA.out i V hlt (nlr _))))).mono ?_;rintro e w4 ⟨rfl,hb4⟩;dsimp only;have hS4:=Kept.call2 hb4 hS3;refine hK.out _ _ hS4 ?_;clear hK K;by_cases hneg:D.a i V<0
    focus
     have hq:=zDe hneg;rw [hq];refine tx1 4 hS4 ?_;refine tx1 5 hS4 ?_;rcases hpick with ⟨rfl,hp⟩ | ⟨r,hr,rfl,hpr,hmin⟩
     focus
      refine tx1 6 hS4 ?_;refine tx1 7 hS4 ?_;refine tx1 8 hS4 ?_;refine tn4 9 10 11 12 hS4 ?_;refine tn4 13 14 15 16 hS4 ?_;refine tn4 17 18 19 20 hS4 ?_;refine tn1 21 hS4 ?_;refine tn1 22 hS4 ?_;refine tn1 23 hS4 ?_;refine tx1 24 hS4 ?_;refine tx1 25 hS4 ?_;have HPk:=hdq (Pick.first (key:=D.basic) hp hneg)
     rotate_left
     focus
      obtain ⟨gb',e',b0r,-,-⟩:=HD2.out.bas.elem (show r<M by omega);cases e';(try dsimp only at b0r);have hri:(r:Int)<(M:Int):=om;have hr0:¬ ((r:Int)<0):=om;have hrM:r<M:=om;by_cases hkey:D.basic i<D.basic r
      focus
       have hki:(D.basic i:Int)<(D.basic r:Int):=om;refine tx4 6 7 8 9 hS4 ?_;refine tx4 10 11 12 13 hS4 ?_;refine tx4 14 15 16 17 hS4 ?_;refine tx4 18 19 20 21 hS4 ?_;refine tx4 22 23 24 25 hS4 ?_;have HPk:=hdq (Pick.turn hmin hneg hkey)
      rotate_left
      focus
       have hki:¬ (D.basic i:Int)<(D.basic r:Int):=om;refine tx4 6 7 8 9 hS4 ?_;refine tx4 10 11 12 13 hS4 ?_;refine tx4 14 15 16 17 hS4 ?_;refine tx4 18 19 20 21 hS4 ?_;refine tx4 22 23 24 25 hS4 ?_;have HPk:=hdq (Pick.stay hr hpr hmin hkey)
    rotate_left 3
    focus
     have hq:=zD0 hneg;refine tx1 4 hS4 ?_;refine tx1 5 hS4 ?_;refine tn4 6 7 8 9 hS4 ?_;refine tn4 10 11 12 13 hS4 ?_;refine tn4 14 15 16 17 hS4 ?_;refine tn4 18 19 20 21 hS4 ?_;refine tn1 22 hS4 ?_;refine tn1 23 hS4 ?_;refine tn1 24 hS4 ?_;refine tx1 25 hS4 ?_;have HPk:=hdq (hpick.skip hneg)
    all_goals
     refine zAf kj ?_ _;have Hfin:Hid (RLoop1 w1 (fun i=>D.a i V<0) D.basic M _ (.int .i64 ((i:Int)+1)) w4):=⟨i+1,om,si,HPk.out,hbl.trans (hS4.kept.whole.mono hbl.size)⟩;clear hS0 hS3 hS4 hb3 hb4 hv b0 b1 c1';go_wp2;go_roundw;case rel=>exact fn_ Hfin.out
     case measure=>simp [intOf]; omega
   ·have hiM:i=M:=om;have hD2:=hD.call hbl;have hF2:=hF.call hbl;rcases hpick with ⟨rfl,hp⟩ | ⟨r,hr,rfl,hpr,hmin⟩
    ·have HFe:Hid (Lin.Feas P D):=fun j hj=>by
      have e2:=HE.out.2.1; have e1:=HE.out.1
      rw [e2] at hj; rw [e1]
      have:=hp j om;grind
     clear c0 c1 c2 c3 c4 c5 c6 c7 c8 hp hiM hbl hD hF;go_wp2;(try rw [Exit.noGoto_ret]);go_ret;exact ⟨D,pv,rw,true,rfl,hD2,hG,hF2,fun _=>HFe.out,fun h=>by cases h⟩
    ·rw [hiM] at hr hmin;have hr0:¬ ((r:Int)<0):=om;have Hmin:=hdq hmin;have Hpr:=hdq hpr;clear c0 c1 c2 c3 c4 c5 c6 c7 c8 hmin hpr;obtain ⟨c0,c1,c2,c3,c4,c5,c6,c7,c8⟩:=hD2.cells;dsimp only [SV.val] at c0 c1 c2 c3 c4 c5 c6 c7 c8;clear hD hF hbl;go_wp2;clear hiM hi hlt hr0 c0 c1 c2 c3 c4 c5 c6 c7 c8;obtain ⟨w2,hw2⟩:∃ w2:World,w2=wr:=⟨_,rfl⟩;have H3:RLoop1 w2 (fun j=>D.a r j<0) D.free V (.int .i64 (-1)) (.int .i64 0) wr:=⟨0,nzl _,rfl,Pick.start,by rw [hw2]; exact brf _ _⟩;rw [<-hw2] at hD2 hF2;clear hw2;(go_loopw [5,51] (fun v t W=>RLoop1 w2 (fun j=>D.a r j<0) D.free V v t W) (fun _ t _=>V-(intOf t).toNat));case atStart=>exact H3
     case round=>
      clear H3;obtain ⟨k,hk,rfl,hpick,hbl⟩:=hrel;have hD3:=hD2.call hbl;by_cases hlt:k<V
      ·obtain ⟨-,-,c2,c3,-⟩:=hD3.cells;dsimp only [SV.val] at c2 c3;obtain ⟨gf,e,f0,f1,f2⟩:=hD3.fre.elem hlt;dsimp only at e f0;subst e;obtain ⟨gr,e,r0,r1,r2⟩:=hD3.row.elem hr;dsimp only at e r0;subst e;have hrow:=hD3.rows r hr;dsimp only at hrow;have hrl:=hrow.lt;obtain ⟨u,⟨q0,q1,q2,q3⟩,hu⟩:=hrow.elem k (by rw [zAm]; omega);rw [zAL _ om] at hu;dsimp only at q1 q2 q3;have hkv:k<V+1:=om;have hdl4:d<wr.heap.size:=hD3.dlt;have Hu:=hdq (hu.qis (zAv (HFA.out r k hr om)));have HD3:=hdq hD3;clear hu hrow hD3;by_cases hneg:D.a r k<0
       ·have hq:=zDe hneg;rcases hpick with ⟨rfl,hp⟩ | ⟨c,hc,rfl,hpc,hmin⟩
        ·(go_wp2_with fail);refine (zAn Hu.out).mono ?_; rintro e w3 ⟨rfl,hb3⟩
         rw [hq];have Hfin:Hid (RLoop1 w2 (fun j=>D.a r j<0) D.free V (.int .i64 (k:Int)) (.int .i64 ((k:Int)+1)) w3):=⟨k+1,om,si,Pick.first hp hneg,hbl.trans (hb3.mono hbl.size)⟩;clear hp hbl;go_wp2;go_roundw;case rel=>exact fn_ Hfin.out
         case measure=>simp [intOf]; omega
        ·obtain ⟨gf',e',f0c,-,-⟩:=HD3.out.fre.elem (show c<V by omega);cases e';(try dsimp only at f0c);have hc0:¬ ((c:Int)<0):=om;have hcV:c<V:=om;by_cases hkey:D.free k<D.free c
         ·have hki:(D.free k:Int)<(D.free c:Int):=om;(go_wp2_with fail);refine (zAn Hu.out).mono ?_; rintro e w3 ⟨rfl,hb3⟩
          rw [hq];obtain ⟨hc3,hf3⟩:=bcell hb3;have Hfin:Hid (RLoop1 w2 (fun j=>D.a r j<0) D.free V (.int .i64 (k:Int)) (.int .i64 ((k:Int)+1)) w3):=⟨k+1,om,si,Pick.turn hmin hneg hkey,hbl.trans (hb3.mono hbl.size)⟩;clear hmin hbl;go_wp2;go_roundw;case rel=>exact fn_ Hfin.out
          case measure=>simp [intOf]; omega
         ·have hki:¬ (D.free k:Int)<(D.free c:Int):=om;(go_wp2_with fail);refine (zAn Hu.out).mono ?_; rintro e w3 ⟨rfl,hb3⟩
          rw [hq];obtain ⟨hc3,hf3⟩:=bcell hb3;have Hfin:Hid (RLoop1 w2 (fun j=>D.a r j<0) D.free V c (.int .i64 ((k:Int)+1)) w3):=⟨k+1,om,si,Pick.stay hc hpc hmin hkey,hbl.trans (hb3.mono hbl.size)⟩;clear hmin hbl;go_wp2;go_roundw;case rel=>exact fn_ Hfin.out
          case measure=>simp [intOf]; omega
       ·have hq:=zD0 hneg;(go_wp2_with fail);refine (zAn Hu.out).mono ?_; rintro e w3 ⟨rfl,hb3⟩
        have Hfin:Hid (RLoop1 w2 (fun j=>D.a r j<0) D.free V u5 (.int .i64 ((k:Int)+1)) w3):=⟨k+1,om,si,hpick.skip hneg,hbl.trans (hb3.mono hbl.size)⟩;clear hpick hbl;go_wp2;go_roundw;case rel=>exact fn_ Hfin.out
        case measure=>simp [intOf]; omega
      ·have hkV:k=V:=om;have hF3:=hF2.call hbl;rcases hpick with ⟨rfl,hp⟩ | ⟨c,hc,rfl,hpc,hmin⟩
       ·have HN:Hid (∀ j,j<V->0<=D.a r j):=fun j hj=>by have:=hp j om; grind
        obtain ⟨-,-,-,-,-,-,c6,-,c8⟩:=hD3.cells;dsimp only at c6 c8;have hD4:=hdq (hD3.setD (o:=6) (v:=.int .i64 (r:Int)) (pv':=pv) (rw':=(r:Int)) (cl':=cl) rfl);have hF4:=hdq (hF3.set (p:=⟨d,6,none⟩) hD3.gd r);clear hp hD3 hbl hF3 hkV;go_wp2;(try rw [Exit.noGoto_ret]);go_ret;exact ⟨D,pv,(r:Int),false,rfl,hD4.out,hG,hF4.out,(fun h=>by cases h),fun _=>⟨r,hr,rfl,Hpr.out,HN.out⟩⟩
       ·rw [hkV] at hc hmin;have hc0:¬ ((c:Int)<0):=om
        have hsel:Lin.RSel P D r c:=by
         obtain ⟨E1,E2,E3⟩:=HE.out;exact ⟨om,by rw [E1]; exact Hpr.out,fun j hj hn=>by rw [E1] at hn; exact Hmin.out j om hn,om,hpc,fun j hj hn=>hmin j om hn⟩
        have HS:=hdq hsel;have hGp:=hG.pivot hsel.hr hsel.hs hsel.ne;have hfp:=HFit.out _ hGp;have Hlt:Hid (rank (D.pivot r c)<gk):=by show _<_; rw [HGk.out]; exact HR.out D r c hG hsel
        have HFS:Hid (∀ j,j<=V->Lin.Fits kb (Lin.scaled c (D.a r) j)):=fun j hj=>by
         have:=hfp.1 r j hsel.hr (by rw [HE.out.1]; exact hj);simpa [Lin.Dict.pivot] using this
        clear hmin hsel hfp hbl hkV;(go_wp2_with fail);refine (zPf (kb:=kb) hD3 hr hc om om om HS.out.ne HFA.out HFC.out HFS.out HK.out).mono ?_;rintro e w5 ⟨⟨v,rfl⟩,pv',hD5,hF5⟩;have Hfin:Hid (RLoop0 w G ⟨d,⟨bA,M,bc⟩,⟨fA,V,fc⟩,⟨rA,M,rc⟩,⟨cA,K,cc⟩,rb,cb⟩ V M K P rank rw cl (rank (D.pivot r c)) w5):=⟨_,pv',rfl,hD5,hGp,hF3.trans hF5⟩;clear hD5 hF5 hD3 hF3;go_wp2;(go_roundg (rank (D.pivot r c)));case measure=>exact Hlt.out
        case rel=>exact Hfin.out
end Go.Proofs.YtbpngececjihlaaGreat
