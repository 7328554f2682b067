/- Texts Restore Pr6 Pr7 Pr8 Pr9 PrA PrB of this claim. -/
import Derived.Test.YtbpngececjihlaaGreatY17
import Derived.Test.YtbpngececjihlaaGreatY18
set_option maxHeartbeats 4000000
set_option maxRecDepth 40000
namespace Go.Proofs.YtbpngececjihlaaGreat
open Go.RowKit Go.Shelf
variable {q:Rat} {r i V M E N kb k x:Nat} {ch:Option (Nat->Rat)} {G:Nat->Prop} {w W2:World} {v v':Value} {xs:List Value}
theorem zDe (h:q<0):qsign q=-1:=if_pos h
theorem zD0 (h:¬ q<0):¬ (qsign q<0):=by unfold qsign; rw [if_neg h]; split <;> omega
def Pick (p:Nat->Prop) (key:Nat->Nat) (i:Nat) (v:Value):Prop:=
 (v = .int .i64 (-1)/\∀ j,j<i->¬ p j)\/∃ r:Nat,r<i/\v = .int .i64 (r:Int)/\p r/\∀ j,j<i->p j->key r<=key j
section
variable {p:Nat->Prop} {key:Nat->Nat} {i:Nat} {v:Value}
theorem Pick.start:Pick p key 0 (.int .i64 (-1)):=.inl ⟨rfl,fun j hj=>by omega⟩
theorem Pick.skip (h:Pick p key i v) (hp:¬ p i):Pick p key (i+1) v:=by
 rcases h with ⟨e,h⟩ | ⟨r,hr,e,h1,h2⟩
 ·exact .inl ⟨e,fun j hj=>by by_cases h':j=i; subst h'; exact hp; exact h j (by omega)⟩
 ·exact .inr ⟨r,by omega,e,h1,fun j hj hpj=>by by_cases h':j=i; subst h'; exact absurd hpj hp; exact h2 j (by omega) hpj⟩
theorem Pick.first (h:∀ j,j<i->¬ p j) (hp:p i):Pick p key (i+1) (.int .i64 (i:Int)):=
 .inr ⟨i,by omega,rfl,hp,fun j hj hpj=>by by_cases h':j=i; subst h'; exact nlr _; exact absurd hpj (h j (by omega))⟩
theorem Pick.turn (h:∀ j,j<i->p j->key r<=key j) (hp:p i) (hk:key i<key r):Pick p key (i+1) (.int .i64 (i:Int)):=
 .inr ⟨i,by omega,rfl,hp,fun j hj hpj=>by by_cases h':j=i; subst h'; exact nlr _; have:=h j (by omega) hpj; omega⟩
theorem Pick.stay (hr:r<i) (hpr:p r) (h:∀ j,j<i->p j->key r<=key j) (hk:¬ key i<key r):Pick p key (i+1) (.int .i64 (r:Int)):=
 .inr ⟨r,by omega,rfl,hpr,fun j hj hpj=>by by_cases h':j=i; subst h'; omega; exact h j (by omega) hpj⟩
end
def RLoop1 (W:World) (p:Nat->Prop) (key:Nat->Nat) (n:Nat) (v t:Value) (W':World):Prop:=
 ∃ i:Nat,i<=n/\t = .int .i64 i/\Pick p key i v/\Below W W W'
theorem zC1 {P:Lin.Prob} {D:Lin.Dict} (h:∀ i k,i<M->k<N->rv D V E i k=D.R V i (Lin.levels P ch k)) (hi:i<M):Lin.LexNeg N (rv D V E i) ↔ Lin.LexNeg N fun k=>D.R V i (Lin.levels P ch k):=
 ⟨fun x=>x.congr fun k hk=>h i k hi hk,fun x=>x.congr fun k hk=>(h i k hi hk).symm⟩
def PRLoop0 (w:World) (G:Nat->Prop) (x:PV) (V M E:Nat) (P:Lin.Prob) (ch:Option (Nat->Rat)) (rank:Lin.Dict->Nat) (k:Nat) (W:World):Prop:=
 ∃ D:Lin.Dict,k=rank D/\PDA W G x V M E D/\PInv P ch D/\Fr G w W
def PRestRet (w:World) (G:Nat->Prop) (x:PV) (V M E:Nat) (P:Lin.Prob) (ch:Option (Nat->Rat)) (e:Ending) (w':World):Prop:=
 ∃ (D:Lin.Dict) (b:Bool),e = .returned (.bool b)/\PDA w' G x V M E D/\PInv P ch D/\Fr G w w'/\(b=true->Lin.LFeas P (Lin.given ch+P.m) (Lin.levels P ch) D)/\(b=false->Lin.LInf P (Lin.given ch+P.m) (Lin.levels P ch) D)
theorem zEJ {x:PV} {D:Lin.Dict} {P:Lin.Prob} (h:PDA w G x V M E D) (e1:P.n=V) (e2:P.m=M) (hg:PInv P ch D) (hVE:V<=E) (hE:E<=1000) (hM:M<=1000) (hgv:E+1-V=Lin.given ch)
  (hfit:∀ D,PInv P ch D->PFits V M E kb D) (hk:2*kb+1<=LM) :
  Calls Tryz.prog 120 #[.pointer (some x.d)] w fun e w'=>PRestRet w G x V M E P ch e w':=by
 subst e1 e2;obtain ⟨V,hVn⟩:∃ V,V=P.n:=⟨_,rfl⟩;obtain ⟨M,hMn⟩:∃ M,M=P.m:=⟨_,rfl⟩;obtain ⟨N,hNn⟩:∃ N,N=Lin.given ch+P.m:=⟨_,rfl⟩;obtain ⟨rank,hrank⟩:=Lin.zFn P N (Lin.levels P ch);rw [<-hVn] at h hVE hgv hfit;rw [<-hMn] at h hM hfit;have HR:=hdq hrank;have HK:=hdq hk;have HFit:=hdq hfit;have HE:Hid (P.n=V/\P.m=M):=⟨hVn.symm,hMn.symm⟩;have HN0:Hid (N=Lin.given ch+P.m):=hNn;have HGV:=hdq hgv;have HN:Hid (E+1-V+M=N):=by show _=_; rw [hgv,hNn,hMn]
 clear hrank hk hfit hVn hMn hNn hgv;show Calls _ _ _ _ fun e w'=>PRestRet w G x _ _ E P ch e w'
 rw [HE.out.1,HE.out.2];obtain ⟨d,⟨bA,bn,bc⟩,⟨fA,fn,fc⟩,⟨rA,rn,rc⟩,rb,rs,cb,cc⟩:=x;obtain ⟨hdl,rfl,rfl,rfl,l1,l1',l2,l2',l3,l3',l4,l4'⟩:=h.opn;have H0:PRLoop0 w G ⟨d,⟨bA,M,bc⟩,⟨fA,V,fc⟩,⟨rA,M,rc⟩,rb,rs,cb,cc⟩ V M E P ch rank (rank D) w:=⟨D,rfl,h,hg,Fr.refl _ _⟩;clear h hg;go_enter Tryz.func120,Tryz.ntmps120
 go_wp2;go_loopg [] (rank D) (fun k W=>PRLoop0 w G ⟨d,⟨bA,M,bc⟩,⟨fA,V,fc⟩,⟨rA,M,rc⟩,rb,rs,cb,cc⟩ V M E P ch rank k W)
 case atStart=>exact H0
 case round=>
  clear H0;obtain ⟨D,hgk,hD,hG,hF⟩:=hrel;have hBW:w.heap.size<=wr.heap.size:=hF.size;have hdl2:d<wr.heap.size:=by omega
  have hfit:=HFit.out D hG;have HFA:=hdq hfit.a;have HFC:=hdq hfit.c;have HFR:=hdq hfit.r;have HGk:=hdq hgk;have HG:=hdq hG;obtain ⟨E1,E2⟩:=HE.out;have HB:Hid (∀ i,i<M->D.basic i<V+M):=fun i hi=>by have:=hG.1.bLt i (by omega); omega
  have HFr:Hid (∀ j,j<V->D.free j<V+M):=fun j hj=>by have:=hG.1.fLt j (by omega); omega
  have HFI:Hid (∀ i j,i<V->j<V->D.free i=D.free j->i=j):=fun i j hi hj=>hG.1.fInj i j (by omega) (by omega)
  have HRV:Hid (∀ i k,i<M->k<N->rv D V E i k=D.R V i (Lin.levels P ch k)):=fun i k hi _=>by
   have:=hG.rv (E:=E) (row:=i) (k:=k) (by rw [E1]; exact HGV.out) (by omega);rw [E1] at this; exact this
  clear hfit hgk E1 E2 hG;go_wp2_with fail
  refine (zDJ hD HFI.out HFr.out (by omega) hM).mono ?_; rintro e w1 ⟨⟨rfl,hP1⟩,hb1⟩
  have hD1:=hD.call hb1;have hF1:=hF.call hb1;obtain ⟨pb,hpb⟩:∃ pb,pb=wr.heap.size:=⟨_,rfl⟩;rw [<-hpb] at hP1 ⊢;have hBW1:w.heap.size<=w1.heap.size:=hF1.size;have hdl3:d<w1.heap.size:=by omega
  clear hpb hb1 hD hF hBW hdl2;obtain ⟨c0,c1,c2,c3,c4,c8⟩:=hD1.cells;dsimp only [SV.val] at c0 c1 c2 c3 c4 c8;go_wp2;have H1:RLoop1 w1 (fun i=>Lin.LexNeg N (fun k=>D.R V i (Lin.levels P ch k))) D.basic M (.int .i64 (-1)) (.int .i64 0) w1:=⟨0,nzl _,rfl,Pick.start,brf _ _⟩;clear c0 c1 c2 c3 c4 c8;go_loopw [3,16] (fun v t W=>RLoop1 w1 (fun i=>Lin.LexNeg N (fun k=>D.R V i (Lin.levels P ch k))) D.basic M v t W) (fun _ t _=>M-(intOf t).toNat)
  case atStart=>exact H1
  case round=>
   clear H1;obtain ⟨i,hi,rfl,hpick,hbl⟩:=hrel;by_cases hlt:i<M
   ·have hD2:=hD1.call hbl;have HP2:=hdq (hP1.keep hbl);have hBW2:w.heap.size<=wr.heap.size:=by have:=hbl.size; omega
    have hdl4:d<wr.heap.size:=by have:=hbl.size; omega
    obtain ⟨gb,e,b0,b1,b2⟩:=hD2.bas.elem hlt;dsimp only at e b0;subst e;obtain ⟨-,c1',-⟩:=hD2.cells;dsimp only [SV.val] at c1';have HD2:=hdq hD2;have hii:(i:Int)<(M:Int):=(by omega);clear hD2;rcases hpick with ⟨rfl,hp⟩ | ⟨r,hr,rfl,hpr,hmin⟩
    ·have Hp:=hdq hp;clear hp;(go_upto_region 5 with fail);refine zAp 1000 (fun _ w'=>Sees w [] wr w') (by kernel_rfl) ?_;have hS0:Sees w [] wr wr.drew:=Sees.st (by simp) hBW2;refine tx1 0 hS0 ?_;refine tx1 1 hS0 ?_;refine tx1 2 hS0 ?_;refine tn4 3 4 5 6 hS0 ?_;refine tn4 7 8 9 10 hS0 ?_;refine tn4 11 12 13 14 hS0 ?_;refine tn1 15 hS0 ?_;refine tn1 16 hS0 ?_;refine tn1 17 hS0 ?_;refine tx4 18 19 20 21 hS0 ?_;refine tx1 22 hS0 ?_;refine tk1 23 ?_;intro K hK;go_simp;refine (zEt (HD2.out.call hS0.kept.whole) (HP2.out.keep hS0.kept.whole) hlt hVE (by omega) (by omega) (HB.out i hlt) (fun k hk=>HFR.out i k hlt hk) HK.out).mono ?_;rintro e w4 ⟨⟨sg,rfl,hsg⟩,hb4⟩;dsimp only;have hS4:=Kept.call2 hb4 hS0;refine hK.out _ _ hS4 ?_;clear hK K;rw [HN.out] at hsg;have HSG:=hdq hsg;clear hsg;by_cases hneg:Lin.LexNeg N (fun k=>D.R V i (Lin.levels P ch k))
     ·have hs0:sg<0:=HSG.out.2 ((zC1 HRV.out hlt).2 hneg);refine tx1 24 hS4 ?_;refine tx1 25 hS4 ?_;refine zAf (by kernel_rfl) ?_ _;have Hfin:Hid (RLoop1 w1 (fun i=>Lin.LexNeg N (fun k=>D.R V i (Lin.levels P ch k))) D.basic M (.int .i64 (i:Int)) (.int .i64 ((i:Int)+1)) w4):=⟨i+1,by omega,by simp,Pick.first Hp.out hneg,hbl.trans (hS4.kept.whole.mono hbl.size)⟩;clear hS0 hS4 hb4 b0 b1 c1';go_wp2;go_roundw;case rel=>exact Hfin.out
      case measure=>simp [intOf]; omega
     ·have hs0:¬ sg<0:=(fun h=>hneg ((zC1 HRV.out hlt).1 (HSG.out.1 h)));refine tx1 24 hS4 ?_;refine tx1 25 hS4 ?_;refine zAf (by kernel_rfl) ?_ _;have Hfin:Hid (RLoop1 w1 (fun i=>Lin.LexNeg N (fun k=>D.R V i (Lin.levels P ch k))) D.basic M (.int .i64 (-1)) (.int .i64 ((i:Int)+1)) w4):=⟨i+1,by omega,by simp,Pick.skip (.inl ⟨rfl,Hp.out⟩) hneg,hbl.trans (hS4.kept.whole.mono hbl.size)⟩;clear hS0 hS4 hb4 b0 b1 c1';go_wp2;go_roundw;case rel=>exact Hfin.out
      case measure=>simp [intOf]; omega
    ·obtain ⟨gb',e',b0r,-,-⟩:=HD2.out.bas.elem (show r<M by omega);cases e';(try dsimp only at b0r);have hri:(r:Int)<(M:Int):=(by omega);have hr0:¬ ((r:Int)<0):=(by omega);have hrM:r<M:=(by omega);have Hmin:=hdq hmin;have Hpr:=hdq hpr;clear hmin hpr;by_cases hkey:D.basic i<D.basic r
     ·have hki:(D.basic i:Int)<(D.basic r:Int):=(by omega);(go_upto_region 5 with fail);refine zAp 1000 (fun _ w'=>Sees w [] wr w') (by kernel_rfl) ?_;have hS0:Sees w [] wr wr.drew:=Sees.st (by simp) hBW2;refine tx1 0 hS0 ?_;refine tx1 1 hS0 ?_;refine tx1 2 hS0 ?_;refine tx4 3 4 5 6 hS0 ?_;refine tx4 7 8 9 10 hS0 ?_;refine tx4 11 12 13 14 hS0 ?_;refine tx4 15 16 17 18 hS0 ?_;refine tx4 19 20 21 22 hS0 ?_;refine tk1 23 ?_;intro K hK;go_simp;refine (zEt (HD2.out.call hS0.kept.whole) (HP2.out.keep hS0.kept.whole) hlt hVE (by omega) (by omega) (HB.out i hlt) (fun k hk=>HFR.out i k hlt hk) HK.out).mono ?_;rintro e w4 ⟨⟨sg,rfl,hsg⟩,hb4⟩;dsimp only;have hS4:=Kept.call2 hb4 hS0;refine hK.out _ _ hS4 ?_;clear hK K;rw [HN.out] at hsg;have HSG:=hdq hsg;clear hsg;by_cases hneg:Lin.LexNeg N (fun k=>D.R V i (Lin.levels P ch k))
      ·have hs0:sg<0:=HSG.out.2 ((zC1 HRV.out hlt).2 hneg);refine tx1 24 hS4 ?_;refine tx1 25 hS4 ?_;refine zAf (by kernel_rfl) ?_ _;have Hfin:Hid (RLoop1 w1 (fun i=>Lin.LexNeg N (fun k=>D.R V i (Lin.levels P ch k))) D.basic M (.int .i64 (i:Int)) (.int .i64 ((i:Int)+1)) w4):=⟨i+1,by omega,by simp,Pick.turn Hmin.out hneg hkey,hbl.trans (hS4.kept.whole.mono hbl.size)⟩;clear hS0 hS4 hb4 b0 b1 c1';go_wp2;go_roundw;case rel=>exact Hfin.out
       case measure=>simp [intOf]; omega
      ·have hs0:¬ sg<0:=(fun h=>hneg ((zC1 HRV.out hlt).1 (HSG.out.1 h)));refine tx1 24 hS4 ?_;refine tx1 25 hS4 ?_;refine zAf (by kernel_rfl) ?_ _;have Hfin:Hid (RLoop1 w1 (fun i=>Lin.LexNeg N (fun k=>D.R V i (Lin.levels P ch k))) D.basic M (.int .i64 (r:Int)) (.int .i64 ((i:Int)+1)) w4):=⟨i+1,by omega,by simp,Pick.skip (.inr ⟨r,hr,rfl,Hpr.out,Hmin.out⟩) hneg,hbl.trans (hS4.kept.whole.mono hbl.size)⟩;clear hS0 hS4 hb4 b0 b1 c1';go_wp2;go_roundw;case rel=>exact Hfin.out
       case measure=>simp [intOf]; omega
     ·have hki:¬ (D.basic i:Int)<(D.basic r:Int):=(by omega);(go_upto_region 5 with fail);refine zAp 1000 (fun _ w'=>Sees w [] wr w') (by kernel_rfl) ?_;have hS0:Sees w [] wr wr.drew:=Sees.st (by simp) hBW2;refine tx4 0 1 2 3 hS0 ?_;refine tx4 4 5 6 7 hS0 ?_;refine tx4 8 9 10 11 hS0 ?_;refine tx4 12 13 14 15 hS0 ?_;refine tx4 16 17 18 19 hS0 ?_;refine tn4 20 21 22 23 hS0 ?_;refine tn1 24 hS0 ?_;refine tx1 25 hS0 ?_;refine zAf (by kernel_rfl) ?_ _;have Hfin:Hid (RLoop1 w1 (fun i=>Lin.LexNeg N (fun k=>D.R V i (Lin.levels P ch k))) D.basic M (.int .i64 (r:Int)) (.int .i64 ((i:Int)+1)) wr.drew):=⟨i+1,by omega,by simp,Pick.stay hr Hpr.out Hmin.out hkey,hbl.trans (hS0.kept.whole.mono hbl.size)⟩;clear hS0 b0 b1 c1';go_wp2;go_roundw;case rel=>exact Hfin.out
      case measure=>simp [intOf]; omega
   ·have hiM:i=M:=(by omega);have hD2:=hD1.call hbl;have hF2:=hF1.call hbl;rcases hpick with ⟨rfl,hp⟩ | ⟨r,hr,rfl,hpr,hmin⟩
    ·have HFe:Hid (Lin.LFeas P (Lin.given ch+P.m) (Lin.levels P ch) D):=fun j hj=>by
      have e2:=HE.out.2; have e1:=HE.out.1
      refine HG.out.1.pos hj ?_;rw [<-HN0.out,e1]; exact hp j (by omega)
     clear hp hiM hbl hD1 hF1;go_wp2;(try rw [Exit.noGoto_ret]);go_ret;exact ⟨D,true,rfl,hD2,HG.out,hF2,fun _=>HFe.out,fun h=>by cases h⟩
    ·rw [hiM] at hr hmin;have hr0:¬ ((r:Int)<0):=(by omega);have Hmin:=hdq hmin;have Hpr:=hdq hpr;clear hmin hpr;obtain ⟨c0,c1,c2,c3,c4,c8⟩:=hD2.cells;dsimp only [SV.val] at c0 c1 c2 c3 c4 c8;clear hD1 hF1 hbl;go_wp2;clear hiM hi hlt hr0 c0 c1 c2 c3 c4 c8;obtain ⟨w2,hw2⟩:∃ w2:World,w2=wr:=⟨_,rfl⟩;have H3:RLoop1 w2 (fun j=>D.a r j<0) D.free V (.int .i64 (-1)) (.int .i64 0) wr:=⟨0,nzl _,rfl,Pick.start,by rw [hw2]; exact brf _ _⟩;rw [<-hw2] at hD2 hF2;clear hw2;(go_loopw [6,54] (fun v t W=>RLoop1 w2 (fun j=>D.a r j<0) D.free V v t W) (fun _ t _=>V-(intOf t).toNat));case atStart=>exact H3
     case round=>
      clear H3;obtain ⟨k,hk,rfl,hpick,hbl⟩:=hrel;have hD3:=hD2.call hbl;by_cases hlt:k<V
      ·obtain ⟨-,-,c2,c3,-⟩:=hD3.cells;dsimp only [SV.val] at c2 c3;obtain ⟨gf,e,f0,f1,f2⟩:=hD3.fre.elem hlt;dsimp only at e f0;subst e;obtain ⟨gr,e,r0,r1,r2⟩:=hD3.row.elem hr;dsimp only at e r0;subst e;have hrow:=hD3.rows r hr;have hcap:=hD3.caps r hr;dsimp only at hrow hcap;have hrl:=hrow.lt;obtain ⟨u,⟨q0,q1,q2,q3⟩,hu⟩:=hrow.elem k (by rw [zAm]; omega);rw [zAL _ (by omega)] at hu;dsimp only at q1 q2 q3;have hkv:k<E+1:=(by omega);have hdl4:d<wr.heap.size:=hD3.dlt;have Hu:=hdq (hu.qis (zAv (HFA.out r k hr (by omega))));have HD3:=hdq hD3;clear hu hrow hD3;by_cases hneg:D.a r k<0
       ·have hq:=zDe hneg;rcases hpick with ⟨rfl,hp⟩ | ⟨c,hc,rfl,hpc,hmin⟩
        ·(go_wp2_with fail);refine (zAn Hu.out).mono ?_; rintro e w3 ⟨rfl,hb3⟩
         rw [hq];have Hfin:Hid (RLoop1 w2 (fun j=>D.a r j<0) D.free V (.int .i64 (k:Int)) (.int .i64 ((k:Int)+1)) w3):=⟨k+1,by omega,by simp,Pick.first hp hneg,hbl.trans (hb3.mono hbl.size)⟩;clear hp hbl;go_wp2;go_roundw;case rel=>exact Hfin.out
         case measure=>simp [intOf]; omega
        ·obtain ⟨gf',e',f0c,-,-⟩:=HD3.out.fre.elem (show c<V by omega);cases e';(try dsimp only at f0c);have hc0:¬ ((c:Int)<0):=(by omega);have hcV:c<V:=(by omega);by_cases hkey:D.free k<D.free c
         ·have hki:(D.free k:Int)<(D.free c:Int):=(by omega);(go_wp2_with fail);refine (zAn Hu.out).mono ?_; rintro e w3 ⟨rfl,hb3⟩
          rw [hq];obtain ⟨hc3,hf3⟩:=bcell hb3;have Hfin:Hid (RLoop1 w2 (fun j=>D.a r j<0) D.free V (.int .i64 (k:Int)) (.int .i64 ((k:Int)+1)) w3):=⟨k+1,by omega,by simp,Pick.turn hmin hneg hkey,hbl.trans (hb3.mono hbl.size)⟩;clear hmin hbl;go_wp2;go_roundw;case rel=>exact Hfin.out
          case measure=>simp [intOf]; omega
         ·have hki:¬ (D.free k:Int)<(D.free c:Int):=(by omega);(go_wp2_with fail);refine (zAn Hu.out).mono ?_; rintro e w3 ⟨rfl,hb3⟩
          rw [hq];obtain ⟨hc3,hf3⟩:=bcell hb3;have Hfin:Hid (RLoop1 w2 (fun j=>D.a r j<0) D.free V (.int .i64 (c:Int)) (.int .i64 ((k:Int)+1)) w3):=⟨k+1,by omega,by simp,Pick.stay hc hpc hmin hkey,hbl.trans (hb3.mono hbl.size)⟩;clear hmin hbl;go_wp2;go_roundw;case rel=>exact Hfin.out
          case measure=>simp [intOf]; omega
       ·have hq:=zD0 hneg;(go_wp2_with fail);refine (zAn Hu.out).mono ?_; rintro e w3 ⟨rfl,hb3⟩
        have Hfin:Hid (RLoop1 w2 (fun j=>D.a r j<0) D.free V u6 (.int .i64 ((k:Int)+1)) w3):=⟨k+1,by omega,by simp,hpick.skip hneg,hbl.trans (hb3.mono hbl.size)⟩;clear hpick hbl;go_wp2;go_roundw;case rel=>exact Hfin.out
        case measure=>simp [intOf]; omega
      ·have hkV:k=V:=(by omega);have hF3:=hF2.call hbl;rcases hpick with ⟨rfl,hp⟩ | ⟨c,hc,rfl,hpc,hmin⟩
       ·have HN2:Hid (Lin.LInf P (Lin.given ch+P.m) (Lin.levels P ch) D):=by
         obtain ⟨E1,E2⟩:=HE.out;refine ⟨r,by omega,?_,fun j hj=>?_⟩
         ·rw [<-HN0.out,E1]; exact Hpr.out
         ·have:=hp j (by omega); grind
        clear hp hbl hkV;go_wp2;(try rw [Exit.noGoto_ret]);go_ret;exact ⟨D,false,rfl,hD3,HG.out,hF3,(fun h=>by cases h),fun _=>HN2.out⟩
       ·rw [hkV] at hc hmin;have hc0:¬ ((c:Int)<0):=by omega
        have hsel:Lin.LSel P N (Lin.levels P ch) D r c:=by
         obtain ⟨E1,E2⟩:=HE.out;exact ⟨by omega,by rw [E1]; exact Hpr.out,fun j hj hn=>by rw [E1] at hn; exact Hmin.out j (by omega) hn,by omega,hpc,fun j hj hn=>hmin j (by omega) hn⟩
        have HS:=hdq hsel;have HGp:=hdq (HG.out.pivot hsel.hr hsel.hs hsel.ne);have hfp:=HFit.out _ HGp.out;have Hlt:Hid (rank (D.pivot r c)<gk):=by show _<_; rw [HGk.out]; exact HR.out D r c HG.out.1 hsel
        have HFS:Hid (∀ j,j<=E->Lin.Fits kb (Lin.scaled c (D.a r) j)):=fun j hj=>by
         have:=hfp.a r j hr hj;simpa [Lin.Dict.pivot] using this
        clear hmin hsel hfp hbl hkV;(go_wp2_with fail);refine (zDK (kb:=kb) hD3 hr hc hVE hE hM HS.out.ne HFA.out HFC.out HFS.out HK.out).mono ?_;rintro e w5 ⟨⟨v,rfl⟩,hD5,hF5⟩;have Hfin:Hid (PRLoop0 w G ⟨d,⟨bA,M,bc⟩,⟨fA,V,fc⟩,⟨rA,M,rc⟩,rb,rs,cb,cc⟩ V M E P ch rank (rank (D.pivot r c)) w5):=⟨_,rfl,hD5,HGp.out,hF3.trans hF5⟩;clear hD5 hF5 hD3 hF3;go_wp2;(go_roundg (rank (D.pivot r c)));case measure=>exact Hlt.out
        case rel=>exact Hfin.out
def PickE (p:Nat->Prop) (i:Nat) (v:Value):Prop:=
 (v = .int .i64 (-1)/\∀ j,j<i->¬ p j)\/∃ r:Nat,r<i/\v = .int .i64 (r:Int)/\p r
theorem PickE.start {p:Nat->Prop}:PickE p 0 (.int .i64 (-1)):=.inl ⟨rfl,fun j hj=>by omega⟩
theorem PickE.skip {p:Nat->Prop} (h:PickE p i v) (hp:¬ p i):PickE p (i+1) v:=by
 rcases h with ⟨e,h⟩ | ⟨r,hr,e,h1⟩
 ·exact .inl ⟨e,fun j hj=>by by_cases h':j=i; subst h'; exact hp; exact h j (by omega)⟩
 ·exact .inr ⟨r,by omega,e,h1⟩
theorem PickE.take {p:Nat->Prop} (hp:p i):PickE p (i+1) (.int .i64 (i:Int)):=.inr ⟨i,by omega,rfl,hp⟩
theorem PickE.stay {p:Nat->Prop} (hr:r<i) (hp:p r):PickE p (i+1) (.int .i64 (r:Int)):=.inr ⟨r,by omega,rfl,hp⟩
def ENLoop (w:World) (p:Nat->Prop) (n:Nat) (v t:Value) (W:World):Prop:=
 ∃ i:Nat,i<=n/\t = .int .i64 i/\PickE p i v/\Below w w W
theorem zJo (h:¬ q<0):0<=qsign q:=by have:=zD0 h; omega
theorem zEr {x:PV} {D:Lin.Dict} (h:PDA w G x V M E D) (hVE:V<=E) (_hE:E<=1000) (_hM:M<=1000) (hfc:∀ j,j<=E->Lin.Fits kb (D.c 0 j)) (hk:2*kb+1<=LM) :
  Calls Tryz.prog 121 #[.pointer (some x.d)] w fun e w'=>(∃ v,e = .returned v/\PickE (fun j=>D.c 0 j<0) V v)/\Below w w w':=by
 have HK1:Hid (kb+1<=LM):=by show kb+1<=LM; omega
 have HFC:=hdq hfc;clear hk hfc;obtain ⟨d,⟨bA,bn,bc⟩,⟨fA,fn,fc⟩,⟨rA,rn,rc⟩,rb,rs,cb,cc⟩:=x;obtain ⟨hdl,rfl,rfl,rfl,l1,l1',l2,l2',l3,l3',l4,l4'⟩:=h.opn;obtain ⟨c0,c1,c2,c3,c4,c8⟩:=h.cells;dsimp only [SV.val] at c0 c1 c2 c3 c4 c8;have H:=hdq h;clear h;go_enter Tryz.func121,Tryz.ntmps121
 go_wp2;clear c0 c1 c2 c3 c4 c8;have H1:ENLoop w (fun j=>D.c 0 j<0) V (.int .i64 (-1)) (.int .i64 0) w:=⟨0,nzl _,rfl,PickE.start,brf _ _⟩;go_loopw [3,12] (fun v t W=>ENLoop w (fun j=>D.c 0 j<0) V v t W) (fun _ t _=>V-(intOf t).toNat)
 case atStart=>exact H1
 case round=>
  clear H1;obtain ⟨i,hi,rfl,hpick,hbl⟩:=hrel;by_cases hlt:i<V
  ·have hD:=H.out.call hbl;obtain ⟨-,-,c2,-,c4,c8⟩:=hD.cells;dsimp only [SV.val] at c2 c4 c8;obtain ⟨gf,e,f0,f1,f2⟩:=hD.fre.elem hlt;dsimp only at e f0;subst e;have hrow:=hD.cst;dsimp only at hrow;obtain ⟨u,⟨q0,q1,q2,q3⟩,hu⟩:=hrow.elem i (by rw [zAm]; omega);rw [zAL _ (by omega)] at hu;dsimp only at q1 q2 q3;have hrl:=hrow.lt;have hiE:(i:Int)<(E:Int)+1:=(by omega);have hii:(i:Int)<(V:Int):=(by omega);have hdl2:=hD.dlt;dsimp only at hdl2;have Hu:=hdq (hu.qis (zAv (HFC.out i (by omega))));have HD:=hdq hD;clear hu hD hrow;by_cases hneg:D.c 0 i<0
   ·have hq:=zDe hneg;rcases hpick with ⟨rfl,hp⟩ | ⟨r,hr,rfl,hpr⟩
    ·clear hp;(go_wp2_with fail);refine (zAn Hu.out).mono ?_; rintro e w1 ⟨rfl,hb1⟩
     rw [hq];obtain ⟨hc1,hf1⟩:=bcell hb1;have hb2:=hbl.trans (hb1.mono hbl.size);have Hfin:Hid (ENLoop w (fun j=>D.c 0 j<0) V (.int .i64 (i:Int)) (.int .i64 ((i:Int)+1)) w1):=⟨i+1,by omega,by simp,PickE.take hneg,hb2⟩;clear hbl;go_wp2;go_roundw;case rel=>exact Hfin.out
     case measure=>simp [intOf]; omega
    ·obtain ⟨gf',e',f0r,-,-⟩:=HD.out.fre.elem (show r<V by omega);cases e';(try dsimp only at f0r);obtain ⟨ur,⟨p0,p1,p2,p3⟩,hur⟩:=HD.out.cst.elem r (by rw [zAm]; omega);rw [zAL _ (by omega)] at hur;dsimp only at p0 p1 p2 p3;have Hur:=hdq (hur.qis (zAv (HFC.out r (by omega))));have hrE:(r:Int)<(E:Int)+1:=(by omega);have hr0:(0:Int)<=(r:Int):=(by omega);have hrV:(r:Int)<(V:Int):=(by omega);clear hur;(go_wp2_with fail);refine (zAn Hu.out).mono ?_; rintro e w1 ⟨rfl,hb1⟩
     rw [hq];obtain ⟨hc1,hf1⟩:=bcell hb1;have hb2:=hbl.trans (hb1.mono hbl.size);have Hu1:=hdq (Hu.out.below hb1);have Hur1:=hdq (Hur.out.below hb1);have hw1:w.heap.size<=w1.heap.size:=hb2.size;have hdl3:d<w1.heap.size:=by have:=hb1.size; omega
     have hgf3:gf<w1.heap.size:=by have:=hb1.size; omega
     have hcb3:cb<w1.heap.size:=by have:=hb1.size; omega
     rw [<-hc1 _ _ hdl2] at c2 c4;rw [<-hc1 _ _ f2] at f0 f0r;rw [<-hc1 _ _ hrl] at q0 q1 q2 q3 p0 p1 p2 p3;clear hbl hb1 hc1 hf1 c8 f1;go_upto_region 8 with fail
     go_region_held3 (Sees w [] w1) (exact kp)
      (first
       | (go_at_call 19; ((with_reducible refine (zBg (a:=u) (b:=ur) (Hu1.out.keptNil (Sees.kept (by assumption))) (Hur1.out.keptNil (Sees.kept (by assumption))) HK1.out HK1.out).mono ?_); rintro e w3 ⟨rfl,hb3⟩))
       | fail)
     rename_i hS;have hbw:=hS.kept.whole;obtain ⟨hc3,hf3⟩:=bcell hbw;rw [<-hc3 _ _ hdl3] at c2 c4;rw [<-hc3 _ _ hgf3] at f0 f0r;have hb4:=hb2.trans (hbw.mono hb2.size);clear hS hb3 hbw hc3 hf3 q0 q1 q2 q3 p0 p1 p2 p3 Hu1 Hur1 Hu Hur hb2 hq;rcases qcmp3 (D.c 0 i) (D.c 0 r) with ⟨hl,hq⟩ | ⟨hl,hq⟩ | ⟨hl,hq⟩
     ·rw [hq];clear hl hq;have Hfin:Hid (ENLoop w (fun j=>D.c 0 j<0) V (.int .i64 (i:Int)) (.int .i64 ((i:Int)+1)) w3):=⟨i+1,by omega,by simp,PickE.take hneg,hb4⟩;go_wp2;go_roundw;case rel=>exact Hfin.out
      case measure=>simp [intOf]; omega
     ·rw [hq];clear hl hq;by_cases hkey:D.free i<D.free r
      ·have hki:(D.free i:Int)<(D.free r:Int):=(by omega);have Hfin:Hid (ENLoop w (fun j=>D.c 0 j<0) V (.int .i64 (i:Int)) (.int .i64 ((i:Int)+1)) w3):=⟨i+1,by omega,by simp,PickE.take hneg,hb4⟩;go_wp2;go_roundw;case rel=>exact Hfin.out
       case measure=>simp [intOf]; omega
      ·have hki:¬ (D.free i:Int)<(D.free r:Int):=(by omega);have Hfin:Hid (ENLoop w (fun j=>D.c 0 j<0) V (.int .i64 (r:Int)) (.int .i64 ((i:Int)+1)) w3):=⟨i+1,by omega,by simp,PickE.stay hr hpr,hb4⟩;go_wp2;go_roundw;case rel=>exact Hfin.out
       case measure=>simp [intOf]; omega
     ·rw [hq];clear hl hq;have Hfin:Hid (ENLoop w (fun j=>D.c 0 j<0) V (.int .i64 (r:Int)) (.int .i64 ((i:Int)+1)) w3):=⟨i+1,by omega,by simp,PickE.stay hr hpr,hb4⟩;go_wp2;go_roundw;case rel=>exact Hfin.out
      case measure=>simp [intOf]; omega
   ·have hq:=zJo hneg;(go_wp2_with fail);refine (zAn Hu.out).mono ?_; rintro e w1 ⟨rfl,hb1⟩
    have hb2:=hbl.trans (hb1.mono hbl.size);have Hfin:Hid (ENLoop w (fun j=>D.c 0 j<0) V (u3) (.int .i64 ((i:Int)+1)) w1):=⟨i+1,by omega,by simp,hpick.skip hneg,hb2⟩;clear hbl;go_wp2;go_roundw;case rel=>exact Hfin.out
    case measure=>simp [intOf]; omega
  ·(obtain rfl:i=V:=by omega);go_wp2;go_ret;exact ⟨⟨_,rfl,hpick⟩,hbl⟩
def PickL (N:Nat) (f a':Nat->Nat->Rat) (s:Nat) (i:Nat) (v:Value):Prop:=
 (v = .int .i64 (-1)/\∀ j,j<i->¬ 0<a' j s)\/∃ r:Nat,r<i/\v = .int .i64 (r:Int)/\0<a' r s/\∀ j,j<i->0<a' j s->¬ Lin.LexNeg N fun k=>f j k*a' r s-f r k*a' j s
section
variable {N:Nat} {f a':Nat->Nat->Rat} {s i:Nat} {v:Value}
theorem PickL.start:PickL N f a' s 0 (.int .i64 (-1)):=.inl ⟨rfl,fun j hj=>by omega⟩
theorem PickL.skip (h:PickL N f a' s i v) (hp:¬ 0<a' i s):PickL N f a' s (i+1) v:=by
 rcases h with ⟨e,h⟩ | ⟨r,hr,e,h1,h2⟩
 ·exact .inl ⟨e,fun j hj=>by by_cases h':j=i; subst h'; exact hp; exact h j (by omega)⟩
 ·exact .inr ⟨r,by omega,e,h1,fun j hj hpj=>by by_cases h':j=i; subst h'; exact absurd hpj hp; exact h2 j (by omega) hpj⟩
theorem PickL.self (j:Nat):¬ Lin.LexNeg N fun k=>f j k*a' j s-f j k*a' j s:=zCS fun k _=>by grind
theorem PickL.first (h:∀ j,j<i->¬ 0<a' j s) (hp:0<a' i s):PickL N f a' s (i+1) (.int .i64 (i:Int)):=
 .inr ⟨i,by omega,rfl,hp,fun j hj hpj=>by by_cases h':j=i; subst h'; exact PickL.self _; exact absurd hpj (h j (by omega))⟩
theorem PickL.turn (hpr:0<a' r s) (h:∀ j,j<i->0<a' j s->¬ Lin.LexNeg N fun k=>f j k*a' r s-f r k*a' j s) (hp:0<a' i s) (hl:Lin.LexNeg N fun k=>f i k*a' r s-f r k*a' i s):PickL N f a' s (i+1) (.int .i64 (i:Int)):=
 .inr ⟨i,by omega,rfl,hp,fun j hj hpj=>by
  by_cases h':j=i
  ·subst h'; exact PickL.self _
  ·have h1:=Lin.LexNN.of_not (h j (by omega) hpj);have h2:Lin.LexNN N fun k=>a' j s * -(f i k*a' r s-f r k*a' i s):=Lin.LexNN.smul (.inr hl.neg) (Rat.le_of_lt hpj)
   have h3:Lin.LexNN N fun k=>(a' r s)⁻¹*(a' i s*(f j k*a' r s-f r k*a' j s)+a' j s * -(f i k*a' r s-f r k*a' i s)):=Lin.LexNN.smul (Lin.LexNN.add (Lin.LexNN.smul h1 (Rat.le_of_lt hp)) h2) (Rat.le_of_lt (Lin.inv_pos hpr))
   exact (h3.congr fun k _=>by grind).not⟩
theorem PickL.stay (hr:r<i) (hpr:0<a' r s) (h:∀ j,j<i->0<a' j s->¬ Lin.LexNeg N fun k=>f j k*a' r s-f r k*a' j s) (hl:¬ Lin.LexNeg N fun k=>f i k*a' r s-f r k*a' i s):PickL N f a' s (i+1) (.int .i64 (r:Int)):=
 .inr ⟨r,by omega,rfl,hpr,fun j hj hpj=>by by_cases h':j=i; subst h'; exact hl; exact h j (by omega) hpj⟩
end
def LVLoop (w:World) (N:Nat) (f a':Nat->Nat->Rat) (s n:Nat) (v t:Value) (W:World):Prop:=
 ∃ i:Nat,i<=n/\t = .int .i64 i/\PickL N f a' s i v/\Below w w W
theorem zIJ (h:0<q):qsign q=1:=by unfold qsign; rw [if_neg (by grind),if_neg (by grind)]
theorem zJp (h:¬ 0<q):¬ 0<qsign q:=by unfold qsign; split; omega; split; omega; grind
theorem zEI {x:PV} {s:Nat} {D:Lin.Dict} (h:PDA w G x V M E D) (hs:s<V) (hVE:V<=E) (hE:E<=1000) (hM:M<=1000) (inj:∀ i j,i<V->j<V->D.free i=D.free j->i=j) (hF:∀ j,j<V->D.free j<V+M)
  (hB:∀ i,i<M->D.basic i<V+M) (hfit:PFits V M E kb D) (hk:2*kb+1<=LM) :
  Calls Tryz.prog 122 #[.pointer (some x.d),.int .i64 (s:Int)] w fun e w'=>(∃ v,e = .returned v/\PickL (E+1-V+M) (rv D V E) D.a s M v)/\Below w w w':=by
 have HK:=hdq hk;have HFA:=hdq hfit.a;have HFR:=hdq hfit.r;have HB:=hdq hB;obtain ⟨N,HN⟩:∃ N,Hid (E+1-V+M=N):=⟨_,rfl⟩;clear hk hfit hB;obtain ⟨d,⟨bA,bn,bc⟩,⟨fA,fn,fc⟩,⟨rA,rn,rc⟩,rb,rs,cb,cc⟩:=x;obtain ⟨hdl,rfl,rfl,rfl,l1,l1',l2,l2',l3,l3',l4,l4'⟩:=h.opn;go_enter Tryz.func122,Tryz.ntmps122
 go_wp2_with fail
 refine (zDJ h inj hF (by omega) hM).mono ?_; rintro e w1 ⟨⟨rfl,hP1⟩,hb1⟩
 have hD1:=h.call hb1;obtain ⟨pb,hpb⟩:∃ pb,pb=w.heap.size:=⟨_,rfl⟩;rw [<-hpb] at hP1 ⊢;have hdl1:d<w1.heap.size:=by have:=hb1.size; omega
 have hbw:w.heap.size<=w1.heap.size:=hb1.size;clear h hpb inj hF;obtain ⟨c0,c1,c2,c3,c4,c8⟩:=hD1.cells;dsimp only [SV.val] at c0 c1 c2 c3 c4 c8;go_wp2;clear c0 c1 c2 c3 c4 c8;have H1:LVLoop w1 N (rv D V E) D.a s M (.int .i64 (-1)) (.int .i64 0) w1:=⟨0,nzl _,rfl,PickL.start,brf _ _⟩;go_loopw [5,16] (fun v t W=>LVLoop w1 N (rv D V E) D.a s M v t W) (fun _ t _=>M-(intOf t).toNat)
 case atStart=>exact H1
 case round=>
  clear H1;obtain ⟨i,hi,rfl,hpick,hbl⟩:=hrel;by_cases hlt:i<M
  ·have hD:=hD1.call hbl;have HP:=hdq (hP1.keep hbl);obtain ⟨-,-,-,c3,-⟩:=hD.cells;dsimp only [SV.val] at c3;obtain ⟨gr,e,r0,r1,r2⟩:=hD.row.elem hlt;dsimp only at e r0;subst e;have hrow:=hD.rows i hlt;have hcap:=hD.caps i hlt;dsimp only at hrow hcap;have hrl:=hrow.lt;obtain ⟨u,⟨q0,q1,q2,q3⟩,hu⟩:=hrow.elem s (by rw [zAm]; omega);rw [zAL _ (by omega)] at hu;dsimp only at q1 q2 q3;have hsE:(s:Int)<(E:Int)+1:=(by omega);have hii:(i:Int)<(M:Int):=(by omega);have Hu:=hdq (hu.qis (zAv (HFA.out i s hlt (by omega))));have HD:=hdq hD;clear hu hD hrow;by_cases hpos:0<D.a i s
   ·have hq:=zIJ hpos;rcases hpick with ⟨rfl,hp⟩ | ⟨r,hr,rfl,hpr,hmin⟩
    ·(go_wp2_with fail);refine (zAn Hu.out).mono ?_; rintro e w3 ⟨rfl,hb3⟩
     rw [hq];have hb4:=hbl.trans (hb3.mono hbl.size);clear hbl;have Hfin:Hid (LVLoop w1 N (rv D V E) D.a s M (.int .i64 (i:Int)) (.int .i64 ((i:Int)+1)) w3):=⟨i+1,by omega,by simp,PickL.first hp hpos,hb4⟩;go_wp2;go_roundw;case rel=>exact Hfin.out
     case measure=>simp [intOf]; omega
    ·have Hmin:=hdq hmin;have Hpr:=hdq hpr;have hr0:¬ ((r:Int)<0):=(by omega);clear hmin hpr;(go_wp2_with fail);refine (zAn Hu.out).mono ?_; rintro e w3 ⟨rfl,hb3⟩
     rw [hq];have hb4:=hbl.trans (hb3.mono hbl.size);(go_wp2_with fail);refine (zHz (HD.out.call hb3) (HP.out.keep hb3) hlt (show r<M by omega) hs hVE (by omega) hM HB.out HFR.out HFA.out HK.out).mono ?_;rintro e w5 ⟨⟨b,rfl,hb⟩,hb5⟩;have hb6:=hb4.trans (hb5.mono hb4.size);rw [HN.out] at hb;clear hbl hb3 hb4 hb5 c3 q0 q1 q2 q3 r0 r1 r2 hq
     cases b with
     | true=>
      have HL:=hdq (hb.1 rfl);clear hb;have Hfin:Hid (LVLoop w1 N (rv D V E) D.a s M (.int .i64 (i:Int)) (.int .i64 ((i:Int)+1)) w5):=⟨i+1,by omega,by simp,PickL.turn Hpr.out Hmin.out hpos HL.out,hb6⟩;go_wp2;go_roundw;case rel=>exact Hfin.out
      case measure=>simp [intOf]; omega
     | false=>
      have HL:Hid (¬ Lin.LexNeg N fun k=>rv D V E i k*D.a r s-rv D V E r k*D.a i s):=fun h=>by have:=hb.2 h; cases this
      clear hb;have Hfin:Hid (LVLoop w1 N (rv D V E) D.a s M (.int .i64 (r:Int)) (.int .i64 ((i:Int)+1)) w5):=⟨i+1,by omega,by simp,PickL.stay hr Hpr.out Hmin.out HL.out,hb6⟩;go_wp2;go_roundw;case rel=>exact Hfin.out
      case measure=>simp [intOf]; omega
   ·have hq:=zJp hpos;(go_wp2_with fail);refine (zAn Hu.out).mono ?_; rintro e w3 ⟨rfl,hb3⟩
    have hb4:=hbl.trans (hb3.mono hbl.size);clear hbl;have Hfin:Hid (LVLoop w1 N (rv D V E) D.a s M (u5) (.int .i64 ((i:Int)+1)) w3):=⟨i+1,by omega,by simp,hpick.skip hpos,hb4⟩;go_wp2;go_roundw;case rel=>exact Hfin.out
    case measure=>simp [intOf]; omega
  ·(obtain rfl:i=M:=by omega);have Hpick:=hdq hpick;have HBb:=hdq (hb1.trans (hbl.mono hbw));clear hpick hbl hb1;go_wp2;go_ret;exact ⟨⟨_,rfl,by rw [HN.out]; exact Hpick.out⟩,HBb.out⟩
def PSLoop0 (w:World) (G:Nat->Prop) (x:PV) (V M E:Nat) (P:Lin.Prob) (ch:Option (Nat->Rat)) (rank:Lin.Dict->Nat) (k:Nat) (W:World):Prop:=
 ∃ D:Lin.Dict,k=rank D/\PDA W G x V M E D/\PInv P ch D/\Lin.LFeas P (Lin.given ch+P.m) (Lin.levels P ch) D/\Fr G w W
def Ends (P:Lin.Prob) (ch:Option (Nat->Rat)) (D:Lin.Dict) (k:Nat):Prop:=
 (k=2/\Lin.LInf P (Lin.given ch+P.m) (Lin.levels P ch) D)\/(k=1/\Lin.LFeas P (Lin.given ch+P.m) (Lin.levels P ch) D/\∀ j,j<P.n->0<=D.c 0 j)\/
 (k=3/\Lin.LFeas P (Lin.given ch+P.m) (Lin.levels P ch) D/\∃ s,s<P.n/\D.c 0 s<0/\∀ i,i<P.m->D.a i s<=0)
def PSolveRet (w:World) (G:Nat->Prop) (x:PV) (V M E:Nat) (P:Lin.Prob) (ch:Option (Nat->Rat)) (e:Ending) (w':World):Prop:=
 ∃ (D:Lin.Dict) (k:Nat),e = .returned (.int .u8 (k:Int))/\PDA w' G x V M E D/\PInv P ch D/\Fr G w w'/\Ends P ch D k
theorem zBy {x:PV} {D:Lin.Dict} {P:Lin.Prob} (h:PDA w G x V M E D) (e1:P.n=V) (e2:P.m=M) (hPK:0<P.K) (hg:PInv P ch D) (hVE:V<=E) (hE:E<=1000) (hM:M<=1000) (hgv:E+1-V=Lin.given ch)
  (hfit:∀ D,PInv P ch D->PFits V M E kb D) (hk:2*kb+1<=LM) :
  Calls Tryz.prog 51 #[.pointer (some x.d)] w fun e w'=>PSolveRet w G x V M E P ch e w':=by
 obtain ⟨N,hNn⟩:∃ N,N=Lin.given ch+P.m:=⟨_,rfl⟩;obtain ⟨rank,hrank⟩:=Lin.zFl P hPK N (Lin.levels P ch);have HR:=hdq hrank;have HK:=hdq hk;have HFit:=hdq hfit;have HE:Hid (P.n=V/\P.m=M):=⟨e1,e2⟩;have HN0:Hid (N=Lin.given ch+P.m):=hNn;have HGV:=hdq hgv;have HN:Hid (E+1-V+M=N):=by show _=_; rw [hgv,hNn,e2]
 have HC:=hdq (zEJ h e1 e2 hg hVE hE hM hgv hfit hk);clear hrank hk hfit hNn hgv e1 e2 h hg;go_enter Tryz.func51,Tryz.ntmps51
 go_wp2_with fail
 refine HC.out.mono ?_;rintro e w1 ⟨D,b,rfl,hD,hG,hF,hb1,hb0⟩
 cases b with
 | false=>
  have HI:=hdq (hb0 rfl);clear hb0 hb1;go_wp2;try rw [Exit.noGoto_ret]
  go_ret
  exact ⟨D,2,rfl,hD,hG,hF,.inl ⟨rfl,HI.out⟩⟩
 | true=>
  have H0:PSLoop0 w G x V M E P ch rank (rank D) w1:=⟨D,rfl,hD,hG,hb1 rfl,hF⟩;clear hb0 hb1 hD hG hF;go_wp2;go_loopg [] (rank D) (fun k W=>PSLoop0 w G x V M E P ch rank k W)
  case atStart=>exact H0
  case round=>
   clear H0;obtain ⟨D,hgk,hD,hG,hLF,hF⟩:=hrel;have hfit:=HFit.out D hG;have HFt:=hdq hfit;have HGk:=hdq hgk;have HG:=hdq hG;have HLF:=hdq hLF;obtain ⟨E1,E2⟩:=HE.out;have HB:Hid (∀ i,i<M->D.basic i<V+M):=fun i hi=>by have:=hG.1.bLt i (by omega); omega
   have HFr:Hid (∀ j,j<V->D.free j<V+M):=fun j hj=>by have:=hG.1.fLt j (by omega); omega
   have HFI:Hid (∀ i j,i<V->j<V->D.free i=D.free j->i=j):=fun i j hi hj=>hG.1.fInj i j (by omega) (by omega)
   have HRV:Hid (∀ i k,i<M->k<N->rv D V E i k=D.R V i (Lin.levels P ch k)):=fun i k hi _=>by
    have:=hG.rv (E:=E) (row:=i) (k:=k) (by rw [E1]; exact HGV.out) (by omega);rw [E1] at this; exact this
   clear hfit hgk E1 E2 hG hLF;(go_wp2_with fail);refine (zEr hD hVE hE hM HFt.out.c HK.out).mono ?_; rintro e w2 ⟨⟨v,rfl,hv⟩,hb2⟩
   have hD2:=hD.call hb2;have hF2:=hF.call hb2;clear hD hF hb2;rcases hv with ⟨rfl,hv⟩ | ⟨s,hs,rfl,hcs⟩
   ·have HOpt:Hid (∀ j,j<P.n->0<=D.c 0 j):=fun j hj=>by have:=hv j (by have:=HE.out.1; omega); grind
    clear hv;go_wp2;(try rw [Exit.noGoto_ret]);go_ret;exact ⟨D,1,rfl,hD2,HG.out,hF2,.inr (.inl ⟨rfl,HLF.out,HOpt.out⟩)⟩
   ·have hs0:¬ ((s:Int)<0):=(by omega);have HCS:=hdq hcs;clear hcs;(go_wp2_with fail);refine (zEI hD2 hs hVE hE hM HFI.out HFr.out HB.out HFt.out HK.out).mono ?_; rintro e w3 ⟨⟨v,rfl,hv⟩,hb3⟩
    have hD3:=hD2.call hb3;have hF3:=hF2.call hb3;clear hD2 hF2 hb3;rcases hv with ⟨rfl,hv⟩ | ⟨r,hr,rfl,hpr,hmin⟩
    ·have HU:Hid (∃ s,s<P.n/\D.c 0 s<0/\∀ i,i<P.m->D.a i s<=0):=⟨s,by have:=HE.out.1; omega,HCS.out,fun i hi=>by have:=hv i (by have:=HE.out.2; omega); grind⟩;clear hv;go_wp2;(try rw [Exit.noGoto_ret]);go_ret;exact ⟨D,3,rfl,hD3,HG.out,hF3,.inr (.inr ⟨rfl,HLF.out,HU.out⟩)⟩
    ·have hr0:¬ ((r:Int)<0):=(by omega);have Hpr:=hdq hpr;have HE1:=HE.out.1;have HE2:=HE.out.2
     have HLp:Hid (Lin.LFeas P (Lin.given ch+P.m) (Lin.levels P ch) (D.pivot r s)):=Lin.zGz HG.out.1 HLF.out (by omega) (by omega) hpr (fun i hi hp=>by
      intro hn;refine hmin i (by omega) hp ?_;rw [HN.out];rw [<-HN0.out] at hn;exact hn.congr fun k hk=>by rw [HRV.out i k (by omega) hk,HRV.out r k hr hk,HE1])
     have hne:D.a r s ≠ 0:=(by grind);have HGp:=hdq (HG.out.pivot (r:=r) (s:=s) (by omega) (by omega) hne);have hfp:=HFit.out _ HGp.out
     have Hlt:Hid (rank (D.pivot r s)<gk):=by
      show _<_; rw [HGk.out]
      exact HR.out D r s HG.out.1 (by rw [HN0.out]; exact HLF.out) (by omega) (by omega) hpr HCS.out (by rw [HN0.out]; exact HLp.out)
     have HFS:Hid (∀ j,j<=E->Lin.Fits kb (Lin.scaled s (D.a r) j)):=fun j hj=>by
      have:=hfp.a r j hr hj;simpa [Lin.Dict.pivot] using this
     have HNE:=hdq hne;clear hmin hpr hfp hne HE1 HE2;(go_wp2_with fail);refine (zDK (kb:=kb) hD3 hr hs hVE hE hM HNE.out HFt.out.a HFt.out.c HFS.out HK.out).mono ?_;rintro e w5 ⟨⟨v,rfl⟩,hD5,hF5⟩;have Hfin:Hid (PSLoop0 w G x V M E P ch rank (rank (D.pivot r s)) w5):=⟨_,rfl,hD5,HGp.out,HLp.out,hF3.trans hF5⟩;clear hD5 hF5 hD3 hF3;go_wp2;(go_roundg (rank (D.pivot r s)));case measure=>exact Hlt.out
     case rel=>exact Hfin.out
def dl (D:Lin.Dict) (V k i:Nat):Rat:=if Lin.find D.free (V+i) k<k then D.c 0 (Lin.find D.free (V+i) k) else 0
theorem zJR {D:Lin.Dict} (h:D.free k<V):dl D V (k+1)=dl D V k:=by
 funext i;unfold dl;by_cases h1:Lin.find D.free (V+i) k<k
 ·have h2:Lin.find D.free (V+i) (k+1)=Lin.find D.free (V+i) k:=by simp [Lin.find,h1]
  rw [h2,if_pos (by omega),if_pos h1]
 ·have h2:Lin.find D.free (V+i) (k+1)=k+1:=by simp [Lin.find,h1]; omega
  rw [h2,if_neg (by omega),if_neg h1]
theorem zJS {D:Lin.Dict} (h:V<=D.free k) (inj:∀ j,j<k->D.free j ≠ D.free k):dl D V (k+1)=Lin.turn (dl D V k) (D.free k-V) (D.c 0 k):=by
 funext i;unfold dl Lin.turn;by_cases e:i=D.free k-V
 ·have e2:V+i=D.free k:=by omega
  have h1:¬ Lin.find D.free (D.free k) k<k:=Lin.zCQ inj;have h2:Lin.find D.free (V+i) (k+1)=k:=by rw [e2]; simp [Lin.find,h1]
  rw [h2,if_pos (by omega),if_pos e]
 ·rw [if_neg e];by_cases h1:Lin.find D.free (V+i) k<k
  ·have h2:Lin.find D.free (V+i) (k+1)=Lin.find D.free (V+i) k:=(by simp [Lin.find,h1]);rw [h2,if_pos (by omega)]; dsimp only; rw [if_pos h1]
  ·have h2:Lin.find D.free (V+i) (k+1)=k+1:=by simp [Lin.find,h1]; omega
   rw [h2,if_neg (by omega)]; dsimp only; rw [if_neg h1]
theorem zGq {P:Lin.Prob} {D:Lin.Dict} (G:Lin.Good P D) (i:Nat):dl D P.n P.n i=D.dual P i:=by
 unfold dl;rcases Lin.zCi D.free (P.n+i) P.n with ⟨h1,h2⟩ | ⟨h1,h2⟩
 ·rw [if_pos h1,G.dual_free h1 h2]
 ·rw [if_neg (by omega),Lin.zER h2]
def DlLoop (w:World) (V M:Nat) (D:Lin.Dict) (t:Value) (W:World):Prop:=
 ∃ k:Nat,k<=V/\t = .int .i64 k/\RowAt W (fun y=>y<w.heap.size\/y=w.heap.size) w ((List.range M).map (dl D V k))/\Below w w W
theorem zCp {x:PV} {D:Lin.Dict} (h:PDA w G x V M E D) (inj:∀ i j,i<V->j<V->D.free i=D.free j->i=j) (hF:∀ j,j<V->D.free j<V+M) (hVE:V<=E) (hE:E<=1000) (hM:M<=1000) (hfc:∀ j,j<=E->Lin.Fits kb (D.c 0 j)) (hk:2*kb+1<=LM) :
  Calls Tryz.prog 52 #[.pointer (some x.d)] w fun e w'=>VRet w ((List.range M).map (dl D V V)) e w'/\Below w w w':=by
 have HK1:Hid (kb+1<=LM):=by show kb+1<=LM; omega
 have HFC:=hdq hfc;have HI:=hdq inj;have HB:=hdq hF;clear hk hfc inj hF;obtain ⟨d,⟨bA,bn,bc⟩,⟨fA,fn,fc⟩,⟨rA,rn,rc⟩,rb,rs,cb,cc⟩:=x;obtain ⟨hdl,rfl,rfl,rfl,l1,l1',l2,l2',l3,l3',l4,l4'⟩:=h.opn;obtain ⟨c0,c1,c2,c3,c4,c8⟩:=h.cells;dsimp only [SV.val] at c0 c1 c2 c3 c4 c8;have H:=hdq h;have hmk:=zBZ M (by omega);clear h;go_enter Tryz.func52,Tryz.ntmps52
 go_wp2
 have H1:DlLoop w V M D (.int .i64 0) (w.alloc (.cells (zeroQ M) 30)):=
  ⟨0,nzl _,rfl,by
   have e:(List.range M).map (dl D V 0)=List.replicate M 0:=by
    apply List.ext_getElem
    ·simp
    ·intro i h1 h2; simp [dl]
   rw [e]; exact RowAt.made w M _ (.inr rfl),bal⟩
 clear hmk c0 c1 c2 c3 c4 c8;generalize w.alloc (.cells (zeroQ M) 30)=W0 at *;go_loopw [17] (fun t W=>DlLoop w V M D t W) (fun t _=>V-(intOf t).toNat)
 case atStart=>exact H1
 case round=>
  clear H1;obtain ⟨k,hk,rfl,hR,hBl⟩:=hrel;by_cases hlt:k<V
  ·have hD:=H.out.call hBl;obtain ⟨gf,e,f0,f1,f2⟩:=hD.fre.elem hlt;dsimp only at e f0;subst e;obtain ⟨c0,c1,c2,c3,c4,c8⟩:=hD.cells;dsimp only [SV.val] at c0 c1 c2 c3 c4 c8;have hfk:=HB.out k hlt;have hkk:(k:Int)<(V:Int):=(by omega);by_cases hs:V<=D.free k
   ·have hge:(V:Int)<=(D.free k:Int):=(by omega);have e1:IntKind.i64.wrap ((D.free k:Int)-(V:Int))=((D.free k-V:Nat):Int):=by rw [IntWalk.i64_in _ (by omega)]; omega
    have hlm:((D.free k-V:Nat):Int)<(M:Int):=(by omega);have hlm0:(0:Int)<=((D.free k-V:Nat):Int):=(by omega);have hkE:(k:Int)<(E:Int)+1:=(by omega);obtain ⟨j,hj⟩:∃ j,j=D.free k-V:=⟨_,rfl⟩;have HJ:=hdq hj;rw [<-hj] at e1 hlm hlm0;clear hj;have hrow:=hD.cst;dsimp only at hrow;obtain ⟨u,⟨q0,q1,q2,q3⟩,hu⟩:=hrow.elem k (by rw [zAm]; omega);rw [zAL _ (by omega)] at hu;dsimp only at q1 q2 q3;have hrl:=hrow.lt;have hbl:=hBl.size;have hrl0:cb<w.heap.size:=H.out.cst.lt
    have hgf0:gf<w.heap.size:=by
     have:=H.out.gf gf rfl;exact H.out.gin _ this
    have Hu:=hdq (hu.qis (zAv (HFC.out k (by omega))));have hdw:d<wr.heap.size:=(by omega);have n1:¬ (d=w.heap.size):=(by omega);have n2:¬ (cb=w.heap.size):=(by omega);have HR:=hdq hR;have HBl:=hdq hBl;clear hu hrow hD hR hBl;(go_upto_region 6 with fail);refine zAp 1000 (fun _ w'=>Sees w [w.heap.size] wr w') (by kernel_rfl) ?_;have hS0:Sees w [w.heap.size] wr wr.drew:=Sees.st (by simp) hbl;refine tx4 0 1 2 3 hS0 ?_;refine tx4 4 5 6 7 hS0 ?_;refine tx4 8 9 10 11 hS0 ?_;refine tx1 12 hS0 ?_;refine tx1 13 hS0 ?_;refine tk1 14 ?_;intro K hK;go_simp;refine (zAT (Hu.out.below (brf _ _).drew) HK1.out).mono ?_; rintro e w3 ⟨⟨z,rfl,hz⟩,hb3⟩
    dsimp only;have hS3:=Kept.call2 hb3 hS0;refine hK.out _ _ hS3 ?_;clear hK K;have h3:Below wr wr w3:=(brf _ _).drew.trans hb3;have hR3:=HR.out.below h3;obtain ⟨z',⟨p0,p1,p2,p3⟩,-⟩:=hR3.elem j (by have:=HJ.out; simp; omega);have fz3:=hR3.frozen;dsimp only at p1 p2 p3;refine tk1 15 ?_;intro K hK;go_simp;refine hK.out _ _ hS3 ?_;clear hK K;refine tk1 16 ?_;intro K hK;go_simp;refine hK.out _ _ (Sees.k4 hS3 (by simp)) ?_;clear hK K;refine zAf (by kernel_rfl) ?_ _
    have Hfin:Hid (DlLoop w V M D (.int .i64 ((k:Int)+1)) (put4 w3 w j z)):=
     ⟨k+1,by omega,by simp,by
      rw [zJS hs fun j hj e=>by have:=HI.out j k (by omega) hlt e; omega,<-map_set,<-HJ.out];refine hR3.put4 (by have:=HJ.out; simp; omega) (hz.imp fun y _ hy hg=>?_);have:=h3.size;have:=HR.out.lt;have h5:wr.drew.heap.size=wr.heap.size:=World.size_drew _;simp only [New] at hy;rcases hg with h | h <;> omega,zBq (HBl.out.trans (h3.mono hbl)) (nlr _) _ _⟩
    clear hS0 hS3 hb3 h3 hR3 hz p0 p1 p2 p3 q0 q1 q2 q3 f0 c0 c1 c2 c3 c4 c8;go_wp2;go_roundw;case rel=>exact Hfin.out
    case measure=>simp [intOf]; omega
   ·have hge:¬ (V:Int)<=(D.free k:Int):=(by omega);have Hfin:Hid (DlLoop w V M D (.int .i64 ((k:Int)+1)) wr):=⟨k+1,by omega,by simp,by rw [zJR (by omega)]; exact hR,hBl⟩;clear hR hBl hD;go_wp2;go_roundw;case rel=>exact Hfin.out
    case measure=>simp [intOf]; omega
  ·have hkV:k=V:=(by omega);rw [hkV] at hR;clear hkV;have HR:=hdq hR;clear hR;go_wp2;go_ret;exact ⟨VRet.of (by simp) (by omega) (nlr _) HR.out,hBl⟩
theorem zGN {x:PV} {D:Lin.Dict} (h:PDA w G x V M E D) (hVE:V<=E) (_hE:E<=1000) (hfc:∀ j,j<=E->Lin.Fits kb (D.c 0 j)) (hk:2*kb+1<=LM) :
  Calls Tryz.prog 124 #[.pointer (some x.d)] w fun e w'=>QRet w (D.c 0 V) e w'/\Below w w w':=by
 have HK1:Hid (kb+1<=LM):=by show kb+1<=LM; omega
 have HFC:=hdq hfc;clear hk hfc;obtain ⟨d,⟨bA,bn,bc⟩,⟨fA,fn,fc⟩,⟨rA,rn,rc⟩,rb,rs,cb,cc⟩:=x;obtain ⟨hdl,rfl,rfl,rfl,l1,l1',l2,l2',l3,l3',l4,l4'⟩:=h.opn;obtain ⟨c0,c1,c2,c3,c4,c8⟩:=h.cells;dsimp only [SV.val] at c0 c1 c2 c3 c4 c8;have hrow:=h.cst;dsimp only at hrow;obtain ⟨u,⟨q0,q1,q2,q3⟩,hu⟩:=hrow.elem V (by rw [zAm]; omega);rw [zAL _ (by omega)] at hu;dsimp only at q1 q2 q3;have hrl:=hrow.lt;have Hu:=hdq (hu.qis (zAv (HFC.out V hVE))).old;have hvi:(V:Int)<(E:Int)+1:=by omega
 have hv0:(0:Int)<=(V:Int):=by omega
 clear hu hrow;go_enter Tryz.func124,Tryz.ntmps124
 go_wp2;refine zAo (fun W=>Below w w W/\Box4 W w (.bool false) (.slice none 0 0) (.bool false) (.slice none 0 0)/\w.heap.size<W.heap.size) ⟨(az (brf _ _)),bx4,by simp <;> omega⟩ ?_;rintro W ⟨hbW,bR,s0⟩;have hBW:=hbW.size;obtain ⟨hc,hf⟩:=bcell hbW;rw [<-hc _ _ hdl] at c0 c4;rw [<-hc _ _ hrl] at q0 q1 q2 q3;have HuW:=hdq (Hu.out.below hbW);have t1:d<W.heap.size:=by omega
 have t3:cb<W.heap.size:=by omega
 have m1:¬ (d=w.heap.size):=by omega
 have m3:¬ (cb=w.heap.size):=by omega
 clear hc hf c1 c2 c3 c8 Hu h
 go_region_held3 (Sees w [w.heap.size] W) (exact kp)
  (first
   | (go_at_call 99; ((with_reducible refine (zAT (HuW.out.keptOld (Sees.kept (by assumption))) HK1.out).mono ?_); rintro e w3 ⟨⟨z,rfl,hz⟩,hb3⟩))
   | fail)
 rename_i hS;have hbf:=hbW.trans hS.kept.below;obtain ⟨v0,v1,v2,v3⟩:=hS.kept.val4 (by simp) (by rw [bR.1]; rfl) (by rw [bR.2.1]; rfl) (by rw [bR.2.2.1]; rfl) (by rw [bR.2.2.2.1]; rfl);have hs3:=hb3.size;simp only [World.size_drew] at hs3;clear hS;go_wp2;refine bodyPost_ret (v:=z.val) (by simp [results,Tryz.results124,go_sem,v0,v1,v2,v3]) rfl ⟨⟨z,rfl,?_⟩,hbf⟩;exact (hz.set4 (b:=w) (by simp; omega)).lower (by simp; omega)
theorem zB5 (k:Nat) (hk:k=1\/k=2\/k=3) :
  Calls Tryz.prog 50 #[.int .u8 (k:Int)] w fun e w'=>e = .returned (.int .i64 (if k=1 then 0 else if k=2 then 8 else 9))/\Below w w w':=by
 have hmm:=@run_makeMap Tryz.prog;have h0:(w.alloc (.map #[] 0)).heap[w.heap.size]?=some (.map #[] 0):=zAd _ _ rfl;have b0:Below w w (w.alloc (.map #[] 0)):=bal;obtain ⟨w1,r1,h1,c1⟩:=zA7 (P:=Tryz.prog) (k:=.u8) (a:=1) (val:=.int .i64 0) Tryz.underlying161 Tryz.underlying5 h0 rfl;have b1:=b0.trans (c1 w (nlr _));obtain ⟨w2,r2,h2,c2⟩:=zA7 (P:=Tryz.prog) (k:=.u8) (a:=2) (val:=.int .i64 8) Tryz.underlying161 Tryz.underlying5 h1 rfl;have b2:=b1.trans (c2 w (nlr _));obtain ⟨w3,r3,h3,c3⟩:=zA7 (P:=Tryz.prog) (k:=.u8) (a:=3) (val:=.int .i64 9) Tryz.underlying161 Tryz.underlying5 h2 rfl;have b3:=b2.trans (c3 w (nlr _))
 have fnd:(Instr.lookup 161 (.map (some w.heap.size)) (.int .u8 (k:Int)) false).run Tryz.prog w3 = .ok (.int .i64 (if k=1 then 0 else if k=2 then 8 else 9)) w3:=by
  rcases hk with rfl | rfl | rfl
  ·exact zCa (i:=0) Tryz.underlying161 Tryz.underlying5 h3 rfl
  ·exact zCa (i:=1) Tryz.underlying161 Tryz.underlying5 h3 rfl
  ·exact zCa (i:=2) Tryz.underlying161 Tryz.underlying5 h3 rfl
 generalize (if k=1 then (0:Int) else if k=2 then 8 else 9)=r at *;clear h0 h1 h2 h3 c1 c2 c3 b0 b1 b2 hk;go_enter Tryz.func50,Tryz.ntmps50
 go_wp2;go_ret;exact ⟨rfl,b3⟩
def pft (f:Nat):TypeId:=if f<=2 then 3 else if f=3 then 23 else 30
def pfw (f:Nat):Nat:=if f<=3 then 1 else 4
structure PT (w:World) (B d:Nat) (n:Int) (va vb vc vd:Value) (al:Nat->List Value) (cnt:Nat->Nat) (G:Nat->Prop) (W:World):Prop where
 bel:Below w w W
 blk:W.heap[d]?=some (.cells #[.int .i64 n,va,vb,vc,vd] 160 (0,0))
 own:∀ f,1<=f->f<=4->W.ownsRow B (pft f) (pfw f) (four va vb vc vd f) (cnt f) (al f)
 apart:∀ f g j,f ≠ g->1<=f->f<=4->1<=g->g<=4->(four va vb vc vd f).ownBlock=some j->(four va vb vc vd g).ownBlock ≠ some j
 nod:∀ f j,1<=f->f<=4->(four va vb vc vd f).ownBlock=some j->j ≠ d
 gin:∀ x,G x->B<=x/\x<W.heap.size
 gd:G d
 gf:∀ f j,1<=f->f<=4->(four va vb vc vd f).ownBlock=some j->G j
 ge:w.heap.size<=B
 dB:B<=d
section
variable {w W W':World} {B d:Nat} {n:Int} {va vb vc vd:Value} {al:Nat->List Value} {cnt:Nat->Nat} {G:Nat->Prop}
theorem PT.dlt (h:PT w B d n va vb vc vd al cnt G W):d<W.heap.size:=zAa h.blk
theorem PT.call (h:PT w B d n va vb vc vd al cnt G W) (hb:Below W W W'):PT w B d n va vb vc vd al cnt G W':=
 ⟨h.bel.trans (hb.mono h.bel.size),(hb.block d h.dlt).trans h.blk,
  fun f h1 h2=>zAr (h.own f h1 h2) fun j hj=>by
   obtain ⟨_,cs,hh⟩:=zAc (h.own f h1 h2) hj;exact hb.block j (zAa hh),
  h.apart,h.nod,fun x hx=>⟨(h.gin x hx).1,ltl (h.gin x hx).2 hb.size⟩,h.gd,h.gf,h.ge,h.dB⟩
theorem PT.cells (h:PT w B d n va vb vc vd al cnt G W):W.cell? d=some (.int .i64 n)/\W.cell? ⟨d,1,none⟩=some va/\W.cell? ⟨d,2,none⟩=some vb/\W.cell? ⟨d,3,none⟩=some vc/\W.cell? ⟨d,4,none⟩=some vd/\∀ o,W.frozen? ⟨d,o,none⟩=false:=by
 simp [World.cell?,World.frozen?,h.blk]
theorem PT.app_blk (h:PT w B d n va vb vc vd al cnt G W) {f:Nat} (h1:1<=f) (h2:f<=4) {o:Obj} (hg:(W.alloc o).grownBy W2 (four va vb vc vd f).ownBlock) (hx:x<W.heap.size) (hgx:¬ G x\/x=d):W2.heap[x]?=W.heap[x]?:=
 (hg.block x (by simp; omega) (fun e=>by
  rcases hgx with hgx | rfl
  ·exact hgx (h.gf f x h1 h2 e.symm)
  ·exact h.nod f x h1 h2 e.symm rfl)).trans (Below.heap_alloc _ _ _ hx)
theorem PT.append (h:PT w B d n va vb vc vd al cnt G W) {f:Nat} (h1:1<=f) (h2:f<=4) {o:Obj} 
  (hown:W2.ownsRow B (pft f) (pfw f) v' (cnt f+1) (al f++xs)) (hg:(W.alloc o).grownBy W2 (four va vb vc vd f).ownBlock)
  (hat:v'.ownBlock=(four va vb vc vd f).ownBlock\/v'.ownBlock=some (W.alloc o).heap.size) :
  PT w B d n (if f=1 then v' else va) (if f=2 then v' else vb) (if f=3 then v' else vc) (if f=4 then v' else vd) (fun g=>if g=f then al f++xs else al g) (fun g=>if g=f then cnt f+1 else cnt g) (fun y=>G y\/v'.ownBlock=some y) (W2.setCell ⟨d,f,none⟩ v')/\
  Step W (W2.setCell ⟨d,f,none⟩ v') G (fun y=>G y\/v'.ownBlock=some y):=by
 have hsz:W.heap.size<W2.heap.size:=by have:=hg.size; simp at this; omega
 have hnd:=h.nod
 have keep:∀ k,k<W.heap.size->(four va vb vc vd f).ownBlock ≠ some k->W2.heap[k]?=W.heap[k]?:=fun k hk hne=>
  (hg.block k (by simp; omega) (fun e=>hne e.symm)).trans (Below.heap_alloc _ _ _ hk)
 have hblk2:W2.heap[d]?=_:=(keep d h.dlt (fun e=>hnd f d h1 h2 e rfl)).trans h.blk;have kset:∀ k,k ≠ d->(W2.setCell ⟨d,f,none⟩ v').heap[k]?=W2.heap[k]?:=fun k hk=>bhs _ _ _ _ hk
 have hdW:=h.dlt
 have hvd:∀ j,v'.ownBlock=some j->j ≠ d/\j<W2.heap.size/\B<=j:=fun j hj=>by
  obtain ⟨g1,cs,hh⟩:=zAc hown hj;refine ⟨?_,zAa hh,g1⟩;rcases hat with e | e
  ·exact h.nod f j h1 h2 (e.symm.trans hj)
  ·rw [e] at hj; cases hj; simp; omega
 refine ⟨⟨?_,?_,?_,?_,?_,?_,.inl h.gd,?_,h.ge,h.dB⟩,⟨by simp [World.setCell]; omega,fun b hb hgb=>?_,fun b hb hgb=>?_⟩⟩
 ·have h3:Below w (W.alloc o) W2:=(brf _ _).grown hg (by have:=h.bel.size; simp; omega) (fun j hj=>by have:=(zAc (h.own f h1 h2) hj).1; have:=h.ge; omega);exact ((h.bel.alloc h.bel.size _).trans h3).setCell (p:=⟨d,f,none⟩) (nlt h.ge h.dB) _
 ·rw [zAe _ hblk2];rcases (by omega:f=1\/f=2\/f=3\/f=4) with rfl | rfl | rfl | rfl <;> simp
 ·intro g g1 g2;rw [zBk va vb vc vd v' f g h1 h2 g1 g2];by_cases e:g=f
  ·subst e;simp only [if_true];exact zAr hown fun j hj=>kset j (hvd j hj).1
  ·simp only [if_neg e];(refine zAr (h.own g g1 g2) fun j hj=>?_);obtain ⟨_,cs,hh⟩:=zAc (h.own g g1 g2) hj;exact (kset j (hnd g j g1 g2 hj)).trans (keep j (zAa hh) (h.apart g f j e g1 g2 h1 h2 hj))
 ·intro g k j hgk g1 g2 k1 k2;rw [zBk va vb vc vd v' f g h1 h2 g1 g2,zBk va vb vc vd v' f k h1 h2 k1 k2]
  have old:∀ g j,1<=g->g<=4->(four va vb vc vd g).ownBlock=some j->j<W.heap.size:=fun g j g1 g2 hj=>by
   obtain ⟨_,cs,hh⟩:=zAc (h.own g g1 g2) hj;exact zAa hh
  by_cases eg:g=f
  ·by_cases ek:k=f
   ·omega
   ·rw [if_pos eg,if_neg ek];intro hj hk;rcases hat with e | e
    ·rw [e] at hj; exact h.apart f k j (by omega) h1 h2 k1 k2 hj hk
    ·rw [e] at hj; cases hj
     have:=old k _ k1 k2 hk; simp at this; omega
  ·rw [if_neg eg];by_cases ek:k=f
   ·rw [if_pos ek];intro hj hk;rcases hat with e | e
    ·rw [e] at hk; exact h.apart g f j (by omega) g1 g2 h1 h2 hj hk
    ·rw [e] at hk; cases hk
     have:=old g _ g1 g2 hj; simp at this; omega
   ·rw [if_neg ek]; exact h.apart g k j hgk g1 g2 k1 k2
 ·intro g j g1 g2;rw [zBk va vb vc vd v' f g h1 h2 g1 g2]
  split
  ·intro hj; exact (hvd j hj).1
  ·intro hj; exact h.nod g j g1 g2 hj
 ·intro x hx;rcases hx with hx | hx
  ·have:=h.gin x hx; exact ⟨this.1,by simp [World.setCell]; omega⟩
  ·have:=hvd x hx; exact ⟨by omega,by simp [World.setCell]; omega⟩
 ·intro g j g1 g2;rw [zBk va vb vc vd v' f g h1 h2 g1 g2]
  split
  ·intro hj; exact .inr hj
  ·intro hj; exact .inl (h.gf g j g1 g2 hj)
 ·exact (kset b (fun e=>hgb (by rw [e]; exact h.gd))).trans (keep b hb fun e=>hgb (h.gf f b h1 h2 e))
 ·rcases hgb with hgb | hgb
  ·exact hgb
  ·rcases hat with e | e
   ·rw [e] at hgb; exact h.gf f b h1 h2 hgb
   ·rw [e] at hgb; cases hgb; simp at hb; omega
end
end Go.Proofs.YtbpngececjihlaaGreat
