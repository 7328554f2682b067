/- Texts MpO MpS MqA of this claim. -/
import Derived.ProofKit
import Derived.OpenShut
import Derived.ChangeOld
import Derived.Below
import Derived.Deep.Slices
import Derived.Deep.Grids
import Derived.Lib.SmallJoins
import Derived.Test.YtjancagcmghfjaaGreatX15
import Derived.Test.YtjancagcmghfjaaGreatX16
set_option maxHeartbeats 4000000
set_option maxRecDepth 40000
namespace Go.Proofs.YtjancagcmghfjaaGreat
open Go.RowKit Go.Shelf Go.Deep Go.Joins
open Go.ChangeShapes Go.WideShapes Go.ChangeAt
namespace Mo
set_option maxRecDepth 100000
section
variable {H:Type} {enc:TypeId × Value->H} {w:World} {held:Bool} {fuel:Nat} {cs:List Value} {x:DataW H × List MemPlace}
end
section
variable {H:Type} {enc:TypeId × Value->H} {w:World} {held:Bool} {r:Reach} {b0:Nat} {v:Value} {d:DataW H} {p:List MemPlace}
def HrV.val (v:HrV):Value:=.agg #[.int .i64 v.n,.slice v.L.A v.L.n v.L.c,.slice v.O.A v.O.n v.O.c,.slice v.U.A v.U.n v.U.c,.slice v.N.A v.N.n v.N.c,.slice v.B.A v.B.n v.B.c]
end
end Mo
open Go.RowKit Go.Shelf
namespace Mo
theorem zYQ {N:Int} {us:List Un} {k:Nat} (h:k<us.length):unitsErr N (us.drop k)=if unitErr (us.getD k un0) N ≠ 0 then unitErr (us.getD k un0) N else unitsErr N (us.drop (k+1)):=by
 rw [zUo un0 h]; rfl
abbrev bd0:Bd:=⟨0,[]⟩
theorem zYz {N:Int} {bs:List Bd} {k:Nat} (h:k<bs.length):bidsErr N (bs.drop k)=if (bs.getD k bd0).bus<0\/N<=(bs.getD k bd0).bus then 1 else if stepErr false (bs.getD k bd0).steps ≠ 0 then stepErr false (bs.getD k bd0).steps else bidsErr N (bs.drop (k+1)):=by
 rw [zUo bd0 h]; rfl
def CkU (w:World) (N:Int) (us:List Un) (n:Nat) (t:Value) (W:World):Prop:=
 ∃ k:Nat,k<=n/\t = .int .i64 (k:Int)/\Below w w W/\W.cell? w=some (.int .i64 N)/\unitsErr N us=unitsErr N (us.drop k)
def CkB (w:World) (N:Int) (bs:List Bd) (n:Nat) (t:Value) (W:World):Prop:=
 ∃ k:Nat,k<=n/\t = .int .i64 (k:Int)/\Below w w W/\W.cell? w=some (.int .i64 N)/\bidsErr N bs=bidsErr N (bs.drop k)
theorem zVh {w:World} {v:HrV} {h:Hr} (hA:HrAt w v h) :
  Calls Tryz.prog 39 #[.agg #[.int .i64 v.n,.slice v.L.A v.L.n v.L.c],v.O.val,v.U.val,v.N.val,v.B.val] w fun e w'=>e = .returned (.int .i64 (hrErr h))/\Below w w w':=by
 obtain ⟨n,⟨lA,ln,lc⟩,⟨oA,om,oc⟩,⟨uA,un,uc⟩,⟨nA,nn,nc⟩,⟨bA,bn,bc⟩⟩:=v;obtain ⟨ER,hER⟩:∃ E,E=hrErr h:=⟨_,rfl⟩;rw [<-hER];obtain ⟨buses,lines,out,units,on',bids⟩:=h;obtain ⟨a1,a2,a3,a4,a5,a6⟩:=hA;dsimp only at a1 a2 a3 a4 a5 a6;obtain rfl:buses=n:=a1.symm;have HER:=hdq hER;have HL:=hdq a2;have HO:=hdq a3;have HU:=hdq a4;have HB:=hdq a6;have HUn:Hid (units.length=un):=a4.len;have HNn:Hid (on'.length=nn):=a5.len;have HBn:Hid (bids.length=bn):=a6.len;have ule:un<=uc:=a4.le;have ucap:uc<=9223372036854775807:=a4.cap;have nle:nn<=nc:=a5.le;have ncap:nc<=9223372036854775807:=a5.cap;have ble:bn<=bc:=a6.le;have bcap:bc<=9223372036854775807:=a6.cap;clear a2 a3 a4 a5 a6 hER;dsimp only [SV.val];go_enter Tryz.func39,Tryz.ntmps39
 go_upto_region 1 with fail
 refine zAo (fun W=>Below w w W/\Box2 W w (.int .i64 buses) (.slice lA ln lc)/\w.heap.size<W.heap.size) ⟨(az (brf _ _)),bx2,by simp <;> omega⟩ ?_;rintro W ⟨hbW,bN,s0⟩;have hBW:=hbW.size;obtain ⟨c0,c1,-⟩:=id bN;go_wp2_with fail
 refine (zVP (LinesAt.below hbW HL.out) (HO.out.below hbW)).mono ?_; rintro e w1 ⟨rfl,hb1⟩
 have HB1:=hdq (hbW.trans (hb1.mono hBW));have bN1:=bN.below hb1 s0;clear hb1 hbW hBW bN c0 c1 s0;obtain ⟨c0,c1,-⟩:=id bN1;by_cases hE:outErr buses lines out=0
 ·have HE0:=hdq hE;rw [hE];clear hE;by_cases h5:5<un
  ·have HE:Hid (ER=5):=by
    show _=_;rw [HER.out]; unfold hrErr; rw [if_neg (fun e=>e HE0.out),if_pos (by left; rw [HUn.out]; exact h5)]
   have h5i:(5:Int)<(un:Int):=(by omega);go_wp2;go_ret;exact ⟨by rw [HE.out]; first | done | rfl,HB1.out⟩
  by_cases h6:6<bn
  ·have HE:Hid (ER=5):=by
    show _=_;rw [HER.out]; unfold hrErr; rw [if_neg (fun e=>e HE0.out),if_pos (by right; rw [HBn.out]; exact h6)]
   have h5i:¬ (5:Int)<(un:Int):=(by omega);have h6i:(6:Int)<(bn:Int):=(by omega);go_wp2;go_ret;exact ⟨by rw [HE.out]; first | done | rfl,HB1.out⟩
  have HE1:Hid (ER=if unitsErr buses units ≠ 0 then unitsErr buses units else if on'.length ≠ units.length then 3 else bidsErr buses bids):=by
   show _=_;rw [HER.out]; unfold hrErr; rw [if_neg (fun e=>e HE0.out),if_neg (by dsimp only; rw [HBn.out,HUn.out]; omega)]
  have h5i:¬ (5:Int)<(un:Int):=by omega
  have h6i:¬ (6:Int)<(bn:Int):=by omega
  have H0:CkU w buses units un (.int .i64 0) w1:=⟨0,nzl _,rfl,HB1.out,c0,rfl⟩;clear bN1 c0 c1 HER;go_wp2;go_loopw [34] (fun t W=>CkU w buses units un t W) (fun t _=>un-(intOf t).toNat)
  case atStart=>exact H0
  case round=>
   clear H0;obtain ⟨k,hk,rfl,hB,d0,hu⟩:=hrel;have hB':=hdq hB;have hsz:=zAb d0;dsimp only at hsz;have Hu:=hdq hu;clear hu;by_cases hlt:k<un
   ·have hki:(k:Int)<(un:Int):=(by omega);have hlu:k<units.length:=by rw [HUn.out]; exact hlt
    obtain ⟨ad,e,st,q0,q1,q2,q3,q4,q5,q6,q7,q8,qs⟩:=(SlAt.map HU.out fun a x hx=>UnC.below hB hx).cell k hlt;dsimp only at e;subst e;have Hx:=hdq (zYQ (N:=buses) hlu);generalize units.getD k un0=u at *;obtain ⟨stA,stn,stc⟩:=st;obtain ⟨bus,mn,steps,up,down,start,idle,spin,on⟩:=u;dsimp only at q0 q1 q2 q3 q4 q5 q6 q7 q8 qs;have tq:=zAb q0;have Hs:=hdq qs;clear hB qs;have al:Below wr wr (wr.alloc (.cells #[.int .i64 bus,.int .i64 mn,.slice stA stn stc,.int .i64 up,.int .i64 down,.int .i64 start,.int .i64 idle,.int .i64 spin,.int .i64 on] 45)):=bal;have HC:=hdq (zWw (u:=⟨bus,mn,steps,up,down,start,idle,spin,on⟩) (s:=⟨stA,stn,stc⟩) (N:=buses) (StepsAt.below al Hs.out));dsimp only [Un.val] at HC;have HBa:=hdq (hB'.out.trans (al.mono hB'.out.size));have d0a:=(al.cell (p:=w) hsz).trans d0;have hsa:=ltl hsz al.size;obtain ⟨ue,hue⟩:∃ x,x=unitErr ⟨bus,mn,steps,up,down,start,idle,spin,on⟩ buses:=⟨_,rfl⟩;rw [<-hue] at HC Hx;have HUe:=hdq hue;clear al hue Hs;(go_wp2_with fail);refine HC.out.mono ?_; rintro e w2 ⟨rfl,hb2⟩
    have HB2:=hdq (HBa.out.trans (hb2.mono HBa.out.size));have d2:=(hb2.cell (p:=w) hsa).trans d0a;clear hb2 HBa d0a HC q0 q1 q2 q3 q4 q5 q6 q7 q8 d0 tq;by_cases hz:ue=0
    ·subst hz;have HN:Hid (CkU w buses units un (.int .i64 ((k:Int)+1)) w2):=⟨k+1,by omega,by simp,HB2.out,d2,Hu.out.trans (Hx.out.trans (if_neg fun e=>e rfl))⟩;clear HB2 d2;go_wp2;go_roundw;case rel=>first | exact HN.out | ((repeat apply Exists.intro); exact ⟨HN.out,rfl⟩)
     case measure=>simp [intOf]; omega
    ·have hx2:unitsErr buses units=ue:=Hu.out.trans (Hx.out.trans (if_pos hz))
     have HE:Hid (ER=ue):=by
      show _=_;rw [HE1.out,hx2,if_pos hz]
     clear Hx Hu HUe d2;go_wp2;go_ret;exact ⟨by rw [HE.out]; first | done | rfl,HB2.out⟩
   ·(obtain rfl:un=k:=by omega);have hx2:unitsErr buses units=0:=Hu.out.trans (by rw [<-HUn.out,List.drop_length]; rfl)
    have HE2:Hid (ER=if on'.length ≠ units.length then 3 else bidsErr buses bids):=by
     show _=_;rw [HE1.out,hx2,if_neg (fun e=>e rfl)]
    clear Hu hx2 HE1;by_cases hnn:nn=un
    ·subst hnn
     have HE3:Hid (ER=bidsErr buses bids):=by
      show _=_;rw [HE2.out,if_neg (by rw [HNn.out,HUn.out]; exact fun e=>e rfl)]
     have H1:CkB w buses bids bn (.int .i64 0) wr:=⟨0,nzl _,rfl,hB,d0,rfl⟩;clear HE2 hB hB' d0;go_wp2;(go_loopw [53] (fun t W=>CkB w buses bids bn t W) (fun t _=>bn-(intOf t).toNat));case atStart=>exact H1
     case round=>
      clear H1;obtain ⟨k,hk,rfl,hB,d0,hu⟩:=hrel;have hB':=hdq hB;have hsz:=zAb d0;dsimp only at hsz;have Hu:=hdq hu;clear hu;by_cases hlt:k<bn
      ·have hki:(k:Int)<(bn:Int):=(by omega);have hlu:k<bids.length:=by rw [HBn.out]; exact hlt
       obtain ⟨ad,e,st,q0,q1,qs⟩:=(SlAt.map HB.out fun a x hx=>BdC.below hB hx).cell k hlt;dsimp only at e;subst e;have Hx:=hdq (zYz (N:=buses) hlu);generalize bids.getD k bd0=u at *;obtain ⟨stA,stn,stc⟩:=st;obtain ⟨bus,steps⟩:=u;dsimp only at q0 q1 qs Hx;have tq:=zAb q0;have Hs:=hdq qs;clear hB qs;(go_upto_region 18 with fail);have al:Below wr wr (wr.alloc (.cells #[.int .i64 bus,.slice stA stn stc] 56)):=bal;have y0:(wr.alloc (.cells #[.int .i64 bus,.slice stA stn stc] 56)).cell? wr=some (.int .i64 bus):=(by go_simp);have y1:(wr.alloc (.cells #[.int .i64 bus,.slice stA stn stc] 56)).cell? ⟨wr.heap.size,1,none⟩=some (.slice stA stn stc):=(by go_simp);have HC:=hdq (fun W hb=>zUr (w:=W) (StepsAt.below (w:=(wr.alloc (.cells #[.int .i64 bus,.slice stA stn stc] 56))) hb (StepsAt.below al Hs.out)));have HBa:=hdq (hB'.out.trans (al.mono hB'.out.size));have d0a:=(al.cell (p:=w) hsz).trans d0;have hsa:=ltl hsz al.size;dsimp only at HC;clear al Hs d0 q0 q1 tq;generalize wr.alloc (.cells #[.int .i64 bus,.slice stA stn stc] 56)=wA at *;generalize wr.heap.size=bb at *;by_cases z1:bus<0
       ·have HE:Hid (ER=1):=by
         show _=_;rw [HE3.out,Hu.out,Hx.out,if_pos (.inl z1)]
        clear Hx Hu HC;go_wp2;go_ret;exact ⟨by rw [HE.out]; first | done | rfl,HBa.out⟩
       by_cases z2:buses<=bus
       ·have HE:Hid (ER=1):=by
         show _=_;rw [HE3.out,Hu.out,Hx.out,if_pos (.inr z2)]
        clear Hx Hu HC;go_wp2;go_ret;exact ⟨by rw [HE.out]; first | done | rfl,HBa.out⟩
       obtain ⟨se,hse⟩:∃ x,x=stepErr false steps:=⟨_,rfl⟩
       have Hx2:Hid (bidsErr buses (bids.drop k)=if se ≠ 0 then se else bidsErr buses (bids.drop (k+1))):=by
        show _=_;rw [Hx.out,if_neg (by omega),hse]
       rw [<-hse] at HC;have HC2:=hdq (HC.out wA (brf _ _));clear hse Hx HC;(go_wp2_with fail);refine HC2.out.mono ?_; rintro e w2 ⟨rfl,hb2⟩
       have HB2:=hdq (HBa.out.trans (hb2.mono HBa.out.size));have d2:=(hb2.cell (p:=w) hsa).trans d0a;clear hb2 HBa d0a HC2 y0 y1;by_cases hz:se=0
       ·subst hz;have HN:Hid (CkB w buses bids bn (.int .i64 ((k:Int)+1)) w2):=⟨k+1,by omega,by simp,HB2.out,d2,Hu.out.trans (Hx2.out.trans (if_neg fun e=>e rfl))⟩;clear HB2 d2;go_wp2;go_roundw;case rel=>first | exact HN.out | ((repeat apply Exists.intro); exact ⟨HN.out,rfl⟩)
        case measure=>simp [intOf]; omega
       ·have HE:Hid (ER=se):=by
         show _=_;rw [HE3.out,Hu.out,Hx2.out,if_pos hz]
        clear Hx2 Hu d2;go_wp2;go_ret;exact ⟨by rw [HE.out]; first | done | rfl,HB2.out⟩
      ·obtain rfl:bn=k:=by omega
       have HE:Hid (ER=0):=by
        show _=_;rw [HE3.out,Hu.out,<-HBn.out,List.drop_length]; rfl
       clear Hu hB d0;go_wp2;go_ret;exact ⟨by rw [HE.out]; first | done | rfl,hB'.out⟩
    ·have HE:Hid (ER=3):=by
      show _=_;rw [HE2.out,if_pos (by rw [HNn.out,HUn.out]; exact hnn)]
     have hnb:((nn:Int) == (un:Int))=false:=beq_false_of_ne (by omega);clear hB d0 HE2;go_wp2;go_ret;exact ⟨by rw [HE.out]; first | done | rfl,hB'.out⟩
 ·have HE:Hid (ER=outErr buses lines out):=hdq (by rw [HER.out]; exact if_pos hE);generalize outErr buses lines out=z at *;go_wp2;go_ret;exact ⟨by rw [HE.out]; first | done | rfl,HB1.out⟩
end Mo
namespace Mo
end Mo
end Go.Proofs.YtjancagcmghfjaaGreat
