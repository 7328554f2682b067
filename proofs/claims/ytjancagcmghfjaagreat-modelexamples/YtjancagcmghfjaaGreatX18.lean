/- Texts MpT of this claim. -/
import Derived.Test.YtjancagcmghfjaaGreatX17
set_option maxHeartbeats 4000000
set_option maxRecDepth 100000
namespace Go.Proofs.YtjancagcmghfjaaGreat
open Go.RowKit Go.Shelf
namespace Mo
attribute [local go_sem] Oper.semAt_some
section
variable {w w':World} (hb:Carry (fun y=>y<w.heap.size) w w')
 include hb
theorem cellK {a:Addr} {v:Value} (h:w.cell? a=some v):w'.cell? a=some v:=hb.cell (zAb h) h
theorem StepsAt.carry {s:SV} {l:List St} (h:StepsAt w s l):StepsAt w' s l:=SlAt.map h fun _ _ h=>⟨cellK hb h.1,cellK hb h.2⟩
theorem UnC.carry {a:Addr} {u:Un} (h:UnC w a u):UnC w' a u:=by
 obtain ⟨st,h0,h1,h2,h3,h4,h5,h6,h7,h8,h9⟩:=h;exact ⟨st,cellK hb h0,cellK hb h1,cellK hb h2,cellK hb h3,cellK hb h4,cellK hb h5,cellK hb h6,cellK hb h7,cellK hb h8,StepsAt.carry hb h9⟩
theorem BdC.carry {a:Addr} {b:Bd} (h:BdC w a b):BdC w' a b:=by
 obtain ⟨st,h0,h1,h2⟩:=h;exact ⟨st,cellK hb h0,cellK hb h1,StepsAt.carry hb h2⟩
theorem OnAt.carry {s:SV} {l:List Bool} (h:OnAt w s l):OnAt w' s l:=⟨h.len,h.le,h.cap,fun k hk=>by
 obtain ⟨ad,e,hc⟩:=h.cell k hk;exact ⟨ad,e,cellK hb hc⟩⟩
end
def colA (vs:List Vr) (j:Nat):Array Value:=#[.int .i64 (j:Int),.agg #[.bool (vs.getD j vr0).bid,.int .i64 ((vs.getD j vr0).which:Int),.int .i64 ((vs.getD j vr0).step:Int)]]
theorem zVL {w:World} {n:Nat} (A B C:Option Addr) (la ca lb cb lc cc:Nat) :
  CallsIn Fence.wide n Tryz.prog 55 #[.slice A la ca,.slice B lb cb,.slice C lc cc] w fun e w'=>e = .returned (.func (.func 103) #[] #[.pointer (some w),.pointer (some ⟨w+1,0,none⟩),.pointer (some ⟨w+2,0,none⟩)])/\
   w'=((w.alloc (.cells #[.slice A la ca] 26)).alloc (.cells #[.slice B lb cb] 27)).alloc (.cells #[.slice C lc cc] 28):=by
 refine callsIn_of_wp Tryz.func55 rfl trivial ?_ rfl;simp only [Tryz.ntmps55,List.size_toArray,List.length_cons,List.length_nil,Nat.reduceAdd,Nat.reduceSub,Array.replicate_succ,Array.replicate_zero,List.push_toArray,List.append_toArray,List.nil_append,List.cons_append];gi_wp2;go_ret;exact ⟨by simp,by simp⟩
def CoU (W:World) (X:Nat->Prop) (us:List Un) (os:List Bool) (J:List Nat->World->Prop) (n:Nat) (s i:Value) (wr:World):Prop:=
 ∃ k,k<=n/\i = .int .i64 (k:Int)/\s = .int .i64 (uoff us os k:Int)/\J (List.range (uoff us os k)) wr/\Carry X W wr
def CoV (W:World) (X:Nat->Prop) (o:Nat) (J:List Nat->World->Prop) (n:Nat) (s i:Value) (wr:World):Prop:=
 ∃ k,k<=n/\i = .int .i64 (k:Int)/\s = .int .i64 ((o+k:Nat):Int)/\J (List.range (o+k)) wr/\Carry X W wr
def CoB (W:World) (X:Nat->Prop) (h:Hr) (J:List Nat->World->Prop) (n:Nat) (s i:Value) (wr:World):Prop:=
 ∃ k,k<=n/\i = .int .i64 (k:Int)/\s = .int .i64 (boff h k:Int)/\J (List.range (boff h k)) wr/\Carry X W wr
theorem zYb {n l B1 B2 B3:Nat} {X:Nat->Prop} {w0:World} {U N B:SV} {h:Hr} (hn:1<=n) (J Jx:List Nat->World->Prop) (W:World) (hJ:AbidesFrom W J)
  (hY:∀ pre x W1,J pre W1->pre.length<(vars h).length->x<(vars h).length->YieldAt Fence.wide (n-1) Tryz.prog l (colA (vars h) x) W1 fun e W'=>
   (e = .returned (.bool true)/\J (pre++[x]) W'/\Carry X W1 W')\/(e = .returned (.bool false)/\Jx (pre++[x]) W'))
  (h1:W.cell? B1=some (.slice U.A U.n U.c)) (hb1:X B1) (h2:W.cell? B2=some (.slice N.A N.n N.c)) (hb2:X B2) (h3:W.cell? B3=some (.slice B.A B.n B.c)) (hb3:X B3)
  (hu:UnitsAt w0 U h.units) (ho:OnAt w0 N h.on) (hb:BidsAt w0 B h.bids) (hc:Carry (fun y=>y<w0.heap.size) w0 W) (hX:∀ y,y<w0.heap.size->X y) (hon:h.on.length=h.units.length) (hst:∀ u ∈ h.units,u.steps.length<=3) (hsb:∀ u ∈ h.bids,u.steps.length<=3) (hul:h.units.length<=5) (hbl:h.bids.length<=6) (hvl:(vars h).length<=1000) (h0:J [] W) :
  CallsIn Fence.wide n Tryz.prog 103 #[.func (.yield l) #[] #[],.pointer (some B1),.pointer (some B2),.pointer (some B3)] W fun e W'=>(∃ v,e = .returned v)/\
   ((∃ ys,ys=List.range (vars h).length/\J ys W')\/(∃ pre,pre <+: List.range (vars h).length/\Jx pre W')):=by
 obtain ⟨uA,un,uc⟩:=U;obtain ⟨nA,nn,nc⟩:=N;obtain ⟨bA,bn,bc⟩:=B;dsimp only at h1 h2 h3;have HUn:Hid (h.units.length=un):=hu.len;have HNn:Hid (h.on.length=nn):=ho.len;have HBn:Hid (h.bids.length=bn):=hb.len;have un5:un<=5:=by have:=HUn.out; omega
 have bn6:bn<=6:=by have:=HBn.out; omega
 have hnn:nn=un:=by have:=HUn.out; have:=HNn.out; omega
 have ule:un<=uc:=hu.le;have ucap:uc<=9223372036854775807:=hu.cap;have nle:nn<=nc:=ho.le;have ncap:nc<=9223372036854775807:=ho.cap;have ble:bn<=bc:=hb.le;have bcap:bc<=9223372036854775807:=hb.cap;have HU:=hdq hu;have HO:=hdq ho;have HB:=hdq hb;have HY:=hdq hY;have HJ:=hdq hJ;have HC:=hdq hc;have HSt:=hdq hst;have HSb:=hdq hsb;clear hu ho hb hY hJ hc hst hsb hon hul hbl;refine callsIn_of_wp Tryz.func103 rfl trivial ?_ rfl;simp only [Tryz.ntmps103,List.size_toArray,List.length_cons,List.length_nil,Nat.reduceAdd,Nat.reduceSub,Array.replicate_succ,Array.replicate_zero,List.push_toArray,List.append_toArray,List.nil_append,List.cons_append];gi_wp2;gi_loopw [5,14] (fun s i wr=>CoU W X h.units h.on J un s i wr) (fun _ i _=>un-(intOf i).toNat)
 case atStart=>exact ⟨0,nzl _,rfl,rfl,h0,Carry.refl _ _⟩
 case round=>
  obtain ⟨k,hk,rfl,rfl,hJs,hcar⟩:=hrel;have d1:=hcar.cell (p:=B1) hb1 h1;have d2:=hcar.cell (p:=B2) hb2 h2;have d3:=hcar.cell (p:=B3) hb3 h3;have hcw:=HC.out.trans (hcar.mono hX);by_cases hlt:k<un
  ·have hki:(k:Int)<(un:Int):=(by omega);have hlu:k<h.units.length:=by rw [HUn.out]; exact hlt
   obtain ⟨ad,e,st,q0,q1,q2,q3,q4,q5,q6,q7,q8,qs⟩:=(SlAt.map HU.out fun a x hx=>UnC.carry hcw hx).cell k hlt;dsimp only at e;subst e;obtain ⟨na,e,p0⟩:=(HO.out.carry hcw).cell k (show k<nn by omega);dsimp only at e;subst e;have Hn:=hdq (zX1 (us:=h.units) (os:=h.on) hlu);have al:Below wr wr (wr.alloc (.cells #[.int .i64 (h.units.getD k un0).bus,.int .i64 (h.units.getD k un0).min,.slice st.A st.n st.c,.int .i64 (h.units.getD k un0).up,.int .i64 (h.units.getD k un0).down,.int .i64 (h.units.getD k un0).start,.int .i64 (h.units.getD k un0).idle,.int .i64 (h.units.getD k un0).spin,.int .i64 (h.units.getD k un0).on] 45)):=bal;have hgb:wr.grownBy _ none:=⟨al.os,al.tape,al.output,al.size,fun k hk _=>al.block k hk⟩;have hJ2:=HJ.out _ wr _ none hJs hgb (fun r e=>by cases e);have hcar2:=hcar.trans (Carry.of_below al);have HV:=hdq (fun j (hj:j<st.n) (hon:h.on.getD k false=true)=>zX4 (h:=h) (k:=j) hlu hon (by rw [qs.len]; exact hj))
   have hsl:st.n<=3:=by
    have:=HSt.out (h.units.getD k un0) (by rw [gdd,gge hlu]; exact List.getElem_mem hlu);rw [<-qs.len]; exact this
   have hsle:st.n<=st.c:=qs.le;have hscap:st.c<=9223372036854775807:=qs.cap;rw [show (h.units.getD k u0).steps.length=st.n from qs.len] at Hn;obtain ⟨stA,stn,stc⟩:=st;dsimp only at q2 hsl hsle hscap HV Hn al hgb hJ2 hcar2;have tq:=zAb q0;have tp:=zAb p0;have td1:=zAb d1;have td2:=zAb d2;have td3:=zAb d3;dsimp only at td1 td2 td3;have hknn:¬ (nn:Int)<=(k:Int):=(by omega);have hkni:(k:Int)<(nn:Int):=(by omega);clear qs hcw hJs hcar;obtain ⟨on,hon⟩:∃ on,on=h.on.getD k false:=⟨_,rfl⟩;rw [<-hon] at p0 Hn HV;clear hon;generalize h.units.getD k un0=u at *;obtain ⟨bus,mn,steps,up,down,start,idle,spin,uon⟩:=u;dsimp only at q0 q1 q3 q4 q5 q6 q7 q8 al hgb hJ2 hcar2
   cases on with
   | false=>
    replace Hn:Hid (uoff h.units h.on (k+1)=uoff h.units h.on k):=hdq (Hn.out.trans (by rw [if_neg (by decide),Nat.add_zero]));have Hfin:Hid (CoU W X h.units h.on J un (.int .i64 (uoff h.units h.on k:Int)) (.int .i64 ((k:Int)+1)) (wr.alloc (.cells #[.int .i64 bus,.int .i64 mn,.slice stA stn stc,.int .i64 up,.int .i64 down,.int .i64 start,.int .i64 idle,.int .i64 spin,.int .i64 uon] 45))):=⟨k+1,by omega,by simp,by rw [Hn.out],by rw [Hn.out]; exact hJ2,hcar2⟩;clear hJ2 hcar2 al hgb Hn;generalize uoff h.units h.on k=uo at *;gi_wp2
    exact ⟨Hfin.out,by simp [intOf]; omega⟩
   | true=>
    rw [if_pos rfl] at Hn;have H1:CoV W X (uoff h.units h.on k) J stn (.int .i64 (uoff h.units h.on k:Int)) (.int .i64 0) (wr.alloc (.cells #[.int .i64 bus,.int .i64 mn,.slice stA stn stc,.int .i64 up,.int .i64 down,.int .i64 start,.int .i64 idle,.int .i64 spin,.int .i64 uon] 45)):=⟨0,nzl _,rfl,rfl,hJ2,hcar2⟩;clear hJ2 hcar2 hgb;obtain ⟨uo,huo⟩:∃ uo,uo=uoff h.units h.on k:=⟨_,rfl⟩;rw [<-huo] at Hn HV H1 ⊢;have Huo:=hdq huo;clear huo
    have HV2:Hid (∀ j,j<stn->uo+j<(vars h).length/\colA (vars h) (uo+j)=#[.int .i64 ((uo+j:Nat):Int),.agg #[.bool false,.int .i64 (k:Int),.int .i64 (j:Int)]]):=hdq fun j hj=>by
     have h1:=HV.out j hj rfl;obtain ⟨h2,h3⟩:=List.getElem?_eq_some_iff.1 h1;refine ⟨h2,?_⟩;unfold colA;rw [gdd,h1]; rfl
    have hst:=al.size;clear HV al;gi_wp2;clear d1 d2 d3 q0 q1 q2 q3 q4 q5 q6 q7 q8 p0 tq tp td1 td2 td3;have al:Below wr wr (wr.alloc (.cells #[.int .i64 bus,.int .i64 mn,.slice stA stn stc,.int .i64 up,.int .i64 down,.int .i64 start,.int .i64 idle,.int .i64 spin,.int .i64 uon] 45)):=bal;generalize wr.alloc (.cells #[.int .i64 bus,.int .i64 mn,.slice stA stn stc,.int .i64 up,.int .i64 down,.int .i64 start,.int .i64 idle,.int .i64 spin,.int .i64 uon] 45)=wq at *;(gi_loopw [5,33] (fun s i wr=>CoV W X uo J stn s i wr) (fun _ i _=>stn-(intOf i).toNat));case atStart=>exact H1
    case round=>
     clear H1;obtain ⟨j,hj,rfl,rfl,hJs,hcar⟩:=hrel;by_cases hlj:j<stn
     ·obtain ⟨v1,v2⟩:=HV2.out j hlj;obtain ⟨fn,tmps,assign,body,hy,hR⟩:=HY.out _ (uo+j) wr hJs (by simpa using v1) v1;rw [v2,Int.natCast_add] at hy;have HRg:=hdq (show List.range (uo+(j+1))=List.range (uo+j)++[uo+j] from List.range_succ);have hji:(j:Int)<(stn:Int):=(by omega);clear hJs v2;gi_wp2;refine hR.mono ?_;rintro e W3 (⟨rfl,hJ3,hk3⟩ | ⟨rfl,hJx3⟩)
      ·have Hfin:Hid (CoV W X uo J stn (.int .i64 (((uo+j:Nat):Int)+1)) (.int .i64 ((j:Int)+1)) W3):=⟨j+1,by omega,by simp,by rw [show ((uo+(j+1):Nat):Int)=((uo+j:Nat):Int)+1 by omega],by rw [HRg.out]; exact hJ3,hcar.trans hk3⟩;clear hJ3 hk3 hcar;gi_wp2;exact ⟨Hfin.out,by simp [intOf]; omega⟩
      ·gi_wp2;refine bodyPost_ret (results_none rfl _ _ _) rfl ?_;exact ⟨⟨_,rfl⟩,.inr ⟨_,by rw [<-HRg.out]; exact zA8 (by omega),hJx3⟩⟩
     ·(obtain rfl:j=stn:=by omega);have Hfin:Hid (CoU W X h.units h.on J un (.int .i64 ((uo+j:Nat):Int)) (.int .i64 ((k:Int)+1)) wr):=⟨k+1,by omega,by simp,by rw [Hn.out],by rw [Hn.out]; exact hJs,hcar⟩;clear hJs hcar;gi_wp2;exact ⟨Hfin.out,by simp [intOf]; omega⟩
  ·(obtain rfl:un=k:=by omega);have H1:CoB W X h J bn (.int .i64 (uoff h.units h.on un:Int)) (.int .i64 0) wr:=⟨0,nzl _,rfl,by rw [zWd,HUn.out],by rw [zWd,HUn.out]; exact hJs,hcar⟩;have td3:=zAb d3;clear hJs hcar hcw;generalize uoff h.units h.on un=uo at *;gi_wp2;clear d1 d2 d3 td3;generalize wr=wq at *;(gi_loopw [5,49] (fun s i wr=>CoB W X h J bn s i wr) (fun _ i _=>bn-(intOf i).toNat));case atStart=>exact H1
   case round=>
    clear H1;obtain ⟨k,hk,rfl,rfl,hJs,hcar⟩:=hrel;have hcw:=HC.out.trans (hcar.mono hX);by_cases hlt:k<bn
    ·have hki:(k:Int)<(bn:Int):=(by omega);have hlu:k<h.bids.length:=by rw [HBn.out]; exact hlt
     obtain ⟨ad,e,st,q0,q1,qs⟩:=(SlAt.map HB.out fun a x hx=>BdC.carry hcw hx).cell k hlt;dsimp only at e;subst e;have Hn:=hdq (zXy (h:=h) hlu);have al:Below wr wr (wr.alloc (.cells #[.int .i64 (h.bids.getD k bd0).bus,.slice st.A st.n st.c] 56)):=bal;have hgb:wr.grownBy _ none:=⟨al.os,al.tape,al.output,al.size,fun k hk _=>al.block k hk⟩;have hJ2:=HJ.out _ wr _ none hJs hgb (fun r e=>by cases e);have hcar2:=hcar.trans (Carry.of_below al);have HV:=hdq (fun j (hj:j<st.n)=>zYx (h:=h) (k:=j) hlu (by rw [qs.len]; exact hj))
     have hsl:st.n<=3:=by
      have:=HSb.out (h.bids.getD k bd0) (by rw [gdd,gge hlu]; exact List.getElem_mem hlu);rw [<-qs.len]; exact this
     have hsle:st.n<=st.c:=qs.le;have hscap:st.c<=9223372036854775807:=qs.cap;rw [show (h.bids.getD k b0).steps.length=st.n from qs.len] at Hn;obtain ⟨stA,stn,stc⟩:=st;dsimp only at q1 hsl hsle hscap HV Hn al hgb hJ2 hcar2;have tq:=zAb q0;clear qs hcw hJs hcar hgb;generalize h.bids.getD k bd0=u at *;obtain ⟨bus,steps⟩:=u;dsimp only at q0 al hJ2 hcar2;have H2:CoV W X (boff h k) J stn (.int .i64 (boff h k:Int)) (.int .i64 0) (wr.alloc (.cells #[.int .i64 bus,.slice stA stn stc] 56)):=⟨0,nzl _,rfl,rfl,hJ2,hcar2⟩;clear hJ2 hcar2;obtain ⟨uo,huo⟩:∃ uo,uo=boff h k:=⟨_,rfl⟩;rw [<-huo] at Hn HV H2 ⊢;have Huo:=hdq huo;clear huo
     have HV2:Hid (∀ j,j<stn->uo+j<(vars h).length/\colA (vars h) (uo+j)=#[.int .i64 ((uo+j:Nat):Int),.agg #[.bool true,.int .i64 (k:Int),.int .i64 (j:Int)]]):=hdq fun j hj=>by
      have h1:=HV.out j hj;obtain ⟨h2,h3⟩:=List.getElem?_eq_some_iff.1 h1;refine ⟨h2,?_⟩;unfold colA;rw [gdd,h1]; rfl
     clear HV al;gi_wp2;clear q0 q1 tq;have al:Below wr wr (wr.alloc (.cells #[.int .i64 bus,.slice stA stn stc] 56)):=bal;generalize wr.alloc (.cells #[.int .i64 bus,.slice stA stn stc] 56)=wq at *;(gi_loopw [5,57] (fun s i wr=>CoV W X uo J stn s i wr) (fun _ i _=>stn-(intOf i).toNat));case atStart=>exact H2
     case round=>
      clear H2;obtain ⟨j,hj,rfl,rfl,hJs,hcar⟩:=hrel;by_cases hlj:j<stn
      ·obtain ⟨v1,v2⟩:=HV2.out j hlj;obtain ⟨fn,tmps,assign,body,hy,hR⟩:=HY.out _ (uo+j) wr hJs (by simpa using v1) v1;rw [v2,Int.natCast_add] at hy;have HRg:=hdq (show List.range (uo+(j+1))=List.range (uo+j)++[uo+j] from List.range_succ);have hji:(j:Int)<(stn:Int):=(by omega);clear hJs v2;gi_wp2;refine hR.mono ?_;rintro e W3 (⟨rfl,hJ3,hk3⟩ | ⟨rfl,hJx3⟩)
       ·have Hfin:Hid (CoV W X uo J stn (.int .i64 (((uo+j:Nat):Int)+1)) (.int .i64 ((j:Int)+1)) W3):=⟨j+1,by omega,by simp,by rw [show ((uo+(j+1):Nat):Int)=((uo+j:Nat):Int)+1 by omega],by rw [HRg.out]; exact hJ3,hcar.trans hk3⟩;clear hJ3 hk3 hcar;gi_wp2;exact ⟨Hfin.out,by simp [intOf]; omega⟩
       ·gi_wp2;refine bodyPost_ret (results_none rfl _ _ _) rfl ?_;exact ⟨⟨_,rfl⟩,.inr ⟨_,by rw [<-HRg.out]; exact zA8 (by omega),hJx3⟩⟩
      ·(obtain rfl:j=stn:=by omega);have Hfin:Hid (CoB W X h J bn (.int .i64 ((uo+j:Nat):Int)) (.int .i64 ((k:Int)+1)) wr):=⟨k+1,by omega,by simp,by rw [Hn.out],by rw [Hn.out]; exact hJs,hcar⟩;clear hJs hcar;gi_wp2;exact ⟨Hfin.out,by simp [intOf]; omega⟩
    ·(obtain rfl:bn=k:=by omega);have hba:boff h bn=(vars h).length:=by rw [<-HBn.out]; exact zX5 h
     rw [hba] at hJs;gi_wp2;go_end0;exact ⟨⟨_,rfl⟩,.inl ⟨_,rfl,hJs⟩⟩
theorem zVK {n B1 B2 B3:Nat} {X:Nat->Prop} {w0 w1:World} {U N B:SV} {h:Hr} (hn:1<=n)
  (h1:w1.cell? B1=some (.slice U.A U.n U.c)) (hb1:X B1) (h2:w1.cell? B2=some (.slice N.A N.n N.c)) (hb2:X B2) (h3:w1.cell? B3=some (.slice B.A B.n B.c)) (hb3:X B3)
  (hu:UnitsAt w0 U h.units) (ho:OnAt w0 N h.on) (hb:BidsAt w0 B h.bids) (hc:Carry (fun y=>y<w0.heap.size) w0 w1) (hX:∀ y,y<w0.heap.size->X y) (hon:h.on.length=h.units.length) (hst:∀ u ∈ h.units,u.steps.length<=3) (hsb:∀ u ∈ h.bids,u.steps.length<=3) (hul:h.units.length<=5) (hbl:h.bids.length<=6) (hvl:(vars h).length<=1000) :
  SeqStopsK Fence.wide n Tryz.prog 103 #[.pointer (some B1),.pointer (some B2),.pointer (some B3)] (fun x:Fin (vars h).length=>colA (vars h) x.val) (Carry X) (fun ys=>ys.map Fin.val=List.range (vars h).length) (fun pre=>pre.map Fin.val <+: List.range (vars h).length) (vars h).length w1:=fun l J Jx W hW hJ _ hY h0=>
 (zYb hn (fun p W=>∃ q:List (Fin (vars h).length),q.map Fin.val=p/\J q W) (fun p W=>∃ q:List (Fin (vars h).length),q.map Fin.val=p/\Jx q W) W
  (fun p A B r ⟨q,e,hq⟩ hg hr=>⟨q,e,hJ q A B r hq hg hr⟩)
  (fun p x W1 ⟨q,e,hq⟩ hp hx=>by
   subst e;obtain ⟨fn,tmps,assign,body,hy,hR⟩:=hY q ⟨x,hx⟩ W1 hq (by simpa using hp);refine ⟨fn,tmps,assign,body,hy,hR.mono ?_⟩;rintro e W3 (⟨h1,h2,h3⟩ | ⟨h1,h2⟩)
   ·exact .inl ⟨h1,⟨_,by simp,h2⟩,h3⟩
   ·exact .inr ⟨h1,⟨_,by simp,h2⟩⟩)
  ((hW.cell (p:=B1) (zAb h1)).trans h1) hb1 ((hW.cell (p:=B2) (zAb h2)).trans h2) hb2 ((hW.cell (p:=B3) (zAb h3)).trans h3) hb3 hu ho hb (hc.trans (Carry.of_below hW)) hX hon hst hsb hul hbl hvl ⟨[],rfl,h0⟩).mono fun e W'=>by
  rintro ⟨hv,⟨ys,rfl,q,e,hq⟩ | ⟨pre,hp,q,rfl,hq⟩⟩
  ·exact ⟨hv,.inl ⟨q,e,hq⟩⟩
  ·exact ⟨hv,.inr ⟨q,hp,hq⟩⟩
end Mo
end Go.Proofs.YtjancagcmghfjaaGreat
