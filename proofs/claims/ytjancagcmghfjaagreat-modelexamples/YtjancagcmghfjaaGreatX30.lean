/- Texts MpY MpZ MqBa MrB of this claim. -/
import Derived.Test.YtjancagcmghfjaaGreatX29
set_option maxHeartbeats 4000000
set_option maxRecDepth 100000
namespace Go.Proofs.YtjancagcmghfjaaGreat
open Go.RowKit Go.Shelf Gj
namespace Mo
attribute [local go_sem] Oper.semAt_some
section
variable {w w':World} {B:Nat}
theorem UnitsAt.below' {s:SV} {l:List Un} (hb:Below w w w') (h:UnitsAt w s l):UnitsAt w' s l:=UnitsAt.below hb h
theorem BidsAt.below' {s:SV} {l:List Bd} (hb:Below w w w') (h:BidsAt w s l):BidsAt w' s l:=BidsAt.below hb h
end
theorem zYT {W1:World} {b:Nat} {v0 v1 v2 a3 a4 a5 a6 x3 x4 x5:Value} {t:TypeId} (hh:W1.heap[b]?=some (.cells #[v0,v1,v2,a3,a4,a5,a6] t (0,0))):Box7 (((W1.setCell ⟨b,3,none⟩ x3).setCell ⟨b,4,none⟩ x4).setCell ⟨b,5,none⟩ x5).drew b v0 v1 v2 x3 x4 x5 a6:=by
 have c0:W1.cell? b=some v0:=by simp [World.cell?,hh]
 have c1:W1.cell? ⟨b,1,none⟩=some v1:=by simp [World.cell?,hh]
 have c2:W1.cell? ⟨b,2,none⟩=some v2:=by simp [World.cell?,hh]
 have c3:W1.cell? ⟨b,3,none⟩=some a3:=by simp [World.cell?,hh]
 have c4:W1.cell? ⟨b,4,none⟩=some a4:=by simp [World.cell?,hh]
 have c5:W1.cell? ⟨b,5,none⟩=some a5:=by simp [World.cell?,hh]
 have c6:W1.cell? ⟨b,6,none⟩=some a6:=by simp [World.cell?,hh]
 have f0:∀ o,W1.frozen? ⟨b,o,none⟩=false:=fun o=>by simp [World.frozen?,hh]
 clear hh;exact ⟨by go_simp,by go_simp,by go_simp,by go_simp,by go_simp,by go_simp,by go_simp,by intro o; go_simp⟩
theorem zYS {W1:World} {b:Nat} {v0 v1 v2 a3 a4 a5 a6 x3 x4 x5 x6:Value} {t:TypeId} (hh:W1.heap[b]?=some (.cells #[v0,v1,v2,a3,a4,a5,a6] t (0,0))):Box7 ((((W1.setCell ⟨b,3,none⟩ x3).setCell ⟨b,4,none⟩ x4).setCell ⟨b,5,none⟩ x5).setCell ⟨b,6,none⟩ x6).drew b v0 v1 v2 x3 x4 x5 x6:=by
 have c0:W1.cell? b=some v0:=by simp [World.cell?,hh]
 have c1:W1.cell? ⟨b,1,none⟩=some v1:=by simp [World.cell?,hh]
 have c2:W1.cell? ⟨b,2,none⟩=some v2:=by simp [World.cell?,hh]
 have c3:W1.cell? ⟨b,3,none⟩=some a3:=by simp [World.cell?,hh]
 have c4:W1.cell? ⟨b,4,none⟩=some a4:=by simp [World.cell?,hh]
 have c5:W1.cell? ⟨b,5,none⟩=some a5:=by simp [World.cell?,hh]
 have c6:W1.cell? ⟨b,6,none⟩=some a6:=by simp [World.cell?,hh]
 have f0:∀ o,W1.frozen? ⟨b,o,none⟩=false:=fun o=>by simp [World.frozen?,hh]
 clear hh;exact ⟨by go_simp,by go_simp,by go_simp,by go_simp,by go_simp,by go_simp,by go_simp,by intro o; go_simp⟩
theorem zVB {w:World} {h:Hr} {U N B:SV} (hu:UnitsAt w U h.units) (ho:OnAt w N h.on) (hb:BidsAt w B h.bids) (h0:hrErr h=0) :
  Calls Tryz.prog 44 #[U.val,N.val,B.val] w fun e w'=>∃ d x o,e = .returned (.pointer (some ⟨d,0,none⟩))/\w.heap.size<=d/\Below w w w'/\x.n=(vars h).length/\AsE d x o (vars h) [] [] (fun y=>y<=d) w':=by
 obtain ⟨uA,un,uc⟩:=U;obtain ⟨nA,nn,nc⟩:=N;obtain ⟨bA,bn,bc⟩:=B;obtain ⟨r1,r2,r3,r4,r5⟩:=zUh h0;have Hst:Hid (∀ u ∈ h.units,u.steps.length<=3):=hdq fun u hu=>(zT8 (zVw (r3 u hu)).2.2.1).2.1
 have Hsb:Hid (∀ u ∈ h.bids,u.steps.length<=3):=hdq fun u hu=>(zT8 (zUs r5 u hu).2.2).2.1
 have Hvl:=hdq (zUU h0);have Hvo:=hdq (zX3 h0);have HUn:Hid (h.units.length=un):=hu.len;have HBn:Hid (h.bids.length=bn):=hb.len;have hu5:=r1;have hb6:=r2;have Hon:=hdq r4;have ule:un<=uc:=hu.le;have ucap:uc<=9223372036854775807:=hu.cap;have ble:bn<=bc:=hb.le;have bcap:bc<=9223372036854775807:=hb.cap;have HU:=hdq hu;have HO:=hdq ho;have HB:=hdq hb;clear hu ho hb r1 r2 r3 r4 r5 h0;dsimp only [SV.val];refine (callsIn_wide (n:=6)).1 ?_;refine callsIn_of_wp_marks Tryz.func44 rfl trivial ?_ rfl;simp only [Tryz.ntmps44,List.size_toArray,List.length_cons,List.length_nil,Nat.reduceAdd,Nat.reduceSub,Array.replicate_succ,Array.replicate_zero,List.push_toArray,List.append_toArray,List.nil_append,List.cons_append];gi_wp2;refine ⟨trivial,?_⟩;refine (zVL uA nA bA un uc nn nc bn bc).mono ?_;rintro e w2 ⟨rfl,rfl⟩;gi_wp2;obtain ⟨d,hd⟩:∃ d,d=w.heap.size+1+1:=⟨_,rfl⟩;obtain ⟨W0,hW0⟩:∃ W0,((((((w.alloc (.cells #[.slice uA un uc] 26)).alloc (.cells #[.slice bA bn bc] 28)).alloc (.cells #[.slice none 0 0,.int .i64 0,.slice none 0 0,.slice none 0 0,.slice none 0 0] 102)).alloc (.cells #[.pointer (some ⟨w+1+1,0,none⟩)] 92)).alloc (.cells #[.slice uA un uc] 26)).alloc (.cells #[.slice nA nn nc] 27)).alloc (.cells #[.slice bA bn bc] 28)=W0:=⟨_,rfl⟩;rw [hW0,<-hd];have hk0:Below w w W0:=by rw [<-hW0]; exact (((((((brf _ w).alloc (nlr _) _).alloc (by simp) _).alloc (by simp; omega) _).alloc (by simp; omega) _).alloc (by simp; omega) _).alloc (by simp; omega) _).alloc (by simp; omega) _
 have hs0:W0.heap.size=d+5:=by rw [<-hW0,hd]; simp
 have x0:W0.cell? w=some (.slice uA un uc):=by
  have e:W0.heap[w.heap.size]?=some (.cells #[.slice uA un uc] 26 (0,0)):=by rw [<-hW0]; exact alk (alk (alk (alk (alk (alk (zAd _ _ (by simp)))))))
  simp [World.cell?,e]
 have x1:W0.cell? ⟨w+1,0,none⟩=some (.slice bA bn bc):=by
  have e:W0.heap[w.heap.size+1]?=some (.cells #[.slice bA bn bc] 28 (0,0)):=by rw [<-hW0]; exact alk (alk (alk (alk (alk (zAd _ _ (by simp))))))
  simp [World.cell?,e]
 have x3:W0.cell? ⟨d+1,0,none⟩=some (.pointer (some d)):=by
  have e:W0.heap[d+1]?=some (.cells #[.pointer (some d)] 92 (0,0)):=by rw [<-hW0,hd]; exact alk (alk (alk (zAd _ _ (by simp))))
  simp [World.cell?,e]
 have x4:W0.cell? ⟨d+1+1,0,none⟩=some (.slice uA un uc):=by
  have e:W0.heap[d+1+1]?=some (.cells #[.slice uA un uc] 26 (0,0)):=by rw [<-hW0,hd]; exact alk (alk (zAd _ _ (by simp)))
  simp [World.cell?,e]
 have x5:W0.cell? ⟨d+1+1+1,0,none⟩=some (.slice nA nn nc):=by
  have e:W0.heap[d+1+1+1]?=some (.cells #[.slice nA nn nc] 27 (0,0)):=by rw [<-hW0,hd]; exact alk (zAd _ _ (by simp))
  simp [World.cell?,e]
 have x6:W0.cell? ⟨d+1+1+2,0,none⟩=some (.slice bA bn bc):=by
  have e:W0.heap[d+1+1+2]?=some (.cells #[.slice bA bn bc] 28 (0,0)):=by rw [<-hW0,hd]; exact zAd _ _ (by simp)
  simp [World.cell?,e]
 have z2:AsmB W0 d (.slice none 0 0):=by rw [<-hW0,hd]; exact alk (alk (alk (alk (zAd _ _ (by simp)))))
 have HK0:=hdq hk0;have Hs:=hdq hs0;have hd1:w.heap.size+2<=d:=by omega
 have hd2:d<=w.heap.size+2:=by omega
 have HX0:=hdq x0;have HX1:=hdq x1;have HX3:=hdq x3;clear hW0 hd hk0 hs0 x0 x1 x3
 refine wpIn_rangeFunc_ownH (F:=Fence.wide) rfl (by omega) (gf:=103) (lb:=#[.pointer (some ⟨d+1+1,0,none⟩),.pointer (some ⟨d+1+1+1,0,none⟩),.pointer (some ⟨d+1+1+2,0,none⟩)]) rfl trivial (enters_of Tryz.func103 (by kernel_rfl) rfl)
  (zVK (X:=fun y=>y<d+5/\y ≠ d) (w0:=w) (h:=h) (U:=⟨uA,un,uc⟩) (N:=⟨nA,nn,nc⟩) (B:=⟨bA,bn,bc⟩) (by omega) x4 (by omega) x5 (by omega) x6 (by omega) HU.out HO.out HB.out (Carry.of_below HK0.out) (fun y hy=>by omega) Hon.out Hst.out Hsb.out hu5 hb6 (by have:=Hvl.out; omega))
  (fun h k=>h.trans k) (fun W l o o' _ hl ho _=>Carry.putObj o' hl ho) (brf _ _) (fun _=>rfl)
  (fun pre W=>AsI w W0 (d+5) d (vars h) pre W)
  (fun _ _ _=>False)
  (AsI.own (by rw [Hs.out]; omega))
  (fun _ _ _ _ _ hs _ _=>hs)
  ⟨_,z2,World.ownsRow_nil _ _ _ _,by rw [Hs.out]; exact nlr _,HK0.out,Carry.refl _ _⟩
  (fun x1 a' W=>∃ q,a'={tmps:=#[.slice uA un uc,.slice nA nn nc,.slice bA bn bc,.pointer (some w),undef,.pointer (some ⟨w+1,0,none⟩),.pointer none,.pointer (some ⟨d+1,0,none⟩),undef,.pointer (some ⟨q,0,none⟩),undef,.agg #[.slice none 0 0,.int .i64 0,.slice none 0 0,.slice none 0 0,.slice none 0 0],.pointer (some d),.slice uA un uc,.slice nA nn nc,.slice bA bn bc,.func (.func 103) #[] #[.pointer (some ⟨d+1+1,0,none⟩),.pointer (some ⟨d+1+1+1,0,none⟩),.pointer (some ⟨d+1+1+2,0,none⟩)],.int .i64 (x1.val:Int),.agg #[.bool ((vars h).getD x1.val vr0).bid,.int .i64 (((vars h).getD x1.val vr0).which:Int),.int .i64 (((vars h).getD x1.val vr0).step:Int)],undef,undef,undef,undef,undef,undef,undef,undef,undef,undef,undef,undef,undef,undef,undef,undef,undef,undef,undef,undef,undef,undef,undef,undef,undef,undef,undef,undef,undef,undef,undef,undef,undef,undef,undef,undef,undef,undef,undef,undef,undef,undef,undef,undef,undef,undef,undef,undef,undef,undef,undef,undef,undef,undef,undef,undef,undef,undef,undef,undef,undef,undef,undef,undef,undef,undef,undef,undef],defers:=[]}/\W.heap[q]?=some (.cells #[.bool ((vars h).getD x1.val vr0).bid,.int .i64 (((vars h).getD x1.val vr0).which:Int),.int .i64 (((vars h).getD x1.val vr0).step:Int)] 69 (0,0)))
  (fun x a' _ W W' row hs hg hr=>?hAx) ?assign ?body ?done ?stop
 case hAx=>
  obtain ⟨q,e,g1⟩:=hs;exact ⟨q,e,zAi hg (fun r e=>(hr r e).2) g1⟩
 case stop=>
  rintro D c pre W _ _ h _;exact h.elim
 case assign=>
  intro l pre x1 W K hI hK;unfold colA;generalize (vars h).getD x1.val vr0=vr at *;gi_wp2;have al:Below W W (W.alloc (.cells #[.bool vr.bid,.int .i64 (vr.which:Int),.int .i64 (vr.step:Int)] 69)):=bal;have hgb:W.grownBy (W.alloc (.cells #[.bool vr.bid,.int .i64 (vr.which:Int),.int .i64 (vr.step:Int)] 69)) none:=⟨al.os,al.tape,al.output,al.size,fun k hk _=>al.block k hk⟩;exact hK _ _ ⟨al.size,fun k o _ hk _=>(al.block k (zAa hk)).trans hk⟩ (Carry.of_below al) (AsI.own (B:=w) (nlr _) _ _ _ _ hI hgb (fun r e=>by cases e)) ⟨W.heap.size,rfl,zAd _ _ rfl⟩
 case body=>
  rintro l pre x1 a' W _ _ ⟨v,z,hown,hn,hB,hcar⟩ ⟨q,rfl,g1⟩ hlt;have hvm:(vars h).getD x1.val vr0 ∈ vars h:=by rw [gdd,gge x1.isLt]; exact List.getElem_mem x1.isLt
  have HIn:=hdq (zYR hvm);have hok:=Hvo.out _ hvm;have HL1:Hid ((pre++[x1]).flatMap (fun i=>vrL ((vars h).getD i.val vr0))=pre.flatMap (fun i=>vrL ((vars h).getD i.val vr0))++vrL ((vars h).getD x1.val vr0)):=hdq (by rw [List.flatMap_append]; simp);have hpl:pre.length<=33:=by have:=Hvl.out; omega
  clear hvm;generalize (vars h).getD x1.val vr0=vr at *;have k0:W.cell? w=some (.slice uA un uc):=hcar.cell (p:=w) (by dsimp only; omega) HX0.out;have k1:W.cell? ⟨w+1,0,none⟩=some (.slice bA bn bc):=hcar.cell (p:=⟨w+1,0,none⟩) (by dsimp only; omega) HX1.out;have k3':W.cell? ⟨d+1,0,none⟩=some (.pointer (some d)):=hcar.cell (p:=⟨d+1,0,none⟩) (by dsimp only; omega) HX3.out;have k3l:d+1<W.heap.size:=zAb k3';have K3:=hdq k3';have k3:=k3';clear k3';have g0:W.cell? q=some (.bool vr.bid):=by simp [World.cell?,g1]
  have g2:W.cell? ⟨q,1,none⟩=some (.int .i64 (vr.which:Int)):=by simp [World.cell?,g1]
  have g3:W.cell? ⟨q,2,none⟩=some (.int .i64 (vr.step:Int)):=by simp [World.cell?,g1]
  have ql:=zAa g1;have HZ:=hdq z;have HOwn:=hdq hown;have HBw:=hdq hB;have HCar:=hdq hcar;have hWs:=hB.size;have hWd:d+5<=W.heap.size:=hn;have HUW:=hdq (UnitsAt.below' hB HU.out);have HBW:=hdq (BidsAt.below' hB HB.out);clear g1 z hown hB hcar hn;obtain ⟨iv0,hiv,hzv0,hzv1,hzv2⟩:=info_parts zYw;rcases HIn.out with ⟨i1,i2,i3,i4,i5⟩ | ⟨i1,i2,i3,i4,i5⟩
  ·have HI1:=hdq i1;have HSg:Hid (vr.sign=1):=hdq (by unfold Vr.sign; rw [i1]; rfl);obtain ⟨ad,e,st,q0,-,q2,-,-,-,-,-,-,qs⟩:=HUW.out.cell vr.which (by show vr.which<un; rw [<-HUn.out]; exact i2);obtain ⟨stA,stn,stc⟩:=st;dsimp only at e q2;subst e;have qle:stn<=stc:=qs.le;have qcap:stc<=9223372036854775807:=qs.cap;have hsn:vr.step<stn:=by rw [<-show (h.units.getD vr.which un0).steps.length=stn from qs.len]; exact i4
   obtain ⟨sa,e,s0,s1⟩:=qs.cell vr.step hsn;dsimp only at e;subst e;rw [<-i3] at q0;rw [show (h.units.getD vr.which un0).steps.getD vr.step ⟨0,0⟩=vr.s from i5.symm] at s0 s1;have hwn:(vr.which:Int)<(un:Int):=by have:=HUn.out; omega
   have hsni:(vr.step:Int)<(stn:Int):=(by omega);have tq:=zAb q0;have ts:=zAb s0;rw [i1] at g0;clear qs i1 i2 i3 i4 i5 HIn HUW HBW;gi_wp2;obtain ⟨W1,hW1⟩:∃ W1,W.alloc (.cells #[.bool false,.int .i64 (vr.which:Int),.int .i64 (vr.step:Int),.int .i64 0,.int .i64 0,.int .i64 0,.int .i64 1] 96)=W1:=⟨_,rfl⟩;rw [hW1];have al:Below W W W1:=by rw [<-hW1]; exact bal
   have hh:W1.heap[W.heap.size]?=some (.cells #[.bool false,.int .i64 (vr.which:Int),.int .i64 (vr.step:Int),.int .i64 0,.int .i64 0,.int .i64 0,.int .i64 1] 96 (0,0)):=by rw [<-hW1]; exact zAd _ _ rfl
   have hs1:W1.heap.size=W.heap.size+1:=by rw [<-hW1]; simp
   have hs1l:W.heap.size<W1.heap.size:=(by omega);have hs1e:W.heap.size<=W1.heap.size:=(by omega);have Hs1:=hdq hs1;clear hW1 hs1;replace k0:=cellB al k0;replace k1:=cellB al k1;replace k3:=cellB al k3;replace g2:=cellB al g2;replace g3:=cellB al g3;replace q0:=cellB al q0;replace q2:=cellB al q2;replace s0:=cellB al s0;replace s1:=cellB al s1;have f0:∀ o,W1.frozen? ⟨W.heap.size,o,none⟩=false:=(fun o=>by simp [World.frozen?,hh]);have e3:W1.cell? ⟨W.heap.size,3,none⟩=some (.int .i64 0):=(by simp [World.cell?,hh]);have e4:W1.cell? ⟨W.heap.size,4,none⟩=some (.int .i64 0):=(by simp [World.cell?,hh]);have e5:W1.cell? ⟨W.heap.size,5,none⟩=some (.int .i64 0):=(by simp [World.cell?,hh]);have e6:W1.cell? ⟨W.heap.size,6,none⟩=some (.int .i64 1):=(by simp [World.cell?,hh]);have nw:¬ w.heap.size=W.heap.size:=(by omega);have nw1:¬ w.heap.size+1=W.heap.size:=(by omega);have nq:¬ q=W.heap.size:=(by omega);have na:¬ (ad.add (vr.which*9)).block=W.heap.size:=(by omega);have ns:¬ (sa.add (vr.step*2)).block=W.heap.size:=(by omega);have ab:ad.block<W:=by rw [<-zAj ad (vr.which*9)]; exact tq
   have sb:sa.block<W:=by rw [<-zAj sa (vr.step*2)]; exact ts
   have na':¬ ad.block=W.heap.size:=by rw [<-zAj ad (vr.which*9)]; exact na
   have ns':¬ sa.block=W.heap.size:=by rw [<-zAj sa (vr.step*2)]; exact ns
   have la':ad.block<W1:=by rw [<-zAj ad (vr.which*9)]; omega
   have ls':sa.block<W1:=by rw [<-zAj sa (vr.step*2)]; omega
   have lw:w.heap.size<W1.heap.size:=(by omega);have lw1:w.heap.size+1<W1.heap.size:=(by omega);have lq:q<W1.heap.size:=(by omega);have la:(ad.add (vr.which*9)).block<W1:=(by omega);have ls:(sa.add (vr.step*2)).block<W1:=(by omega);refine zBi 1000 (fun _ w'=>Sees W [W.heap.size] W1 w') (by kernel_rfl) (by kernel_rfl) (by rintro ⟨_,_,h⟩; exact h) ?_;have hS0:Sees W [W.heap.size] W1 W1.drew:=Sees.st (by simp) hs1e;refine tx4 0 1 2 3 hS0 ?_;refine tx4 4 5 6 7 hS0 ?_;refine tx4 8 9 10 11 hS0 ?_;refine tx4 12 13 14 15 hS0 ?_;refine tx1 16 hS0 ?_;refine tk1 17 ?_;intro K hK;go_simp;have hS1:Sees W [W.heap.size] W1 (W1.setCell ⟨W.heap.size,3,none⟩ (.int .i64 vr.bus)).drew:=Sees.d1 hS0 (by simp);refine hK.out _ _ hS1 ?_;clear hK K;refine tx1 18 hS1 ?_;refine tk1 19 ?_;intro K hK;go_simp;have hS2:Sees W [W.heap.size] W1 (((W1.setCell ⟨W.heap.size,3,none⟩ (.int .i64 vr.bus)).setCell ⟨W.heap.size,4,none⟩ (.int .i64 vr.s.q)).setCell ⟨W.heap.size,5,none⟩ (.int .i64 vr.s.p)).drew:=Sees.d2 hS1 (by simp);refine hK.out _ _ hS2 ?_;clear hK K;refine zAf (by kernel_rfl) ?_ _;have hbm:Below W W (((W1.setCell ⟨W.heap.size,3,none⟩ (.int .i64 vr.bus)).setCell ⟨W.heap.size,4,none⟩ (.int .i64 vr.s.q)).setCell ⟨W.heap.size,5,none⟩ (.int .i64 vr.s.p)).drew:=al.trans hS2.kept.below
   have hv7:Box7 (((W1.setCell ⟨W.heap.size,3,none⟩ (.int .i64 vr.bus)).setCell ⟨W.heap.size,4,none⟩ (.int .i64 vr.s.q)).setCell ⟨W.heap.size,5,none⟩ (.int .i64 vr.s.p)).drew W (.bool vr.bid) (.int .i64 (vr.which:Int)) (.int .i64 (vr.step:Int)) (.int .i64 vr.bus) (.int .i64 vr.s.q) (.int .i64 vr.s.p) (.int .i64 vr.sign):=by
    rw [HI1.out,HSg.out];exact zYT hh
   have hsm:W.heap.size<((((W1.setCell ⟨W.heap.size,3,none⟩ (.int .i64 vr.bus)).setCell ⟨W.heap.size,4,none⟩ (.int .i64 vr.s.q)).setCell ⟨W.heap.size,5,none⟩ (.int .i64 vr.s.p)).drew).heap.size:=by have:=hS2.kept.size; simp [World.setCell] at this ⊢; omega
   have HBd:=hdq hbm;have HV7:=hdq hv7;clear hbm hv7 hS0 hS1 hS2 hh e3 e4 e5 e6 f0 al k0 k1 k3 g0 g2 g3 q0 q2 s0 s1 tq ts nw nw1 nq na ns na' ns' la la' ls ls' lw lw1 lq ab sb;generalize (((W1.setCell ⟨W.heap.size,3,none⟩ (.int .i64 vr.bus)).setCell ⟨W.heap.size,4,none⟩ (.int .i64 vr.s.q)).setCell ⟨W.heap.size,5,none⟩ (.int .i64 vr.s.p)).drew=Wm at *;have hB1:=HBd.out;have hown:=zAr HOwn.out fun j hj=>hB1.block j (by obtain ⟨_,cs,hh⟩:=zAc HOwn.out hj; exact zAa hh)
   have hz:=AsmB.lt HZ.out;have z1:AsmB Wm d v:=(hB1.block _ hz).trans HZ.out;have hW9:=hB1.size;have dl:d<Wm.heap.size:=(by omega);have k3:Wm.cell? ⟨d+1,0,none⟩=some (.pointer (some d)):=(hB1.cell (p:=⟨d+1,0,none⟩) k3l).trans K3.out;have c2:=z1.cell;obtain ⟨e0,e1,e2,e3,e4,e5,e6,-⟩:=HV7.out;have hdr0:Sees 0 [] Wm Wm.drew:=Sees.st (by simp) (nzl _);have k3d:Wm.drew.cell? ⟨d+1,0,none⟩=some (.pointer (some d)):=k3;gi_wp2;refine zBi 7 (fun f w'=>(f=false->Sees 0 [] Wm w')/\w'.cell? ⟨d+1,0,none⟩=some (.pointer (some d))) (by kernel_rfl) (by kernel_rfl) (by rintro ⟨_,_,h⟩; exact h) ?_;refine tkE 0 (.pointer (some d)) (fun w' hSw=>?_) (⟨fun _=>hdr0,k3d⟩) ?_
   ·(obtain ⟨_,-,hSw⟩:=hSw; go_simp; try with_reducible rfl)
   simp only [zz];refine tkE 1 (.pointer (some d)) (fun w' hSw=>?_) (⟨fun _=>hdr0,k3d⟩) ?_
   ·(obtain ⟨_,-,hSw⟩:=hSw; go_simp; try with_reducible rfl)
   simp only [zz];refine tx1 2 (⟨fun _=>hdr0,k3d⟩) ?_;refine tx1 3 (⟨fun _=>hdr0,k3d⟩) ?_;refine tkW 4 (v) (fun w' hSw=>?_) (⟨fun _=>hdr0,k3d⟩) ?_
   ·(replace hSw:=hSw.1 rfl; go_simp; try with_reducible rfl)
   simp only [zz];refine tkV 5 6 (vrVal vr) (fun w' hSw=>?_) (⟨fun _=>hdr0,k3d⟩) ?_
   ·(replace hSw:=hSw.1 rfl; go_simp; try with_reducible rfl)
   simp only [zz];refine tk1 6 ?_;intro K hK;go_simp
   have hk6:(Wm.alloc (.cells #[.bool vr.bid,.int .i64 (vr.which:Int),.int .i64 (vr.step:Int),.int .i64 vr.bus,.int .i64 vr.s.q,.int .i64 vr.s.p,.int .i64 vr.sign] 96)).drew.cell? ⟨d+1,0,none⟩=some (.pointer (some d)):=by
    rw [<-k3]; exact cob (Below.heap_alloc _ _ _ (zAb k3))
   have hS6:Sees 0 [] Wm (Wm.alloc (.cells #[.bool vr.bid,.int .i64 (vr.which:Int),.int .i64 (vr.step:Int),.int .i64 vr.bus,.int .i64 vr.s.q,.int .i64 vr.s.p,.int .i64 vr.sign] 96)).drew:=hdr0.kept.undrew.sees.al.dr;refine hK.out _ _ ⟨fun _=>hS6,hk6⟩ ?_;clear hK K;have hownd:(Wm.alloc (.cells #[.bool vr.bid,.int .i64 (vr.which:Int),.int .i64 (vr.step:Int),.int .i64 vr.bus,.int .i64 vr.s.q,.int .i64 vr.s.p,.int .i64 vr.sign] 96)).drew.ownsRow (d+5) 96 7 v pre.length (pre.flatMap fun i=>vrL ((vars h).getD i.val vr0)):=hown.alloc _;refine tk1 7 ?_;intro K hK;refine zAq _ _ 100 rfl (d+5) 96 iv0 (.agg #[.bool false,.int .i64 0,.int .i64 0,.int .i64 0,.int .i64 0,.int .i64 0,.int .i64 0]) 7 56 Tryz.underlying100 hiv hzv0 hzv1 hzv2 rfl (by decide) v pre.length (pre.flatMap fun i=>vrL ((vars h).getD i.val vr0)) rfl hownd ⟨Wm,0,none⟩ 1 1 (vrL vr) rfl rfl (zVg Wm vr) (by intro u hu; simp [vrL] at hu; rcases hu with rfl | rfl | rfl | rfl | rfl | rfl | rfl <;> rfl) (by simp [maxLen]; omega) (by omega) (by simp; omega) ?_;intro v' W5 hown5 hg5 hnil5 hat5;have hg5':(Wm.alloc (.cells #[.bool vr.bid,.int .i64 (vr.which:Int),.int .i64 (vr.step:Int),.int .i64 vr.bus,.int .i64 vr.s.q,.int .i64 vr.s.p,.int .i64 vr.sign] 96)).grownBy W5 v.ownBlock:=⟨hg5.os,hg5.tape,hg5.output,hg5.size,hg5.block⟩;obtain ⟨p1,p2,p3,p4,p5,p6⟩:=zWT z1 hown (by omega) (by omega) hown5 hg5';have d0:=p1.cell;have d1:=p1.frozen
   have d6:W5.cell? ⟨d+1,0,none⟩=some (.pointer (some d)):=by
    have:=cob (a:=⟨d+1,0,none⟩) (p5 (d+1) (by omega) (by omega));rw [<-k3,<-this];exact (cob (bhs _ _ _ _ (by dsimp only; omega))).symm
   obtain ⟨g5,c5,rfl⟩:=ownsRow_succ hown5;simp only [Act.put,zz];refine hK.out _ _ ⟨fun h=>absurd h (by decide),d6⟩ ?_;clear hK K;have Hfin:=hdq (And.intro p2 (And.intro p3 (And.intro p4 (And.intro p5 p6))));clear hown hownd hown5 hg5 hg5' hat5 hnil5 hdr0 hS6 p1 p2 p3 p4 p5 p6 z1 hk6;refine tx1 8 (⟨fun h=>absurd h (by decide),d6⟩) ?_;refine tx1 9 (⟨fun h=>absurd h (by decide),d6⟩) ?_;refine tk1 10 ?_;intro K hK;go_simp;refine hK.out _ _ ⟨fun h=>absurd h (by decide),by rw [<-d6]; exact cob (bhs _ _ _ _ (by dsimp only; omega))⟩ ?_;clear hK K d0 d1 d6;refine zAf (by kernel_rfl) ?_ _;gi_wp2;obtain ⟨s1,s2,s3,s4,s5⟩:=Hfin.out;refine ⟨⟨nlt hB1.size s3.size,fun k o _ hk ho=>(s3.from 0).same k o (nzl _) ((hB1.block k (zAa hk)).trans hk) ho⟩,(Carry.of_below hB1).trans ⟨s3.size,fun b cs t f hx hb=>(s4 b hx.1 hx.2).trans hb⟩,_,s1,?_,nlt hWd (nlt hB1.size s3.size),HBw.out.trans ((hB1.mono HBw.out.size).trans (s5 w (by omega))),HCar.out.trans ((Carry.of_below hB1).trans ⟨s3.size,fun b cs t f hx hb=>(s4 b hx.1 hx.2).trans hb⟩)⟩;rw [List.length_append,HL1.out];exact s2
  ·have HI1:=hdq i1;have HSg:Hid (vr.sign=-1):=hdq (by unfold Vr.sign; rw [i1]; rfl);obtain ⟨ad,e,st,q0,q2,qs⟩:=HBW.out.cell vr.which (by show vr.which<bn; rw [<-HBn.out]; exact i2);obtain ⟨stA,stn,stc⟩:=st;dsimp only at e q2;subst e;have qle:stn<=stc:=qs.le;have qcap:stc<=9223372036854775807:=qs.cap;have hsn:vr.step<stn:=by rw [<-show (h.bids.getD vr.which ⟨0,[]⟩).steps.length=stn from qs.len]; exact i4
   obtain ⟨sa,e,s0,s1⟩:=qs.cell vr.step hsn;dsimp only at e;subst e;rw [<-i3] at q0;rw [show (h.bids.getD vr.which ⟨0,[]⟩).steps.getD vr.step ⟨0,0⟩=vr.s from i5.symm] at s0 s1;have hwn:(vr.which:Int)<(bn:Int):=by have:=HBn.out; omega
   have hsni:(vr.step:Int)<(stn:Int):=(by omega);have tq:=zAb q0;have ts:=zAb s0;rw [i1] at g0;clear qs i1 i2 i3 i4 i5 HIn HUW HBW;gi_wp2;obtain ⟨W1,hW1⟩:∃ W1,W.alloc (.cells #[.bool true,.int .i64 (vr.which:Int),.int .i64 (vr.step:Int),.int .i64 0,.int .i64 0,.int .i64 0,.int .i64 1] 96)=W1:=⟨_,rfl⟩;rw [hW1];have al:Below W W W1:=by rw [<-hW1]; exact bal
   have hh:W1.heap[W.heap.size]?=some (.cells #[.bool true,.int .i64 (vr.which:Int),.int .i64 (vr.step:Int),.int .i64 0,.int .i64 0,.int .i64 0,.int .i64 1] 96 (0,0)):=by rw [<-hW1]; exact zAd _ _ rfl
   have hs1:W1.heap.size=W.heap.size+1:=by rw [<-hW1]; simp
   have hs1l:W.heap.size<W1.heap.size:=(by omega);have hs1e:W.heap.size<=W1.heap.size:=(by omega);have Hs1:=hdq hs1;clear hW1 hs1;replace k0:=cellB al k0;replace k1:=cellB al k1;replace k3:=cellB al k3;replace g2:=cellB al g2;replace g3:=cellB al g3;replace q0:=cellB al q0;replace q2:=cellB al q2;replace s0:=cellB al s0;replace s1:=cellB al s1;have f0:∀ o,W1.frozen? ⟨W.heap.size,o,none⟩=false:=(fun o=>by simp [World.frozen?,hh]);have e3:W1.cell? ⟨W.heap.size,3,none⟩=some (.int .i64 0):=(by simp [World.cell?,hh]);have e4:W1.cell? ⟨W.heap.size,4,none⟩=some (.int .i64 0):=(by simp [World.cell?,hh]);have e5:W1.cell? ⟨W.heap.size,5,none⟩=some (.int .i64 0):=(by simp [World.cell?,hh]);have e6:W1.cell? ⟨W.heap.size,6,none⟩=some (.int .i64 1):=(by simp [World.cell?,hh]);have nw:¬ w.heap.size=W.heap.size:=(by omega);have nw1:¬ w.heap.size+1=W.heap.size:=(by omega);have nq:¬ q=W.heap.size:=(by omega);have na:¬ (ad.add (vr.which*2)).block=W.heap.size:=(by omega);have ns:¬ (sa.add (vr.step*2)).block=W.heap.size:=(by omega);have ab:ad.block<W:=by rw [<-zAj ad (vr.which*2)]; exact tq
   have sb:sa.block<W:=by rw [<-zAj sa (vr.step*2)]; exact ts
   have na':¬ ad.block=W.heap.size:=by rw [<-zAj ad (vr.which*2)]; exact na
   have ns':¬ sa.block=W.heap.size:=by rw [<-zAj sa (vr.step*2)]; exact ns
   have la':ad.block<W1:=by rw [<-zAj ad (vr.which*2)]; omega
   have ls':sa.block<W1:=by rw [<-zAj sa (vr.step*2)]; omega
   have lw:w.heap.size<W1.heap.size:=(by omega);have lw1:w.heap.size+1<W1.heap.size:=(by omega);have lq:q<W1.heap.size:=(by omega);have la:(ad.add (vr.which*2)).block<W1:=(by omega);have ls:(sa.add (vr.step*2)).block<W1:=(by omega);refine zBi 1000 (fun _ w'=>Sees W [W.heap.size] W1 w') (by kernel_rfl) (by kernel_rfl) (by rintro ⟨_,_,h⟩; exact h) ?_;have hS0:Sees W [W.heap.size] W1 W1.drew:=Sees.st (by simp) hs1e;refine tx4 0 1 2 3 hS0 ?_;refine tx4 4 5 6 7 hS0 ?_;refine tx4 8 9 10 11 hS0 ?_;refine tx4 12 13 14 15 hS0 ?_;refine tx1 16 hS0 ?_;refine tk1 17 ?_;intro K hK;go_simp;have hS1:Sees W [W.heap.size] W1 (W1.setCell ⟨W.heap.size,3,none⟩ (.int .i64 vr.bus)).drew:=Sees.d1 hS0 (by simp);refine hK.out _ _ hS1 ?_;clear hK K;refine tx1 18 hS1 ?_;refine tk1 19 ?_;intro K hK;go_simp;have hS2:Sees W [W.heap.size] W1 (((W1.setCell ⟨W.heap.size,3,none⟩ (.int .i64 vr.bus)).setCell ⟨W.heap.size,4,none⟩ (.int .i64 vr.s.q)).setCell ⟨W.heap.size,5,none⟩ (.int .i64 vr.s.p)).drew:=Sees.d2 hS1 (by simp);refine hK.out _ _ hS2 ?_;clear hK K;refine tx1 20 hS2 ?_;refine tk1 21 ?_;intro K hK;go_simp;have hS3:Sees W [W.heap.size] W1 ((((W1.setCell ⟨W.heap.size,3,none⟩ (.int .i64 vr.bus)).setCell ⟨W.heap.size,4,none⟩ (.int .i64 vr.s.q)).setCell ⟨W.heap.size,5,none⟩ (.int .i64 vr.s.p)).setCell ⟨W.heap.size,6,none⟩ (.int .i64 (-1))).drew:=Sees.d1 hS2 (by simp);refine hK.out _ _ hS3 ?_;clear hK K;refine zAf (by kernel_rfl) ?_ _;have hbm:Below W W ((((W1.setCell ⟨W.heap.size,3,none⟩ (.int .i64 vr.bus)).setCell ⟨W.heap.size,4,none⟩ (.int .i64 vr.s.q)).setCell ⟨W.heap.size,5,none⟩ (.int .i64 vr.s.p)).setCell ⟨W.heap.size,6,none⟩ (.int .i64 (-1))).drew:=al.trans hS3.kept.below
   have hv7:Box7 ((((W1.setCell ⟨W.heap.size,3,none⟩ (.int .i64 vr.bus)).setCell ⟨W.heap.size,4,none⟩ (.int .i64 vr.s.q)).setCell ⟨W.heap.size,5,none⟩ (.int .i64 vr.s.p)).setCell ⟨W.heap.size,6,none⟩ (.int .i64 (-1))).drew W (.bool vr.bid) (.int .i64 (vr.which:Int)) (.int .i64 (vr.step:Int)) (.int .i64 vr.bus) (.int .i64 vr.s.q) (.int .i64 vr.s.p) (.int .i64 vr.sign):=by
    rw [HI1.out,HSg.out];exact zYS hh
   have hsm:W.heap.size<(((((W1.setCell ⟨W.heap.size,3,none⟩ (.int .i64 vr.bus)).setCell ⟨W.heap.size,4,none⟩ (.int .i64 vr.s.q)).setCell ⟨W.heap.size,5,none⟩ (.int .i64 vr.s.p)).setCell ⟨W.heap.size,6,none⟩ (.int .i64 (-1))).drew).heap.size:=by have:=hS3.kept.size; simp [World.setCell] at this ⊢; omega
   have HBd:=hdq hbm;have HV7:=hdq hv7;clear hbm hv7 hS0 hS1 hS2 hS3 hh e3 e4 e5 e6 f0 al k0 k1 k3 g0 g2 g3 q0 q2 s0 s1 tq ts nw nw1 nq na ns na' ns' la la' ls ls' lw lw1 lq ab sb;generalize ((((W1.setCell ⟨W.heap.size,3,none⟩ (.int .i64 vr.bus)).setCell ⟨W.heap.size,4,none⟩ (.int .i64 vr.s.q)).setCell ⟨W.heap.size,5,none⟩ (.int .i64 vr.s.p)).setCell ⟨W.heap.size,6,none⟩ (.int .i64 (-1))).drew=Wm at *;have hB1:=HBd.out;have hown:=zAr HOwn.out fun j hj=>hB1.block j (by obtain ⟨_,cs,hh⟩:=zAc HOwn.out hj; exact zAa hh)
   have hz:=AsmB.lt HZ.out;have z1:AsmB Wm d v:=(hB1.block _ hz).trans HZ.out;have hW9:=hB1.size;have dl:d<Wm.heap.size:=(by omega);have k3:Wm.cell? ⟨d+1,0,none⟩=some (.pointer (some d)):=(hB1.cell (p:=⟨d+1,0,none⟩) k3l).trans K3.out;have c2:=z1.cell;obtain ⟨e0,e1,e2,e3,e4,e5,e6,-⟩:=HV7.out;have hdr0:Sees 0 [] Wm Wm.drew:=Sees.st (by simp) (nzl _);have k3d:Wm.drew.cell? ⟨d+1,0,none⟩=some (.pointer (some d)):=k3;gi_wp2;refine zBi 7 (fun f w'=>(f=false->Sees 0 [] Wm w')/\w'.cell? ⟨d+1,0,none⟩=some (.pointer (some d))) (by kernel_rfl) (by kernel_rfl) (by rintro ⟨_,_,h⟩; exact h) ?_;refine tkE 0 (.pointer (some d)) (fun w' hSw=>?_) (⟨fun _=>hdr0,k3d⟩) ?_
   ·(obtain ⟨_,-,hSw⟩:=hSw; go_simp; try with_reducible rfl)
   simp only [zz];refine tkE 1 (.pointer (some d)) (fun w' hSw=>?_) (⟨fun _=>hdr0,k3d⟩) ?_
   ·(obtain ⟨_,-,hSw⟩:=hSw; go_simp; try with_reducible rfl)
   simp only [zz];refine tx1 2 (⟨fun _=>hdr0,k3d⟩) ?_;refine tx1 3 (⟨fun _=>hdr0,k3d⟩) ?_;refine tkW 4 (v) (fun w' hSw=>?_) (⟨fun _=>hdr0,k3d⟩) ?_
   ·(replace hSw:=hSw.1 rfl; go_simp; try with_reducible rfl)
   simp only [zz];refine tkV 5 6 (vrVal vr) (fun w' hSw=>?_) (⟨fun _=>hdr0,k3d⟩) ?_
   ·(replace hSw:=hSw.1 rfl; go_simp; try with_reducible rfl)
   simp only [zz];refine tk1 6 ?_;intro K hK;go_simp
   have hk6:(Wm.alloc (.cells #[.bool vr.bid,.int .i64 (vr.which:Int),.int .i64 (vr.step:Int),.int .i64 vr.bus,.int .i64 vr.s.q,.int .i64 vr.s.p,.int .i64 vr.sign] 96)).drew.cell? ⟨d+1,0,none⟩=some (.pointer (some d)):=by
    rw [<-k3]; exact cob (Below.heap_alloc _ _ _ (zAb k3))
   have hS6:Sees 0 [] Wm (Wm.alloc (.cells #[.bool vr.bid,.int .i64 (vr.which:Int),.int .i64 (vr.step:Int),.int .i64 vr.bus,.int .i64 vr.s.q,.int .i64 vr.s.p,.int .i64 vr.sign] 96)).drew:=hdr0.kept.undrew.sees.al.dr;refine hK.out _ _ ⟨fun _=>hS6,hk6⟩ ?_;clear hK K;have hownd:(Wm.alloc (.cells #[.bool vr.bid,.int .i64 (vr.which:Int),.int .i64 (vr.step:Int),.int .i64 vr.bus,.int .i64 vr.s.q,.int .i64 vr.s.p,.int .i64 vr.sign] 96)).drew.ownsRow (d+5) 96 7 v pre.length (pre.flatMap fun i=>vrL ((vars h).getD i.val vr0)):=hown.alloc _;refine tk1 7 ?_;intro K hK;refine zAq _ _ 100 rfl (d+5) 96 iv0 (.agg #[.bool false,.int .i64 0,.int .i64 0,.int .i64 0,.int .i64 0,.int .i64 0,.int .i64 0]) 7 56 Tryz.underlying100 hiv hzv0 hzv1 hzv2 rfl (by decide) v pre.length (pre.flatMap fun i=>vrL ((vars h).getD i.val vr0)) rfl hownd ⟨Wm,0,none⟩ 1 1 (vrL vr) rfl rfl (zVg Wm vr) (by intro u hu; simp [vrL] at hu; rcases hu with rfl | rfl | rfl | rfl | rfl | rfl | rfl <;> rfl) (by simp [maxLen]; omega) (by omega) (by simp; omega) ?_;intro v' W5 hown5 hg5 hnil5 hat5;have hg5':(Wm.alloc (.cells #[.bool vr.bid,.int .i64 (vr.which:Int),.int .i64 (vr.step:Int),.int .i64 vr.bus,.int .i64 vr.s.q,.int .i64 vr.s.p,.int .i64 vr.sign] 96)).grownBy W5 v.ownBlock:=⟨hg5.os,hg5.tape,hg5.output,hg5.size,hg5.block⟩;obtain ⟨p1,p2,p3,p4,p5,p6⟩:=zWT z1 hown (by omega) (by omega) hown5 hg5';have d0:=p1.cell;have d1:=p1.frozen
   have d6:W5.cell? ⟨d+1,0,none⟩=some (.pointer (some d)):=by
    have:=cob (a:=⟨d+1,0,none⟩) (p5 (d+1) (by omega) (by omega));rw [<-k3,<-this];exact (cob (bhs _ _ _ _ (by dsimp only; omega))).symm
   obtain ⟨g5,c5,rfl⟩:=ownsRow_succ hown5;simp only [Act.put,zz];refine hK.out _ _ ⟨fun h=>absurd h (by decide),d6⟩ ?_;clear hK K;have Hfin:=hdq (And.intro p2 (And.intro p3 (And.intro p4 (And.intro p5 p6))));clear hown hownd hown5 hg5 hg5' hat5 hnil5 hdr0 hS6 p1 p2 p3 p4 p5 p6 z1 hk6;refine tx1 8 (⟨fun h=>absurd h (by decide),d6⟩) ?_;refine tx1 9 (⟨fun h=>absurd h (by decide),d6⟩) ?_;refine tk1 10 ?_;intro K hK;go_simp;refine hK.out _ _ ⟨fun h=>absurd h (by decide),by rw [<-d6]; exact cob (bhs _ _ _ _ (by dsimp only; omega))⟩ ?_;clear hK K d0 d1 d6;refine zAf (by kernel_rfl) ?_ _;gi_wp2;obtain ⟨s1,s2,s3,s4,s5⟩:=Hfin.out;refine ⟨⟨nlt hB1.size s3.size,fun k o _ hk ho=>(s3.from 0).same k o (nzl _) ((hB1.block k (zAa hk)).trans hk) ho⟩,(Carry.of_below hB1).trans ⟨s3.size,fun b cs t f hx hb=>(s4 b hx.1 hx.2).trans hb⟩,_,s1,?_,nlt hWd (nlt hB1.size s3.size),HBw.out.trans ((hB1.mono HBw.out.size).trans (s5 w (by omega))),HCar.out.trans ((Carry.of_below hB1).trans ⟨s3.size,fun b cs t f hx hb=>(s4 b hx.1 hx.2).trans hb⟩)⟩;rw [List.length_append,HL1.out];exact s2
 case done=>
  rintro Dd ys W hDd he ⟨v,z,hown,hn,hB,hcar⟩ hK0;obtain ⟨⟨tA,tn,tc⟩,rfl,hva⟩:=zYo hown he;have k3:W.cell? ⟨d+1,0,none⟩=some (.pointer (some d)):=hcar.cell (p:=⟨d+1,0,none⟩) (by dsimp only; omega) HX3.out;have HZ:=hdq z;have HVa:=hdq hva;have HBw:=hdq hB;have htn:tn=(vars h).length:=hva.len.symm;have hvl:=Hvl.out;have tle:tn<=tc:=hva.le;have tcap:tc<=9223372036854775807:=hva.cap;have c0:=z.cell;dsimp only [SV.val] at c0;have f0:=z.frozen;have dl:=z.lt;have k3l:d+1<W.heap.size:=by omega
  have HTn:=hdq htn;have c1:W.cell? ⟨d,1,none⟩=some (.int .i64 0):=by simp [World.cell?,show W.heap[d]?=_ from z]
  have hDl:d+5<=Dd:=by rw [<-Hs.out]; exact hDd
  clear hcar z hva hB hown x4 x5 x6 z2 HX0 HX1 HX3 htn;gi_wp2;refine zCW 1000 (fun _ w'=>w'.cell? ⟨d+1,0,none⟩=some (.pointer (some d))/\w'.cell? d=some (.slice tA tn tc)) (by kernel_rfl) ?_;have hS:W.drew.cell? ⟨d+1,0,none⟩=some (.pointer (some d))/\W.drew.cell? d=some (.slice tA tn tc):=⟨k3,c0⟩;refine tkE 0 (.pointer (some d)) (fun w' hSw=>?_) (hS) ?_
  ·(obtain ⟨_,hSw,-⟩:=hSw; go_simp; try with_reducible rfl)
  simp only [zz];refine tkE 1 (.pointer (some d)) (fun w' hSw=>?_) (hS) ?_
  ·(obtain ⟨_,hSw,-⟩:=hSw; go_simp; try with_reducible rfl)
  simp only [zz];refine tx1 2 hS ?_;refine tx1 3 hS ?_;refine tkE 4 (.slice tA tn tc) (fun w' hSw=>?_) (hS) ?_
  ·(obtain ⟨_,-,hSw⟩:=hSw; go_simp; try with_reducible rfl)
  simp only [zz];refine tx4 5 6 7 8 hS ?_;refine tk1 9 ?_;intro K hK;go_simp;refine hK.out _ _ ⟨by go_simp,by go_simp⟩ ?_;clear hK K;refine zAf (by kernel_rfl) (NoPanic.normal ?_) _
  have hW2:(W.setCell ⟨d,1,none⟩ (.int .i64 (tn:Int))).heap[d]?=some (.cells #[.slice tA tn tc,.int .i64 (tn:Int),.slice none 0 0,.slice none 0 0,.slice none 0 0] 102 (0,0)):=by
   rw [zAe _ HZ.out]; simp [SV.val]
  have hv2:VarsAt (W.setCell ⟨d,1,none⟩ (.int .i64 (tn:Int))).drew (fun b=>d+5<=b) ⟨tA,tn,tc⟩ (vars h):=VarsAt.keep HVa.out fun p hp _=>cob (bhs _ _ _ _ (by show p.block ≠ d; omega))
  have hk2:(W.setCell ⟨d,1,none⟩ (.int .i64 (tn:Int))).drew.heap[Dd]?=_:=(bhs _ _ _ _ (by show Dd ≠ d; omega)).trans hK0;have hb2:Below w w (W.setCell ⟨d,1,none⟩ (.int .i64 (tn:Int))).drew:=(HBw.out.setCell (p:=⟨d,1,none⟩) (by show w.heap.size<=d; omega) _).drew;have hk3:(W.setCell ⟨d,1,none⟩ (.int .i64 (tn:Int))).drew.cell? ⟨d+1,0,none⟩=some (.pointer (some d)):=by go_simp
  have hs2:d+5<=(W.setCell ⟨d,1,none⟩ (.int .i64 (tn:Int))).drew.heap.size:=by simp [World.setCell]; omega
  have H2:=hdq hW2;have HV2:=hdq hv2;have HK2:=hdq hk2;have HB2:=hdq hb2;have K2:=hdq hk3;have HS2:=hdq hs2;have H2':Hid ((W.setCell ⟨d,1,none⟩ (.int .i64 (tn:Int))).drew.heap[d]?=some (.cells #[.slice tA tn tc,.int .i64 (tn:Int),.slice none 0 0,.slice none 0 0,.slice none 0 0] 102 (0,0))):=H2;clear hW2 hv2 hk2 hb2 hk3 hs2 H2 k3 c0 c1 f0 dl k3l hK0 HZ HVa HBw hS hn;generalize (W.setCell ⟨d,1,none⟩ (.int .i64 (tn:Int))).drew=W2 at *;clear W;gi_wp2;have k3:=K2.out;have c0:W2.cell? d=some (.slice tA tn tc):=by simp [World.cell?,H2'.out]
  have k3d:W2.drew.cell? ⟨d+1,0,none⟩=some (.pointer (some d)):=k3;have hdr:Below W2 W2 W2.drew:=(brf _ _).drew;refine zCW 1000 (fun _ w'=>w'.cell? ⟨d+1,0,none⟩=some (.pointer (some d))) (by kernel_rfl) ?_;refine tkE 0 (.pointer (some d)) (fun w' hSw=>?_) (k3d) ?_
  ·(obtain ⟨_,hSw⟩:=hSw; go_simp; try with_reducible rfl)
  simp only [zz];refine tkE 1 (.pointer (some d)) (fun w' hSw=>?_) (k3d) ?_
  ·(obtain ⟨_,hSw⟩:=hSw; go_simp; try with_reducible rfl)
  simp only [zz];refine tk1 2 ?_;intro K hK;go_simp
  refine (row_calls (fn:=94) (caps:=#[]) (s:=⟨tA,tn,tc⟩) (vs:=vars h) (g:=fun k=>((-((vars h).getD k vr0).sign*((vars h).getD k vr0).s.p:Int):Rat)) (show W2.drew.cell? d=some (.slice tA tn tc) from c0) (VarsAt.below HV2.out hdr) (by show tn<=1000; rw [HTn.out]; omega) (fun _ _=>rfl) (fun W' k hb hk=>by
   have hk':k<(vars h).length:=by rw [<-HTn.out]; exact hk
   have ho:=Hvo.out ((vars h).getD k vr0) (by rw [gdd,gge hk']; exact List.getElem_mem hk');rw [arr0];exact zW6 ho.2.2.2.2.1 ho.2.2.2.2.2)).mono ?_
  rintro e w3 ⟨⟨rb,rfl,hrb,hv⟩,h3⟩
  have hr:(List.range tn).map (fun k=>((-((vars h).getD k vr0).sign*((vars h).getD k vr0).s.p:Int):Rat))=obj (vars h):=by
   rw [HTn.out]; exact zUQ (vars h) fun v=>((-v.sign*v.s.p:Int):Rat)
  rw [hr] at hv;have h3':Below W2 W2 w3:=hdr.trans h3;have d3:w3.cell? ⟨d+1,0,none⟩=some (.pointer (some d)):=cellB h3' k3;refine hK.out _ _ d3 ?_;clear hK K hr;refine tk1 3 ?_;intro K hK;go_simp;have hs3:=h3'.size;have hs2:=HS2.out
  have d4:(w3.alloc (.cells #[.slice (some rb) tn tn] 34)).drew.cell? ⟨d+1,0,none⟩=some (.pointer (some d)):=by
   rw [<-d3]; exact cob (Below.heap_alloc _ _ _ (zAb d3))
  refine hK.out _ _ d4 ?_;clear hK K;refine tx1 4 d4 ?_;refine tx1 5 d4 ?_;refine tx1 6 d4 ?_;have e2:(w3.alloc (.cells #[.slice (some rb) tn tn] 34)).heap[d]?=some (.cells #[.slice tA tn tc,.int .i64 (tn:Int),.slice none 0 0,.slice none 0 0,.slice none 0 0] 102 (0,0)):=(Below.heap_alloc _ _ _ (by omega)).trans ((h3'.block d (by omega)).trans H2'.out);have e5:(w3.alloc (.cells #[.slice (some rb) tn tn] 34)).cell? ⟨d,2,none⟩=some (.slice none 0 0):=by simp only [World.cell?,e2]; rfl
  have e6:∀ o,(w3.alloc (.cells #[.slice (some rb) tn tn] 34)).frozen? ⟨d,o,none⟩=false:=fun o=>by simp only [World.frozen?,e2]; rfl
  have a4:Below W2 W2 (w3.alloc (.cells #[.slice (some rb) tn tn] 34)):=h3'.alloc hs3 _;have hr4:(w3.alloc (.cells #[.slice (some rb) tn tn] 34)).cell? w3=some (.slice (some rb) tn tn):=by go_simp
  have hv4:VecCan (w3.alloc (.cells #[.slice (some rb) tn tn] 34)) (New W2) (New W2) ⟨some ⟨rb,0,none⟩,tn,tn⟩ (obj (vars h)):=hv.belowC (bal);have hsz4:w3.heap.size<(w3.alloc (.cells #[.slice (some rb) tn tn] 34)).heap.size:=by simp
  obtain ⟨o3,ho3⟩:∃ o3,o3=w3.heap.size:=⟨_,rfl⟩;rw [<-ho3] at hr4 hsz4 ⊢;have hol:W2.heap.size<=o3:=by omega
  clear ho3 d3 hv h3 h3' hs3;generalize w3.alloc (.cells #[.slice (some rb) tn tn] 34)=W4 at *;clear w3;refine tk1 7 ?_;intro K hK;go_simp;refine hK.out _ _ (by rw [<-d4]; exact cob (bhs _ _ _ _ (by dsimp only; omega))) ?_;clear hK K;refine zAf (by kernel_rfl) (NoPanic.normal ?_) _;have hf:∀ b,b ≠ d->(W4.setCell ⟨d,2,none⟩ (.slice (some o3) 1 1)).heap[b]?=W4.heap[b]?:=fun b hb=>bhs _ _ _ _ hb
  have hE5:(W4.setCell ⟨d,2,none⟩ (.slice (some o3) 1 1)).heap[d]?=some (.cells #[.slice tA tn tc,.int .i64 (tn:Int),.slice (some o3) 1 1,.slice none 0 0,.slice none 0 0] 102 (0,0)):=by
   show (W4.setCell ⟨d,2,none⟩ (.slice (some o3) 1 1)).heap[d]?=_;rw [zAe _ e2]; simp
  have hV5:VarsAt (W4.setCell ⟨d,2,none⟩ (.slice (some o3) 1 1)) (fun b=>d+5<=b) ⟨tA,tn,tc⟩ (vars h):=VarsAt.keep (VarsAt.below HV2.out a4) fun p hp _=>cob (hf _ (by have:d+5<=p.block:=hp; omega))
  have hO5:MatCan (W4.setCell ⟨d,2,none⟩ (.slice (some o3) 1 1)) (New W2) (New W2) ⟨some ⟨o3,0,none⟩,1,1⟩ [obj (vars h)]:=⟨rfl,nlr _,by show 1<=_; decide,fun i hi=>by
   obtain rfl:i=0:=by have:i<1:=hi; omega
   refine ⟨_,⟨some ⟨rb,0,none⟩,tn,tn⟩,rfl,hol,(cob (a:=o3) (hf o3 (by omega))).trans hr4,?_⟩;have hne:∀ p:Addr,New W2 p.block->p.block<W4->(W4.setCell ⟨d,2,none⟩ (.slice (some o3) 1 1)).cell? p=W4.cell? p:=(fun p hp _=>cob (hf _ (by simp only [New] at hp; omega)));exact hv4.keep hne fun v q hq=>hq.keep hne⟩
  have hB5:Below w w (W4.setCell ⟨d,2,none⟩ (.slice (some o3) 1 1)):=((HB2.out.trans (a4.mono HB2.out.size)).setCell (p:=⟨d,2,none⟩) (by show w.heap.size<=d; omega) _);have hK5:(W4.setCell ⟨d,2,none⟩ (.slice (some o3) 1 1)).heap[Dd]?=some (.deferred (some [])):=(hf _ (by omega)).trans ((a4.block _ (zAa HK2.out)).trans HK2.out);have hk5:(W4.setCell ⟨d,2,none⟩ (.slice (some o3) 1 1)).cell? ⟨d+1,0,none⟩=some (.pointer (some d)):=(cob (a:=⟨d+1,0,none⟩) (hf (d+1) (by omega))).trans d4;have hs5:d+5<=(W4.setCell ⟨d,2,none⟩ (.slice (some o3) 1 1)).heap.size:=by have:=a4.size; show _<=(W4.setCell _ _).heap.size; simp [World.setCell]; omega
  have HE5:=hdq hE5;have HV5:=hdq hV5;have HO5:=hdq hO5;have HB5:=hdq hB5;have HK5:=hdq hK5;have HS5:=hdq hs5;clear hE5 hV5 hO5 hB5 hs5 hf e2 e5 e6 a4 hr4 hv4 hsz4 d4;generalize (W4.setCell ⟨d,2,none⟩ (.slice (some o3) 1 1))=W5 at *;clear W4;gi_wp2;refine ⟨by simp,.inl ⟨_,_,rfl,run_takeDeferred HK5.out,?_⟩⟩;have hcr:Carry (fun _=>True) W5 (W5.putObj Dd (.deferred none)):=Carry.grown (grownBy_putObj' W5 Dd (.deferred none)) (fun r e=>by cases e; exact ⟨_,HK5.out,rfl⟩)
  have hpk:∀ p:Addr,p.block<W5->(W5.putObj Dd (.deferred none)).cell? p=W5.cell? p:=fun p hl=>by
   by_cases e:p.block=Dd
   ·have hk:=HK5.out;rw [<-e] at hk
    have h2:(W5.putObj Dd (.deferred none)).heap[p.block]?=some (.deferred none):=by
     have hl2:Dd<W5.heap.size:=by rw [<-e]; exact hl
     rw [e]; simp [World.putObj,hl2]
    simp only [World.cell?,hk,h2]
   ·exact cob ((grownBy_putObj' W5 Dd (.deferred none)).block p.block hl fun e2=>e (by cases e2; rfl))
  refine ⟨_,results_tmp rfl _ _ _,d,⟨tA,tn,tc⟩,⟨some ⟨o3,0,none⟩,1,1⟩,rfl,by omega,HB5.out.trans (belowK_b (w:=w) (nlr _) W5 Dd _ _ (by omega) HK5.out rfl rfl),HTn.out,.slice none 0 0,.slice none 0 0,[],[],?_,?_,?_⟩
  ·exact ⟨nlr _,by rw [<-HTn.out]; exact hcr.blk _ _ _ _ trivial HE5.out,nlr _,fun y hy=>Nat.lt_of_le_of_lt hy (by have:=HS5.out; have:=hcr.size; omega),MatS.nil _ _ _,ValC.nil _ _ _⟩
  ·exact VarsAt.imp (VarsAt.keep HV5.out fun p _ hl=>hpk p hl) fun b _ hb=>by omega
  ·exact (HO5.out.keep (R':=QCan (W5.putObj Dd (.deferred none)) (New W2)) (fun p _ hl=>hpk p hl) fun v q hq=>hq.keep fun p _ hl=>hpk p hl).imp (fun b _ hb=>by simp only [New] at hb; omega) fun _ _ hq=>hq.imp fun b _ hb=>by simp only [New] at hb; omega
end Mo
namespace Mo
def islTo (h:Hr) (k:Nat):List (List Rat × Rat):=(List.range k).flatMap fun n=>Mo.both (islRow h (vars h) n) 0
def flowAt (h:Hr) (m:Mt) (k:Nat):List (List Rat × Rat):=Mo.both (flowRow h m (vars h) k) ((h.lines.getD k ⟨0,0,0,0⟩).c:Rat)
def flowTo (h:Hr) (m:Mt) (k:Nat):List (List Rat × Rat):=((ins h).take k).flatMap (flowAt h m)
theorem zXj (h:Hr) (k:Nat):islTo h (k+1)=islTo h k++Mo.both (islRow h (vars h) k) 0:=by
 unfold islTo; rw [List.range_succ,List.flatMap_append]; simp
theorem zWG (h:Hr) (m:Mt) {k:Nat} (hk:k<(ins h).length):flowTo h m (k+1)=flowTo h m k++flowAt h m ((ins h).getD k 0):=by
 unfold flowTo;rw [List.take_add_one,gge hk,List.flatMap_append,gdd,gge hk]; simp
theorem zUf (h:Hr) (k:Nat):(islTo h k).length=2*k:=by
 unfold islTo; rw [zUN fun _=>rfl]; simp
theorem zUl (h:Hr) (m:Mt) (k:Nat):(flowTo h m k).length<=2*k:=by
 unfold flowTo; rw [zUN fun _=>rfl,List.length_take]; omega
theorem zXr (h:Hr) (m:Mt):islTo h (refsOf h).length++flowTo h m (ins h).length++minRows (vars h) 0 h.units h.on++capRows (vars h)=rows h m:=by
 unfold flowTo; rw [List.take_length]; rfl
theorem zYF (h:Hr) (n k:Nat):QFit LM ((islRow h (vars h) n).getD k 0):=by
 refine zBn (k:=1) ?_ (by decide);unfold islRow;rw [gdd,List.getElem?_map]
 cases (vars h)[k]? with
 | none=>exact Lin.Fits.zero _
 | some v=>
  show Lin.Fits 1 (if (isl h).getD v.bus.toNat 0=n then ((-v.sign:Int):Rat) else 0)
  split
  ·exact Lin.Fits.ofInt (by rcases zUu v with e | e <;> rw [e] <;> decide)
  ·exact Lin.Fits.zero _
theorem zYc {h:Hr} {m:Mt} (h0:hrErr h=0) (hm:inv h=some m) (n k:Nat):QFit LM ((flowRow h m (vars h) n).getD k 0):=by
 refine zBn (k:=4000011) ?_ (by decide);unfold flowRow;rw [gdd,List.getElem?_map]
 cases (vars h)[k]? with
 | none=>exact Lin.Fits.zero _
 | some v=>
  show Lin.Fits 4000011 ((v.sign:Rat)*factor h.lines (ins h) m n v.bus.toNat);have hf:=zVM h0 hm n v.bus.toNat;rcases zUu v with e | e
  ·rw [e]; simpa using hf
  ·rw [e,show (((-1:Int):Rat)*factor h.lines (ins h) m n v.bus.toNat)=-factor h.lines (ins h) m n v.bus.toNat by grind];exact hf.neg
theorem zYD {h:Hr} {m:Mt} (h0:hrErr h=0) (hm:inv h=some m):FitM 4000011 (facM h m):=fun i j=>by
 unfold facM ent;by_cases hi:i<h.lines.length
 ·rw [getD_map_range _ _ hi];by_cases hj:j<h.buses.toNat
  ·rw [getD_map_range _ _ hj]; exact zVM h0 hm i j
  ·rw [gdd,List.getElem?_eq_none (by simp; omega)]; exact Lin.Fits.zero _
 ·rw [gdd (l:=List.map _ _),List.getElem?_eq_none (by simp; omega)];show Lin.Fits _ (([]:List Rat).getD j 0);simp; exact Lin.Fits.zero _
theorem zYC {h:Hr} (m:Mt) {i j:Nat} (hi:i<h.lines.length) (hj:j<h.buses.toNat):ent (facM h m) i j=factor h.lines (ins h) m i j:=by
 unfold facM ent;rw [getD_map_range _ _ hi,getD_map_range _ _ hj]
structure RowsAp (W:World) (X:Nat->Prop) (p:LPV) (os m:List (List Rat)) (bs:List Rat):Prop where
 arr:∀ ad,p.R.A=some ad->X ad.block/\ad.block<W/\∀ o,W.frozen? ⟨ad.block,o,none⟩=false
 ob:∀ ad,p.R.A=some ad->MatCan W (fun y=>X y/\y ≠ ad.block) (fun y=>X y/\y ≠ ad.block) p.O os
 bd:∀ ad,p.R.A=some ad->VecCan W (fun y=>X y/\y ≠ ad.block) (fun y=>X y/\y ≠ ad.block) p.B bs
 el:∀ ad,p.R.A=some ad->∀ i,i<p.R.n->∃ r:SV,W.cell? (ad.add i)=some r.val/\VecCan W (fun y=>X y/\y ≠ ad.block) (fun y=>X y/\y ≠ ad.block) r (m.getD i [])
theorem RowsAp.keep {W W':World} {X:Nat->Prop} {p:LPV} {os m:List (List Rat)} {bs:List Rat} (h:RowsAp W X p os m bs) (hk:∀ a:Addr,X a.block->a.block<W->W'.cell? a=W.cell? a) (hs:W.heap.size<=W'.heap.size) (hf:∀ a:Addr,X a.block->a.block<W->W'.frozen? a=W.frozen? a):RowsAp W' X p os m bs:=
 ⟨fun ad e=>by
  obtain ⟨h1,h2,h3⟩:=h.arr ad e;exact ⟨h1,ltl h2 hs,fun o=>(hf ⟨ad.block,o,none⟩ h1 h2).trans (h3 o)⟩,fun ad e=>MatAt.keep (R':=QCan W' _) (h.ob ad e) (fun a ha hl=>hk a ha.1 hl) fun _ _ hq=>hq.keep fun a ha hl=>hk a ha.1 hl,fun ad e=>VecAt.keep (R':=QCan W' _) (h.bd ad e) (fun a ha hl=>hk a ha.1 hl) fun _ _ hq=>hq.keep fun a ha hl=>hk a ha.1 hl,fun ad e i hi=>by
  obtain ⟨h1,h2,h3⟩:=h.arr ad e;obtain ⟨r,hc,hv⟩:=h.el ad e i hi;exact ⟨r,(hk _ (by rw [zAj]; exact h1) (by rw [zAj]; exact h2)).trans hc,VecAt.keep (R':=QCan W' _) hv (fun a ha hl=>hk a ha.1 hl) fun _ _ hq=>hq.keep fun a ha hl=>hk a ha.1 hl⟩⟩
theorem RowsAp.imp {W:World} {X X':Nat->Prop} {p:LPV} {os m:List (List Rat)} {bs:List Rat} (h:RowsAp W X p os m bs) (hx:∀ b,b<W.heap.size->X b->X' b):RowsAp W X' p os m bs:=
 ⟨fun ad e=>by
  obtain ⟨h1,h2,h3⟩:=h.arr ad e;exact ⟨hx _ h2 h1,h2,h3⟩,fun ad e=>(h.ob ad e).imp (fun b hl hb=>⟨hx b hl hb.1,hb.2⟩) fun _ _ hq=>hq.imp fun b hl hb=>⟨hx b hl hb.1,hb.2⟩,fun ad e=>(h.bd ad e).imp (fun b hl hb=>⟨hx b hl hb.1,hb.2⟩) fun _ _ hq=>hq.imp fun b hl hb=>⟨hx b hl hb.1,hb.2⟩,fun ad e i hi=>by
  obtain ⟨r,hc,hv⟩:=h.el ad e i hi;exact ⟨r,hc,hv.imp (fun b hl hb=>⟨hx b hl hb.1,hb.2⟩) fun _ _ hq=>hq.imp fun b hl hb=>⟨hx b hl hb.1,hb.2⟩⟩⟩
structure LPC (W:World) (X:Nat->Prop) (h:Hr) (m:Mt) (p:LPV):Prop where
 hinv:Mo.inv h=some m
 n:p.n=((vars h).length:Int)
 o:MatCan W X X p.O [obj (vars h)]
 r:MatCan W X X p.R ((rows h m).map Prod.fst)
 b:VecCan W X X p.B ((rows h m).map Prod.snd)
 ap:RowsAp W X p [obj (vars h)] ((rows h m).map Prod.fst) ((rows h m).map Prod.snd)
theorem LPC.imp {W:World} {X X':Nat->Prop} {h:Hr} {m:Mt} {p:LPV} (hL:LPC W X h m p) (hx:∀ b,b<W.heap.size->X b->X' b):LPC W X' h m p:=
 ⟨hL.hinv,hL.n,hL.o.imp hx fun _ _ hq=>hq.imp hx,hL.r.imp hx fun _ _ hq=>hq.imp hx,hL.b.imp hx fun _ _ hq=>hq.imp hx,hL.ap.imp hx⟩
def BlI (w:World) (d:Nat) (x o:SV) (h:Hr) (c:Nat) (t:Value) (W:World):Prop:=
 ∃ (k:Nat) (G':Nat->Prop),k<=c/\t = .int .i64 (k:Int)/\AsC w d x o (vars h) ((islTo h k).map Prod.fst) ((islTo h k).map Prod.snd) (fun y=>y<=d) G' W
def BlF (w:World) (d:Nat) (x o:SV) (h:Hr) (m:Mt) (c n:Nat) (t:Value) (W:World):Prop:=
 ∃ (k:Nat) (G':Nat->Prop),k<=n/\t = .int .i64 (k:Int)/\AsC w d x o (vars h) ((islTo h c++flowTo h m k).map Prod.fst) ((islTo h c++flowTo h m k).map Prod.snd) (fun y=>y<=d) G' W
structure BlB (w:World) (v:HrV) (h:Hr) (m:Mt) (cI ib cF gm:Nat) (t:SV) (W:World):Prop where
 low:Below w w W
 net:Box2 W w (.int .i64 v.n) (.slice v.L.A v.L.n v.L.c)
 res:Box4 W (w+1) (.int .i64 0) (.slice none 0 0) (.slice none 0 0) (.slice none 0 0)
 sz:w.heap.size+1<W.heap.size
 bi:W.cell? cI=some (.slice (some ib) h.buses.toNat h.buses.toNat)
 isl:NatRow W ib h.buses.toNat fun i=>(Mo.isl h).getD i 0
 ins:NatsAt W t (Mo.ins h)
 bf:W.cell? cF=some (.slice (some gm) h.lines.length h.lines.length)
 fac:GjM W gm (facM h m)
theorem BlB.below {w W W':World} {v:HrV} {h:Hr} {m:Mt} {cI ib cF gm:Nat} {t:SV} (hB:BlB w v h m cI ib cF gm t W) (hb:Below W W W'):BlB w v h m cI ib cF gm t W':=by
 have hs:=hB.sz;obtain ⟨n0,n1,n2⟩:=hB.net;obtain ⟨r0,r1,r2,r3,r4⟩:=hB.res;exact ⟨hB.low.trans (hb.mono hB.low.size),⟨cellB hb n0,cellB hb n1,fun o=>(hb.frozen (by show w.heap.size<_; omega)).trans (n2 o)⟩,⟨cellB hb r0,cellB hb r1,cellB hb r2,cellB hb r3,fun o=>(hb.frozen (by show w.heap.size+1<_; omega)).trans (r4 o)⟩,ltl hs hb.size,cellB hb hB.bi,hB.isl.below hb,hB.ins.below hb,cellB hb hB.bf,hB.fac.below hb⟩
theorem zWH (l:List Nat) (k:Nat):(l.map fun i:Nat=>(i:Int)).getD k 0=((l.getD k 0:Nat):Int):=by
 rw [gdd,List.getElem?_map,gdd];cases l[k]? <;> rfl
theorem _root_.Go.Proofs.YtjancagcmghfjaaGreat.MatS.canB {W:World} {B k:Nat} {G:Nat->Prop} {v:Value} {ss:List SV} {m:List (List Rat)} (h:MatS W B G v k ss m) {X:Nat->Prop} (h1:∀ y,B<=y->X y) (h2:∀ y,¬ G y->X y):∃ s:SV,v=s.val/\s.n=k/\MatCan W X X s m:=by
 obtain ⟨s,rfl,hn,hv⟩:=h.can;refine ⟨s,rfl,hn,hv.len,hv.le,hv.cap,fun j hj=>?_⟩;have hv2:=h.elem j (by omega);obtain ⟨ad,r,e,-,hc,hr⟩:=hv.row j hj;obtain ⟨A,n,c⟩:=s;dsimp only at e hn hj;subst e;obtain rfl:=hn;rcases h.own.2 with ⟨e1,-⟩ | ⟨g,cap,cur,e1,hg,hh,-,-,-,ht⟩
 ·cases e1
 ·cases e1;refine ⟨_,ss.getD j ⟨none,0,0⟩,rfl,h1 _ hg,?_,hv2.imp (fun b _ hb=>h2 b hb) fun _ _ hq=>hq.imp fun b _ hb=>h2 b hb⟩;have hl:=h.len;have e2:(cur.toList.take (n*1))[j]?=(ss.map SV.val)[j]?:=by rw [ht]
  rw [List.getElem?_take_of_lt (by omega),List.getElem?_map] at e2;rw [zA4,Nat.zero_add];simp only [World.cell?,hh];rw [gdd];rw [gge (show j<ss.length by omega)] at e2 ⊢;simpa using e2
theorem zYs {l:List St} (h:stepErr true l=0):sumQ l<=3000000:=by
 obtain ⟨h1,h2,h3⟩:=zT8 h;have h4:=zVJ h3
 match l,h2,h4 with
 | [],_,_=>decide
 | [a],_,h4=>have:=h4 a (by simp); simp only [sumQ]; omega
 | [a,b],_,h4=>have:=h4 a (by simp); have:=h4 b (by simp); simp only [sumQ]; omega
 | [a,b,c],_,h4=>have:=h4 a (by simp); have:=h4 b (by simp); have:=h4 c (by simp); simp only [sumQ]; omega
theorem build_calls {w:World} {v:HrV} {h:Hr} (hA:HrAt w v h) (h0:hrErr h=0) :
  Calls Tryz.prog 12 #[.agg #[.int .i64 v.n,.slice v.L.A v.L.n v.L.c],v.O.val,v.U.val,v.N.val,v.B.val] w fun e w'=>(∃ (p:LPV) (m:Mt),e = .returned (.tuple #[p.val,.int .i64 0])/\LPC w' (New w) h m p)/\Below w w w':=by
 obtain ⟨m,hm⟩:=zYg h0;obtain ⟨b1,b6,l10,hln,hout⟩:=zUi h0;have hou:=zV5 h0;have HOut:=hdq hou;have HM:=hdq hm;have H0:=hdq h0;have HA:=hdq hA;obtain ⟨n,L,O,U,N,B⟩:=v;dsimp only at hA ⊢;obtain rfl:n=h.buses:=hA.n;have hN:(h.buses.toNat:Int)=h.buses:=by omega
 have HC:=hdq fun W (hb:Below w w W)=>zVh (hA.below hb)
 dsimp only at HC;rw [h0] at HC;clear hA h0 hm hou hout;dsimp only [SV.val];go_enter Tryz.func12,Tryz.ntmps12
 go_wp2_with fail
 refine zAg (fun W=>Below w w W/\Box2 W w (.int .i64 h.buses) (.slice L.A L.n L.c)/\Box4 W (w+1) (.int .i64 0) (.slice none 0 0) (.slice none 0 0) (.slice none 0 0)/\w.heap.size<W.heap.size/\w.heap.size+1<W.heap.size) ⟨(az (az (brf _ _))),bx2,bx4,by simp <;> omega,by simp <;> omega⟩ ?_;rintro W ⟨hbW,bN,bR,s0,s1⟩;have hBW:=hbW.size;refine (HC.out W hbW).mono ?_;rintro e w1 ⟨rfl,hb1⟩;have c1:Below w w w1:=hbW.trans (hb1.mono hBW);have bN1:=bN.below hb1 s0;have bR1:=bR.below hb1 s1;have t1:w.heap.size+1<w1.heap.size:=ltl s1 hb1.size;obtain ⟨n0,n1,-⟩:=id bN1;have HOf:=hdq (zCA (n:=h.buses) (s:=L) (so:=O) (LinesAt.below c1 HA.out.L) (HA.out.O.below c1) HOut.out);obtain ⟨c,hc⟩:∃ c,c=(refsOf h).length:=⟨_,rfl⟩;have hc6:c<=6:=by rw [hc]; exact zV6 H0.out
 have HCt:Hid (∀ W,Below w w W->Calls Tryz.prog 41 #[.agg #[.int .i64 h.buses,.slice L.A L.n L.c],.slice O.A O.n O.c] W fun e w'=>e = .returned (.tuple #[.int .i64 (c:Int),.int .i64 0])/\Below W W w'):=hdq fun W (hb:Below w w W)=>by
  rw [hc];exact zWC (n:=h.buses) (s:=L) (so:=O) (LinesAt.below hb HA.out.L) (HA.out.O.below hb) HOut.out
 have Hc:=hdq hc;clear hc;have HIn:=hdq fun W (hb:Below w w W)=>zV1 (n:=h.buses) (s:=L) (so:=O) (LinesAt.below hb HA.out.L) (HA.out.O.below hb) HOut.out
 have HFc:=hdq fun W (hb:Below w w W)=>zVX (s:=L) (so:=O) (LinesAt.below hb HA.out.L) (HA.out.O.below hb) H0.out HM.out
 clear hbW hb1 bN bR s0 s1 hBW W;go_wp2_with fail
 refine HOf.out.mono ?_;rintro e w2 ⟨⟨ib,rfl,hib,hisl⟩,hb2⟩;have c2:Below w w w2:=c1.trans (hb2.mono c1.size);have bN2:=bN1.below hb2 (Nat.lt_of_succ_lt t1);have bR2:=bR1.below hb2 t1;have t2:w.heap.size+1<w2.heap.size:=ltl t1 hb2.size;clear bN1 bR1 n0 n1 t1 c1 hb2 hib HOf w1;obtain ⟨n0,n1,-⟩:=id bN2;have t0:w.heap.size<w2.heap.size:=Nat.lt_of_succ_lt t2;have HIl:=hdq hisl;clear hisl;have a3:Below w2 w2 (w2.alloc (.cells #[.slice (some ib) h.buses.toNat h.buses.toNat] 25)):=bal;have A3:=hdq a3;have C2:=hdq c2;clear a3 c2;go_wp2_with fail
 refine (HCt.out _ (C2.out.trans (A3.out.mono C2.out.size))).mono ?_;rintro e w3 ⟨rfl,hb3⟩;have bi3:w3.cell? w2=some (.slice (some ib) h.buses.toNat h.buses.toNat):=(hb3.cell (by simp)).trans (by go_simp);have h23:Below w2 w2 w3:=A3.out.trans (hb3.mono A3.out.size);have c3:Below w w w3:=C2.out.trans (h23.mono C2.out.size);have bN3:=bN2.below h23 t0;have bR3:=bR2.below h23 t2;have hi3:=HIl.out.below h23;have t3:w.heap.size+1<w3.heap.size:=ltl t2 h23.size;have t0':w.heap.size<w3.heap.size:=Nat.lt_of_succ_lt t3;have hcl:=zAb bi3;dsimp only at hcl;obtain ⟨cI,hcI⟩:∃ cI,cI=w2.heap.size:=⟨_,rfl⟩;rw [<-hcI] at bi3 hcl ⊢;clear hcI bN2 bR2 n0 n1 t0 t2 HIl A3 C2 h23 hb3 HCt w2;obtain ⟨n0,n1,-⟩:=id bN3;have HI3:=hdq hi3;have C3:=hdq c3;clear hi3 c3;go_wp2_with fail
 refine (HIn.out _ C3.out).mono ?_;rintro e w4 ⟨⟨t,rfl,hins⟩,hb4⟩;have bi4:=cellB hb4 bi3;have c4:Below w w w4:=C3.out.trans (hb4.mono C3.out.size);have bN4:=bN3.below hb4 t0';have bR4:=bR3.below hb4 t3;have hi4:=HI3.out.below hb4;have t4:w.heap.size+1<w4.heap.size:=ltl t3 hb4.size;have t0:w.heap.size<w4.heap.size:=Nat.lt_of_succ_lt t4;replace hcl:=ltl hcl hb4.size;clear bi3 bN3 bR3 n0 n1 t3 t0' HI3 C3 hb4 HIn w3;obtain ⟨n0,n1,-⟩:=id bN4;have HI4:=hdq hi4;have C4:=hdq c4;have HIs:=hdq hins;obtain ⟨tA,tn,tc⟩:=t;dsimp only [SV.val];clear hi4 c4 hins;go_wp2_with fail
 refine (HFc.out _ C4.out).mono ?_;rintro e w5 ⟨⟨gm,rfl,hgm,hfac⟩,hb5⟩;have bi5:=cellB hb5 bi4;have c5:Below w w w5:=C4.out.trans (hb5.mono C4.out.size);have bN5:=bN4.below hb5 t0;have bR5:=bR4.below hb5 t4;have hi5:=HI4.out.below hb5;have hs5:=HIs.out.below hb5;have t5:w.heap.size+1<w5.heap.size:=ltl t4 hb5.size;have t0':w.heap.size<w5.heap.size:=Nat.lt_of_succ_lt t5;replace hcl:=ltl hcl hb5.size;clear bi4 bN4 bR4 n0 n1 t4 t0 HI4 C4 HIs hb5 HFc hgm w4
 have hBB:BlB w ⟨h.buses,L,O,U,N,B⟩ h m cI ib w5 gm ⟨tA,tn,tc⟩ (w5.alloc (.cells #[.slice (some gm) h.lines.length h.lines.length] 33)):=by
  have a5:Below w5 w5 (w5.alloc (.cells #[.slice (some gm) h.lines.length h.lines.length] 33)):=bal;exact ⟨c5.trans (a5.mono c5.size),bN5.below a5 t0',bR5.below a5 t5,ltl t5 a5.size,cellB a5 bi5,hi5.below a5,hs5.below a5,by go_simp,hfac.below a5⟩
 obtain ⟨n0,n1,-⟩:=id bN5;have HBB:=hdq hBB;clear hBB bi5 c5 bN5 bR5 hi5 hs5 hfac;have HAs:=hdq (fun W (hb:Below w w W)=>zVB (UnitsAt.below hb HA.out.U) (HA.out.N.below hb) (BidsAt.below hb HA.out.B) H0.out);dsimp only [SV.val] at HAs;go_wp2_with fail
 obtain ⟨cF,hcF⟩:∃ cF,cF=w5.heap.size:=⟨_,rfl⟩;rw [<-hcF] at HBB ⊢;clear hcF n0 n1 t0' t5 hcl;generalize w5.alloc (.cells #[.slice (some gm) h.lines.length h.lines.length] 33)=WB at *;clear w5;refine (HAs.out WB HBB.out.low).mono ?_;rintro e WA ⟨d,x,o,rfl,hd,hbA,hxn,hAE⟩;clear HAs;have hx33:x.n<=33:=by rw [hxn]; exact zUU H0.out
 have Hxn:=hdq hxn;have Hvo:=hdq (zX3 H0.out);have H1:BlI WA d x o h c (.int .i64 0) WA:=⟨0,_,nzl _,rfl,AsC.refl hAE⟩;have HTn:Hid ((ins h).length=tn):=hdq (by have:=HBB.out.ins.len; simpa using this);have tn10:tn<=10:=by have h1:=zV2 H0.out; have h2:=HTn.out; omega
 have tle:tn<=tc:=HBB.out.ins.le;have tcap:tc<=9223372036854775807:=HBB.out.ins.cap;have HOn:=hdq (zUh H0.out);clear hxn hAE;go_wp2;go_loopw [79] (fun t W=>BlI WA d x o h c t W) (fun t _=>c-(intOf t).toNat)
 case atStart=>exact H1
 case round=>
  clear H1;obtain ⟨k,G1,hk,rfl,hC⟩:=hrel;by_cases hlt:k<c
  ·have hki:(k:Int)<(c:Int):=(by omega);have hB:=HBB.out.below (hC.low hbA hd);have al:Below wr wr (wr.alloc (.cells #[.int .i64 (k:Int)] 3)):=bal;have hB1:=hB.below al;have hC1:=hC.call al;have bj:(wr.alloc (.cells #[.int .i64 (k:Int)] 3)).cell? wr=some (.int .i64 (k:Int)):=by go_simp
   have hcl1:∀ (W':World) (j:Nat),Below (wr.alloc (.cells #[.int .i64 (k:Int)] 3)).heap.size (wr.alloc (.cells #[.int .i64 (k:Int)] 3)) W'->j<x.n->Calls Tryz.prog 46 (#[vrVal ((vars h).getD j vr0)]++#[.pointer (some cI),.pointer (some wr)]) W' fun e W''=>QRet W' (if (Mo.isl h).getD ((vars h).getD j vr0).bus.toNat 0=k then ((-((vars h).getD j vr0).sign:Int):Rat) else 0) e W''/\Below W' W' W'':=fun W' j hb hj=>by
    have hj':j<(vars h).length:=by rw [<-Hxn.out]; exact hj
    have hv:=Hvo.out ((vars h).getD j vr0) (by rw [gdd,gge hj']; exact List.getElem_mem hj');have hv1:=hv.1;have hv2:=hv.2.1;rw [arr2];exact zW7 (f:=fun i=>(Mo.isl h).getD i 0) (b:=((vars h).getD j vr0).bus.toNat) (cellB hb hB1.bi) (cellB hb bj) (hB1.isl.below hb) (by omega) (by omega) (by omega)
   have hc0:=hC1.e.cell0;have hcv:=hC1.e.vars;have HRow:=hdq (row_calls (fn:=46) (g:=fun j=>if (Mo.isl h).getD ((vars h).getD j vr0).bus.toNat 0=k then ((-((vars h).getD j vr0).sign:Int):Rat) else 0) hc0 hcv (by omega) (fun _ _=>rfl) hcl1);have HC1:=hdq hC1;have HGi:=hdq hC1.e.gin;clear hB hB1 hC hC1 bj hcl1 hc0 hcv al;(go_wp2_with fail);refine HRow.out.mono ?_;rintro e w5 ⟨⟨rb,rfl,hrb,hv⟩,h5⟩
   have hr:(List.range x.n).map (fun j=>if (Mo.isl h).getD ((vars h).getD j vr0).bus.toNat 0=k then ((-((vars h).getD j vr0).sign:Int):Rat) else 0)=islRow h (vars h) k:=by
    rw [Hxn.out]; exact zUQ (vars h) fun v=>if (Mo.isl h).getD v.bus.toNat 0=k then ((-v.sign:Int):Rat) else 0
   rw [hr] at hv;have hC5:=HC1.out.call h5;have hv5:VecCan w5 (fun y=>¬ G1 y) (fun y=>¬ G1 y) ⟨some ⟨rb,0,none⟩,x.n,x.n⟩ (islRow h (vars h) k):=hv.imp (fun y _ hy hG=>by have:=HGi.out y hG; simp only [New] at hy; omega) fun _ _ hq=>hq.imp fun y _ hy hG=>by have:=HGi.out y hG; simp only [New] at hy; omega
   have hl1:((islTo h k).map Prod.fst).length<=9999:=by rw [List.length_map,zUf]; omega
   have hl2:((islTo h k).map Prod.snd).length<=9999:=by rw [List.length_map,zUf]; omega
   have HBo:=hdq (zVI (s:=⟨some ⟨rb,0,none⟩,x.n,x.n⟩) (z:=0) hC5.e hv5 (zYF h k) (by show x.n<=1000; omega) hl1 hl2 (by decide) (by decide));have HC5:=hdq hC5;dsimp only [SV.val] at HBo;clear hr hv hv5 hl1 hl2 hC5 h5 hrb HRow HC1;(go_wp2_with fail);refine HBo.out.mono ?_;rintro e w6 ⟨⟨v6,rfl⟩,G2,hA2,hF2,hM2⟩
   have HN:Hid (BlI WA d x o h c (.int .i64 ((k:Int)+1)) w6):=⟨k+1,G2,by omega,by simp,by
    rw [zXj,List.map_append,List.map_append];exact HC5.out.next hA2 hF2 hM2⟩
   clear HC5 hA2 hF2 hM2 HBo HGi;go_wp2;go_roundw;case rel=>first | exact HN.out | ((repeat apply Exists.intro); exact ⟨HN.out,rfl⟩)
   case measure=>simp [intOf]; omega
  ·obtain rfl:k=c:=by omega
   have H2:BlF WA d x o h m k tn (.int .i64 0) wr:=⟨0,G1,nzl _,rfl,by
    rw [show flowTo h m 0=[] by unfold flowTo; simp,List.append_nil]; exact hC⟩
   clear hC;go_wp2;generalize wr=wq at *;(go_loopw [91] (fun t W=>BlF WA d x o h m k tn t W) (fun t _=>tn-(intOf t).toNat));case atStart=>exact H2
   case round=>
    clear H2;obtain ⟨j,G3,hj,rfl,hC⟩:=hrel;by_cases hlj:j<tn
    ·have hji:(j:Int)<(tn:Int):=(by omega);have hB:=HBB.out.below (hC.low hbA hd);obtain ⟨ad,e,q0⟩:=hB.ins.cell j hlj;dsimp only at e;subst e;rw [zWH] at q0;have hjm:j<(ins h).length:=by rw [HTn.out]; exact hlj
     have hlb:(ins h).getD j 0<h.lines.length:=zYy (by rw [gdd,gge hjm]; exact List.getElem_mem hjm);have HFs:=hdq (zWG h m hjm);generalize (ins h).getD j 0=line at *;have tq:=zAb q0;have al:Below wr wr (wr.alloc (.cells #[.int .i64 (line:Int)] 3)):=bal;have hB1:=hB.below al;have hC1:=hC.call al;have bj:(wr.alloc (.cells #[.int .i64 (line:Int)] 3)).cell? wr=some (.int .i64 (line:Int)):=by go_simp
     have hcl1:∀ (W':World) (i:Nat),Below (wr.alloc (.cells #[.int .i64 (line:Int)] 3)).heap.size (wr.alloc (.cells #[.int .i64 (line:Int)] 3)) W'->i<x.n->Calls Tryz.prog 49 (#[vrVal ((vars h).getD i vr0)]++#[.pointer (some cF),.pointer (some wr)]) W' fun e W''=>QRet W' ((((vars h).getD i vr0).sign:Rat)*factor h.lines (ins h) m line ((vars h).getD i vr0).bus.toNat) e W''/\Below W' W' W'':=fun W' i hb hi=>by
      have hi':i<(vars h).length:=by rw [<-Hxn.out]; exact hi
      have hv:=Hvo.out ((vars h).getD i vr0) (by rw [gdd,gge hi']; exact List.getElem_mem hi');have hv1:=hv.1;have hv2:=hv.2.1;rw [arr2,<-zYC m hlb (show ((vars h).getD i vr0).bus.toNat<h.buses.toNat by omega)];exact zW8 (L:=h.lines.length) (N:=h.buses.toNat) (K0:=4000011) (cellB hb hB1.bf) (cellB hb bj) (hB1.fac.below hb) (by simp [facM]) (fun a ha=>by unfold facM; rw [getD_map_range _ _ ha]; simp) (zYD H0.out HM.out) (by decide) hlb (by omega) (by omega) (by omega) l10
     have hc0:=hC1.e.cell0;have hcv:=hC1.e.vars;have HRow:=hdq (row_calls (fn:=49) (g:=fun i=>(((vars h).getD i vr0).sign:Rat)*factor h.lines (ins h) m line ((vars h).getD i vr0).bus.toNat) hc0 hcv (by omega) (fun _ _=>rfl) hcl1);have HC1:=hdq hC1;have HB1:=hdq hB1;have HBj:=hdq bj;have HGi:=hdq hC1.e.gin;clear hB hB1 hC hC1 bj hcl1 hc0 hcv al;(go_wp2_with fail);refine HRow.out.mono ?_;rintro e w5 ⟨⟨rb,rfl,hrb,hv⟩,h5⟩
     have hr:(List.range x.n).map (fun i=>(((vars h).getD i vr0).sign:Rat)*factor h.lines (ins h) m line ((vars h).getD i vr0).bus.toNat)=flowRow h m (vars h) line:=by
      rw [Hxn.out]; exact zUQ (vars h) fun v=>(v.sign:Rat)*factor h.lines (ins h) m line v.bus.toNat
     rw [hr] at hv;have hC5:=HC1.out.call h5;have hB5:=HB1.out.below h5;have bj5:=cellB h5 HBj.out;obtain ⟨n0,n1,-⟩:=hB5.net;obtain ⟨ad2,e,y0,y1,y2,y3⟩:=(LinesAt.below hB5.low HA.out.L).cell line (by rw [<-HA.out.L.len]; exact hlb);have Lle:=HA.out.L.le;have Lcap:=HA.out.L.cap;have hLn:Hid (h.lines.length=L.n):=HA.out.L.len;have hlo:=zXK H0.out hlb;obtain ⟨LA,Ln',Lc⟩:=L;dsimp only at e n1 Lle Lcap hLn;subst e;have hll:(line:Int)<(Ln':Int):=by have:=hLn.out; omega
     have hc1:=hlo.2.2.2.2.2.2.2.1;have hc2:=hlo.2.2.2.2.2.2.2.2;obtain ⟨cp,hcp⟩:∃ cp,cp=(h.lines.getD line d0).c:=⟨_,rfl⟩;rw [show (h.lines.getD line ⟨0,0,0,0⟩:Ln)=h.lines.getD line d0 from rfl,<-hcp] at y3;rw [<-hcp] at hc1 hc2;have Hcp:=hdq hcp;clear hcp;have hv5:VecCan w5 (fun y=>¬ G3 y) (fun y=>¬ G3 y) ⟨some ⟨rb,0,none⟩,x.n,x.n⟩ (flowRow h m (vars h) line):=hv.imp (fun y _ hy hG=>by have:=HGi.out y hG; simp only [New] at hy; omega) fun _ _ hq=>hq.imp fun y _ hy hG=>by have:=HGi.out y hG; simp only [New] at hy; omega
     have hl1:((islTo h k++flowTo h m j).map Prod.fst).length<=9999:=by rw [List.length_map,List.length_append,zUf]; have:=zUl h m j; omega
     have hl2:((islTo h k++flowTo h m j).map Prod.snd).length<=9999:=by rw [List.length_map,List.length_append,zUf]; have:=zUl h m j; omega
     have HBo:=hdq (zVI (s:=⟨some ⟨rb,0,none⟩,x.n,x.n⟩) (z:=cp) hC5.e hv5 (zYc H0.out HM.out line) (by show x.n<=1000; omega) hl1 hl2 (by omega) (by omega));have HC5:=hdq hC5;dsimp only [SV.val] at HBo;have tl:=zAb y0;clear hr hv hv5 hl1 hl2 hC5 hB5 h5 hrb HRow HC1 HB1 HBj hlo y0 y1 y2 q0 tq;(go_wp2_with fail);refine HBo.out.mono ?_;rintro e w6 ⟨⟨v6,rfl⟩,G2,hA2,hF2,hM2⟩
     have HN:Hid (BlF WA d x o h m k tn (.int .i64 ((j:Int)+1)) w6):=⟨j+1,G2,by omega,by simp,by
      rw [HFs.out,<-List.append_assoc,List.map_append,List.map_append (l₁:=islTo h k++flowTo h m j)];rw [Hcp.out] at hA2;exact HC5.out.next hA2 hF2 hM2⟩
     clear HC5 hA2 hF2 hM2 HBo HGi;go_wp2;go_roundw;case rel=>first | exact HN.out | ((repeat apply Exists.intro); exact ⟨HN.out,rfl⟩)
     case measure=>simp [intOf]; omega
    ·(obtain rfl:j=tn:=by omega);obtain ⟨r1,r2,r3,r4,r5⟩:=HOn.out
     have hmn:∀ u ∈ h.units,0<=u.min/\u.min<=3000000:=fun u hu=>by
      have h1:=zVw (r3 u hu);exact ⟨h1.2.2.2.1,Int.le_trans h1.2.2.2.2 (zYs h1.2.2.1)⟩
     have hl1:((islTo h k++flowTo h m j).map Prod.fst).length<=5000:=by rw [List.length_map,List.length_append,zUf]; have:=zUl h m j; omega
     have hl2:((islTo h k++flowTo h m j).map Prod.snd).length<=5000:=by rw [List.length_map,List.length_append,zUf]; have:=zUl h m j; omega
     have HMi:=hdq (zWo (w0:=WB) hC.e (hC.low hbA hd) hd (UnitsAt.below HBB.out.low HA.out.U) (HA.out.N.below HBB.out.low) r4 r1 hmn (by omega) hl1 hl2);have HLow:=hdq (hC.low hbA hd);have HOld:=hdq hC.m.old;dsimp only [SV.val] at HMi;clear hC hmn r1 r2 r3 r5;(go_wp2_with fail);refine HMi.out.mono ?_;rintro e w7 ⟨⟨v7,rfl⟩,G4,hC7⟩;have hml:=zUY (vars h) h.units h.on 0;have hl3:(((islTo h k++flowTo h m j).map Prod.fst)++((minRows (vars h) 0 h.units h.on).map Prod.fst)).length<=5000:=by simp only [List.length_append,List.length_map,zUf]; have:=zUl h m j; have:=HOn.out.1; omega
     have hl4:(((islTo h k++flowTo h m j).map Prod.snd)++((minRows (vars h) 0 h.units h.on).map Prod.snd)).length<=5000:=by simp only [List.length_append,List.length_map,zUf]; have:=zUl h m j; have:=HOn.out.1; omega
     have HCa:=hdq (zU7 hC7.e (fun v hv=>by have:=Hvo.out v hv; exact ⟨by have:=this.2.2.1; omega,this.2.2.2.1⟩) (by omega) hl3 hl4);have HL7:=hdq (hC7.low HLow.out hd);have HOld2:=hdq (fun y hy=>hC7.m.old y (HOld.out y hy));clear hC7 HMi HOld hl1 hl2 hl3 hl4 hml HLow;(go_wp2_with fail);refine HCa.out.mono ?_;rintro e w8 ⟨⟨v8,rfl⟩,G5,hC8⟩;have hL8:=hC8.low HL7.out hd;obtain ⟨vr,vb,ss,qs,hF⟩:=hC8.e
     have hG5:∀ y,¬ G5 y->d<y:=fun y hy=>by
      have:=mt (fun hd=>hC8.m.old y (HOld2.out y hd)) hy;omega
     obtain ⟨y0,y1,y2,y3,y4⟩:=hF.am.cells;have hOwn:=hF.am.rows.own;obtain ⟨⟨rA,rn,rc⟩,rfl,hrn,hR⟩:=hF.am.rows.canB (X:=fun y=>d<y) (fun y hy=>by omega) hG5;obtain ⟨⟨bA,bn,bc⟩,rfl,hbn,hBv⟩:=hF.am.bnd.vecB;have hO:MatCan w8 (fun y=>d<y) (fun y=>d<y) o [obj (vars h)]:=hF.obj.imp (fun b _ hb=>hG5 b hb) fun _ _ hq=>hq.imp fun b _ hb=>hG5 b hb
     have hBd:VecCan w8 (fun y=>d<y) (fun y=>d<y) ⟨bA,bn,bc⟩ _:=hBv.imp (fun b _ hb=>by omega) fun _ _ hq=>hq.imp fun b _ hb=>hG5 b hb
     have hdl:=hF.am.lt;obtain ⟨oA,on,oc⟩:=o;dsimp only [SV.val] at y0 y1 y2 y3 y4;have hBl:=HBB.out.below hL8;have ew:w.heap.size+1<d:=by have:=HBB.out.sz; omega
     obtain ⟨z0,z1,z2,z3,z9⟩:=hBl.res;have zl:w.heap.size+1<w8.heap.size:=(by omega);have nd:¬ d=w.heap.size+1:=(by omega);obtain ⟨v0,v1,v2,v3,-⟩:=hBl.res.stored (.int .i64 ((vars h).length:Int)) (.slice oA on oc) (.slice rA rn rc) (.slice bA bn bc)
     have hk:∀ p:Addr,d<p.block->p.block<w8->((((w8.setCell ⟨w+1,0,none⟩ (.int .i64 ((vars h).length:Int))).setCell ⟨w.heap.size+1,1,none⟩ (.slice oA on oc)).setCell ⟨w.heap.size+1,2,none⟩ (.slice rA rn rc)).setCell ⟨w.heap.size+1,3,none⟩ (.slice bA bn bc)).cell? p=w8.cell? p:=fun p hp _=>
      cob ((bhs _ _ _ _ (by dsimp only; omega)).trans ((bhs _ _ _ _ (by dsimp only; omega)).trans ((bhs _ _ _ _ (by dsimp only; omega)).trans (bhs _ _ _ _ (by dsimp only; omega)))))
     have hrb:∀ ad,rA=some ad->G5 ad.block:=fun ad e=>hF.am.rows.row _ (by rw [e]; rfl)
     have hAp:RowsAp w8 (fun y=>d<y) ⟨((vars h).length:Int),⟨oA,on,oc⟩,⟨rA,rn,rc⟩,⟨bA,bn,bc⟩⟩ [obj (vars h)] _ _:=⟨fun ad e=>by
      dsimp only at e;rcases hOwn.2 with ⟨e1,-⟩ | ⟨g,cap,cur,e1,hg,hh,-⟩
      ·rw [e] at e1; cases e1
      ·rw [e] at e1; cases e1
       exact ⟨hg,zAa hh,fun o=>by simp [World.frozen?,hh]⟩,fun ad e=>hF.obj.imp (fun b _ hb=>⟨hG5 b hb,fun e2=>hb (by rw [e2]; exact hrb ad e)⟩) fun _ _ hq=>hq.imp fun b _ hb=>⟨hG5 b hb,fun e2=>hb (by rw [e2]; exact hrb ad e)⟩,fun ad e=>⟨hBv.len,hBv.le,hBv.cap,fun j hj=>by
      obtain ⟨ad',v,e',hx,hc,hr⟩:=hBv.elem j hj;dsimp only at e e';refine ⟨ad',v,e',⟨by omega,fun e2=>hF.am.apart (j:=ad.block) (by rw [e',<-e2]; rfl) (by rw [e]; rfl)⟩,hc,hr.imp fun b _ hb=>⟨hG5 b hb,fun e2=>hb (by rw [e2]; exact hrb ad e)⟩⟩⟩,fun ad e i hi=>by
      dsimp only at e hi;have hgo:=hF.am.rows.row;have hi2:i<(List.map Prod.fst (islTo h k++flowTo h m j)++List.map Prod.fst (minRows (vars h) 0 h.units h.on)++List.map Prod.fst (capRows (vars h))).length:=by rw [<-hrn]; exact hi
      have hel:=hF.am.rows.elem i hi2;have hsl:=hF.am.rows.len;subst e;refine ⟨ss.getD i ⟨none,0,0⟩,?_,hel.imp (fun b _ hb=>⟨hG5 b hb,fun e=>hb (hgo b (by rw [e]; rfl))⟩) fun _ _ hq=>hq.imp fun b _ hb=>⟨hG5 b hb,fun e=>hb (hgo b (by rw [e]; rfl))⟩⟩;rcases hOwn.2 with ⟨e1,-⟩ | ⟨g,cap,cur,e1,hg,hh,-⟩
      ·cases e1
      ·cases e1;have:=hOwn.cells (g:=g) rfl i (ss.getD i ⟨none,0,0⟩).val (by rw [List.getElem?_map,gdd,gge (by omega)]; rfl);exact this⟩
     have hpt:=zXr h m;rw [<-Hc.out,HTn.out] at hpt;rw [<-List.map_append,<-List.map_append,hpt] at hR hBd hAp;rw [<-List.map_append,<-List.map_append,hpt] at hAp;have hX:∀ b,d<b->New w b:=fun b hb=>by simp only [New]; omega
     have HLP:Hid (LPC ((((w8.setCell ⟨w+1,0,none⟩ (.int .i64 ((vars h).length:Int))).setCell ⟨w.heap.size+1,1,none⟩ (.slice oA on oc)).setCell ⟨w.heap.size+1,2,none⟩ (.slice rA rn rc)).setCell ⟨w.heap.size+1,3,none⟩ (.slice bA bn bc)) (New w) h m ⟨((vars h).length:Int),⟨oA,on,oc⟩,⟨rA,rn,rc⟩,⟨bA,bn,bc⟩⟩):=
      ⟨HM.out,rfl,(hO.keep hk fun _ _ hq=>hq.keep hk).imp (fun b _ hb=>hX b hb) fun _ _ hq=>hq.imp fun b _ hb=>hX b hb,(hR.keep hk fun _ _ hq=>hq.keep hk).imp (fun b _ hb=>hX b hb) fun _ _ hq=>hq.imp fun b _ hb=>hX b hb,(hBd.keep hk fun _ _ hq=>hq.keep hk).imp (fun b _ hb=>hX b hb) fun _ _ hq=>hq.imp fun b _ hb=>hX b hb,(hAp.keep hk (by simp [World.setCell]) fun a _ _=>by rw [World.frozen?_setCell,World.frozen?_setCell,World.frozen?_setCell,World.frozen?_setCell]).imp fun b _ hb=>hX b hb⟩
     have HBe:=hdq (zAl (x0:=.int .i64 ((vars h).length:Int)) (x1:=.slice oA on oc) (x2:=.slice rA rn rc) (x3:=.slice bA bn bc) (b:=w+1) (hBl.low) (by omega));clear hF hC8 hL8 hO hR hBd hBv hBl hk hpt hG5 HCa hrn hbn hOwn hAp hrb;go_wp2;exact bodyPost_ret (v:=.tuple #[.agg #[.int .i64 ((vars h).length:Int),.slice oA on oc,.slice rA rn rc,.slice bA bn bc],.int .i64 0]) (by simp [results,Tryz.results12,go_sem,v0,v1,v2,v3]) rfl ⟨⟨_,m,rfl,HLP.out⟩,HBe.out⟩
end Mo
namespace Mo
abbrev LP0:LPV:=⟨0,⟨none,0,0⟩,⟨none,0,0⟩,⟨none,0,0⟩⟩
theorem zWe {w:World} {v:HrV} {h:Hr} (hA:HrAt w v h) (h0:hrErr h ≠ 0) :
  Calls Tryz.prog 12 #[.agg #[.int .i64 v.n,.slice v.L.A v.L.n v.L.c],v.O.val,v.U.val,v.N.val,v.B.val] w fun e w'=>e = .returned (.tuple #[LP0.val,.int .i64 (hrErr h)])/\Below w w w':=by
 obtain ⟨n,L,O,U,N,B⟩:=v;have HC:=hdq fun W (hb:Below w w W)=>zVh (hA.below hb)
 dsimp only [SV.val] at HC;dsimp only [SV.val];have hne:(hrErr h != 0)=true:=by simpa using h0
 clear hA;generalize hrErr h=er at *;go_enter Tryz.func12,Tryz.ntmps12
 go_wp2_with fail
 refine zAg (fun W=>Below w w W/\Box2 W w (.int .i64 n) (.slice L.A L.n L.c)/\Box4 W (w+1) (.int .i64 0) (.slice none 0 0) (.slice none 0 0) (.slice none 0 0)/\w.heap.size<W.heap.size/\w.heap.size+1<W.heap.size) ⟨(az (az (brf _ _))),bx2,bx4,by simp <;> omega,by simp <;> omega⟩ ?_;rintro W ⟨hbW,bN,bR,s0,s1⟩;have hBW:=hbW.size;refine (HC.out W hbW).mono ?_;rintro e w1 ⟨rfl,hb1⟩;have c1:Below w w w1:=hbW.trans (hb1.mono hBW);have bR1:=bR.below hb1 s1;have t1:w.heap.size+1<w1.heap.size:=ltl s1 hb1.size;obtain ⟨z0,z1,z2,z3,z9⟩:=id bR1;obtain ⟨v0,v1,v2,v3,-⟩:=bR1.stored (.int .i64 0) (.slice none 0 0) (.slice none 0 0) (.slice none 0 0);have HBe:=hdq (zAl (x0:=.int .i64 0) (x1:=.slice none 0 0) (x2:=.slice none 0 0) (x3:=.slice none 0 0) (b:=w+1) c1 (by omega));clear hbW hb1 bN bR hBW c1 bR1;go_wp2;exact bodyPost_ret (v:=.tuple #[.agg #[.int .i64 0,.slice none 0 0,.slice none 0 0,.slice none 0 0],.int .i64 er]) (by simp [results,Tryz.results12,go_sem,v0,v1,v2,v3]) rfl ⟨rfl,HBe.out⟩
theorem LPC.keep {W W':World} {X:Nat->Prop} {h:Hr} {m:Mt} {p:LPV} (hL:LPC W X h m p) (hk:∀ a:Addr,X a.block->a.block<W->W'.cell? a=W.cell? a) (hs:W.heap.size<=W'.heap.size) (hf:∀ a,W'.frozen? a=W.frozen? a):LPC W' X h m p:=
 ⟨hL.hinv,hL.n,MatAt.keep (R':=QCan W' X) hL.o hk fun _ _ hq=>hq.keep hk,MatAt.keep (R':=QCan W' X) hL.r hk fun _ _ hq=>hq.keep hk,VecAt.keep (R':=QCan W' X) hL.b hk fun _ _ hq=>hq.keep hk,hL.ap.keep hk hs fun a _ _=>hf a⟩
theorem zXU {w:World} {b:Nat} {x0 x1 x2 x3:Value} {p:Addr} (hp:p.block ≠ b):((((w.setCell b x0).setCell ⟨b,1,none⟩ x1).setCell ⟨b,2,none⟩ x2).setCell ⟨b,3,none⟩ x3).cell? p=w.cell? p:=
 cob ((bhs _ _ _ _ hp).trans ((bhs _ _ _ _ hp).trans ((bhs _ _ _ _ hp).trans (bhs _ _ _ _ hp))))
def BldR (h:Hr) (w:World) (e:Ending) (w':World):Prop:=
 (hrErr h ≠ 0/\e = .returned (.tuple #[LP0.val,.int .i64 (hrErr h)]))\/(hrErr h=0/\∃ (p:LPV) (m:Mt),e = .returned (.tuple #[p.val,.int .i64 0])/\LPC w' (New w) h m p)
theorem zXz {w:World} {v:HrV} {h:Hr} (hA:HrAt w v h) :
  Calls Tryz.prog 12 #[.agg #[.int .i64 v.n,.slice v.L.A v.L.n v.L.c],v.O.val,v.U.val,v.N.val,v.B.val] w fun e w'=>BldR h w e w'/\Below w w w':=by
 by_cases h0:hrErr h=0
 ·exact (build_calls hA h0).mono fun e w' ⟨h1,h2⟩=>⟨.inr ⟨h0,h1⟩,h2⟩
 ·exact (zWe hA h0).mono fun e w' ⟨h1,h2⟩=>⟨.inl ⟨h0,h1⟩,h2⟩
end Mo
namespace Mo
attribute [local go_sem] Oper.semAt_some
theorem yAe {W:World} {D:Nat} {d:Option (List Deferred)} (h:W.heap[D]?=some (.deferred d)) (d':Option (List Deferred)) (a:Addr):(W.putObj D (.deferred d')).cell? a=W.cell? a:=by
 by_cases e:a.block=D
 ·have hl:=zAa h;have h2:(W.putObj D (.deferred d')).heap[D]?=some (.deferred d'):=by simp [World.putObj,hl]
  simp only [World.cell?,e,h,h2]
 ·exact cob (World.putObj_heap_other e)
theorem yAi (n:Nat):zeroS n=(List.replicate n (Value.slice none 0 0)).toArray:=by
 apply Array.ext_getElem?;intro k;by_cases hk:k<n
 ·rw [zWy n k hk]; simp [hk]
 ·rw [Array.getElem?_eq_none (by rw [zIb]; omega)]; simp [hk]
theorem zEO {w:World} {h:Hr} {U N B X:SV} {l:List Rat} (hu:UnitsAt w U h.units) (ho:OnAt w N h.on) (hb:BidsAt w B h.bids) (hx:VecCan w AllB AllB X l) (hf:∀ k,QFit LM (l.getD k 0)) (h0:hrErr h=0) :
  Calls Tryz.prog 20 #[U.val,N.val,B.val,X.val] w fun e w'=>(∃ s t:SV,e = .returned (.tuple #[s.val,t.val])/\MatCan w' (New w) (New w) s (bks (vars h) l false h.units.length (List.range (vars h).length))/\MatCan w' (New w) (New w) t (bks (vars h) l true h.bids.length (List.range (vars h).length)))/\Below w w w':=by
 obtain ⟨uA,un,uc⟩:=U;obtain ⟨nA,nn,nc⟩:=N;obtain ⟨bA,bn,bc⟩:=B;obtain ⟨xA,xn,xc⟩:=X;obtain ⟨r1,r2,r3,r4,r5⟩:=zUh h0;have Hst:Hid (∀ u ∈ h.units,u.steps.length<=3):=hdq fun u hu=>(zT8 (zVw (r3 u hu)).2.2.1).2.1
 have Hsb:Hid (∀ u ∈ h.bids,u.steps.length<=3):=hdq fun u hu=>(zT8 (zUs r5 u hu).2.2).2.1
 have Hvl:=hdq (zUU h0);have Hun:Hid (h.units.length=un):=hu.len;have Hbn:Hid (h.bids.length=bn):=hb.len;have un5:un<=5:=by have:=Hun.out; omega
 have bn6:bn<=6:=by have:=Hbn.out; omega
 have hu5:=r1;have hb6:=r2;have Hon:=hdq r4;have ule:un<=uc:=hu.le;have ucap:uc<=9223372036854775807:=hu.cap;have ble:bn<=bc:=hb.le;have bcap:bc<=9223372036854775807:=hb.cap;have xle:xn<=xc:=hx.le;have xcap:xc<=9223372036854775807:=hx.cap;have HU:=hdq hu;have HO:=hdq ho;have HB:=hdq hb;have HX:=hdq hx;have HF:=hdq hf;have hmk1:=zHV un (by omega);have hmk2:=zHV bn (by omega);clear hu ho hb hx hf r1 r2 r3 r4 r5 h0;dsimp only [SV.val];refine (callsIn_wide (n:=6)).1 ?_;refine callsIn_of_wp_marks Tryz.func20 rfl trivial ?_ rfl;simp only [Tryz.ntmps20,List.size_toArray,List.length_cons,List.length_nil,Nat.reduceAdd,Nat.reduceSub,Array.replicate_succ,Array.replicate_zero,List.push_toArray,List.append_toArray,List.nil_append,List.cons_append];gi_wp2;refine ⟨trivial,?_⟩;refine (zVL uA nA bA un uc nn nc bn bc).mono ?_;rintro e w2 ⟨rfl,rfl⟩;gi_wp2;obtain ⟨c,hc⟩:∃ c,c=w.heap.size:=⟨_,rfl⟩;obtain ⟨W0,hW0⟩:∃ W0,(((((((w.alloc (.cells #[.slice xA xn xc] 34)).alloc (.cells #[.slice (some ⟨w+1+1+1,0,none⟩) un un] 33)).alloc (.cells #[.slice (some ⟨w+1+1+1+1,0,none⟩) bn bn] 33)).alloc (.cells (zeroS un) 34)).alloc (.cells (zeroS bn) 34)).alloc (.cells #[.slice uA un uc] 26)).alloc (.cells #[.slice nA nn nc] 27)).alloc (.cells #[.slice bA bn bc] 28)=W0:=⟨_,rfl⟩;rw [hW0,<-hc];have hk0:Below w w W0:=by rw [<-hW0]; exact ((((((((brf _ w).alloc (nlr _) _).alloc (by simp) _).alloc (by simp; omega) _).alloc (by simp; omega) _).alloc (by simp; omega) _).alloc (by simp; omega) _).alloc (by simp; omega) _).alloc (by simp; omega) _
 have hs0:W0.heap.size=c+8:=by rw [<-hW0,hc]; simp
 have x0:W0.heap[c]?=some (.cells #[.slice xA xn xc] 34 (0,0)):=by rw [<-hW0,hc]; exact alk (alk (alk (alk (alk (alk (alk (zAd _ _ rfl)))))))
 have x1:W0.heap[c+1]?=some (.cells #[.slice (some ⟨c+3,0,none⟩) un un] 33 (0,0)):=by rw [<-hW0,hc]; exact alk (alk (alk (alk (alk (alk (zAd _ _ (by simp)))))))
 have x2:W0.heap[c+1+1]?=some (.cells #[.slice (some ⟨c+4,0,none⟩) bn bn] 33 (0,0)):=by rw [<-hW0,hc]; exact alk (alk (alk (alk (alk (zAd _ _ (by simp))))))
 have x3:W0.heap[c+3]?=some (.cells (zeroS un) 34 (0,0)):=by rw [<-hW0,hc]; exact alk (alk (alk (alk (zAd _ _ (by simp)))))
 have x4:W0.heap[c+4]?=some (.cells (zeroS bn) 34 (0,0)):=by rw [<-hW0,hc]; exact alk (alk (alk (zAd _ _ (by simp))))
 have y4:W0.cell? ⟨c+1+1+1+1+1,0,none⟩=some (.slice uA un uc):=by
  have e:W0.heap[c+1+1+1+1+1]?=some (.cells #[.slice uA un uc] 26 (0,0)):=by rw [<-hW0,hc]; exact alk (alk (zAd _ _ (by simp)))
  simp [World.cell?,e]
 have y5:W0.cell? ⟨c+1+1+1+1+1+1,0,none⟩=some (.slice nA nn nc):=by
  have e:W0.heap[c+1+1+1+1+1+1]?=some (.cells #[.slice nA nn nc] 27 (0,0)):=by rw [<-hW0,hc]; exact alk (zAd _ _ (by simp))
  simp [World.cell?,e]
 have y6:W0.cell? ⟨c+1+1+1+1+1+2,0,none⟩=some (.slice bA bn bc):=by
  have e:W0.heap[c+1+1+1+1+1+2]?=some (.cells #[.slice bA bn bc] 28 (0,0)):=by rw [<-hW0,hc]; exact zAd _ _ (by simp)
  simp [World.cell?,e]
 have HK0:=hdq hk0;have Hs:=hdq hs0;have hc1:w.heap.size<=c:=by omega
 have hc2:c<=w.heap.size:=by omega
 have HX0:=hdq x0;have HX1:=hdq x1;have HX2:=hdq x2
 have HJ0:Hid (BkI (n:=(vars h).length) w W0 c un bn (vars h) l [] W0):=hdq (by
  refine ⟨fun y=>y<W0.heap.size,_,_,_,_,by rw [List.map_nil,yAo]; exact Jag.nil (by omega) (by rw [<-yAi]; exact x3),by rw [List.map_nil,yAo]; exact Jag.nil (by omega) (by rw [<-yAi]; exact x4),?_,fun y hy=>by omega,fun y hy=>hy,by omega,hk0,Carry.refl _ _⟩;rintro y (rfl | ⟨i,hi,e⟩)
  ·rintro (e | ⟨i,hi,e⟩)
   ·omega
   ·simp [gdd,hi,Value.ownBlock] at e
  ·simp [gdd,hi,Value.ownBlock] at e)
 clear hW0 hc hk0 hs0 x0 x1 x2 x3 x4
 refine wpIn_rangeFunc_ownH (F:=Fence.wide) rfl (by omega) (gf:=103) (lb:=#[.pointer (some ⟨c+1+1+1+1+1,0,none⟩),.pointer (some ⟨c+1+1+1+1+1+1,0,none⟩),.pointer (some ⟨c+1+1+1+1+1+2,0,none⟩)]) rfl trivial (enters_of Tryz.func103 (by kernel_rfl) rfl)
  (zVK (X:=fun y=>y<c+8/\y ≠ c+3/\y ≠ c+4) (w0:=w) (h:=h) (U:=⟨uA,un,uc⟩) (N:=⟨nA,nn,nc⟩) (B:=⟨bA,bn,bc⟩) (by omega) y4 (by omega) y5 (by omega) y6 (by omega) HU.out HO.out HB.out (Carry.of_below HK0.out) (fun y hy=>by omega) Hon.out Hst.out Hsb.out hu5 hb6 (by have:=Hvl.out; omega))
  (fun h k=>h.trans k) (fun W l o o' _ hl ho _=>Carry.putObj o' hl ho) (brf _ _) (fun _=>rfl)
  (fun pre W=>BkI w W0 c un bn (vars h) l pre W)
  (fun _ _ _=>False)
  (BkI.own (by rw [Hs.out]; omega))
  (fun _ _ _ _ _ hs _ _=>hs)
  HJ0.out
  (fun (x1:Fin (vars h).length) (a':Act) (W:World)=>∃ q:Nat,a'={tmps:=#[.slice uA un uc,.slice nA nn nc,.slice bA bn bc,.slice xA xn xc,undef,undef,undef,.pointer (some c),.pointer (some ⟨c+1,0,none⟩),.pointer (some ⟨c+1+1,0,none⟩),.int .i64 (x1.val:Int),.pointer (some ⟨q,0,none⟩),undef,.slice uA un uc,.int .i64 (un:Int),.slice (some ⟨c+1+1+1,0,none⟩) un un,.slice bA bn bc,.int .i64 (bn:Int),.slice (some ⟨c+1+1+1+1,0,none⟩) bn bn,.slice uA un uc,.slice nA nn nc,.slice bA bn bc,.func (.func 103) #[] #[.pointer (some ⟨c+1+1+1+1+1,0,none⟩),.pointer (some ⟨c+1+1+1+1+1+1,0,none⟩),.pointer (some ⟨c+1+1+1+1+1+2,0,none⟩)],.int .i64 (x1.val:Int),.agg #[.bool ((vars h).getD x1.val vr0).bid,.int .i64 (((vars h).getD x1.val vr0).which:Int),.int .i64 (((vars h).getD x1.val vr0).step:Int)],undef,undef,undef,undef,undef,undef,undef,undef,undef,undef,undef,undef,undef,undef,undef,undef,undef,undef,undef,undef,undef,undef,undef,undef,undef,undef,undef,undef,undef,undef,undef,undef,undef,undef,undef,undef,undef],defers:=[]}/\W.heap[q]?=some (Obj.cells #[.bool ((vars h).getD x1.val vr0).bid,.int .i64 (((vars h).getD x1.val vr0).which:Int),.int .i64 (((vars h).getD x1.val vr0).step:Int)] 69 (0,0)))
  (fun x a' _ W W' row hs hg hr=>?hAx) ?assign ?body ?done ?stop
 case hAx=>
  obtain ⟨q,e,g1⟩:=hs;exact ⟨q,e,zAi hg (fun r e=>(hr r e).2) g1⟩
 case stop=>
  rintro D c pre W _ _ h _;exact h.elim
 case assign=>
  intro lp pre x1 W K hI hK;unfold colA;generalize (vars h).getD x1.val vr0=vr at *;gi_wp2;have al:Below W W (W.alloc (.cells #[.bool vr.bid,.int .i64 (vr.which:Int),.int .i64 (vr.step:Int)] 69)):=bal;have hgb:W.grownBy (W.alloc (.cells #[.bool vr.bid,.int .i64 (vr.which:Int),.int .i64 (vr.step:Int)] 69)) none:=⟨al.os,al.tape,al.output,al.size,fun k hk _=>al.block k hk⟩;exact hK _ _ ⟨al.size,fun k o _ hk _=>(al.block k (zAa hk)).trans hk⟩ (Carry.of_below al) (BkI.own (B:=w) (nlr _) _ _ _ _ hI hgb (fun r e=>by cases e)) ⟨W.heap.size,rfl,zAd _ _ rfl⟩
 case body=>
  rintro lp pre x1 a' W _ _ ⟨G,vs1,qs1,vs2,qs2,hJ1,hJ2,hD,hGo,hGl,hn,hB,hcar⟩ ⟨q,rfl,g1⟩ hlt;have hvm:(vars h).getD x1.val vr0 ∈ vars h:=by rw [gdd,gge x1.isLt]; exact List.getElem_mem x1.isLt
  have HIn:=hdq (zYR hvm);have HPm:Hid ((pre++[x1]).map Fin.val=pre.map Fin.val++[x1.val]):=hdq (by simp);have HV1:=hdq (fun (i:Nat) (hi:i<un)=>yAn (vars h) l (bid:=false) (n:=un) (i:=i) (k:=x1.val) (pre.map Fin.val) hi);have HV2:=hdq (fun (i:Nat) (hi:i<bn)=>yAn (vars h) l (bid:=true) (n:=bn) (i:=i) (k:=x1.val) (pre.map Fin.val) hi);have HM1:=hdq (yAk (vars h) l (bid:=false) (n:=un) (k:=x1.val) (pre.map Fin.val));have HM2:=hdq (yAk (vars h) l (bid:=true) (n:=bn) (k:=x1.val) (pre.map Fin.val));have Hx1:Hid (x1.val<33):=hdq (by have:=Hvl.out; have:=x1.isLt; omega);clear hvm;have HPl:Hid (pre.length<=33):=hdq (by have:=Hvl.out; omega);generalize hvr:(vars h).getD x1.val vr0=vr at *;clear hvr;have k7:W.cell? c=some (.slice xA xn xc):=hcar.cell (p:=c) (by dsimp only; omega) (by simp [World.cell?,HX0.out]);have k8:W.cell? ⟨c+1,0,none⟩=some (.slice (some ⟨c+3,0,none⟩) un un):=hcar.cell (p:=⟨c+1,0,none⟩) (by dsimp only; omega) (by simp [World.cell?,HX1.out]);have k9:W.cell? ⟨c+1+1,0,none⟩=some (.slice (some ⟨c+4,0,none⟩) bn bn):=hcar.cell (p:=⟨c+1+1,0,none⟩) (by dsimp only; omega) (by simp [World.cell?,HX2.out]);have g0:W.cell? q=some (.bool vr.bid):=by simp [World.cell?,g1]
  have g2:W.cell? ⟨q,1,none⟩=some (.int .i64 (vr.which:Int)):=by simp [World.cell?,g1]
  have K8:=hdq k8;have K9:=hdq k9;have G0:=hdq g0;have G2:=hdq g2;have ql:=zAa g1;have Hq:=hdq g1;have HJ1:=hdq hJ1;have HJ2:=hdq hJ2;have HDj:=hdq hD;have HGo:=hdq hGo;have HGl:=hdq hGl;have HBw:=hdq hB;have HCar:=hdq hcar;have hWs:=hB.size;have hWd:c+8<=W.heap.size:=hn;clear g1 hJ1 hJ2 hD hGo hGl hB hcar hn k8 k9 g0 g2;obtain ⟨pq,hpq⟩:∃ pq,pq=W.heap.size:=⟨_,rfl⟩;obtain ⟨Wa,hWa⟩:∃ Wa,W.alloc (.cells #[.bool false,.slice none 0 0,.bool false,.slice none 0 0] 80)=Wa:=⟨_,rfl⟩;have al:Below W W Wa:=by rw [<-hWa]; exact bal
  have bP:Box4 Wa pq (.bool false) (.slice none 0 0) (.bool false) (.slice none 0 0):=by
   subst hWa; subst hpq; exact bx4
  have hsa:Wa.heap.size=pq+1:=by rw [<-hWa,hpq]; simp
  have hpl:pq<Wa.heap.size:=by omega
  have hqp:¬ q=pq:=by omega
  have tx0:c<W.heap.size:=by omega
  by_cases hlx:x1.val<xn
  ·have hxi:(x1.val:Int)<(xn:Int):=(by omega);obtain ⟨xad,xv,e,-,⟨d0,d1,d2,d3⟩,hxq⟩:=(HX.out.belowC HBw.out).elem x1.val hlx;dsimp only at e d0 d1 d2 d3;subst e;have tx:=zAb d0;have Hxq:=hdq ((hxq.qis (HF.out x1.val)).below al);have Hal:=hdq al;have Hsa:=hdq hsa;have HbP:=hdq bP;have HWa:=hdq hWa;have Hpq:=hdq hpq;clear hxq al hsa bP hWa hpq;gi_wp2;rw [HWa.out,<-Hpq.out];clear d0 d1 d2 d3 tx k7;refine ⟨trivial,(CallsIn.inRound lp (callsIn_wide.2 (zAT Hxq.out (nlr _)))).mono ?_⟩;rintro e w1 ⟨⟨z,rfl,hzq⟩,hb1⟩;have c1:Below W W w1:=Hal.out.trans (hb1.mono Hal.out.size);have bP1:=HbP.out.below hb1 hpl;obtain ⟨p0,p1,p2,p3,pf⟩:=id bP1;have hpl1:pq<w1.heap.size:=ltl hpl hb1.size;have HBm:=hdq (zAl (b:=pq) (x0:=.bool z.num.ng) (x1:=.slice z.num.A z.num.n z.num.c) (x2:=.bool z.den.ng) (x3:=.slice z.den.A z.den.n z.den.c) c1 (by rw [Hpq.out]; exact nlr _));have bPm:=bP1.stored (.bool z.num.ng) (.slice z.num.A z.num.n z.num.c) (.bool z.den.ng) (.slice z.den.A z.den.n z.den.c);have HZq:Hid (QCan ((((w1.setCell pq (.bool z.num.ng)).setCell ⟨pq,1,none⟩ (.slice z.num.A z.num.n z.num.c)).setCell ⟨pq,2,none⟩ (.bool z.den.ng)).setCell ⟨pq,3,none⟩ (.slice z.den.A z.den.n z.den.c)) (fun b=>¬ G b) z (l.getD x1.val 0)):=hdq ((hzq.keep fun a ha _=>zXU (by simp only [New] at ha; have:=Hsa.out; omega)).imp fun b _ hb hG=>by have:=HGl.out b hG; simp only [New] at hb; have:=Hsa.out; have:=Hpq.out; omega);have g0:=cellB c1 G0.out;have tq:=zAb g0;have HPm4:=hdq bPm;clear hzq c1 bP1 hb1 bPm Hxq;rcases HIn.out with ⟨i1,hwl,-⟩ | ⟨i1,hwl,-⟩
   ·rw [Hun.out] at hwl;have HI1:=hdq i1;rw [i1] at g0;clear i1;gi_wp2;generalize (((w1.setCell pq (.bool z.num.ng)).setCell ⟨pq,1,none⟩ (.slice z.num.A z.num.n z.num.c)).setCell ⟨pq,2,none⟩ (.bool z.den.ng)).setCell ⟨pq,3,none⟩ (.slice z.den.A z.den.n z.den.c)=Wm at *;clear g0 tq p0 p1 p2 p3 pf hpl1;have bPm:=HPm4.out;have hB1:=HBm.out;have hW9:=hB1.size;have hFB:Fr (fun _=>False) W Wm:=Fr.of_below hB1;have hMo:More W G G:=⟨fun _ h=>h,fun _ h=>.inl h⟩;have HJa:=hdq (HJ1.out.keep hFB (fun _ _ e=>e) (fun _ e=>e.elim) hMo);have HJb:=hdq (HJ2.out.keep hFB (fun _ _ e=>e) (fun _ e=>e.elim) hMo);have k8:Wm.cell? ⟨c+1,0,none⟩=some (.slice (some ⟨c+3,0,none⟩) un un):=cellB hB1 K8.out;have g2:Wm.cell? ⟨q,1,none⟩=some (.int .i64 (vr.which:Int)):=cellB hB1 G2.out;have hwi:=hwl;have hwii:(vr.which:Int)<(un:Int):=(by omega);have hrow:=(HJa.out.row vr.which hwi);obtain ⟨vA,vc,hvf,vle,vcap⟩:=zKU hrow.own
    have ci:Wm.cell? ⟨c+3,vr.which,none⟩=some (.slice vA ((bks (vars h) l false un (pre.map Fin.val)).getD vr.which []).length vc):=by
     have hil:vr.which<vs1.length:=by rw [HJa.out.len]; exact hwi
     simp only [World.cell?,HJa.out.blk];rw [<-hvf,gdd,gge hil];simp [hil]
    have hkl:((bks (vars h) l false un (pre.map Fin.val)).getD vr.which []).length<=33:=by
     rw [yAh _ _ _ _ hwi];unfold bk;rw [List.length_map];have h1:=List.length_filter_le (fun j=>(((vars h).getD j vr0).bid == false && ((vars h).getD j vr0).which == vr.which)) (pre.map Fin.val);have:=HPl.out;rw [List.length_map] at h1;omega
    have Hvf:=hdq hvf;have HOwn:=hdq hrow.own;obtain ⟨kr,hkr⟩:∃ kr,kr=((bks (vars h) l false un (pre.map Fin.val)).getD vr.which []).length:=⟨_,rfl⟩;rw [<-hkr] at ci hkl vle;have Hkr:=hdq hkr;obtain ⟨p0,p1,p2,p3,-⟩:=bPm;have tk:=zAb k8;have tg:=zAb g2;have tp:=zAb p0;have ti:=zAb ci;dsimp only at tk tg tp ti;obtain ⟨iq0,hiq,hzq0,hzq1,hzq2⟩:=info_parts zEv;clear hrow hvf hkr hFB hMo;gi_wp2;have hdr0:Sees 0 [] Wm Wm.drew:=Sees.st (by simp) (nzl _);have k8d:Wm.drew.cell? ⟨c+1,0,none⟩=some (.slice (some ⟨c+3,0,none⟩) un un):=k8;have g2d:Wm.drew.cell? ⟨q,1,none⟩=some (.int .i64 (vr.which:Int)):=g2;refine zBi 10 (fun f w'=>(f=false->Sees 0 [] Wm w')/\w'.cell? ⟨c+1,0,none⟩=some (.slice (some ⟨c+3,0,none⟩) un un)/\w'.cell? ⟨q,1,none⟩=some (.int .i64 (vr.which:Int))) (by kernel_rfl) (by kernel_rfl) (by rintro ⟨_,_,h⟩; exact h) ?_;refine tkE 0 (.slice (some ⟨c+3,0,none⟩) un un) (fun w' hSw=>?_) (⟨fun _=>hdr0,k8d,g2d⟩) ?_
    ·(obtain ⟨_,-,hSw,-⟩:=hSw; go_simp; try with_reducible rfl)
    simp only [zz];refine tx1 1 (⟨fun _=>hdr0,k8d,g2d⟩) ?_;refine tkE 2 (.int .i64 (vr.which:Int)) (fun w' hSw=>?_) (⟨fun _=>hdr0,k8d,g2d⟩) ?_
    ·(obtain ⟨_,-,-,hSw⟩:=hSw; go_simp; try with_reducible rfl)
    simp only [zz];refine tkE 3 (.slice (some ⟨c+3,0,none⟩) un un) (fun w' hSw=>?_) (⟨fun _=>hdr0,k8d,g2d⟩) ?_
    ·(obtain ⟨_,-,hSw,-⟩:=hSw; go_simp; try with_reducible rfl)
    simp only [zz];refine tx1 4 (⟨fun _=>hdr0,k8d,g2d⟩) ?_;refine tkE 5 (.int .i64 (vr.which:Int)) (fun w' hSw=>?_) (⟨fun _=>hdr0,k8d,g2d⟩) ?_
    ·(obtain ⟨_,-,-,hSw⟩:=hSw; go_simp; try with_reducible rfl)
    simp only [zz];refine tx1 6 (⟨fun _=>hdr0,k8d,g2d⟩) ?_;refine tkW 7 (.slice vA kr vc) (fun w' hSw=>?_) (⟨fun _=>hdr0,k8d,g2d⟩) ?_
    ·(replace hSw:=hSw.1 rfl; go_simp; try with_reducible rfl)
    simp only [zz];refine tkV 8 9 (z.val) (fun w' hSw=>?_) (⟨fun _=>hdr0,k8d,g2d⟩) ?_
    ·(replace hSw:=hSw.1 rfl; go_simp; try with_reducible rfl)
    simp only [zz];refine tk1 9 ?_;intro K hK;go_simp;have hk9:(Wm.alloc (.cells #[.bool z.num.ng,.slice z.num.A z.num.n z.num.c,.bool z.den.ng,.slice z.den.A z.den.n z.den.c] 80)).drew.cell? ⟨c+1,0,none⟩=some (.slice (some ⟨c+3,0,none⟩) un un):=by rw [<-k8]; exact cob (Below.heap_alloc _ _ _ tk)
    have hg9:(Wm.alloc (.cells #[.bool z.num.ng,.slice z.num.A z.num.n z.num.c,.bool z.den.ng,.slice z.den.A z.den.n z.den.c] 80)).drew.cell? ⟨q,1,none⟩=some (.int .i64 (vr.which:Int)):=by rw [<-g2]; exact cob (Below.heap_alloc _ _ _ tg)
    refine hK.out _ _ ⟨fun _=>hdr0.kept.undrew.sees.al.dr,hk9,hg9⟩ ?_;clear hK K;refine tk1 10 ?_;intro K hK
    have hownd:(Wm.alloc (.cells #[.bool z.num.ng,.slice z.num.A z.num.n z.num.c,.bool z.den.ng,.slice z.den.A z.den.n z.den.c] 80)).drew.ownsRow (c+8) 80 4 (.slice vA kr vc) kr ((qs1.getD vr.which []).flatMap cells4q):=by
     have:=HOwn.out;rw [Hvf.out,<-Hkr.out] at this;exact this.alloc _
    refine zAq _ _ 34 rfl (c+8) 80 iq0 (.agg #[.bool false,.slice none 0 0,.bool false,.slice none 0 0]) 4 64 Tryz.underlying34 hiq hzq0 hzq1 hzq2 rfl (by decide) (.slice vA kr vc) kr ((qs1.getD vr.which []).flatMap cells4q) rfl hownd ⟨Wm,0,none⟩ 1 1 (cells4q z) rfl rfl (zA1 Wm z) (by intro u hu; simp [cells4q] at hu; rcases hu with rfl | rfl | rfl | rfl <;> rfl) (by simp [maxLen]; omega) (by omega) (by simp; omega) ?_;intro v' W5 hown5 hg5 hnil5 hat5;obtain ⟨g5,c5,rfl⟩:=ownsRow_succ hown5
    have hg5':(Wm.alloc (.cells #[.bool z.num.ng,.slice z.num.A z.num.n z.num.c,.bool z.den.ng,.slice z.den.A z.den.n z.den.c] 80)).grownBy W5 (vs1.getD vr.which undef).ownBlock:=by
     rw [Hvf.out,<-Hkr.out]; exact ⟨hg5.os,hg5.tape,hg5.output,hg5.size,hg5.block⟩
    rw [Hkr.out] at hown5
    have hat5':(Value.slice (some g5) (kr+1) c5).ownBlock=(vs1.getD vr.which undef).ownBlock\/(Value.slice (some g5) (kr+1) c5).ownBlock=some (Wm.alloc (.cells #[.bool z.num.ng,.slice z.num.A z.num.n z.num.c,.bool z.den.ng,.slice z.den.A z.den.n z.den.c] 80)).heap.size:=by
     rw [Hvf.out,<-Hkr.out]; exact hat5
    rw [Hkr.out] at hat5';obtain ⟨G',vs9,qs9,b1,b2,b3,b4,b5,b6,b7,b8,b9⟩:=yAj HJa.out HJb.out HDj.out (fun y hy=>ltl (HGl.out y hy) hW9) hwi HZq.out hown5 hg5' hat5';rw [<-Hkr.out] at hown5 hat5' b1 b2 b5 b6;rw [Hvf.out,<-Hkr.out] at b7;have hql:Wm.heap[q]?=some (.cells #[.bool vr.bid,.int .i64 (vr.which:Int),.int .i64 (vr.step:Int)] 69 (0,0)):=(hB1.block q ql).trans Hq.out
    have nq9:¬ (vs1.getD vr.which undef).ownBlock=some q:=fun e=>by
     obtain ⟨_,cs,hh⟩:=zAc HOwn.out e;exact zXA hh hql (by decide)
    have nqg:¬ q=c+3:=zAy hql HJa.out.blk (by decide);have hor:∀ y,(vs1.getD vr.which undef).ownBlock=some y->c+8<=y:=(fun y e=>(zAc HOwn.out e).1);have d5:W5.cell? ⟨c+1,0,none⟩=some (.slice (some ⟨c+3,0,none⟩) un un):=(b9.cell tk (fun e=>by have:=hor _ e; dsimp only at this; omega)).trans k8;have d6:W5.cell? ⟨q,1,none⟩=some (.int .i64 (vr.which:Int)):=(b9.cell tg nq9).trans g2;have hKF:=yAg 0 b6 (fun y hy=>HJa.out.cellsB hwi hy);have hCF:Carry (fun y=>y<c+8/\y ≠ c+3/\y ≠ c+4) Wm (W5.setCell ⟨c+3,vr.which,none⟩ (.slice (some g5) (kr+1) c5)):=yAf b6 fun y hX hy=>hy.elim (fun e=>by omega) fun e=>by have:=hor _ e; omega
    have hBF:Below w Wm (W5.setCell ⟨c+3,vr.which,none⟩ (.slice (some g5) (kr+1) c5)):=b6.below (by omega) (fun y hy=>hy.elim (fun e=>by omega) fun e=>by have:=hor _ e; omega);have d7:(W5.setCell ⟨c+3,vr.which,none⟩ (.slice (some g5) (kr+1) c5)).cell? ⟨c+1,0,none⟩=some (.slice (some ⟨c+3,0,none⟩) un un):=(b6.cell tk (fun e=>e.elim (fun e=>by dsimp only at e; omega) fun e=>by have:=hor _ e; dsimp only at this; omega)).trans k8;have d8:(W5.setCell ⟨c+3,vr.which,none⟩ (.slice (some g5) (kr+1) c5)).cell? ⟨q,1,none⟩=some (.int .i64 (vr.which:Int)):=(b6.cell tg (fun e=>e.elim nqg nq9)).trans g2;simp only [Act.put,zz];refine hK.out _ _ ⟨fun h=>absurd h (by decide),d5,d6⟩ ?_;clear hK K;have hS5:=b6.size
    have HFin:Hid (KeepsFrom W0 W (W5.setCell ⟨c+3,vr.which,none⟩ (.slice (some g5) (kr+1) c5))/\Carry (fun y=>y<c+8/\y ≠ c+3/\y ≠ c+4) W (W5.setCell ⟨c+3,vr.which,none⟩ (.slice (some g5) (kr+1) c5))/\BkI w W0 c un bn (vars h) l (pre++[x1]) (W5.setCell ⟨c+3,vr.which,none⟩ (.slice (some g5) (kr+1) c5))):=hdq (by
     refine ⟨⟨nlt hB1.size b6.size,fun k o _ hk ho=>hKF.same k o (nzl _) ((hB1.block k (zAa hk)).trans hk) ho⟩,(Carry.of_below hB1).trans hCF,?_⟩;refine ⟨G',vs9,qs9,vs2,qs2,by rw [HPm.out,HV1.out _ hwi HI1.out rfl]; exact b1,by rw [HPm.out,HM2.out (by rw [HI1.out]; decide)]; exact b2,b3,fun y hy=>b4 y (HGo.out y hy),b5,nlt hWd (nlt hB1.size b6.size),HBw.out.trans ((hB1.mono HBw.out.size).trans hBF),HCar.out.trans ((Carry.of_below hB1).trans hCF)⟩)
    have b8':=b8 vr.which;clear hownd hown5 hg5 hg5' hat5 hat5' hnil5 hdr0 b1 b2 b3 b4 b5 b6 b8 b9 hk9 hg9 hKF hCF hBF hql nq9 hor k8 g2 k8d g2d ci p0 p1 p2 p3;refine tx1 11 (⟨fun h=>absurd h (by decide),d5,d6⟩) ?_;refine tk1 12 ?_;intro K hK;go_simp;refine hK.out _ _ ⟨fun h=>absurd h (by decide),d7,d8⟩ ?_;clear hK K;refine zAf (by kernel_rfl) ?_ _;gi_wp2;exact HFin.out
   ·rw [Hbn.out] at hwl;have HI1:=hdq i1;rw [i1] at g0;clear i1;gi_wp2;generalize (((w1.setCell pq (.bool z.num.ng)).setCell ⟨pq,1,none⟩ (.slice z.num.A z.num.n z.num.c)).setCell ⟨pq,2,none⟩ (.bool z.den.ng)).setCell ⟨pq,3,none⟩ (.slice z.den.A z.den.n z.den.c)=Wm at *;clear g0 tq p0 p1 p2 p3 pf hpl1;have bPm:=HPm4.out;have hB1:=HBm.out;have hW9:=hB1.size;have hFB:Fr (fun _=>False) W Wm:=Fr.of_below hB1;have hMo:More W G G:=⟨fun _ h=>h,fun _ h=>.inl h⟩;have HJa:=hdq (HJ2.out.keep hFB (fun _ _ e=>e) (fun _ e=>e.elim) hMo);have HJb:=hdq (HJ1.out.keep hFB (fun _ _ e=>e) (fun _ e=>e.elim) hMo);have k8:Wm.cell? ⟨c+1+1,0,none⟩=some (.slice (some ⟨c+4,0,none⟩) bn bn):=cellB hB1 K9.out;have g2:Wm.cell? ⟨q,1,none⟩=some (.int .i64 (vr.which:Int)):=cellB hB1 G2.out;have hwi:=hwl;have hwii:(vr.which:Int)<(bn:Int):=(by omega);have hrow:=(HJa.out.row vr.which hwi);obtain ⟨vA,vc,hvf,vle,vcap⟩:=zKU hrow.own
    have ci:Wm.cell? ⟨c+4,vr.which,none⟩=some (.slice vA ((bks (vars h) l true bn (pre.map Fin.val)).getD vr.which []).length vc):=by
     have hil:vr.which<vs2.length:=by rw [HJa.out.len]; exact hwi
     simp only [World.cell?,HJa.out.blk];rw [<-hvf,gdd,gge hil];simp [hil]
    have hkl:((bks (vars h) l true bn (pre.map Fin.val)).getD vr.which []).length<=33:=by
     rw [yAh _ _ _ _ hwi];unfold bk;rw [List.length_map];have h1:=List.length_filter_le (fun j=>(((vars h).getD j vr0).bid == true && ((vars h).getD j vr0).which == vr.which)) (pre.map Fin.val);have:=HPl.out;rw [List.length_map] at h1;omega
    have Hvf:=hdq hvf;have HOwn:=hdq hrow.own;obtain ⟨kr,hkr⟩:∃ kr,kr=((bks (vars h) l true bn (pre.map Fin.val)).getD vr.which []).length:=⟨_,rfl⟩;rw [<-hkr] at ci hkl vle;have Hkr:=hdq hkr;obtain ⟨p0,p1,p2,p3,-⟩:=bPm;have tk:=zAb k8;have tg:=zAb g2;have tp:=zAb p0;have ti:=zAb ci;dsimp only at tk tg tp ti;obtain ⟨iq0,hiq,hzq0,hzq1,hzq2⟩:=info_parts zEv;clear hrow hvf hkr hFB hMo;gi_wp2;have hdr0:Sees 0 [] Wm Wm.drew:=Sees.st (by simp) (nzl _);have k8d:Wm.drew.cell? ⟨c+1+1,0,none⟩=some (.slice (some ⟨c+4,0,none⟩) bn bn):=k8;have g2d:Wm.drew.cell? ⟨q,1,none⟩=some (.int .i64 (vr.which:Int)):=g2;refine zBi 10 (fun f w'=>(f=false->Sees 0 [] Wm w')/\w'.cell? ⟨c+1+1,0,none⟩=some (.slice (some ⟨c+4,0,none⟩) bn bn)/\w'.cell? ⟨q,1,none⟩=some (.int .i64 (vr.which:Int))) (by kernel_rfl) (by kernel_rfl) (by rintro ⟨_,_,h⟩; exact h) ?_;refine tkE 0 (.slice (some ⟨c+4,0,none⟩) bn bn) (fun w' hSw=>?_) (⟨fun _=>hdr0,k8d,g2d⟩) ?_
    ·(obtain ⟨_,-,hSw,-⟩:=hSw; go_simp; try with_reducible rfl)
    simp only [zz];refine tx1 1 (⟨fun _=>hdr0,k8d,g2d⟩) ?_;refine tkE 2 (.int .i64 (vr.which:Int)) (fun w' hSw=>?_) (⟨fun _=>hdr0,k8d,g2d⟩) ?_
    ·(obtain ⟨_,-,-,hSw⟩:=hSw; go_simp; try with_reducible rfl)
    simp only [zz];refine tkE 3 (.slice (some ⟨c+4,0,none⟩) bn bn) (fun w' hSw=>?_) (⟨fun _=>hdr0,k8d,g2d⟩) ?_
    ·(obtain ⟨_,-,hSw,-⟩:=hSw; go_simp; try with_reducible rfl)
    simp only [zz];refine tx1 4 (⟨fun _=>hdr0,k8d,g2d⟩) ?_;refine tkE 5 (.int .i64 (vr.which:Int)) (fun w' hSw=>?_) (⟨fun _=>hdr0,k8d,g2d⟩) ?_
    ·(obtain ⟨_,-,-,hSw⟩:=hSw; go_simp; try with_reducible rfl)
    simp only [zz];refine tx1 6 (⟨fun _=>hdr0,k8d,g2d⟩) ?_;refine tkW 7 (.slice vA kr vc) (fun w' hSw=>?_) (⟨fun _=>hdr0,k8d,g2d⟩) ?_
    ·(replace hSw:=hSw.1 rfl; go_simp; try with_reducible rfl)
    simp only [zz];refine tkV 8 9 (z.val) (fun w' hSw=>?_) (⟨fun _=>hdr0,k8d,g2d⟩) ?_
    ·(replace hSw:=hSw.1 rfl; go_simp; try with_reducible rfl)
    simp only [zz];refine tk1 9 ?_;intro K hK;go_simp;have hk9:(Wm.alloc (.cells #[.bool z.num.ng,.slice z.num.A z.num.n z.num.c,.bool z.den.ng,.slice z.den.A z.den.n z.den.c] 80)).drew.cell? ⟨c+1+1,0,none⟩=some (.slice (some ⟨c+4,0,none⟩) bn bn):=by rw [<-k8]; exact cob (Below.heap_alloc _ _ _ tk)
    have hg9:(Wm.alloc (.cells #[.bool z.num.ng,.slice z.num.A z.num.n z.num.c,.bool z.den.ng,.slice z.den.A z.den.n z.den.c] 80)).drew.cell? ⟨q,1,none⟩=some (.int .i64 (vr.which:Int)):=by rw [<-g2]; exact cob (Below.heap_alloc _ _ _ tg)
    refine hK.out _ _ ⟨fun _=>hdr0.kept.undrew.sees.al.dr,hk9,hg9⟩ ?_;clear hK K;refine tk1 10 ?_;intro K hK
    have hownd:(Wm.alloc (.cells #[.bool z.num.ng,.slice z.num.A z.num.n z.num.c,.bool z.den.ng,.slice z.den.A z.den.n z.den.c] 80)).drew.ownsRow (c+8) 80 4 (.slice vA kr vc) kr ((qs2.getD vr.which []).flatMap cells4q):=by
     have:=HOwn.out;rw [Hvf.out,<-Hkr.out] at this;exact this.alloc _
    refine zAq _ _ 34 rfl (c+8) 80 iq0 (.agg #[.bool false,.slice none 0 0,.bool false,.slice none 0 0]) 4 64 Tryz.underlying34 hiq hzq0 hzq1 hzq2 rfl (by decide) (.slice vA kr vc) kr ((qs2.getD vr.which []).flatMap cells4q) rfl hownd ⟨Wm,0,none⟩ 1 1 (cells4q z) rfl rfl (zA1 Wm z) (by intro u hu; simp [cells4q] at hu; rcases hu with rfl | rfl | rfl | rfl <;> rfl) (by simp [maxLen]; omega) (by omega) (by simp; omega) ?_;intro v' W5 hown5 hg5 hnil5 hat5;obtain ⟨g5,c5,rfl⟩:=ownsRow_succ hown5
    have hg5':(Wm.alloc (.cells #[.bool z.num.ng,.slice z.num.A z.num.n z.num.c,.bool z.den.ng,.slice z.den.A z.den.n z.den.c] 80)).grownBy W5 (vs2.getD vr.which undef).ownBlock:=by
     rw [Hvf.out,<-Hkr.out]; exact ⟨hg5.os,hg5.tape,hg5.output,hg5.size,hg5.block⟩
    rw [Hkr.out] at hown5
    have hat5':(Value.slice (some g5) (kr+1) c5).ownBlock=(vs2.getD vr.which undef).ownBlock\/(Value.slice (some g5) (kr+1) c5).ownBlock=some (Wm.alloc (.cells #[.bool z.num.ng,.slice z.num.A z.num.n z.num.c,.bool z.den.ng,.slice z.den.A z.den.n z.den.c] 80)).heap.size:=by
     rw [Hvf.out,<-Hkr.out]; exact hat5
    rw [Hkr.out] at hat5';obtain ⟨G',vs9,qs9,b1,b2,b3,b4,b5,b6,b7,b8,b9⟩:=yAj HJa.out HJb.out (fun y h1 h2=>HDj.out y h2 h1) (fun y hy=>ltl (HGl.out y hy) hW9) hwi HZq.out hown5 hg5' hat5';rw [<-Hkr.out] at hown5 hat5' b1 b2 b5 b6;rw [Hvf.out,<-Hkr.out] at b7;have hql:Wm.heap[q]?=some (.cells #[.bool vr.bid,.int .i64 (vr.which:Int),.int .i64 (vr.step:Int)] 69 (0,0)):=(hB1.block q ql).trans Hq.out
    have nq9:¬ (vs2.getD vr.which undef).ownBlock=some q:=fun e=>by
     obtain ⟨_,cs,hh⟩:=zAc HOwn.out e;exact zXA hh hql (by decide)
    have nqg:¬ q=c+4:=zAy hql HJa.out.blk (by decide);have hor:∀ y,(vs2.getD vr.which undef).ownBlock=some y->c+8<=y:=(fun y e=>(zAc HOwn.out e).1);have d5:W5.cell? ⟨c+1+1,0,none⟩=some (.slice (some ⟨c+4,0,none⟩) bn bn):=(b9.cell tk (fun e=>by have:=hor _ e; dsimp only at this; omega)).trans k8;have d6:W5.cell? ⟨q,1,none⟩=some (.int .i64 (vr.which:Int)):=(b9.cell tg nq9).trans g2;have hKF:=yAg 0 b6 (fun y hy=>HJa.out.cellsB hwi hy);have hCF:Carry (fun y=>y<c+8/\y ≠ c+3/\y ≠ c+4) Wm (W5.setCell ⟨c+4,vr.which,none⟩ (.slice (some g5) (kr+1) c5)):=yAf b6 fun y hX hy=>hy.elim (fun e=>by omega) fun e=>by have:=hor _ e; omega
    have hBF:Below w Wm (W5.setCell ⟨c+4,vr.which,none⟩ (.slice (some g5) (kr+1) c5)):=b6.below (by omega) (fun y hy=>hy.elim (fun e=>by omega) fun e=>by have:=hor _ e; omega);have d7:(W5.setCell ⟨c+4,vr.which,none⟩ (.slice (some g5) (kr+1) c5)).cell? ⟨c+1+1,0,none⟩=some (.slice (some ⟨c+4,0,none⟩) bn bn):=(b6.cell tk (fun e=>e.elim (fun e=>by dsimp only at e; omega) fun e=>by have:=hor _ e; dsimp only at this; omega)).trans k8;have d8:(W5.setCell ⟨c+4,vr.which,none⟩ (.slice (some g5) (kr+1) c5)).cell? ⟨q,1,none⟩=some (.int .i64 (vr.which:Int)):=(b6.cell tg (fun e=>e.elim nqg nq9)).trans g2;simp only [Act.put,zz];refine hK.out _ _ ⟨fun h=>absurd h (by decide),d5,d6⟩ ?_;clear hK K;have hS5:=b6.size
    have HFin:Hid (KeepsFrom W0 W (W5.setCell ⟨c+4,vr.which,none⟩ (.slice (some g5) (kr+1) c5))/\Carry (fun y=>y<c+8/\y ≠ c+3/\y ≠ c+4) W (W5.setCell ⟨c+4,vr.which,none⟩ (.slice (some g5) (kr+1) c5))/\BkI w W0 c un bn (vars h) l (pre++[x1]) (W5.setCell ⟨c+4,vr.which,none⟩ (.slice (some g5) (kr+1) c5))):=hdq (by
     refine ⟨⟨nlt hB1.size b6.size,fun k o _ hk ho=>hKF.same k o (nzl _) ((hB1.block k (zAa hk)).trans hk) ho⟩,(Carry.of_below hB1).trans hCF,?_⟩;refine ⟨G',vs1,qs1,vs9,qs9,by rw [HPm.out,HM1.out (by rw [HI1.out]; decide)]; exact b2,by rw [HPm.out,HV2.out _ hwi HI1.out rfl]; exact b1,fun y h1 h2=>b3 y h2 h1,fun y hy=>b4 y (HGo.out y hy),b5,nlt hWd (nlt hB1.size b6.size),HBw.out.trans ((hB1.mono HBw.out.size).trans hBF),HCar.out.trans ((Carry.of_below hB1).trans hCF)⟩)
    have b8':=b8 vr.which;clear hownd hown5 hg5 hg5' hat5 hat5' hnil5 hdr0 b1 b2 b3 b4 b5 b6 b8 b9 hk9 hg9 hKF hCF hBF hql nq9 hor k8 g2 k8d g2d ci p0 p1 p2 p3;refine tx1 11 (⟨fun h=>absurd h (by decide),d5,d6⟩) ?_;refine tk1 12 ?_;intro K hK;go_simp;refine hK.out _ _ ⟨fun h=>absurd h (by decide),d7,d8⟩ ?_;clear hK K;refine zAf (by kernel_rfl) ?_ _;gi_wp2;exact HFin.out
  ·have hxi:¬ (x1.val:Int)<(xn:Int):=by omega
   have hl0:l.getD x1.val 0=0:=by
    have:=HX.out.len;dsimp only at this;rw [gdd,List.getElem?_eq_none (by omega)]; rfl
   have HBm:=hdq al;have HWa:=hdq hWa;have Hpq:=hdq hpq;obtain ⟨z,HbP,HZq⟩:∃ z:QV,Hid (Box4 Wa pq (.bool z.num.ng) (.slice z.num.A z.num.n z.num.c) (.bool z.den.ng) (.slice z.den.A z.den.n z.den.c))/\Hid (QCan Wa (fun b=>¬ G b) z (l.getD x1.val 0)):=⟨QV.zero,bP,hdq (by rw [hl0]; exact QCan.zero _ _)⟩;have tq:=ql;clear al bP hWa hsa hl0 hpq;rcases HIn.out with ⟨i1,hwl,-⟩ | ⟨i1,hwl,-⟩
   ·rw [Hun.out] at hwl;have HI1:=hdq i1;have g0:=G0.out;rw [i1] at g0;clear i1;gi_wp2;rw [HWa.out,<-Hpq.out];clear g0 tq k7 HWa;generalize Wa=Wm at *;have bPm:=HbP.out;have hB1:=HBm.out;have hW9:=hB1.size;have hFB:Fr (fun _=>False) W Wm:=Fr.of_below hB1;have hMo:More W G G:=⟨fun _ h=>h,fun _ h=>.inl h⟩;have HJa:=hdq (HJ1.out.keep hFB (fun _ _ e=>e) (fun _ e=>e.elim) hMo);have HJb:=hdq (HJ2.out.keep hFB (fun _ _ e=>e) (fun _ e=>e.elim) hMo);have k8:Wm.cell? ⟨c+1,0,none⟩=some (.slice (some ⟨c+3,0,none⟩) un un):=cellB hB1 K8.out;have g2:Wm.cell? ⟨q,1,none⟩=some (.int .i64 (vr.which:Int)):=cellB hB1 G2.out;have hwi:=hwl;have hwii:(vr.which:Int)<(un:Int):=(by omega);have hrow:=(HJa.out.row vr.which hwi);obtain ⟨vA,vc,hvf,vle,vcap⟩:=zKU hrow.own
    have ci:Wm.cell? ⟨c+3,vr.which,none⟩=some (.slice vA ((bks (vars h) l false un (pre.map Fin.val)).getD vr.which []).length vc):=by
     have hil:vr.which<vs1.length:=by rw [HJa.out.len]; exact hwi
     simp only [World.cell?,HJa.out.blk];rw [<-hvf,gdd,gge hil];simp [hil]
    have hkl:((bks (vars h) l false un (pre.map Fin.val)).getD vr.which []).length<=33:=by
     rw [yAh _ _ _ _ hwi];unfold bk;rw [List.length_map];have h1:=List.length_filter_le (fun j=>(((vars h).getD j vr0).bid == false && ((vars h).getD j vr0).which == vr.which)) (pre.map Fin.val);have:=HPl.out;rw [List.length_map] at h1;omega
    have Hvf:=hdq hvf;have HOwn:=hdq hrow.own;obtain ⟨kr,hkr⟩:∃ kr,kr=((bks (vars h) l false un (pre.map Fin.val)).getD vr.which []).length:=⟨_,rfl⟩;rw [<-hkr] at ci hkl vle;have Hkr:=hdq hkr;obtain ⟨p0,p1,p2,p3,-⟩:=bPm;have tk:=zAb k8;have tg:=zAb g2;have tp:=zAb p0;have ti:=zAb ci;dsimp only at tk tg tp ti;obtain ⟨iq0,hiq,hzq0,hzq1,hzq2⟩:=info_parts zEv;clear hrow hvf hkr hFB hMo;gi_wp2;have hdr0:Sees 0 [] Wm Wm.drew:=Sees.st (by simp) (nzl _);have k8d:Wm.drew.cell? ⟨c+1,0,none⟩=some (.slice (some ⟨c+3,0,none⟩) un un):=k8;have g2d:Wm.drew.cell? ⟨q,1,none⟩=some (.int .i64 (vr.which:Int)):=g2;refine zBi 10 (fun f w'=>(f=false->Sees 0 [] Wm w')/\w'.cell? ⟨c+1,0,none⟩=some (.slice (some ⟨c+3,0,none⟩) un un)/\w'.cell? ⟨q,1,none⟩=some (.int .i64 (vr.which:Int))) (by kernel_rfl) (by kernel_rfl) (by rintro ⟨_,_,h⟩; exact h) ?_;refine tkE 0 (.slice (some ⟨c+3,0,none⟩) un un) (fun w' hSw=>?_) (⟨fun _=>hdr0,k8d,g2d⟩) ?_
    ·(obtain ⟨_,-,hSw,-⟩:=hSw; go_simp; try with_reducible rfl)
    simp only [zz];refine tx1 1 (⟨fun _=>hdr0,k8d,g2d⟩) ?_;refine tkE 2 (.int .i64 (vr.which:Int)) (fun w' hSw=>?_) (⟨fun _=>hdr0,k8d,g2d⟩) ?_
    ·(obtain ⟨_,-,-,hSw⟩:=hSw; go_simp; try with_reducible rfl)
    simp only [zz];refine tkE 3 (.slice (some ⟨c+3,0,none⟩) un un) (fun w' hSw=>?_) (⟨fun _=>hdr0,k8d,g2d⟩) ?_
    ·(obtain ⟨_,-,hSw,-⟩:=hSw; go_simp; try with_reducible rfl)
    simp only [zz];refine tx1 4 (⟨fun _=>hdr0,k8d,g2d⟩) ?_;refine tkE 5 (.int .i64 (vr.which:Int)) (fun w' hSw=>?_) (⟨fun _=>hdr0,k8d,g2d⟩) ?_
    ·(obtain ⟨_,-,-,hSw⟩:=hSw; go_simp; try with_reducible rfl)
    simp only [zz];refine tx1 6 (⟨fun _=>hdr0,k8d,g2d⟩) ?_;refine tkW 7 (.slice vA kr vc) (fun w' hSw=>?_) (⟨fun _=>hdr0,k8d,g2d⟩) ?_
    ·(replace hSw:=hSw.1 rfl; go_simp; try with_reducible rfl)
    simp only [zz];refine tkV 8 9 (z.val) (fun w' hSw=>?_) (⟨fun _=>hdr0,k8d,g2d⟩) ?_
    ·(replace hSw:=hSw.1 rfl; go_simp; try with_reducible rfl)
    simp only [zz];refine tk1 9 ?_;intro K hK;go_simp;have hk9:(Wm.alloc (.cells #[.bool z.num.ng,.slice z.num.A z.num.n z.num.c,.bool z.den.ng,.slice z.den.A z.den.n z.den.c] 80)).drew.cell? ⟨c+1,0,none⟩=some (.slice (some ⟨c+3,0,none⟩) un un):=by rw [<-k8]; exact cob (Below.heap_alloc _ _ _ tk)
    have hg9:(Wm.alloc (.cells #[.bool z.num.ng,.slice z.num.A z.num.n z.num.c,.bool z.den.ng,.slice z.den.A z.den.n z.den.c] 80)).drew.cell? ⟨q,1,none⟩=some (.int .i64 (vr.which:Int)):=by rw [<-g2]; exact cob (Below.heap_alloc _ _ _ tg)
    refine hK.out _ _ ⟨fun _=>hdr0.kept.undrew.sees.al.dr,hk9,hg9⟩ ?_;clear hK K;refine tk1 10 ?_;intro K hK
    have hownd:(Wm.alloc (.cells #[.bool z.num.ng,.slice z.num.A z.num.n z.num.c,.bool z.den.ng,.slice z.den.A z.den.n z.den.c] 80)).drew.ownsRow (c+8) 80 4 (.slice vA kr vc) kr ((qs1.getD vr.which []).flatMap cells4q):=by
     have:=HOwn.out;rw [Hvf.out,<-Hkr.out] at this;exact this.alloc _
    refine zAq _ _ 34 rfl (c+8) 80 iq0 (.agg #[.bool false,.slice none 0 0,.bool false,.slice none 0 0]) 4 64 Tryz.underlying34 hiq hzq0 hzq1 hzq2 rfl (by decide) (.slice vA kr vc) kr ((qs1.getD vr.which []).flatMap cells4q) rfl hownd ⟨Wm,0,none⟩ 1 1 (cells4q z) rfl rfl (zA1 Wm z) (by intro u hu; simp [cells4q] at hu; rcases hu with rfl | rfl | rfl | rfl <;> rfl) (by simp [maxLen]; omega) (by omega) (by simp; omega) ?_;intro v' W5 hown5 hg5 hnil5 hat5;obtain ⟨g5,c5,rfl⟩:=ownsRow_succ hown5
    have hg5':(Wm.alloc (.cells #[.bool z.num.ng,.slice z.num.A z.num.n z.num.c,.bool z.den.ng,.slice z.den.A z.den.n z.den.c] 80)).grownBy W5 (vs1.getD vr.which undef).ownBlock:=by
     rw [Hvf.out,<-Hkr.out]; exact ⟨hg5.os,hg5.tape,hg5.output,hg5.size,hg5.block⟩
    rw [Hkr.out] at hown5
    have hat5':(Value.slice (some g5) (kr+1) c5).ownBlock=(vs1.getD vr.which undef).ownBlock\/(Value.slice (some g5) (kr+1) c5).ownBlock=some (Wm.alloc (.cells #[.bool z.num.ng,.slice z.num.A z.num.n z.num.c,.bool z.den.ng,.slice z.den.A z.den.n z.den.c] 80)).heap.size:=by
     rw [Hvf.out,<-Hkr.out]; exact hat5
    rw [Hkr.out] at hat5';obtain ⟨G',vs9,qs9,b1,b2,b3,b4,b5,b6,b7,b8,b9⟩:=yAj HJa.out HJb.out HDj.out (fun y hy=>ltl (HGl.out y hy) hW9) hwi HZq.out hown5 hg5' hat5';rw [<-Hkr.out] at hown5 hat5' b1 b2 b5 b6;rw [Hvf.out,<-Hkr.out] at b7;have hql:Wm.heap[q]?=some (.cells #[.bool vr.bid,.int .i64 (vr.which:Int),.int .i64 (vr.step:Int)] 69 (0,0)):=(hB1.block q ql).trans Hq.out
    have nq9:¬ (vs1.getD vr.which undef).ownBlock=some q:=fun e=>by
     obtain ⟨_,cs,hh⟩:=zAc HOwn.out e;exact zXA hh hql (by decide)
    have nqg:¬ q=c+3:=zAy hql HJa.out.blk (by decide);have hor:∀ y,(vs1.getD vr.which undef).ownBlock=some y->c+8<=y:=(fun y e=>(zAc HOwn.out e).1);have d5:W5.cell? ⟨c+1,0,none⟩=some (.slice (some ⟨c+3,0,none⟩) un un):=(b9.cell tk (fun e=>by have:=hor _ e; dsimp only at this; omega)).trans k8;have d6:W5.cell? ⟨q,1,none⟩=some (.int .i64 (vr.which:Int)):=(b9.cell tg nq9).trans g2;have hKF:=yAg 0 b6 (fun y hy=>HJa.out.cellsB hwi hy);have hCF:Carry (fun y=>y<c+8/\y ≠ c+3/\y ≠ c+4) Wm (W5.setCell ⟨c+3,vr.which,none⟩ (.slice (some g5) (kr+1) c5)):=yAf b6 fun y hX hy=>hy.elim (fun e=>by omega) fun e=>by have:=hor _ e; omega
    have hBF:Below w Wm (W5.setCell ⟨c+3,vr.which,none⟩ (.slice (some g5) (kr+1) c5)):=b6.below (by omega) (fun y hy=>hy.elim (fun e=>by omega) fun e=>by have:=hor _ e; omega);have d7:(W5.setCell ⟨c+3,vr.which,none⟩ (.slice (some g5) (kr+1) c5)).cell? ⟨c+1,0,none⟩=some (.slice (some ⟨c+3,0,none⟩) un un):=(b6.cell tk (fun e=>e.elim (fun e=>by dsimp only at e; omega) fun e=>by have:=hor _ e; dsimp only at this; omega)).trans k8;have d8:(W5.setCell ⟨c+3,vr.which,none⟩ (.slice (some g5) (kr+1) c5)).cell? ⟨q,1,none⟩=some (.int .i64 (vr.which:Int)):=(b6.cell tg (fun e=>e.elim nqg nq9)).trans g2;simp only [Act.put,zz];refine hK.out _ _ ⟨fun h=>absurd h (by decide),d5,d6⟩ ?_;clear hK K;have hS5:=b6.size
    have HFin:Hid (KeepsFrom W0 W (W5.setCell ⟨c+3,vr.which,none⟩ (.slice (some g5) (kr+1) c5))/\Carry (fun y=>y<c+8/\y ≠ c+3/\y ≠ c+4) W (W5.setCell ⟨c+3,vr.which,none⟩ (.slice (some g5) (kr+1) c5))/\BkI w W0 c un bn (vars h) l (pre++[x1]) (W5.setCell ⟨c+3,vr.which,none⟩ (.slice (some g5) (kr+1) c5))):=hdq (by
     refine ⟨⟨nlt hB1.size b6.size,fun k o _ hk ho=>hKF.same k o (nzl _) ((hB1.block k (zAa hk)).trans hk) ho⟩,(Carry.of_below hB1).trans hCF,?_⟩;refine ⟨G',vs9,qs9,vs2,qs2,by rw [HPm.out,HV1.out _ hwi HI1.out rfl]; exact b1,by rw [HPm.out,HM2.out (by rw [HI1.out]; decide)]; exact b2,b3,fun y hy=>b4 y (HGo.out y hy),b5,nlt hWd (nlt hB1.size b6.size),HBw.out.trans ((hB1.mono HBw.out.size).trans hBF),HCar.out.trans ((Carry.of_below hB1).trans hCF)⟩)
    have b8':=b8 vr.which;clear hownd hown5 hg5 hg5' hat5 hat5' hnil5 hdr0 b1 b2 b3 b4 b5 b6 b8 b9 hk9 hg9 hKF hCF hBF hql nq9 hor k8 g2 k8d g2d ci p0 p1 p2 p3;refine tx1 11 (⟨fun h=>absurd h (by decide),d5,d6⟩) ?_;refine tk1 12 ?_;intro K hK;go_simp;refine hK.out _ _ ⟨fun h=>absurd h (by decide),d7,d8⟩ ?_;clear hK K;refine zAf (by kernel_rfl) ?_ _;gi_wp2;exact HFin.out
   ·rw [Hbn.out] at hwl;have HI1:=hdq i1;have g0:=G0.out;rw [i1] at g0;clear i1;gi_wp2;rw [HWa.out,<-Hpq.out];clear g0 tq k7 HWa;generalize Wa=Wm at *;have bPm:=HbP.out;have hB1:=HBm.out;have hW9:=hB1.size;have hFB:Fr (fun _=>False) W Wm:=Fr.of_below hB1;have hMo:More W G G:=⟨fun _ h=>h,fun _ h=>.inl h⟩;have HJa:=hdq (HJ2.out.keep hFB (fun _ _ e=>e) (fun _ e=>e.elim) hMo);have HJb:=hdq (HJ1.out.keep hFB (fun _ _ e=>e) (fun _ e=>e.elim) hMo);have k8:Wm.cell? ⟨c+1+1,0,none⟩=some (.slice (some ⟨c+4,0,none⟩) bn bn):=cellB hB1 K9.out;have g2:Wm.cell? ⟨q,1,none⟩=some (.int .i64 (vr.which:Int)):=cellB hB1 G2.out;have hwi:=hwl;have hwii:(vr.which:Int)<(bn:Int):=(by omega);have hrow:=(HJa.out.row vr.which hwi);obtain ⟨vA,vc,hvf,vle,vcap⟩:=zKU hrow.own
    have ci:Wm.cell? ⟨c+4,vr.which,none⟩=some (.slice vA ((bks (vars h) l true bn (pre.map Fin.val)).getD vr.which []).length vc):=by
     have hil:vr.which<vs2.length:=by rw [HJa.out.len]; exact hwi
     simp only [World.cell?,HJa.out.blk];rw [<-hvf,gdd,gge hil];simp [hil]
    have hkl:((bks (vars h) l true bn (pre.map Fin.val)).getD vr.which []).length<=33:=by
     rw [yAh _ _ _ _ hwi];unfold bk;rw [List.length_map];have h1:=List.length_filter_le (fun j=>(((vars h).getD j vr0).bid == true && ((vars h).getD j vr0).which == vr.which)) (pre.map Fin.val);have:=HPl.out;rw [List.length_map] at h1;omega
    have Hvf:=hdq hvf;have HOwn:=hdq hrow.own;obtain ⟨kr,hkr⟩:∃ kr,kr=((bks (vars h) l true bn (pre.map Fin.val)).getD vr.which []).length:=⟨_,rfl⟩;rw [<-hkr] at ci hkl vle;have Hkr:=hdq hkr;obtain ⟨p0,p1,p2,p3,-⟩:=bPm;have tk:=zAb k8;have tg:=zAb g2;have tp:=zAb p0;have ti:=zAb ci;dsimp only at tk tg tp ti;obtain ⟨iq0,hiq,hzq0,hzq1,hzq2⟩:=info_parts zEv;clear hrow hvf hkr hFB hMo;gi_wp2;have hdr0:Sees 0 [] Wm Wm.drew:=Sees.st (by simp) (nzl _);have k8d:Wm.drew.cell? ⟨c+1+1,0,none⟩=some (.slice (some ⟨c+4,0,none⟩) bn bn):=k8;have g2d:Wm.drew.cell? ⟨q,1,none⟩=some (.int .i64 (vr.which:Int)):=g2;refine zBi 10 (fun f w'=>(f=false->Sees 0 [] Wm w')/\w'.cell? ⟨c+1+1,0,none⟩=some (.slice (some ⟨c+4,0,none⟩) bn bn)/\w'.cell? ⟨q,1,none⟩=some (.int .i64 (vr.which:Int))) (by kernel_rfl) (by kernel_rfl) (by rintro ⟨_,_,h⟩; exact h) ?_;refine tkE 0 (.slice (some ⟨c+4,0,none⟩) bn bn) (fun w' hSw=>?_) (⟨fun _=>hdr0,k8d,g2d⟩) ?_
    ·(obtain ⟨_,-,hSw,-⟩:=hSw; go_simp; try with_reducible rfl)
    simp only [zz];refine tx1 1 (⟨fun _=>hdr0,k8d,g2d⟩) ?_;refine tkE 2 (.int .i64 (vr.which:Int)) (fun w' hSw=>?_) (⟨fun _=>hdr0,k8d,g2d⟩) ?_
    ·(obtain ⟨_,-,-,hSw⟩:=hSw; go_simp; try with_reducible rfl)
    simp only [zz];refine tkE 3 (.slice (some ⟨c+4,0,none⟩) bn bn) (fun w' hSw=>?_) (⟨fun _=>hdr0,k8d,g2d⟩) ?_
    ·(obtain ⟨_,-,hSw,-⟩:=hSw; go_simp; try with_reducible rfl)
    simp only [zz];refine tx1 4 (⟨fun _=>hdr0,k8d,g2d⟩) ?_;refine tkE 5 (.int .i64 (vr.which:Int)) (fun w' hSw=>?_) (⟨fun _=>hdr0,k8d,g2d⟩) ?_
    ·(obtain ⟨_,-,-,hSw⟩:=hSw; go_simp; try with_reducible rfl)
    simp only [zz];refine tx1 6 (⟨fun _=>hdr0,k8d,g2d⟩) ?_;refine tkW 7 (.slice vA kr vc) (fun w' hSw=>?_) (⟨fun _=>hdr0,k8d,g2d⟩) ?_
    ·(replace hSw:=hSw.1 rfl; go_simp; try with_reducible rfl)
    simp only [zz];refine tkV 8 9 (z.val) (fun w' hSw=>?_) (⟨fun _=>hdr0,k8d,g2d⟩) ?_
    ·(replace hSw:=hSw.1 rfl; go_simp; try with_reducible rfl)
    simp only [zz];refine tk1 9 ?_;intro K hK;go_simp;have hk9:(Wm.alloc (.cells #[.bool z.num.ng,.slice z.num.A z.num.n z.num.c,.bool z.den.ng,.slice z.den.A z.den.n z.den.c] 80)).drew.cell? ⟨c+1+1,0,none⟩=some (.slice (some ⟨c+4,0,none⟩) bn bn):=by rw [<-k8]; exact cob (Below.heap_alloc _ _ _ tk)
    have hg9:(Wm.alloc (.cells #[.bool z.num.ng,.slice z.num.A z.num.n z.num.c,.bool z.den.ng,.slice z.den.A z.den.n z.den.c] 80)).drew.cell? ⟨q,1,none⟩=some (.int .i64 (vr.which:Int)):=by rw [<-g2]; exact cob (Below.heap_alloc _ _ _ tg)
    refine hK.out _ _ ⟨fun _=>hdr0.kept.undrew.sees.al.dr,hk9,hg9⟩ ?_;clear hK K;refine tk1 10 ?_;intro K hK
    have hownd:(Wm.alloc (.cells #[.bool z.num.ng,.slice z.num.A z.num.n z.num.c,.bool z.den.ng,.slice z.den.A z.den.n z.den.c] 80)).drew.ownsRow (c+8) 80 4 (.slice vA kr vc) kr ((qs2.getD vr.which []).flatMap cells4q):=by
     have:=HOwn.out;rw [Hvf.out,<-Hkr.out] at this;exact this.alloc _
    refine zAq _ _ 34 rfl (c+8) 80 iq0 (.agg #[.bool false,.slice none 0 0,.bool false,.slice none 0 0]) 4 64 Tryz.underlying34 hiq hzq0 hzq1 hzq2 rfl (by decide) (.slice vA kr vc) kr ((qs2.getD vr.which []).flatMap cells4q) rfl hownd ⟨Wm,0,none⟩ 1 1 (cells4q z) rfl rfl (zA1 Wm z) (by intro u hu; simp [cells4q] at hu; rcases hu with rfl | rfl | rfl | rfl <;> rfl) (by simp [maxLen]; omega) (by omega) (by simp; omega) ?_;intro v' W5 hown5 hg5 hnil5 hat5;obtain ⟨g5,c5,rfl⟩:=ownsRow_succ hown5
    have hg5':(Wm.alloc (.cells #[.bool z.num.ng,.slice z.num.A z.num.n z.num.c,.bool z.den.ng,.slice z.den.A z.den.n z.den.c] 80)).grownBy W5 (vs2.getD vr.which undef).ownBlock:=by
     rw [Hvf.out,<-Hkr.out]; exact ⟨hg5.os,hg5.tape,hg5.output,hg5.size,hg5.block⟩
    rw [Hkr.out] at hown5
    have hat5':(Value.slice (some g5) (kr+1) c5).ownBlock=(vs2.getD vr.which undef).ownBlock\/(Value.slice (some g5) (kr+1) c5).ownBlock=some (Wm.alloc (.cells #[.bool z.num.ng,.slice z.num.A z.num.n z.num.c,.bool z.den.ng,.slice z.den.A z.den.n z.den.c] 80)).heap.size:=by
     rw [Hvf.out,<-Hkr.out]; exact hat5
    rw [Hkr.out] at hat5';obtain ⟨G',vs9,qs9,b1,b2,b3,b4,b5,b6,b7,b8,b9⟩:=yAj HJa.out HJb.out (fun y h1 h2=>HDj.out y h2 h1) (fun y hy=>ltl (HGl.out y hy) hW9) hwi HZq.out hown5 hg5' hat5';rw [<-Hkr.out] at hown5 hat5' b1 b2 b5 b6;rw [Hvf.out,<-Hkr.out] at b7;have hql:Wm.heap[q]?=some (.cells #[.bool vr.bid,.int .i64 (vr.which:Int),.int .i64 (vr.step:Int)] 69 (0,0)):=(hB1.block q ql).trans Hq.out
    have nq9:¬ (vs2.getD vr.which undef).ownBlock=some q:=fun e=>by
     obtain ⟨_,cs,hh⟩:=zAc HOwn.out e;exact zXA hh hql (by decide)
    have nqg:¬ q=c+4:=zAy hql HJa.out.blk (by decide);have hor:∀ y,(vs2.getD vr.which undef).ownBlock=some y->c+8<=y:=(fun y e=>(zAc HOwn.out e).1);have d5:W5.cell? ⟨c+1+1,0,none⟩=some (.slice (some ⟨c+4,0,none⟩) bn bn):=(b9.cell tk (fun e=>by have:=hor _ e; dsimp only at this; omega)).trans k8;have d6:W5.cell? ⟨q,1,none⟩=some (.int .i64 (vr.which:Int)):=(b9.cell tg nq9).trans g2;have hKF:=yAg 0 b6 (fun y hy=>HJa.out.cellsB hwi hy);have hCF:Carry (fun y=>y<c+8/\y ≠ c+3/\y ≠ c+4) Wm (W5.setCell ⟨c+4,vr.which,none⟩ (.slice (some g5) (kr+1) c5)):=yAf b6 fun y hX hy=>hy.elim (fun e=>by omega) fun e=>by have:=hor _ e; omega
    have hBF:Below w Wm (W5.setCell ⟨c+4,vr.which,none⟩ (.slice (some g5) (kr+1) c5)):=b6.below (by omega) (fun y hy=>hy.elim (fun e=>by omega) fun e=>by have:=hor _ e; omega);have d7:(W5.setCell ⟨c+4,vr.which,none⟩ (.slice (some g5) (kr+1) c5)).cell? ⟨c+1+1,0,none⟩=some (.slice (some ⟨c+4,0,none⟩) bn bn):=(b6.cell tk (fun e=>e.elim (fun e=>by dsimp only at e; omega) fun e=>by have:=hor _ e; dsimp only at this; omega)).trans k8;have d8:(W5.setCell ⟨c+4,vr.which,none⟩ (.slice (some g5) (kr+1) c5)).cell? ⟨q,1,none⟩=some (.int .i64 (vr.which:Int)):=(b6.cell tg (fun e=>e.elim nqg nq9)).trans g2;simp only [Act.put,zz];refine hK.out _ _ ⟨fun h=>absurd h (by decide),d5,d6⟩ ?_;clear hK K;have hS5:=b6.size
    have HFin:Hid (KeepsFrom W0 W (W5.setCell ⟨c+4,vr.which,none⟩ (.slice (some g5) (kr+1) c5))/\Carry (fun y=>y<c+8/\y ≠ c+3/\y ≠ c+4) W (W5.setCell ⟨c+4,vr.which,none⟩ (.slice (some g5) (kr+1) c5))/\BkI w W0 c un bn (vars h) l (pre++[x1]) (W5.setCell ⟨c+4,vr.which,none⟩ (.slice (some g5) (kr+1) c5))):=hdq (by
     refine ⟨⟨nlt hB1.size b6.size,fun k o _ hk ho=>hKF.same k o (nzl _) ((hB1.block k (zAa hk)).trans hk) ho⟩,(Carry.of_below hB1).trans hCF,?_⟩;refine ⟨G',vs1,qs1,vs9,qs9,by rw [HPm.out,HM1.out (by rw [HI1.out]; decide)]; exact b2,by rw [HPm.out,HV2.out _ hwi HI1.out rfl]; exact b1,fun y h1 h2=>b3 y h2 h1,fun y hy=>b4 y (HGo.out y hy),b5,nlt hWd (nlt hB1.size b6.size),HBw.out.trans ((hB1.mono HBw.out.size).trans hBF),HCar.out.trans ((Carry.of_below hB1).trans hCF)⟩)
    have b8':=b8 vr.which;clear hownd hown5 hg5 hg5' hat5 hat5' hnil5 hdr0 b1 b2 b3 b4 b5 b6 b8 b9 hk9 hg9 hKF hCF hBF hql nq9 hor k8 g2 k8d g2d ci p0 p1 p2 p3;refine tx1 11 (⟨fun h=>absurd h (by decide),d5,d6⟩) ?_;refine tk1 12 ?_;intro K hK;go_simp;refine hK.out _ _ ⟨fun h=>absurd h (by decide),d7,d8⟩ ?_;clear hK K;refine zAf (by kernel_rfl) ?_ _;gi_wp2;exact HFin.out
 case done=>
  rintro Dd ys W hDd he ⟨G,vs1,qs1,vs2,qs2,hJ1,hJ2,hD,hGo,hGl,hn,hB,hcar⟩ hK0;rw [he] at hJ1 hJ2;obtain ⟨W3,hW3⟩:∃ W3,((W.setCell ⟨c+1,0,none⟩ (.slice (some ⟨c+3,0,none⟩) un un)).setCell ⟨c+1+1,0,none⟩ (.slice (some ⟨c+4,0,none⟩) bn bn)).drew=W3:=⟨_,rfl⟩;have hF3:Fr (fun y=>y=c+1\/y=c+1+1) W W3:=by rw [<-hW3]; exact (((Fr.refl _ W).set (p:=⟨c+1,0,none⟩) (.inl rfl) _).set (p:=⟨c+1+1,0,none⟩) (.inr rfl) _).drew
  have hMo:More W G G:=⟨fun _ h=>h,fun _ h=>.inl h⟩
  have m1:=(hJ1.keep hF3 (fun b hb hy=>by
   rcases hb with rfl | ⟨i,hi,e⟩
   ·omega
   ·have:=((hJ1.row i hi).lt e).1; omega) (fun y hy=>hGo y (by omega)) hMo).mat (lo:=w) (by omega) (by omega) (by omega) (fun y hy=>hGo y (by omega))
  have m2:=(hJ2.keep hF3 (fun b hb hy=>by
   rcases hb with rfl | ⟨i,hi,e⟩
   ·omega
   ·have:=((hJ2.row i hi).lt e).1; omega) (fun y hy=>hGo y (by omega)) hMo).mat (lo:=w) (by omega) (by omega) (by omega) (fun y hy=>hGo y (by omega))
  have hK3:W3.heap[Dd]?=some (.deferred (some [])):=(hF3.block Dd (zAa hK0) (by have:=Hs.out; omega)).trans hK0;have hB3:Below w w W3:=hB.trans (hF3.below hB.size (fun y hy=>by omega));have k8:W.cell? ⟨c+1,0,none⟩=some (.slice (some ⟨c+3,0,none⟩) un un):=hcar.cell (p:=⟨c+1,0,none⟩) (by dsimp only; omega) (by simp [World.cell?,HX1.out]);have k9:W.cell? ⟨c+1+1,0,none⟩=some (.slice (some ⟨c+4,0,none⟩) bn bn):=hcar.cell (p:=⟨c+1+1,0,none⟩) (by dsimp only; omega) (by simp [World.cell?,HX2.out]);have x1:=hcar.blk (c+1) _ _ _ (by omega) HX1.out;have x2:=hcar.blk (c+1+1) _ _ _ (by omega) HX2.out;have f1:∀ o,W.frozen? ⟨c+1,o,none⟩=false:=fun o=>by simp [World.frozen?,x1]
  have f2:∀ o,W.frozen? ⟨c+1+1,o,none⟩=false:=fun o=>by simp [World.frozen?,x2]
  have HM:=hdq (And.intro m1 m2);have HK3:=hdq hK3;have HB3:=hdq hB3;have HW3:=hdq hW3;have HK8:Hid (W3.cell? ⟨c+1,0,none⟩=some (.slice (some ⟨c+3,0,none⟩) un un)):=hdq (by subst hW3; clear hF3 m1 m2 hJ1 hJ2 hK3 hB3; go_simp);have HK9:Hid (W3.cell? ⟨c+1+1,0,none⟩=some (.slice (some ⟨c+4,0,none⟩) bn bn)):=hdq (by subst hW3; clear hF3 m1 m2 hJ1 hJ2 hK3 hB3; go_simp);clear hF3 hMo hK3 hB3 hW3;have XA:=hdq x1;have XB:=hdq x2;clear x1 x2;clear hJ1 hJ2 hD hGo hGl hcar m1 m2 y4 y5 y6 hB;gi_wp2;have l1:=zAb k8;have l2:=zAb k9;dsimp only at l1 l2;refine zCW 1000 (fun _ w'=>w'.cell? ⟨c+1,0,none⟩=some (.slice (some ⟨c+3,0,none⟩) un un)/\w'.cell? ⟨c+1+1,0,none⟩=some (.slice (some ⟨c+4,0,none⟩) bn bn)) (by kernel_rfl) ?_;have hS:W.drew.cell? ⟨c+1,0,none⟩=some (.slice (some ⟨c+3,0,none⟩) un un)/\W.drew.cell? ⟨c+1+1,0,none⟩=some (.slice (some ⟨c+4,0,none⟩) bn bn):=⟨k8,k9⟩;refine tkE 0 (.slice (some ⟨c+3,0,none⟩) un un) (fun w' hSw=>?_) (hS) ?_
  ·(obtain ⟨_,hSw,-⟩:=hSw; go_simp; try with_reducible rfl)
  simp only [zz];refine tkE 1 (.slice (some ⟨c+4,0,none⟩) bn bn) (fun w' hSw=>?_) (hS) ?_
  ·(obtain ⟨_,-,hSw⟩:=hSw; go_simp; try with_reducible rfl)
  simp only [zz];refine tk1 2 ?_;intro K hK;go_simp;refine hK.out _ _ ⟨by go_simp,by go_simp⟩ ?_;clear hK K;refine tk1 3 ?_;intro K hK;go_simp;refine hK.out _ _ ⟨by go_simp,by go_simp⟩ ?_;clear hK K;refine zAf (by kernel_rfl) (NoPanic.normal ?_) _;rw [HW3.out];have k8:W3.cell? ⟨c+1,0,none⟩=some (.slice (some ⟨c+3,0,none⟩) un un):=HK8.out;have k9:W3.cell? ⟨c+1+1,0,none⟩=some (.slice (some ⟨c+4,0,none⟩) bn bn):=HK9.out;clear hS l1 l2 HK8 HK9 HW3 f1 f2 XA XB;gi_wp2;refine ⟨by simp,.inl ⟨_,_,rfl,run_takeDeferred HK3.out,?_⟩⟩;have q8:=(yAe HK3.out none ⟨c+1,0,none⟩).trans k8;have q9:=(yAe HK3.out none ⟨c+1+1,0,none⟩).trans k9;refine ⟨.tuple #[.slice (some ⟨c+3,0,none⟩) un un,.slice (some ⟨c+4,0,none⟩) bn bn],by simp [results,Tryz.results20,go_sem,q8,q9],⟨⟨_,_,_⟩,⟨_,_,_⟩,rfl,?_,?_⟩,HB3.out.trans (belowK_b (w:=w) (nlr _) W3 Dd _ _ (by have:=Hs.out; omega) HK3.out rfl rfl)⟩
  ·rw [Hun.out]; exact MatAt.keep (R':=QCan _ _) HM.out.1 (fun a _ _=>yAe HK3.out none a) fun _ _ hq=>hq.keep fun a _ _=>yAe HK3.out none a
  ·rw [Hbn.out]; exact MatAt.keep (R':=QCan _ _) HM.out.2 (fun a _ _=>yAe HK3.out none a) fun _ _ hq=>hq.keep fun a _ _=>yAe HK3.out none a
end Mo
end Go.Proofs.YtjancagcmghfjaaGreat
