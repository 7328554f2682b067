/- Texts MoQ MpR of this claim. -/
import Derived.Test.YtjancagcmghfjaaGreatX25
set_option maxHeartbeats 4000000
set_option maxRecDepth 40000
namespace Go.Proofs.YtjancagcmghfjaaGreat
namespace Mo
open Gj Lin
theorem zXc {n:Nat} {ls:List Ln} {v:Nat->Rat} (ks:List Nat):(∀ k ∈ ks,(ls.getD k d0).f.toNat<n/\(ls.getD k d0).t.toNat<n/\v (ls.getD k d0).f.toNat=v (ls.getD k d0).t.toNat)->∀ b,b<=n->v (upN (joins n ls ks) n b)=v b:=by
 refine zYL (motive:=fun ks=>(∀ k ∈ ks,(ls.getD k d0).f.toNat<n/\(ls.getD k d0).t.toNat<n/\v (ls.getD k d0).f.toNat=v (ls.getD k d0).t.toNat)->∀ b,b<=n->v (upN (joins n ls ks) n b)=v b) (fun _ b _=>?_) (fun ks j ih hk b hb=>?_) ks
 ·rw [up_same (show joins n ls [] b=b from rfl)]
 ·have hd:=zVa n ls ks;obtain ⟨j1,j2,je⟩:=hk j (List.mem_append_right _ (List.mem_singleton.2 rfl));have r1:=zVz hd n _ (Nat.le_of_lt j1);have r2:=zVz hd n _ (Nat.le_of_lt j2);have l1:=zVy hd n (ls.getD j d0).f.toNat;have l2:=zVy hd n (ls.getD j d0).t.toNat;have key:=zXJ hd r1 r2 (n:=n) (by omega) (par':=joins n ls (ks++[j])) (fun b=>by rw [zVO]; rfl);have ih':=ih fun k hk'=>hk k (List.mem_append_left _ hk')
  have e1:=ih' _ (Nat.le_of_lt j1);have e2:=ih' _ (Nat.le_of_lt j2);have eb:=ih' b hb;rw [key b hb];generalize upN (joins n ls ks) n (ls.getD j d0).f.toNat=x at *;generalize upN (joins n ls ks) n (ls.getD j d0).t.toNat=y at *
  split
  ·rename_i h;rw [h] at eb;rcases Nat.le_total x y with hle | hle
   ·rw [Nat.max_eq_right hle] at eb;rw [Nat.min_eq_left hle,<-eb,e1,e2,je]
   ·rw [Nat.max_eq_left hle] at eb;rw [Nat.min_eq_right hle,<-eb,e1,e2,je]
  ·exact eb
theorem zWL {n:Nat} {l:Ln} (hf:l.f.toNat<n) (ht:l.t.toNat<n) (v:Nat->Rat):(sum n fun i=>v i*lineAct l v i)=1 / (l.x:Rat)*((v l.f.toNat-v l.t.toNat)*(v l.f.toNat-v l.t.toNat)):=by
 have e:(sum n fun i=>v i*lineAct l v i)=(sum n fun i=>if i=l.f.toNat then v i*(1 / (l.x:Rat)*(v l.f.toNat-v l.t.toNat)) else 0)+sum n fun i=>if i=l.t.toNat then v i*(1 / (l.x:Rat)*(v l.t.toNat-v l.f.toNat)) else 0:=by
  rw [<-zCb];refine zAh fun i _=>?_
  unfold lineAct
  split <;> split <;> grind
 rw [e,zBu (s:=l.f.toNat) hf fun i _ h=>if_neg h,zBu (s:=l.t.toNat) ht fun i _ h=>if_neg h,if_pos rfl,if_pos rfl];grind
theorem zW4 {α:Type} (n:Nat) (g:α->Nat->Rat):∀ ks:List α,(sum n fun i=>(ks.map fun k=>g k i).sum)=(ks.map fun k=>sum n (g k)).sum
 | []=>by simp only [List.map_nil,List.sum_nil]; exact zAC fun _ _=>rfl
 | k :: ks=>by
  simp only [List.map_cons,List.sum_cons];rw [zCb,zW4 n g ks]
theorem zWX {α:Type} (c:Rat) (g:α->Rat):∀ ks:List α,c*(ks.map g).sum=(ks.map fun k=>c*g k).sum
 | []=>by simp only [List.map_nil,List.sum_nil]; grind
 | k :: ks=>by
  simp only [List.map_cons,List.sum_cons];rw [<-zWX c g ks]; grind
theorem zWn {α:Type} {g:α->Rat}:∀ {ks:List α},(∀ k ∈ ks,0<=g k)->(ks.map g).sum=0->∀ k ∈ ks,g k=0
 | [],_,_,_,h=>by cases h
 | j :: ks,h0,hs,k,hk=>by
  have nn:∀ l:List α,(∀ k ∈ l,0<=g k)->0<=(l.map g).sum:=by
   intro l
   induction l with
   | nil=>intro _; simp only [List.map_nil,List.sum_nil]; exact Rat.le_refl
   | cons a l ih=>
    intro h;simp only [List.map_cons,List.sum_cons];have:=h a List.mem_cons_self;have:=ih fun k hk=>h k (List.mem_cons_of_mem _ hk)
    grind
  simp only [List.map_cons,List.sum_cons] at hs;have h1:=h0 j List.mem_cons_self;have h2:=nn ks fun k hk=>h0 k (List.mem_cons_of_mem _ hk)
  rcases List.mem_cons.1 hk with rfl | hk
  ·grind
  ·exact zWn (fun k hk=>h0 k (List.mem_cons_of_mem _ hk)) (by grind) k hk
theorem zYg {h:Hr} (h0:hrErr h=0):∃ m,inv h=some m:=by
 cases hm:inv h with
 | some m=>exact ⟨m,rfl⟩
 | none=>
  exfalso;have hn:(mat h).length=h.buses.toNat:=(zXN h).1;obtain ⟨v,k,hk,hv,hnull⟩:=zWk (m:=mat h) hm;rw [hn] at hk hnull
  have hrow:∀ i,i<h.buses.toNat->(if i ∈ refsOf h then v i else ((ins h).map fun k=>lineAct (h.lines.getD k d0) v i).sum)=0:=fun i hi=>by
   rw [<-zYG h0]; exact hnull i (by rw [hn]; exact hi)
  have href:∀ i ∈ refsOf h,v i=0:=fun i hi=>by
   have:=hrow i (zV7 hi)
   rwa [if_pos hi] at this
  have hE:(sum h.buses.toNat fun i=>v i*((ins h).map fun k=>lineAct (h.lines.getD k d0) v i).sum)=0:=zAC fun i hi=>by
   by_cases hr:i ∈ refsOf h
   ·rw [href i hr]; grind
   ·have:=hrow i hi;rw [if_neg hr] at this;rw [this]; grind
  have hE2:((ins h).map fun k=>1 / ((h.lines.getD k d0).x:Rat)*((v (h.lines.getD k d0).f.toNat-v (h.lines.getD k d0).t.toNat)*(v (h.lines.getD k d0).f.toNat-v (h.lines.getD k d0).t.toNat))).sum=0:=by
   rw [<-hE];have e1:(sum h.buses.toNat fun i=>v i*((ins h).map fun k=>lineAct (h.lines.getD k d0) v i).sum)=sum h.buses.toNat fun i=>((ins h).map fun k=>v i*lineAct (h.lines.getD k d0) v i).sum:=zAh fun i _=>zWX _ _ _
   rw [e1,zW4 h.buses.toNat (fun k i=>v i*lineAct (h.lines.getD k d0) v i)];congr 1;(refine List.map_congr_left fun k hk=>?_);obtain ⟨h1,h2,-⟩:=zUv h0 hk;exact (zWL h1 h2 v).symm
  have hz:=zWn (fun k hk=>by
   obtain ⟨-,-,-,h1,-⟩:=zUv h0 hk;have hx:(0:Rat)<((h.lines.getD k d0).x:Rat):=by exact_mod_cast (show (0:Int)<(h.lines.getD k d0).x by omega)
   have hq:0<=1 / ((h.lines.getD k d0).x:Rat):=by
    rw [Rat.div_def];exact Rat.mul_nonneg (by decide) (Rat.le_of_lt (Rat.inv_pos.2 hx))
   exact Rat.mul_nonneg hq (sq_nn _)) hE2
  have hline:∀ k ∈ ins h,v (h.lines.getD k d0).f.toNat=v (h.lines.getD k d0).t.toNat:=fun k hk=>by
   obtain ⟨-,-,-,h1,-⟩:=zUv h0 hk;have hx:(0:Rat)<((h.lines.getD k d0).x:Rat):=by exact_mod_cast (show (0:Int)<(h.lines.getD k d0).x by omega)
   have hq:0<1 / ((h.lines.getD k d0).x:Rat):=by
    rw [Rat.div_def];exact Rat.mul_pos (by decide) (Rat.inv_pos.2 hx)
   have:=hz k hk;rcases Rat.mul_eq_zero.1 this with e | e
   ·grind
   ·rcases Rat.mul_eq_zero.1 e with e | e <;> grind
  have hroot:=zXc (v:=v) (n:=h.buses.toNat) (ls:=h.lines) (ins h) (fun j hj=>by
   obtain ⟨h1,h2,-⟩:=zUv h0 hj;exact ⟨h1,h2,hline j hj⟩) k (Nat.le_of_lt hk)
  have hk2:root h k ∈ refsOf h:=by
   refine zYl.2 ⟨?_,up_same (zVz (zXR h) h.buses.toNat k (Nat.le_of_lt hk)) _⟩;have:=zVy (zXR h) h.buses.toNat k;show upN _ _ _<_;omega
  exact hv (by rw [<-hroot]; exact href _ hk2)
where
 sq_nn (a:Rat):0<=a*a:=by
  rcases Rat.le_total (a:=0) (b:=a) with h | h
  ·exact Rat.mul_nonneg h h
  ·have:0<=(-a)*(-a):=Rat.mul_nonneg (by grind) (by grind);grind
end Mo
open Go.RowKit Go.Shelf Gj
namespace Mo
theorem _root_.Go.Proofs.YtjancagcmghfjaaGreat.MatS.can {W:World} {B k:Nat} {G:Nat->Prop} {v:Value} {ss:List SV} {m:List (List Rat)} (h:MatS W B G v k ss m):∃ s:SV,v=s.val/\s.n=k/\MatCan W AllB AllB s m:=by
 rcases h.own.2 with ⟨rfl,rfl⟩ | ⟨g,cap,cur,rfl,hbg,hh,hnc,hcap,hcur,ht⟩
 ·exact ⟨⟨none,0,0⟩,rfl,rfl,h.llen,nlr _,nzl _,fun k hk=>absurd hk (by simp)⟩
 ·refine ⟨⟨some ⟨g,0,none⟩,k,cap⟩,rfl,rfl,h.llen,hnc,(by show cap<=_; exact nlt ‹_› (show maxLen<=9223372036854775807 by decide)),fun j hj=>⟨⟨g,0,none⟩,ss.getD j ⟨none,0,0⟩,rfl,trivial,?_,((h.elem j hj).imp (fun _ _ _=>trivial) fun _ _ hq=>hq.imp fun _ _ _=>trivial)⟩⟩;have hj':j<k:=hj;have hl:=h.len;have e2:(cur.toList.take (k*1))[j]?=(ss.map SV.val)[j]?:=by rw [ht]
  rw [List.getElem?_take_of_lt (by omega),List.getElem?_map] at e2;rw [zA4,Nat.zero_add];simp only [World.cell?,hh];rw [gdd];rw [gge (show j<ss.length by omega)] at e2 ⊢;simpa using e2
def facM (h:Hr) (m:Mt):Mt:=(List.range h.lines.length).map fun k=>(List.range h.buses.toNat).map fun b=>factor h.lines (ins h) m k b
def colsM (ls:List Ln) (ks:List Nat) (m:Mt) (N:Nat):List (List Rat):=(List.range N).map fun b=>(List.range ls.length).map fun k=>factor ls ks m k b
theorem zXv (ls:List Ln) (ks:List Nat) (m:Mt) (N:Nat):trans (colsM ls ks m N) ls.length=(List.range ls.length).map fun k=>(List.range N).map fun b=>factor ls ks m k b:=by
 unfold trans colsM;refine List.map_congr_left fun k hk=>?_
 rw [List.map_map];refine List.map_congr_left fun b _=>?_
 exact getD_map_range _ _ (List.mem_range.1 hk)
theorem zV5 {h:Hr} (h0:hrErr h=0):outErr h.buses h.lines h.out=0:=by
 unfold hrErr at h0
 split at h0
 ·exact absurd h0 (by assumption)
 ·rename_i h1;exact Classical.not_not.1 h1
def FaL (wB:World) (ls:List Ln) (ks:List Nat) (m:Mt) (N:Nat) (v t:Value) (W:World):Prop:=
 ∃ (k:Nat) (G:Nat->Prop) (ss:List SV),k<=N/\t = .int .i64 (k:Int)/\Below wB wB W/\(∀ y,G y->wB.heap.size<=y/\y<W.heap.size)/\MatS W wB G v k ss ((List.range k).map fun b=>(List.range ls.length).map fun k=>factor ls ks m k b)
theorem zVX {w:World} {h:Hr} {s so:SV} {m:Mt} (hl:LinesAt w s h.lines) (ho:IntsAt w so h.out) (h0:hrErr h=0) (hm:inv h=some m) :
  Calls Tryz.prog 43 #[.agg #[.int .i64 h.buses,.slice s.A s.n s.c],.slice so.A so.n so.c] w fun e w'=>
   (∃ b,e = .returned (.tuple #[.slice (some ⟨b,0,none⟩) h.lines.length h.lines.length,.int .i64 0])/\w.heap.size<=b/\GjM w' b (facM h m))/\Below w w w':=by
 obtain ⟨sA,sn,sc⟩:=s;obtain ⟨oA,on,oc⟩:=so;have ho0:=zV5 h0;obtain ⟨o1,o2,o3,o4,-⟩:=zVq ho0;have hsqm:=zXN h;have hfm:=zXM h0;have him:inverse (mat h)=some m:=hm;have hfi:=zXI h0 hm;have hml:=(zU2 him).1;have hrl:∀ b ∈ refsOf h,b<h.buses.toNat:=fun b hb=>zV7 hb
 obtain ⟨buses,lines,out,units,on',bids⟩:=h;dsimp only at *;obtain ⟨N,rfl⟩:∃ N:Nat,buses=(N:Int):=⟨buses.toNat,by omega⟩;rw [show ((N:Int)).toNat=N from Int.toNat_natCast N] at hsqm hrl;have hN1:1<=N:=by omega
 have hN6:N<=6:=by omega
 have hmm:m.length=N:=by rw [hml,hsqm.1]
 obtain ⟨ks,hks⟩:∃ ks,ks=inS lines.length out:=⟨_,rfl⟩;obtain ⟨rf,hrf⟩:∃ rf,rf=refsOf ⟨(N:Int),lines,out,units,on',bids⟩:=⟨_,rfl⟩;have hme:mat ⟨(N:Int),lines,out,units,on',bids⟩=eqs N lines ks rf:=by rw [hks,hrf]; rfl
 have hfe:facM ⟨(N:Int),lines,out,units,on',bids⟩ m=trans (colsM lines ks m N) lines.length:=by rw [zXv,hks]; rfl
 rw [hme] at hsqm hfm him;rw [<-hrf] at hrl;have hk1:∀ k ∈ ks,k<lines.length:=fun k hk=>by rw [hks] at hk; exact List.mem_range.1 (List.mem_filter.1 hk).1
 have hk2:ks.length<=10:=by rw [hks]; refine nlt (List.length_filter_le _ _) ?_; rw [List.length_range]; exact o3
 have hok:∀ i,i<lines.length->LnOk (N:Int) (lines.getD i ⟨0,0,0,0⟩):=fun i hi=>o4 _ (by rw [gdd,gge hi]; exact List.getElem_mem hi)
 have HIn:=hdq (fun W (hb:Below w w W)=>zV1 (n:=(N:Int)) (LinesAt.below hb hl) (ho.below hb) ho0);have HRf:=hdq (fun W (hb:Below w w W)=>zU0 (n:=(N:Int)) (LinesAt.below hb hl) (ho.below hb) ho0);have hrf2:refsGo 0 0 (numb ((N:Int)).toNat (joins ((N:Int)).toNat lines (inS lines.length out)) ((N:Int)).toNat).1=rf:=by rw [hrf]; rfl
 rw [hrf2] at HRf;rw [<-hks] at HIn;have HL:=hdq hl;have HLn:Hid (lines.length=sn):=hl.len;have hsle:sn<=sc:=hl.le;have hscap:sc<=9223372036854775807:=hl.cap;rw [hfe];have HFm:=hdq hfm;have HFi:=hdq hfi;have HSq:=hdq hsqm;have HInv:=hdq him;have HK1:=hdq hk1;have HOk:=hdq hok;have HRl:=hdq hrl;have hLn:lines.length<=10:=o3;obtain ⟨TR,hTR⟩:∃ TR,TR=trans (colsM lines ks m N) lines.length:=⟨_,rfl⟩;rw [<-hTR,HLn.out];have HTR:=hdq hTR;clear hTR hfe hme hks hrf hrf2 hk1 hok hl ho ho0 hsqm hfm him hfi hm h0 o4 hrl hml;go_enter Tryz.func43,Tryz.ntmps43
 go_upto_region 1 with fail
 refine zAo (fun W=>Below w w W/\Box2 W w (.int .i64 (N:Int)) (.slice sA sn sc)/\w.heap.size<W.heap.size) ⟨(az (brf _ _)),bx2,by simp <;> omega⟩ ?_;rintro W ⟨hbW,bN,s0⟩;have hBW:=hbW.size;obtain ⟨c0,c1,-⟩:=id bN;go_wp2_with fail
 refine (HIn.out _ hbW).mono ?_;rintro e w1 ⟨⟨⟨tA,tn,tc⟩,rfl,ht⟩,hb1⟩;have hbw1:=hbW.trans (hb1.mono hBW);replace bN:=bN.below hb1 s0;replace s0:=ltl s0 hb1.size;have HT:=hdq ht;clear hb1 hbW hBW ht c0 c1;dsimp only [SV.val];go_upto_region 4 with fail
 have al:Below w1 w1 (w1.alloc (.cells #[.slice tA tn tc] 25)):=bal;have x0:(w1.alloc (.cells #[.slice tA tn tc] 25)).cell? w1=some (.slice tA tn tc):=by go_simp
 have xs:w1.heap.size<(w1.alloc (.cells #[.slice tA tn tc] 25)).heap.size:=by simp
 have hbw2:=hbw1.trans (al.mono hbw1.size);replace bN:=bN.below al s0;have s02:=ltl s0 al.size;have HT2:=hdq (HT.out.below al);have hw1s:=hbw1.size;clear al hbw1 HT;generalize w1.alloc (.cells #[.slice tA tn tc] 25)=w2 at *;generalize w1.heap.size=cL at *;obtain ⟨c0,c1,-⟩:=id bN;go_wp2_with fail
 refine (HRf.out _ hbw2).mono ?_;rintro e w3 ⟨⟨⟨rA,rn,rc⟩,rfl,hr⟩,hb3⟩;have hbw3:=hbw2.trans (hb3.mono hbw2.size);replace bN:=bN.below hb3 s02;have s03:=ltl s02 hb3.size;have x3:=(hb3.cell (p:=cL) xs).trans x0;have xs3:=ltl xs hb3.size;have HT3:=hdq (HT2.out.below hb3);have HLW:=hdq (LinesAt.below hbw3 HL.out);have HEq:=hdq (zVj HLW.out HT3.out hr hN1 hN6 HK1.out HOk.out hk2 HRl.out);clear hb3 hbw2 HT2 hr x0 xs s02 c0 c1;obtain ⟨c0,c1,-⟩:=id bN;dsimp only [SV.val] at HEq ⊢;go_wp2_with fail
 refine HEq.out.mono ?_;rintro e w4 ⟨⟨gb,rfl,hgb,hG4⟩,hb4⟩;have hbw4:=hbw3.trans (hb4.mono hbw3.size);replace bN:=bN.below hb4 s03;have s04:=ltl s03 hb4.size;have x4:=(hb4.cell (p:=cL) xs3).trans x3;have xs4:=ltl xs3 hb4.size;have HT4:=hdq (HT3.out.below hb4);have HLW4:=hdq (LinesAt.below hb4 HLW.out);have hgk:gr (N+1) 110<32*LM:=Nat.lt_of_le_of_lt (zUX (d:=7) (by omega)) (by decide);have HIv:=hdq (zXH hG4 HSq.out hN1 hN6 HFm.out hgk HInv.out);clear hb4 hbw3 HT3 HLW x3 xs3 s03 c0 c1 HEq hG4;go_wp2_with fail
 refine HIv.out.mono ?_;rintro e w5 ⟨⟨gm,rfl,hgm,hG5⟩,hb5⟩;have hbw5:=hbw4.trans (hb5.mono hbw4.size);replace bN:=bN.below hb5 s04;have s05:=ltl s04 hb5.size;have x5:=(hb5.cell (p:=cL) xs4).trans x4;have xs5:=ltl xs4 hb5.size;have HT5:=hdq (HT4.out.below hb5);have HLW5:=hdq (LinesAt.below hb5 HLW4.out)
 have HM5:Hid (MatIs w5 (fun _=>True) (fun _=>True) LM ⟨some ⟨gm,0,none⟩,N,N⟩ m):=by
  have:=hG5.matIs (by omega) HFi.out (by decide);rw [hmm] at this; exact this
 clear hb5 hbw4 HT4 HLW4 x4 xs4 s04 HIv hG5;obtain ⟨c0,c1,-⟩:=id bN;go_upto_region 12 with fail
 have al:Below w5 w5 (w5.alloc (.cells #[.slice (some gm) N N] 33)):=bal;have y0:(w5.alloc (.cells #[.slice (some gm) N N] 33)).cell? w5=some (.slice (some gm) N N):=by go_simp
 have ys:w5.heap.size<(w5.alloc (.cells #[.slice (some gm) N N] 33)).heap.size:=by simp
 have HE:Hid (FcE (w5.alloc (.cells #[.slice (some gm) N N] 33)) w cL w5 N gm ⟨sA,sn,sc⟩ ⟨tA,tn,tc⟩ lines ks m):=
  ⟨(al.cell (p:=⟨w.heap.size,1,none⟩) s05).trans c1,(al.cell (p:=cL) xs5).trans x5,y0,LinesAt.below al HLW5.out,HT5.out.below al,HM5.out.below al⟩
 have d0:=(al.cell (p:=w) s05).trans c0;have d1:=(al.cell (p:=⟨w.heap.size,1,none⟩) s05).trans c1;have hbwB:=hbw5.trans (al.mono hbw5.size);have s0B:=ltl s05 al.size;clear al bN c0 c1 x5 xs5 s05 HT5 HLW5 HM5 hbw5;generalize w5.alloc (.cells #[.slice (some gm) N N] 33)=wB at *;generalize w5.heap.size=cI at *;have H0:FaL wB lines ks m N (.slice none 0 0) (.int .i64 0) wB:=⟨0,fun _=>False,[],nzl _,rfl,brf _ _,fun _ h=>h.elim,MatS.nil _ _ _⟩;go_wp2;clear d0 y0;go_loopw [11,45] (fun v t W=>FaL wB lines ks m N v t W) (fun _ t _=>N-(intOf t).toNat)
 case atStart=>exact H0
 case round=>
  clear H0;obtain ⟨k,G,ss,hk,rfl,hB,hG,hM⟩:=hrel;obtain ⟨vA,vc,rfl,-,-⟩:=zKU hM.own;by_cases hlt:k<N
  ·have hki:(k:Int)<(N:Int):=(by omega);have HC:=hdq (zXD (K:=2000000) (HE.out.below hB) hN6 hlt hLn HK1.out HOk.out HFi.out (by decide));rw [HLn.out] at HC;have HM:=hdq hM;obtain ⟨j0,hjI,hy0,hy1,hy2⟩:=info_parts zFA;clear hM;(go_wp2_with fail);refine HC.out.mono ?_;rintro e w6 ⟨⟨g,rfl,hg,hv⟩,hb6⟩;have hM6:=HM.out.keep (H:=fun _=>False) (G':=G) (Fr.of_below hb6) (fun _ _ e=>e) (fun _ e=>e.elim) ⟨fun _ h=>h,fun _ h=>.inl h⟩
   have hvG:VecCan w6 (fun b=>¬ G b) (fun b=>¬ G b) ⟨some ⟨g,0,none⟩,sn,sn⟩ ((List.range lines.length).map fun i=>factor lines ks m i k):=by
    rw [<-HLn.out] at hv ⊢;exact hv.imp (fun b _ hb hg=>by have:=(hG b hg).2; simp only [New] at hb; omega) fun _ _ hq=>hq.imp fun b _ hb hg=>by have:=(hG b hg).2; simp only [New] at hb; omega
   have hown6:=hM6.own;have HM6:=hdq hM6;have HV6:=hdq hvG;have hB6:=hB.trans (hb6.mono hB.size);have hbs:=hB6.size;clear hv hM6 hvG HC HM;(go_wp2_with (at_builtin; refine wpList_append_own_at _ rfl _ _ 33 rfl wB 34 j0 (.slice none 0 0) 1 24 Tryz.underlying33 hjI hy0 hy1 hy2 rfl (by decide) (.slice vA k vc) k (ss.map SV.val) rfl (hown6.alloc _) ⟨w6,0,none⟩ 1 1 [.slice (some g) sn sn] rfl rfl (cell_one_new _ _ _) (by intro u hu; simp at hu; subst hu; rfl) (by simp [maxLen]; omega) (by omega) (by simp; omega) ?_));intro v7 w7 hown7 hg7 hnil7 hat7;obtain ⟨g7,c7,rfl⟩:=ownsRow_succ hown7;have hat7':=hat7.imp (id) fun (e:_=_)=>show (Value.slice (some g7) (k+1) c7).ownBlock=some (w6.alloc (.cells #[.slice (some g) sn sn] 34)).heap.size by rw [e]; simp
   obtain ⟨hM7,hF7,-⟩:=HM6.out.step (s:=⟨some ⟨g,0,none⟩,sn,sn⟩) HV6.out hown7 hg7 hat7'
   have HN:Hid (FaL wB lines ks m N (.slice (some g7) (k+1) c7) (.int .i64 ((k:Int)+1)) w7):=⟨k+1,fun y=>G y\/(Value.slice (some g7) (k+1) c7).ownBlock=some y,_,by omega,by simp,hB6.trans (hF7.below hbs fun y e=>by have:=(HM6.out.lt e).1; omega),fun y hy=>by
    rcases hy with hy | hy
    ·have h1:=hG y hy;have h2:=hF7.size;have h3:=hb6.size;omega
    ·exact hM7.lt hy,by
    rw [List.range_succ,List.map_append]; exact hM7⟩
   clear hown7 hg7 hnil7 hat7 hat7' hM7 hF7 hown6 HM6 HV6 hB6 hb6;go_wp2;go_roundw;case rel=>first | exact HN.out | ((repeat apply Exists.intro); exact ⟨HN.out,rfl⟩)
   case measure=>simp [intOf]; omega
  ·(obtain rfl:N=k:=by omega);obtain ⟨⟨tA',tn',tc'⟩,e,hn,hcan⟩:=hM.can;dsimp only at hn;subst hn;cases e;have d1':=(hB.cell (p:=⟨w.heap.size,1,none⟩) s0B).trans d1;have HTp:=hdq (zVs (rows:=sn) hcan (fun i hi=>by rw [getD_map_range _ _ hi]; simp [HLn.out]) (by show tn'<=1000; omega) (by have:=HLn.out; omega));have hBw:=hbwB.trans (hB.mono hbwB.size);clear hM hcan;(go_wp2_with fail);refine HTp.out.mono ?_;rintro e w6 ⟨⟨b,rfl,hb,hG6⟩,hb6⟩
   have HZ:Hid ((∃ b',(.returned (.tuple #[.slice (some b) sn sn,.int .i64 0]):Ending) = .returned (.tuple #[.slice (some ⟨b',0,none⟩) sn sn,.int .i64 0])/\w.heap.size<=b'/\GjM w6 b' TR)/\Below w w w6):=
    ⟨⟨b,rfl,nlt hBw.size hb,by rw [HTR.out,HLn.out]; exact hG6⟩,hBw.trans (hb6.mono hBw.size)⟩
   clear hG6 hb6 hBw HTp;go_wp2;exact bodyPost_ret (v:=.tuple #[.slice (some b) sn sn,.int .i64 0]) (by simp [results,Tryz.results43,go_sem]) rfl HZ.out
end Mo
end Go.Proofs.YtjancagcmghfjaaGreat
