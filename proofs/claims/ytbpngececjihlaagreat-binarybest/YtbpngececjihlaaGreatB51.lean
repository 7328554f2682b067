/- Texts BpB BpC BpH of this claim. -/
import Derived.Test.YtbpngececjihlaaGreatB50
set_option maxHeartbeats 4000000
set_option maxRecDepth 40000
namespace Go.Proofs.YtbpngececjihlaaGreat
open Go.RowKit Go.Shelf
variable {j n c V L k:Nat} {A:Option Addr} {W2 w w':World} {v':Value} {bs l:List Rat} {os rs:List (List Rat)} {X Y:Nat->Prop} {p:LPV} {zs:List Int} {s:SV} {x:Nat->Rat}
structure CvM (w:World) (bb:Nat) (bc:Array Value) (B:Lin.BP) (vo:Value) (ps:List ((Nat->Int) × Nat)) (W:World):Prop where
 bel:Below w w W
 hb:w.heap.size<bb
 lt:bb<=W.heap.size
 box:W.heap[w.heap.size]?=some (.cells bc 50 (0,0))
 own:W.ownsRow bb 118 2 vo ps.length (ps.flatMap (prC B))
 ct:CT SI W vo
 av:∀ p,p ∈ ps->AvIs W B.nb p.1 ⟨some ⟨p.2,0,none⟩,B.nb,B.nb⟩/\bb<=p.2/\(0<B.nb->vo.ownBlock ≠ some p.2)
section
variable {w W W':World} {bb:Nat} {bc:Array Value} {B:Lin.BP} {vo:Value} {ps:List ((Nat->Int) × Nat)}
theorem CvM.ownlt (h:CvM w bb bc B vo ps W) (hj:vo.ownBlock=some j):bb<=j/\j<W.heap.size:=by
 obtain ⟨h1,cs,hh⟩:=zAc h.own hj;exact ⟨h1,zAa hh⟩
theorem CvM.below (h:CvM w bb bc B vo ps W) (hb:Below W W W'):CvM w bb bc B vo ps W':=by
 have hl:=h.lt;have hh:=h.hb;refine ⟨h.bel.trans (hb.mono h.bel.size),hh,nlt hl hb.size,(hb.block _ om).trans h.box,zAr h.own fun j hj=>hb.block j (h.ownlt hj).2,?_,fun p hp=>?_⟩
 ·intro g hg;obtain ⟨cs,T,fz,h1,h2⟩:=h.ct g hg;exact ⟨cs,T,fz,(hb.block _ (zAa h1)).trans h1,h2⟩
 ·obtain ⟨h1,h2,h3⟩:=h.av p hp;exact ⟨h1.below hb,h2,h3⟩
theorem CvM.pop {q:(Nat->Int) × Nat} (h:CvM w bb bc B (.slice A n c) (ps++[q]) W) :
  ∃ g,A=some ⟨g,0,none⟩/\W.cell? ⟨g,ps.length*2,none⟩=some (.slice (some q.2) B.nb B.nb)/\W.cell? ⟨g,ps.length*2+1,none⟩=some (.int .i64 (B.left q.1:Int))/\g<W.heap.size/\
   CvM w bb bc B (.slice A ps.length c) ps W/\AvIs W B.nb q.1 ⟨some ⟨q.2,0,none⟩,B.nb,B.nb⟩:=by
 have hn:n=ps.length+1:=by
  obtain ⟨A',c',e,-,-⟩:=zKU h.own;cases e; simp
 obtain ⟨g,hg⟩:∃ g,A=some ⟨g,0,none⟩:=by
  rcases h.own.2 with ⟨e,e2⟩ | ⟨g,cap,cur,e,-⟩
  ·cases e; simp at hn
  ·cases e; exact ⟨g,rfl⟩
 subst hg
 have hcell:∀ j u,((ps++[q]).flatMap (prC B))[j]?=some u->W.cell? ⟨g,j,none⟩=some u:=fun j u hu=>by
  have:=h.own.cells (g:=g) rfl j u hu;rw [zA4,Nat.zero_add] at this;exact this
 have hfl:(ps++[q]).flatMap (prC B)=ps.flatMap (prC B)++prC B q:=si
 refine ⟨g,rfl,hcell _ _ ?_,hcell _ _ ?_,(h.ownlt rfl).2,⟨h.bel,h.hb,h.lt,h.box,?_,h.ct,fun p hp=>h.av p (by simp [hp])⟩,(h.av q si).1⟩
 ·rw [hfl,List.getElem?_append_right (by rw [zK5]; exact nlr _),zK5]; simp [prC]
 ·rw [hfl,List.getElem?_append_right (by rw [zK5]; omega),zK5]; simp [prC]
 ·have hown:=h.own;rw [hfl,show (ps++[q]).length=ps.length+1 by simp] at hown;subst hn;have:=zNa hown (k:=ps.length) om si
  rwa [List.take_left' (by rw [zK5])] at this
theorem CvM.push {o:Obj} {q q':(Nat->Int) × Nat} (h:CvM w bb bc B vo ps W) (hown:W2.ownsRow bb 118 2 v' (ps.length+2) (ps.flatMap (prC B)++(prC B q++prC B q'))) (hg:(W.alloc o).grownBy W2 vo.ownBlock) (hct:CT SI W2 v') (hat:v'.ownBlock=vo.ownBlock\/v'.ownBlock=some (W.alloc o).heap.size)
  (hq:AvIs W B.nb q.1 ⟨some ⟨q.2,0,none⟩,B.nb,B.nb⟩/\bb<=q.2/\(0<B.nb->vo.ownBlock ≠ some q.2)) (hq':AvIs W B.nb q'.1 ⟨some ⟨q'.2,0,none⟩,B.nb,B.nb⟩/\bb<=q'.2/\(0<B.nb->vo.ownBlock ≠ some q'.2)) :
  CvM w bb bc B v' (ps++[q]++[q']) W2:=by
 have hl:=h.lt;have hh:=h.hb;have hF:Fr (fun y=>vo.ownBlock=some y) W W2:=⟨hg.os,hg.tape,hg.output,by have:=hg.size; simp at this; omega,fun b hb hn=>(hg.block b (by simp; omega) fun e=>hn e.symm).trans (Below.heap_alloc _ _ _ hb)⟩;have no:∀ j,j<bb->¬ vo.ownBlock=some j:=fun j hj e=>by have:=(h.ownlt e).1; omega
 refine ⟨h.bel.trans (hF.below h.bel.size fun b e=>by have:=(h.ownlt e).1; omega),hh,nlt hl hF.size,(hF.block _ om (no _ om)).trans h.box,?_,hct,fun p hp=>?_⟩
 ·have e1:(ps++[q]++[q']).length=ps.length+2:=si
  have e2:(ps++[q]++[q']).flatMap (prC B)=ps.flatMap (prC B)++(prC B q++prC B q'):=si
  rw [e1,e2];exact hown
 ·have key:∀ p:(Nat->Int) × Nat,AvIs W B.nb p.1 ⟨some ⟨p.2,0,none⟩,B.nb,B.nb⟩/\bb<=p.2/\(0<B.nb->vo.ownBlock ≠ some p.2)->AvIs W2 B.nb p.1 ⟨some ⟨p.2,0,none⟩,B.nb,B.nb⟩/\bb<=p.2/\(0<B.nb->v'.ownBlock ≠ some p.2):=fun p ⟨h1,h2,h3⟩=>by
   refine ⟨h1.keep fun h0=>hF.block _ (h1.lt h0) (h3 h0),h2,fun h0=>?_⟩;rcases hat with e | e
   ·rw [e]; exact h3 h0
   ·rw [e];intro e2;have e3:=Option.some.inj e2;have:=h1.lt h0;simp at e3;omega
  simp only [List.mem_append,List.mem_singleton] at hp;rcases hp with (hp | rfl) | rfl
  ·exact key p (h.av p hp)
  ·exact key _ hq
  ·exact key _ hq'
end
def CvL (w:World) (bb:Nat) (bc:Array Value) (B:Lin.BP) (gk:Nat) (t vo:Value) (W:World):Prop:=
 ∃ (c:Nat) (ps:List ((Nat->Int) × Nat)),t = .int .i64 (c:Int)/\CvM w bb bc B vo ps W/\(∀ p,p ∈ ps->B.Av p.1)/\B.Cov (ps.map (·.1)) c/\gk=B.load (ps.map (·.1))/\B.load (ps.map (·.1))<=2 ^ (B.nb+1)-1
theorem zTz {b:BinV} {B:Lin.BP} (h:LPIs w X Y 8 b.p os rs bs) (hvl:∀ w',Below w w w'->Calls Tryz.prog 48 #[b.p.val] w' fun e w2=>e = .returned (.bool true)/\Below w' w' w2)
  (hV:b.p.n=V) (eV:B.V=V) (hV2:V<=64) (hnb:B.nb<=12) (ok:B.Ok) (hb:BinIs w B b.bin)
  (hrM:b.p.R.n=B.M) (hbM:b.p.B.n=B.M) (hM:B.M<=800) (hrl:∀ i,(rs.getD i []).length<=V) (hrs:∀ i k,i<B.M->(rs.getD i []).getD k 0=B.A i k) (hbs:∀ i,i<B.M->bs.getD i 0=B.b i)
  (hk:SoK B L) :
  Calls Tryz.prog 29 #[b.val] w fun e w'=>(∃ c:Nat,Lin.Num B.Has (2 ^ B.nb) c/\e = .returned (.tuple #[.int .i64 (c:Int),.int .i64 0]))/\Below w w w':=by
 obtain ⟨⟨pn,⟨OA,On,Oc⟩,⟨RA,Rn,Rc⟩,⟨BA,Bn,Bc⟩⟩,⟨bA,bN,bC⟩⟩:=b;dsimp only at hV;subst hV;subst eV;have en:bN=B.nb:=hb.len;subst en;have hbc:B.nb<=bC:=hb.le;have hbc2:bC<=9223372036854775807:=hb.cap;obtain ⟨W0,hW0⟩:∃ W0,W0=w.alloc (.cells #[.int .i64 B.V,.slice OA On Oc,.slice RA Rn Rc,.slice BA Bn Bc,.slice bA B.nb bC] 50):=⟨_,rfl⟩;have al:Below w w W0:=by rw [hW0]; exact bal
 have hq:W0.heap[w.heap.size]?=some (.cells #[.int .i64 B.V,.slice OA On Oc,.slice RA Rn Rc,.slice BA Bn Bc,.slice bA B.nb bC] 50 (0,0)):=by rw [hW0]; exact zAd _ _ rfl
 have p0:W0.cell? w=some (.int .i64 B.V):=by simp [World.cell?,hq]
 have p1:W0.cell? ⟨w.heap.size,1,none⟩=some (.slice OA On Oc):=by simp [World.cell?,hq]
 have p2:W0.cell? ⟨w.heap.size,2,none⟩=some (.slice RA Rn Rc):=by simp [World.cell?,hq]
 have p3:W0.cell? ⟨w.heap.size,3,none⟩=some (.slice BA Bn Bc):=by simp [World.cell?,hq]
 have p4:W0.cell? ⟨w.heap.size,4,none⟩=some (.slice bA B.nb bC):=by simp [World.cell?,hq]
 have HVL:=hdq (zKZ (w:=W0) (b:=⟨⟨B.V,⟨OA,On,Oc⟩,⟨RA,Rn,Rc⟩,⟨BA,Bn,Bc⟩⟩,⟨bA,B.nb,bC⟩⟩) (fun w' hb'=>hvl w' (al.trans (hb'.mono al.size))) rfl rfl hV2 hnb ok (hb.below al));have HB:=hdq hb;have HLP:=hdq (LPIs.mk (h.obj.imp (X':=fun b=>b<w.heap.size) (R':=QIs w (fun b=>b<w.heap.size) 8) (fun b hl _=>hl) fun _ _ hq=>hq.imp fun b hl _=>hl) (h.rows.imp (X':=fun b=>b<w.heap.size) (R':=QIs w (fun b=>b<w.heap.size) 8) (fun b hl _=>hl) fun _ _ hq=>hq.imp fun b hl _=>hl) (h.bounds.imp (X':=fun b=>b<w.heap.size) (R':=QIs w (fun b=>b<w.heap.size) 8) (fun b hl _=>hl) fun _ _ hq=>hq.imp fun b hl _=>hl));have HOk:=hdq ok;have HR:=hdq (And.intro hrM (And.intro hbM (And.intro hM (And.intro hrl (And.intro hrs hbs)))));have HK:=hdq hk;clear h hvl ok hb hrM hbM hrl hrs hbs hk;show Calls _ _ #[.agg #[.int .i64 B.V,.slice OA On Oc,.slice RA Rn Rc,.slice BA Bn Bc,.slice bA B.nb bC]] _ _;go_enter Tryz.func29,Tryz.ntmps29
 go_upto_region 1 with fail
 rw [<-hW0];have hl0:=zAa hq;clear hW0;go_wp2_with fail
 refine HVL.out.mono ?_;rintro e w1 ⟨rfl,hb1⟩;have q1:=(hb1.block _ hl0).trans hq;have hbl:=al.trans (hb1.mono al.size);have hl1:=zAa q1;clear p0 p1 p2 p3 p4 hq hb1 HVL al hl0;have p4:w1.cell? ⟨w.heap.size,4,none⟩=some (.slice bA B.nb bC):=by simp [World.cell?,q1]
 go_wp2_with fail
 refine (zLQ om).mono ?_;rintro e w3 ⟨b0,hb0,rfl,hav,hb3⟩;clear p4;go_wp2;obtain ⟨bcs,hbcs⟩:∃ bcs:Array Value,Hid (bcs=#[.int .i64 B.V,.slice OA On Oc,.slice RA Rn Rc,.slice BA Bn Bc,.slice bA B.nb bC]):=⟨_,hdq rfl⟩
 have H0:CvL w w1 bcs B (B.load [fun _=>-1]) (.int .i64 0) (.slice (some w3) 1 1) (w3.alloc (.cells #[.slice (some b0) B.nb B.nb,.int .i64 (B.nb:Int)] 118)):=by
  have hs3:=hb3.size;have al3:Below w3 w3 (w3.alloc (.cells #[.slice (some b0) B.nb B.nb,.int .i64 (B.nb:Int)] 118)):=bal;have key:∀ y,y<w1.heap.size->(w3.alloc (.cells #[.slice (some b0) B.nb B.nb,.int .i64 (B.nb:Int)] 118)).heap[y]?=w1.heap[y]?:=fun y hy=>(al3.block y om).trans (hb3.block y hy)
  have hlf:B.left (fun _=>-1)=B.nb:=Lin.BP.left_full fun _ _=>rfl
  refine ⟨0,[(fun _=>-1,b0)],rfl,⟨(hbl.trans (hb3.mono hbl.size)).trans (al3.mono (by have:=hbl.size; omega)),hl1,by simp; omega,?_,⟨rfl,.inr ⟨w3.heap.size,1,_,rfl,om,zAd _ _ rfl,nlr _,dj,rfl,?_⟩⟩,?_,fun p hp=>?_⟩,fun p hp=>?_,Lin.BP.Cov.start,rfl,?_⟩
  ·rw [hbcs.out]; exact (key _ om).trans q1
  ·simp [prC,hlf]
  ·intro g hg;cases hg;refine ⟨_,_,_,zAd _ _ rfl,fun c hc=>?_⟩;simp at hc;rcases hc with rfl | rfl
   ·exact .inl ⟨_,_,_,rfl⟩
   ·exact .inr ⟨_,rfl⟩
  ·obtain rfl:=List.mem_singleton.1 hp;refine ⟨hav.below al3,by show w1.heap.size<=b0; omega,fun h0 e=>?_⟩;have e2:=hav.lt h0;have e3:w3.heap.size=b0:=Option.some.inj e;omega
  ·obtain rfl:=List.mem_singleton.1 hp;exact fun i hi=>.inl rfl
  ·exact Nat.le_of_eq (Lin.BP.load_start fun _ _=>rfl)
 clear hav hb0 hb3 q1 hbl hl1;generalize w3.alloc (.cells #[.slice (some b0) B.nb B.nb,.int .i64 (B.nb:Int)] 118)=W3 at *;generalize w1.heap.size=bb at *;go_loopg [4,5] (B.load [fun _=>-1]) (fun k t v W=>CvL w bb bcs B k t v W)
 case atStart=>exact H0
 case round=>
  clear H0;obtain ⟨c,ps,rfl,hM,hAv,hInv,hgk,hload⟩:=hrel;obtain ⟨oA,oC,rfl,ho1,ho2⟩:=zKU hM.own
  have hc13:c<=8191:=by
   have h1:=hInv.le;have h2:2 ^ B.nb<=2 ^ 12:=Nat.pow_le_pow_right dj om;omega
  have Hgk:=hdq hgk;clear hgk;rcases List.eq_nil_or_concat ps with rfl | ⟨ps,q,rfl⟩
  ·have HBe:=hdq hM.bel;have HInv:=hdq hInv;clear hM hAv hInv hload Hgk;simp only [List.length_nil];go_wp2;exact bodyPost_ret (v:=.tuple #[.int .i64 (c:Int),.int .i64 ((0:Nat):Int)]) (by simp [results,Tryz.results29,go_sem]) rfl ⟨⟨c,HInv.out.fin,rfl⟩,HBe.out⟩
  ·rw [show (ps.concat q)=ps++[q] from List.concat_eq_append] at *;simp only [List.map_append,List.map_cons,List.map_nil] at hInv hload Hgk;obtain ⟨g,rfl,c0,c1,hg,hM2,ha⟩:=hM.pop;have hqv:B.Av q.1:=hAv q si;have hAv2:Hid (∀ p,p ∈ ps->B.Av p.1):=hdq fun p hp=>hAv p (by simp [hp])
   have hk13:ps.length+1<=8191:=by
    have h1:=Lin.BP.load_len B (ps.map (·.1)++[q.1]);simp only [List.length_append,List.length_map,List.length_cons,List.length_nil] at h1;have h2:2 ^ (B.nb+1)<=2 ^ 13:=Nat.pow_le_pow_right dj om;omega
   rw [show (ps++[q]).length=ps.length+1 by simp] at ho1 ⊢;have HA:=hdq ha;have HM:=hdq hM2;have HInv:=hdq hInv;have HLd:=hdq hload;have HQ:=hdq hqv;have kw:=hM2.box;rw [hbcs.out] at kw;have p0:wr.cell? w=some (.int .i64 B.V):=(by simp [World.cell?,kw]);have p1:wr.cell? ⟨w.heap.size,1,none⟩=some (.slice OA On Oc):=(by simp [World.cell?,kw]);have p2:wr.cell? ⟨w.heap.size,2,none⟩=some (.slice RA Rn Rc):=(by simp [World.cell?,kw]);have p3:wr.cell? ⟨w.heap.size,3,none⟩=some (.slice BA Bn Bc):=(by simp [World.cell?,kw]);have p4:wr.cell? ⟨w.heap.size,4,none⟩=some (.slice bA B.nb bC):=(by simp [World.cell?,kw]);have hwl:=zAa kw;clear hM hM2 ha hAv hInv hload hqv kw;obtain ⟨k,hk⟩:∃ k,k=ps.length:=⟨_,rfl⟩;rw [<-hk] at ho1 hk13 c0 c1 HM ⊢;have Hk:=hdq hk;clear hk;have k1:(0:Int)<(k:Int)+1:=om;have k2:(k:Int)<(k:Int)+1:=om;have k3:(0:Int)<=(k:Int):=om;obtain ⟨kb,kq,kd,kq2,kd2,hOp,hBu⟩:=HK.out.k q.1 HQ.out;have HOp:=hdq hOp;have HBu:=hdq hBu;clear hOp hBu;(go_wp2_with fail);have hbp:Below wr wr (wr.alloc (.cells #[.slice (some q.2) B.nb B.nb,.int .i64 (B.left q.1:Int)] 118)):=bal;have hP:(wr.alloc (.cells #[.slice (some q.2) B.nb B.nb,.int .i64 (B.left q.1:Int)] 118)).heap[wr.heap.size]?=some (.cells #[.slice (some q.2) B.nb B.nb,.int .i64 (B.left q.1:Int)] 118 (0,0)):=zAd _ _ rfl;have HM1:=hdq (HM.out.below hbp);have HA1:=hdq (HA.out.below hbp);clear p0 p1 p2 p3 p4 c0 c1 HM HA hbp hwl;have hpb:=zAa hP;generalize wr.alloc (.cells #[.slice (some q.2) B.nb B.nb,.int .i64 (B.left q.1:Int)] 118)=Wp at *;generalize wr.heap.size=pb at *;refine (zLt (b:=⟨⟨B.V,⟨OA,On,Oc⟩,⟨RA,Rn,Rc⟩,⟨BA,Bn,Bc⟩⟩,⟨bA,B.nb,bC⟩⟩) (sa:=⟨some ⟨q.2,0,none⟩,B.nb,B.nb⟩) (HLP.out.below HM1.out.bel) rfl rfl hV2 om HOk.out HQ.out (HB.out.below HM1.out.bel) HA1.out HR.out.1 HR.out.2.1 HR.out.2.2.1 HR.out.2.2.2.1 HR.out.2.2.2.2.1 HR.out.2.2.2.2.2 HBu.out).mono ?_;rintro e w4 ⟨⟨d4,bs4,row4,bas4,cols4,lvs4,rb4,rc4,gb4,gc4⟩,G4,rfl,hT4,hGn,hb4⟩;have HT4:=hdq hT4;have HG4:=hdq hGn;have HB4:=hdq hb4;clear hT4 hGn hb4;(go_wp2_with fail);refine (zK9 (kb:=kb) HT4.out rfl rfl (Lin.Prob.start_good _) (fun u v=>Lin.BP.vn_le.1) (nlt (zNl B _) om) (nlt (zNk B _) om) HOp.out.l1 (by have:=HOp.out.le; have:=HOp.out.l2; omega) (by have:=HOp.out.le; have:=HOp.out.l3; omega) HOp.out.fit).mono ?_;rintro e w5 ⟨D,G5,⟨d5,bs5,row5,bas5,cols5,lvs5,rb5,rc5,gb5,gc5⟩,b5,rfl,hx5,hM5,hL5,hF5,hT5,hD5,hb1,hb0⟩;dsimp only at hx5;subst hx5;have h45:Below Wp w4 w5:=hF5.below HB4.out.size fun y hy=>HG4.out y (HT4.out.ow hy)
   have HB5:=hdq (HB4.out.trans h45);have HM5':=hdq (HM1.out.below HB5.out);have hP5:=(HB5.out.block pb hpb).trans hP;have hP0:=hdq hP
   cases b5 with
   | false=>
    have Hfin:Hid (CvL w bb bcs B (B.load (ps.map (·.1))) (.int .i64 (c:Int)) (.slice (some g) k oC) w5):=hdq ⟨c,ps,rfl,HM5'.out,hAv2.out,HInv.out.drop fun x hx=>hb0 rfl _ (Lin.BP.feas_rest HOk.out hx),rfl,by have:=HLd.out; have:=B.load_pop (o:=ps.map (·.1)) (a:=q.1); omega⟩;have Hms:Hid (B.load (ps.map (·.1))<gk):=hdq (by rw [Hgk.out]; exact B.load_pop);clear hT5 hD5 hb1 hb0 hM5 hL5 hF5 h45 hP hP5 HT4 HG4 HB4 HB5 HM1 HA1 HM5' HOp HBu HInv HLd;go_wp2;(go_roundg (B.load (ps.map (·.1))));case rel=>exact fn_ Hfin.out
    case measure=>exact Hms.out
   | true=>
    obtain ⟨xr,hxr⟩:∃ x,B.Rel q.1 x:=⟨_,Lin.BP.feas_lift HOk.out HQ.out (hD5.feasible_point (hb1 rfl))⟩;have HX:=hdq hxr;have HA5:=hdq (HA1.out.below HB5.out);have x0:w5.cell? pb=some (.slice (some q.2) B.nb B.nb):=(by simp [World.cell?,hP5]);have x1:w5.cell? ⟨pb,1,none⟩=some (.int .i64 (B.left q.1:Int)):=(by simp [World.cell?,hP5]);have Hpl:=hdq (zAa hP5);clear hT5 hD5 hb1 hb0 hM5 hL5 hF5 h45 hP hxr HT4 HG4 HB4 HB5 HOp HBu HM1 HA1;(go_wp2_with fail);refine (zLL (l:=B.left q.1) (av:=q.1) (s:=⟨some ⟨q.2,0,none⟩,B.nb,B.nb⟩) HA5.out om).mono ?_;rintro e w9 ⟨⟨pl,is,rfl,hi1,hi0⟩,hb9⟩;have HM9:=hdq (HM5'.out.below hb9);have HA9:=hdq (HA5.out.below hb9);have hP9:=(hb9.block pb Hpl.out).trans hP5;have hs9:=hb9.size;clear HM5' HA5 hP5 hb9 x0 x1
    cases is with
    | false=>
     have hi0:=hi0 rfl
     have hz:∀ i,i<B.nb->q.1 i ≠ -1:=fun i hi=>by
      rcases hi0 with h | h
      ·exact Lin.BP.left_zero h hi
      ·exact h i hi
     have ec:IntKind.i64.wrap ((c:Int)+1)=(c:Int)+1:=IntWalk.i64_in _ om;have Hfin:Hid (CvL w bb bcs B (B.load (ps.map (·.1))) (.int .i64 ((c:Int)+1)) (.slice (some g) k oC) w9):=hdq ⟨c+1,ps,si,HM9.out,hAv2.out,HInv.out.leaf HQ.out hz HX.out,rfl,by have:=HLd.out; have:=B.load_pop (o:=ps.map (·.1)) (a:=q.1); omega⟩;have Hms:Hid (B.load (ps.map (·.1))<gk):=hdq (by rw [Hgk.out]; exact B.load_pop);clear hP9 HM9 HA9 HInv HLd hi0 hi1 hz HX;go_wp2;(go_roundg (B.load (ps.map (·.1))));case rel=>exact fn_ Hfin.out
     case measure=>exact Hms.out
    | true=>
     obtain ⟨hp,hu⟩:=hi1 rfl;have hl1:=Lin.BP.left_turn (B:=B) (v:=1) hp hu dj;have hl0:=Lin.BP.left_turn (B:=B) (v:=0) hp hu dj
     have hle:B.left q.1<=64:=by
      have:B.left q.1<=B.nb:=by
       unfold Lin.BP.left Lin.BP.und Lin.filt;exact nlt (List.length_filter_le _ _) si
      omega
     have x0:w9.cell? pb=some (.slice (some q.2) B.nb B.nb):=(by simp [World.cell?,hP9]);have x1:w9.cell? ⟨pb,1,none⟩=some (.int .i64 (B.left q.1:Int)):=(by simp [World.cell?,hP9]);have hpl:=zAa hP9;have HPu:=hdq (And.intro hp hu);clear hi0 hi1 hP9 hu;(go_upto_region 12 with fail);refine zAp 8 (fun f w'=>(w'.cell? pb=some (.slice (some q.2) B.nb B.nb)/\w'.cell? ⟨pb,1,none⟩=some (.int .i64 (B.left q.1:Int)))/\(f=false->Below w9 w9 w')) kj ?_;have hS0:(w9.drew.cell? pb=some (.slice (some q.2) B.nb B.nb)/\w9.drew.cell? ⟨pb,1,none⟩=some (.int .i64 (B.left q.1:Int)))/\(false=false->Below w9 w9 w9.drew):=⟨⟨x0,x1⟩,fun _=>(brf _ _).drew⟩;refine tx4 0 1 2 4 hS0 ?_;refine tx1 5 hS0 ?_;refine tk1 3 ?_;intro K hK;go_simp;refine (zLh (nb:=B.nb) (l:=B.left q.1) (p:=pl) (av:=q.1) (v:=1) (s:=⟨some ⟨q.2,0,none⟩,B.nb,B.nb⟩) (HA9.out.below (brf _ _).drew) om hp om hle).mono ?_;rintro e w10 ⟨n1,hn1,rfl,hav1,hb10⟩;have h9:Below w9 w9 w10:=(brf _ _).drew.trans hb10;refine hK.out _ _ ⟨⟨(h9.cell (p:=pb) hpl).trans x0,(h9.cell (p:=⟨pb,1,none⟩) hpl).trans x1⟩,fun _=>h9⟩ ?_;clear hK K;refine tk1 6 ?_;intro K hK;go_simp;refine (zLh (nb:=B.nb) (l:=B.left q.1) (p:=pl) (av:=q.1) (v:=0) (s:=⟨some ⟨q.2,0,none⟩,B.nb,B.nb⟩) (HA9.out.below h9) om hp om hle).mono ?_;rintro e w11 ⟨n0,hn0,rfl,hav0,hb11⟩;have h10:Below w9 w9 w11:=h9.trans (hb11.mono h9.size);refine hK.out _ _ ⟨⟨(h10.cell (p:=pb) hpl).trans x0,(h10.cell (p:=⟨pb,1,none⟩) hpl).trans x1⟩,fun _=>h10⟩ ?_;clear hK K;refine tk1 7 ?_;intro K hK;go_simp;have HM11:=hdq (HM9.out.below h10);have e1:(B.left q.1-1:Nat)=B.left (Lin.turn q.1 pl 1):=om;have e0:B.left (Lin.turn q.1 pl 1)=B.left (Lin.turn q.1 pl 0):=om;rw [e1];have hnew:(w11.alloc (.cells #[.slice (some n1) B.nb B.nb,.int .i64 (B.left (Lin.turn q.1 pl 1):Int),.slice (some n0) B.nb B.nb,.int .i64 (B.left (Lin.turn q.1 pl 1):Int)] 118)).heap[w11.heap.size]?=some (.cells #[.slice (some n1) B.nb B.nb,.int .i64 (B.left (Lin.turn q.1 pl 1):Int),.slice (some n0) B.nb B.nb,.int .i64 (B.left (Lin.turn q.1 pl 1):Int)] 118 (0,0)):=zAd _ _ rfl;have hal:Below w9 w9 (w11.alloc (.cells #[.slice (some n1) B.nb B.nb,.int .i64 (B.left (Lin.turn q.1 pl 1):Int),.slice (some n0) B.nb B.nb,.int .i64 (B.left (Lin.turn q.1 pl 1):Int)] 118)):=h10.alloc h10.size _;have a0:=(hal.cell (p:=pb) hpl).trans x0;have a1:=(hal.cell (p:=⟨pb,1,none⟩) hpl).trans x1;have af:=hal.block pb hpl;refine hK.out _ _ ⟨⟨a0,a1⟩,fun _=>hal⟩ ?_;clear hK K;refine tk1 8 ?_;intro K hK;obtain ⟨i0,hiI,hz0,hz1,hz2⟩:=info_parts zLC;have hown:=HM11.out.own;rw [<-Hk.out] at hown;refine zKP SI _ _ 120 rfl bb 118 i0 (.agg #[.slice none 0 0,.int .i64 0]) 2 32 Tryz.underlying120 hiI hz0 hz1 hz2 rfl dj (.slice (some g) k oC) k (ps.flatMap (prC B)) rfl (hown.alloc _) ⟨w11,0,none⟩ 2 2 [.slice (some n1) B.nb B.nb,.int .i64 (B.left (Lin.turn q.1 pl 1):Int),.slice (some n0) B.nb B.nb,.int .i64 (B.left (Lin.turn q.1 pl 1):Int)] rfl rfl (fun j u hu=>by rw [zA4,Nat.zero_add]; simp only [World.cell?,hnew]; simpa using hu) (by intro u hu; simp at hu; rcases hu with rfl | rfl | rfl | rfl <;> rfl) (by simp [maxLen]; omega) om (by have:=HM11.out.lt; simp; omega) dj (HM11.out.below (bal)).ct (by intro u hu; simp [Value.cells] at hu; rcases hu with rfl | rfl; exact .inl ⟨_,_,_,rfl⟩; exact .inr ⟨_,rfl⟩) (by intro u hu; simp at hu; rcases hu with rfl | rfl | rfl | rfl; exact .inl ⟨_,_,_,rfl⟩; exact .inr ⟨_,rfl⟩; exact .inl ⟨_,_,_,rfl⟩; exact .inr ⟨_,rfl⟩) ?_;intro v' W5 hown5 hg5 hct5 hat5;have kP:W5.heap[pb]?=w9.heap[pb]?:=(hg5.block pb (ltl hpl hal.size) (by intro e; have e2:=Option.some.inj e; have e3:pb=g:=e2; omega)).trans af;have z0:=(cob (a:=pb) kP).trans x0;have z1:=(cob (a:=⟨pb,1,none⟩) kP).trans x1;have hgl:=HM9.out.ownlt (j:=g) rfl;have hs10:=h9.size;have Hsp:=B.load_split (o:=ps.map (·.1)) (a:=q.1) HPu.out.1 HPu.out.2;have e3:(ps++[(Lin.turn q.1 pl 1,n1)]++[(Lin.turn q.1 pl 0,n0)]).map (·.1)=ps.map (·.1)++[Lin.turn q.1 pl 1]++[Lin.turn q.1 pl 0]:=si
     have Hfin:Hid (CvL w bb bcs B (B.load (ps.map (·.1)++[Lin.turn q.1 pl 1]++[Lin.turn q.1 pl 0])) (.int .i64 (c:Int)) v' W5):=hdq (by
      refine ⟨c,ps++[(Lin.turn q.1 pl 1,n1)]++[(Lin.turn q.1 pl 0,n0)],rfl,HM11.out.push (o:=.cells #[.slice (some n1) B.nb B.nb,.int .i64 (B.left (Lin.turn q.1 pl 1):Int),.slice (some n0) B.nb B.nb,.int .i64 (B.left (Lin.turn q.1 pl 1):Int)] 118) ?_ hg5 hct5 hat5 ⟨hav1.below hb11,?_,fun _ e=>?_⟩ ⟨hav0,?_,fun _ e=>?_⟩,fun p hp=>?_,?_,by rw [e3],by rw [e3]; have:=HLd.out; omega⟩
      ·rw [<-Hk.out];simp only [prC,<-e0];exact hown5
      ·have:w9.heap.size<=n1:=hn1;have:=HM9.out.lt;show bb<=n1; omega
      ·have e2:g=n1:=Option.some.inj e;have:w9.heap.size<=n1:=hn1;omega
      ·have:=HM9.out.lt;show bb<=n0; omega
      ·have e2:g=n0:=Option.some.inj e;omega
      ·simp only [List.mem_append,List.mem_singleton] at hp;rcases hp with (hp | rfl) | rfl
       ·exact hAv2.out p hp
       ·exact HQ.out.turn (.inr rfl)
       ·exact HQ.out.turn (.inl rfl)
      ·rw [e3];exact HInv.out.split HPu.out.1 HPu.out.2)
     have Hms:Hid (B.load (ps.map (·.1)++[Lin.turn q.1 pl 1]++[Lin.turn q.1 pl 0])<gk):=hdq (by rw [Hgk.out]; omega);clear Hsp e3 hown5 hg5 hct5 hat5 kP hgl hnew hal a0 a1 af hav1 hav0 hb10 hb11 h9 h10 HM11 hown e1 e0;simp only [Act.put,zz];refine hK.out _ _ ⟨⟨z0,z1⟩,fun h=>absurd h dj⟩ ?_;clear hK K;refine tk1 9 ?_;intro K hK;go_simp;refine hK.out _ _ ⟨⟨z0,z1⟩,fun h=>absurd h dj⟩ ?_;clear hK K;refine zAf kj ?_ _;clear HM9 HA9 HInv HLd HX hS0 x0 x1 z0 z1;go_wp2;(go_roundg (B.load (ps.map (·.1)++[Lin.turn q.1 pl 1]++[Lin.turn q.1 pl 0])));case rel=>exact fn_ Hfin.out
     case measure=>exact Hms.out
open Go.RowKit Go.Shelf Lin
theorem LPRaw.raw3 (h:LPRaw w X (QAny w Y) p os rs bs) (hb:Below w w w'):LPRaw w' X (fun _ _=>True) p os rs bs:=
 ⟨(h.obj.belowA hb).imp (fun _ _ h=>h) fun _ _ _=>trivial,(h.rows.belowA hb).imp (fun _ _ h=>h) fun _ _ _=>trivial,(h.bounds.belowA hb).imp (fun _ _ h=>h) fun _ _ _=>trivial⟩
theorem zQj (h:∀ i,i<zs.length->ZOk V zs i):∀ z ∈ zs,z.toNat<V:=fun z hz=>by
 obtain ⟨j,hj,rfl⟩:=List.getElem_of_mem hz;obtain ⟨h1,h2,-⟩:=h j hj;have e:zs.getD j 0=zs[j]:=by simp [hj]
 rw [e] at h1 h2;omega
theorem BinF.count {b:BinV} (h:BinF w b V os rs bs zs):Calls Tryz.prog 29 #[b.val] w fun e w'=>(∃ c:Nat,Lin.Num (BPof V os rs bs zs).Has (2 ^ zs.length) c/\e = .returned (.tuple #[.int .i64 (c:Int),.int .i64 0]))/\Below w w w':=
 zTz (B:=BPof V os rs bs zs) h.lp (fun w' hb=>zBv (h.lp.below hb) h.n (by have:=h.V4; omega) h.o1 h.o2 (by have:=h.r; omega) h.bn h.co h.cr) h.n rfl (by have:=h.V4; omega) (by have:=h.z4; show zs.length<=12; omega) (zOi h.zok) (h.z.bin fun i hi=>(h.zok i hi).1) h.lp.rows.len.symm (h.bn.trans h.lp.rows.len.symm) (by have:=h.r; have:=h.lp.rows.len; show rs.length<=800; omega) (zBT h.cr) (fun _ _ _=>rfl) (fun _ _=>rfl) h.sok
theorem BoolsAt.len {k':Nat} (h:BoolsAt w n k s) (e:k'=k):BoolsAt w n k' s:=e ▸ h
def BsRes (V:Nat) (os rs:List (List Rat)) (bs:List Rat) (zs:List Int) (v:SV) (c:Nat) (y:List Rat) (W:World):Prop:=
 (c=0/\y.length=V/\VecIs W AllB AllB 905000 v y/\((BPof V os rs bs zs).S fun k=>y.getD k 0)/\¬ (BPof V os rs bs zs).Ray/\∀ z,(BPof V os rs bs zs).S z->(BPof V os rs bs zs).Le z fun k=>y.getD k 0)\/
 (c=8/\∀ x,¬ (BPof V os rs bs zs).S x)\/(c=9/\(BPof V os rs bs zs).Ray/\∃ x,(BPof V os rs bs zs).S x)
section
variable {V:Nat} {os rs:List (List Rat)} {bs y:List Rat} {zs:List Int} {v:SV} {c:Nat} {w w':World}
theorem zT4 {B:BP} {x':Nat->Rat} (ok:B.Ok) (h:∀ k,k<B.V->x k=x' k) (hs:B.S x):B.S x':=
 ⟨⟨fun k hk=>by rw [<-h k hk]; exact hs.1.1 k hk,fun i hi=>by rw [<-BP.dot_congr h]; exact hs.1.2 i hi⟩,fun i hi=>by rw [<-h _ (ok.lt i hi)]; exact hs.2 i hi⟩
theorem BsRes.below (h:BsRes V os rs bs zs v c y w) (hb:Below w w w'):BsRes V os rs bs zs v c y w':=
 h.imp (fun ⟨h1,h2,h3,h4⟩=>⟨h1,h2,h3.below hb,h4⟩) id
theorem zTN {e:Ending} (ok:(BPof V os rs bs zs).Ok) (h:BSoRet w 905000 (BPof V os rs bs zs) e w'):∃ (v:SV) (s c:Nat) (y:List Rat),e = .returned (.tuple #[v.val,.int .i64 (s:Int),.int .i64 (c:Int)])/\BsRes V os rs bs zs v c y w':=by
 obtain ⟨v,s,c,rfl,-,h⟩:=h;rcases h with ⟨rfl,-,-,x,h1,h2,h3,h4,-⟩ | ⟨rfl,-,-,h⟩ | ⟨rfl,-,-,h⟩
 ·have hcg:∀ k,k<V->x k=((List.range V).map x).getD k 0:=fun k hk=>(zAS _ _ hk).symm
  refine ⟨v,s,0,(List.range V).map x,rfl,.inl ⟨rfl,si,h4,zT4 ok hcg h1,h2,fun z hz=>(h3 z hz).congr (fun _ _=>rfl) hcg⟩⟩
 ·exact ⟨v,s,8,[],rfl,.inr (.inl ⟨rfl,h⟩)⟩
 ·exact ⟨v,s,9,[],rfl,.inr (.inr ⟨rfl,h⟩)⟩
def BsN (V:Nat) (os rs:List (List Rat)) (bs:List Rat) (zs:List Int) (c:Nat) (y:List Rat) (n f fr:Nat) (eq:Bool):Prop:=
 Lin.Num (BPof V os rs bs zs).Has n f/\((BPof V os rs bs zs).Ray->fr=f)/\(¬ (BPof V os rs bs zs).Ray->fr=0)/\(c=0->∀ m,m<n->(BPof V os rs bs zs).In (bit m) (fun k=>y.getD k 0)->eq=true)
def BbL (w:World) (V:Nat) (os rs:List (List Rat)) (bs:List Rat) (zs:List Int) (v:SV) (c:Nat) (y:List Rat) (v0 v1 v2 v3 v4:Value) (t6 t7 t8 t9:Value) (W:World):Prop:=
 ∃ (n f fr:Nat) (eq:Bool),n<=2 ^ zs.length/\t6 = .int .i64 (f:Int)/\t7 = .int .i64 (fr:Int)/\t8 = .bool eq/\t9 = .int .i64 (n:Int)/\Hid (BsN V os rs bs zs c y n f fr eq)/\Below w w W/\Box5 W w v0 v1 v2 v3 v4/\Hid (BsRes V os rs bs zs v c y W)
variable {n f fr:Nat} {eq:Bool}
theorem BsN.no (h:BsN V os rs bs zs c y n f fr eq) (hR:BsRes V os rs bs zs v c y w) (hn:¬ (BPof V os rs bs zs).Has n):BsN V os rs bs zs c y (n+1) f fr eq:=
 ⟨.inr ⟨hn,h.1⟩,h.2.1,h.2.2.1,fun hc m hm hi=>by
  by_cases e:m=n
  ·subst e;rcases hR with ⟨-,-,-,hS,-⟩ | ⟨e,-⟩ | ⟨e,-⟩
   ·exact absurd ⟨_,hS,hi⟩ hn
   ·omega
   ·omega
  ·exact h.2.2.2 hc m om hi⟩
theorem BsN.free (h:BsN V os rs bs zs c y n f fr eq) (hR:BsRes V os rs bs zs v c y w) (hn:(BPof V os rs bs zs).Has n) (hr:(BPof V os rs bs zs).Ray):BsN V os rs bs zs c y (n+1) (f+1) (fr+1) eq:=
 ⟨.inl ⟨hn,f,rfl,h.1⟩,fun _=>by rw [h.2.1 hr],fun h=>absurd hr h,fun hc=>by
  rcases hR with ⟨-,-,-,-,hr',-⟩ | ⟨e,-⟩ | ⟨e,-⟩
  ·exact absurd hr hr'
  ·omega
  ·omega⟩
theorem BsRes.ok (hR:BsRes V os rs bs zs v c y w) (hn:(BPof V os rs bs zs).Has n) (hr:¬ (BPof V os rs bs zs).Ray):c=0/\y.length=V/\VecIs w AllB AllB 905000 v y/\((BPof V os rs bs zs).S fun k=>y.getD k 0)/\∀ z,(BPof V os rs bs zs).S z->(BPof V os rs bs zs).Le z fun k=>y.getD k 0:=by
 rcases hR with ⟨h1,h2,h3,h4,-,h5⟩ | ⟨-,h⟩ | ⟨-,h,-⟩
 ·exact ⟨h1,h2,h3,h4,h5⟩
 ·obtain ⟨x,hx,-⟩:=hn; exact absurd hx (h x)
 ·exact absurd h hr
theorem BsN.opt {e:Bool} (h:BsN V os rs bs zs c y n f fr eq) (hn:(BPof V os rs bs zs).Has n) (hr:¬ (BPof V os rs bs zs).Ray) (hl:l.length=V) (hy:y.length=V) (hyS:(BPof V os rs bs zs).S fun k=>y.getD k 0) (hb:(BPof V os rs bs zs).Le (fun k=>l.getD k 0) fun k=>y.getD k 0)
  (hm:∀ z,(BPof V os rs bs zs).S z->(BPof V os rs bs zs).In (bit n) z->(BPof V os rs bs zs).Le z fun k=>l.getD k 0) (he:eq=true->e=true) (he2:l=y->e=true):BsN V os rs bs zs c y (n+1) (f+1) fr e:=
 ⟨.inl ⟨hn,f,rfl,h.1⟩,fun h=>absurd h hr,h.2.2.1,fun hc m hm' hi=>by
  by_cases em:m=n
  ·subst em;refine he2 ?_;have h2:=hm _ hyS hi;apply List.ext_getElem (hl.trans hy.symm);intro k h3 h4;have:=hb.antisymm h2 (k:=k) (show k<V by omega);simpa [gdd,h3,h4] using this
  ·exact he (h.2.2.2 hc m om hi)⟩
end
theorem zTA {b:BinV} (h:LPRaw w AllB (QAny w AllB) b.p os rs bs) (hzs:IntsAt w b.bin zs) :
  Calls Tryz.prog 5 #[b.val] w fun e w'=>e = .returned (.bool true)/\Below w w w':=by
 obtain ⟨⟨n,⟨oA,on,oc⟩,⟨rA,rn,rc⟩,⟨bA,bn,bc⟩⟩,⟨iA,iN,ic⟩⟩:=b;have hi1:iN<=ic:=hzs.le;have hi2:ic<=9223372036854775807:=hzs.cap;have hzl:zs.length=iN:=hzs.len;have HZl:=hdq hzl;replace h:=hdq h;replace hzs:=hdq hzs;clear hzl;dsimp only [BinV.val,LPV.val,SV.val] at *;go_enter Tryz.func5,Tryz.ntmps5
 go_upto_region 1 with fail
 refine zAo (fun W=>Below w w W/\Box5 W w (.int .i64 n) (.slice oA on oc) (.slice rA rn rc) (.slice bA bn bc) (.slice iA iN ic)/\w.heap.size<W.heap.size) ⟨(az (brf _ _)),⟨by go_simp,by go_simp,by go_simp,by go_simp,by go_simp,by intro o; go_simp⟩,by simp <;> omega⟩ ?_;rintro W ⟨hbW,bP,s0⟩;have hBW:=hbW.size;obtain ⟨p0,p1,p2,p3,p4,-⟩:=id bP;clear hBW;go_wp2_with fail
 refine (zNL (b:=⟨⟨n,⟨oA,on,oc⟩,⟨rA,rn,rc⟩,⟨bA,bn,bc⟩⟩,⟨iA,iN,ic⟩⟩) (h.out.below hbW) (by show iN<=_; omega)).mono ?_;rintro e w1 ⟨⟨c,rfl,hbb⟩,hb1⟩
 cases c with
 | true=>
  clear hbb;replace bP:=bP.below hb1 s0;replace s0:=ltl s0 hb1.size;replace hbW:=hbW.trans (hb1.mono hbW.size);clear p0 p1 p2 p3 p4;obtain ⟨p0,p1,p2,p3,p4,-⟩:=id bP;go_wp2_with fail
  refine zLi.mono ?_;rintro e wl ⟨rfl,hbl⟩;have hbf:=hbW.trans (hbl.mono hbW.size);go_wp2;go_ret
  exact ⟨rfl,hbf⟩
 | false=>
  have HS:=hdq (And.intro (Short6.back h.out hbW (hbb rfl).1) (hbb rfl).2);clear hbb;replace bP:=bP.below hb1 s0;replace s0:=ltl s0 hb1.size;replace hbW:=hbW.trans (hb1.mono hbW.size);clear p0 p1 p2 p3 p4;obtain ⟨p0,p1,p2,p3,p4,-⟩:=id bP;go_wp2_with fail
  refine (zNN (b:=⟨⟨n,⟨oA,on,oc⟩,⟨rA,rn,rc⟩,⟨bA,bn,bc⟩⟩,⟨iA,iN,ic⟩⟩) (fun w' hb=>(h.out.below hbW).raw3 hb) (hzs.out.below hbW)).mono ?_;rintro e w2 ⟨⟨c,rfl,hmm⟩,hb2⟩;replace bP:=bP.below hb2 s0;replace s0:=ltl s0 hb2.size;replace hbW:=hbW.trans (hb2.mono hbW.size);clear p0 p1 p2 p3 p4;obtain ⟨p0,p1,p2,p3,p4,-⟩:=id bP
  cases c with
  | false=>
   clear hmm;(go_wp2_with fail);refine zLi.mono ?_;rintro e wl ⟨rfl,hbl⟩;have hbf:=hbW.trans (hbl.mono hbW.size);go_wp2;go_ret
   exact ⟨rfl,hbf⟩
  | true=>
   have HMy:=hdq (hmm rfl);clear hmm hb1 hb2;by_cases h3:3<iN
   ·have h3':(3:Int)<(iN:Int):=(by omega);(go_wp2_with fail);refine zLi.mono ?_;rintro e wl ⟨rfl,hbl⟩;have hbf:=hbW.trans (hbl.mono hbW.size);go_wp2;go_ret;exact ⟨rfl,hbf⟩
   ·have h3':¬ (3:Int)<(iN:Int):=(by omega);have HF:=hdq (zHY HS.out.1 HS.out.2 HMy.out.1);obtain ⟨V,rfl⟩:∃ V:Nat,n=V:=⟨n.toNat,by have:=HF.out.1; show n=(n.toNat:Int); simp only at this; omega⟩;have HFb:Hid (BinF w ⟨⟨V,⟨oA,on,oc⟩,⟨rA,rn,rc⟩,⟨bA,bn,bc⟩⟩,⟨iA,iN,ic⟩⟩ V os rs bs zs):=hdq ⟨rfl,by have:=HF.out.2.1; show V<=4; simp only at this; omega,HF.out.2.2.1,HF.out.2.2.2.1,by have:=HF.out.2.2.2.2.1; show rn<=5; simp only at this; omega,HF.out.2.2.2.2.2.1,by have:=HF.out.2.2.2.2.2.2.1; show colsOf os<=V; simp only at this; omega,by have:=HF.out.2.2.2.2.2.2.2.1; show colsOf rs<=V; simp only at this; omega,HF.out.2.2.2.2.2.2.2.2.more (by decide),hzs.out,by rw [HZl.out]; omega,HMy.out.2.2⟩;have hV4:V<=4:=HFb.out.V4;clear HF HS HMy h;have hi3:iN<=3:=(by omega);have hbl:bs.length=rs.length:=by have h1:=HFb.out.lp.rows.len; have h2:=HFb.out.lp.bounds.len; have h3:=HFb.out.bn; dsimp only at h1 h2 h3; omega
    (go_wp2_with fail);refine (BinF.solve (b:=⟨⟨V,⟨oA,on,oc⟩,⟨rA,rn,rc⟩,⟨bA,bn,bc⟩⟩,⟨iA,iN,ic⟩⟩) (HFb.out.below hbW)).mono ?_;rintro e x1 hret;have hx1:=hret.code;replace bP:=bP.below hx1 s0;replace s0:=ltl s0 hx1.size;replace hbW:=hbW.trans (hx1.mono hbW.size);clear p0 p1 p2 p3 p4;obtain ⟨p0,p1,p2,p3,p4,-⟩:=id bP;obtain ⟨⟨vA,vn,vc⟩,st,c,y,rfl,hres⟩:=zTN (zOi HFb.out.zok) hret;dsimp only [SV.val];clear hret hx1;have H0:BbL w V os rs bs zs ⟨vA,vn,vc⟩ c y (.int .i64 V) (.slice oA on oc) (.slice rA rn rc) (.slice bA bn bc) (.slice iA iN ic) (.int .i64 0) (.int .i64 0) (.bool false) (.int .i64 0) x1:=⟨0,0,0,false,nzl _,rfl,rfl,rfl,rfl,hdq ⟨rfl,fun _=>rfl,fun _=>rfl,fun _ m hm=>absurd hm (Nat.not_lt_zero m)⟩,hbW,bP,hdq hres⟩;clear hres hbW bP p0 p1 p2 p3 p4 s0;obtain ⟨N2,hN2⟩:∃ N2:Nat,N2=2 ^ iN:=⟨_,rfl⟩;have hN8:N2<=8:=by rw [hN2]; exact Nat.pow_le_pow_right (by decide) hi3
    have hsh:(2:Int) ^ iN=(N2:Int):=by rw [hN2]; simp
    have HN2:Hid (2 ^ zs.length=N2):=hdq (by rw [HZl.out,hN2]);clear hN2;go_wp2;(go_loopw [6,7,8,9] (fun t6 t7 t8 t9 W=>BbL w V os rs bs zs ⟨vA,vn,vc⟩ c y (.int .i64 V) (.slice oA on oc) (.slice rA rn rc) (.slice bA bn bc) (.slice iA iN ic) t6 t7 t8 t9 W) (fun _ _ _ t _=>N2-(intOf t).toNat));case atStart=>exact H0
    case round=>
     clear H0;obtain ⟨n,f,fr,eq,hn,rfl,rfl,rfl,rfl,HN,hbW,bP,HR⟩:=hrel;rw [HN2.out] at hn;obtain ⟨p0,p1,p2,p3,p4,-⟩:=id bP;have s0:w.heap.size<wr.heap.size:=zAb bP.1;have hf8:f<=n:=HN.out.1.le;by_cases hlt:n<N2
     ·have hki:(n:Int)<(N2:Int):=(by omega);have hw1:IntKind.i64.wrap ((n:Int)+1)=(n:Int)+1:=IntWalk.i64_in _ (by omega);have hw2:IntKind.i64.wrap ((f:Int)+1)=(f:Int)+1:=IntWalk.i64_in _ (by omega);have hN12:iN<=12:=(by omega);have hn4:n<4096:=(by omega);have hbw:=hbW.size;have HC1:∀ W',Calls Tryz.prog 25 #[.agg #[.int .i64 (V:Int),.slice oA on oc,.slice rA rn rc,.slice bA bn bc,.slice iA iN ic],.int .i64 (n:Int)] W' fun e w'=>(∃ s:SV,e = .returned s.val/\BoolsAt w' n iN s)/\Below W' W' w':=fun _=>zTr (b:=⟨⟨V,⟨oA,on,oc⟩,⟨rA,rn,rc⟩,⟨bA,bn,bc⟩⟩,⟨iA,iN,ic⟩⟩) hN12 hn4
      obtain ⟨m2,hm2⟩:∃ m2,Hid (m2=rn+2*zs.length):=⟨_,hdq rfl⟩
      have HC2:∀ W' (ch:SV),Below w w W'->BoolsAt W' n iN ch->Calls Tryz.prog 24 #[.agg #[.int .i64 (V:Int),.slice oA on oc,.slice rA rn rc,.slice bA bn bc,.slice iA iN ic],.slice ch.A ch.n ch.c] W' fun e w'=>(∃ (qa:Option Addr) (qc:Nat) (ra:Option Addr) (rd:Nat) (ba:Option Addr) (bd:Nat),e = .returned (.tuple #[.agg #[.int .i64 (V:Int),.slice qa on qc,.slice ra m2 rd,.slice ba m2 bd],.int .i64 0])/\LPIs w' (fun x=>W'.heap.size<=x) (fun x=>W'.heap.size<=x) (9+zs.length) ⟨V,⟨qa,on,qc⟩,⟨ra,m2,rd⟩,⟨ba,m2,bd⟩⟩ os (fxR V rs zs zs.length) (fxB bs n zs.length))/\Below W' W' w':=fun W' ch hb hch=>by
       refine (zTJ (b:=⟨⟨V,⟨oA,on,oc⟩,⟨rA,rn,rc⟩,⟨bA,bn,bc⟩⟩,⟨iA,iN,ic⟩⟩) (ch:=ch) (HFb.out.below hb) (hch.len HZl.out)).mono ?_;rintro e w' ⟨⟨⟨z,⟨qa,qm,qc⟩,⟨ra,rm,rd⟩,⟨ba,bm,bd⟩⟩,rfl,e1,e2,e3,e4,hq⟩,hb'⟩;dsimp only at e1 e2 e3 e4;obtain rfl:rm=m2:=e3.trans hm2.out.symm;subst e1 e2 e4;exact ⟨⟨qa,qc,ra,rd,ba,bd,rfl,hq⟩,hb'⟩
      (go_upto_region 8 with fail);go_cut [10,11] from 36 to 91 (fun p t W=>t = .int .i64 0/\∃ (g:Nat) (qa:Option Addr) (qc:Nat) (ra:Option Addr) (rd:Nat) (ba:Option Addr) (bd:Nat),p = .pointer (some g)/\RxNew wr V (9+zs.length) g os (fxR V rs zs zs.length) (fxB bs n zs.length) ⟨V,⟨qa,on,qc⟩,⟨ra,m2,rd⟩,⟨ba,m2,bd⟩⟩ W)
      case first=>
       go_region_held3 (Sees w [] wr) (exact kp)
        (first
         | (go_at_call 25; ((with_reducible refine (HC1 _).mono ?_); rintro e y1 ⟨⟨⟨cA,cn,cc⟩,rfl,hch⟩,hc1⟩; (have sz1:wr.heap.size<=y1.heap.size:=by exact nlt (Sees.kept (by assumption):Kept w [] wr _).size hc1.size); (obtain ⟨hcc1,hf1⟩:=bcell hc1); (have lt1:=fun (b:Nat) h=>ltl (n:=b) h hc1.size)))
         | (go_at_call 24; ((with_reducible refine (HC2 _ ⟨cA,cn,cc⟩ (hbW.trans ((Sees.kept (by assumption)).whole.mono hbw)) hch).mono ?_); rintro e y2 ⟨⟨qa,qc,ra,rd,ba,bd,rfl,hq⟩,hc2⟩; (have sz2:wr.heap.size<=y2.heap.size:=by exact nlt (Sees.kept (by assumption):Kept w [] wr _).size hc2.size); (obtain ⟨hcc2,hf2⟩:=bcell hc2); (have lt2:=fun (b:Nat) h=>ltl (n:=b) h hc2.size); (obtain ⟨hcc12,hf12⟩:=bcell (hc1.trans (hc2.mono hc1.size)))))
         | (go_at_call 24; ((with_reducible refine (HC2 _ ⟨cA,cn,cc⟩ (hbW.trans ((Sees.kept (by assumption)).whole.mono hbw)) (hch.below (bal))).mono ?_); rintro e y2 ⟨⟨qa,qc,ra,rd,ba,bd,rfl,hq⟩,hc2⟩; (have sz2:wr.heap.size<=y2.heap.size:=by exact nlt (Sees.kept (by assumption):Kept w [] wr _).size hc2.size); (obtain ⟨hcc2,hf2⟩:=bcell hc2); (have lt2:=fun (b:Nat) h=>ltl (n:=b) h hc2.size)))
         | fail)
       focus
        rename_i hS;(go_wp2_with fail);go_meet;case rel=>exact ⟨rfl,_,qa,qc,ra,rd,ba,bd,rfl,zQb hq sz1 sz2 hS.kept.whole rfl⟩
       focus
        rename_i hS;(go_wp2_with fail);go_meet;case rel=>exact ⟨rfl,_,qa,qc,ra,rd,ba,bd,rfl,zPQ hq sz1 (by simp) ((zP7 y1).below hc2 (by simp)) hS.kept.whole rfl⟩
       focus
        rename_i hS;(go_wp2_with fail);go_meet;case rel=>exact ⟨rfl,_,qa,qc,ra,rd,ba,bd,rfl,zPQ hq (nlr _) (lt1 _ (by simp)) (((zQd wr).below hc1 (by simp)).below hc2 (lt1 _ (by simp))) hS.kept.whole rfl⟩
      case rest=>
       obtain ⟨rfl,g,qa,qc,ra,rd,ba,bd,rfl,hg,bQ,-,hbel,hq⟩:=hcut;have HQ:=hdq (hq.imp (X':=AllB) (Y':=AllB) (fun _ _ _=>trivial) fun _ _ _=>trivial);have hym:m2<=128:=by have:=HZl.out; have:=HFb.out.r; have:=hm2.out; dsimp only at *; omega
       clear hq hbw;replace HR:=hdq (HR.out.below hbel);replace bP:=bP.below hbel s0;replace s0:=ltl s0 hbel.size;replace hbW:=hbW.trans (hbel.mono hbW.size);clear p0 p1 p2 p3 p4;obtain ⟨p0,p1,p2,p3,p4,-⟩:=id bP;obtain ⟨q0,q1,q2,q3,-⟩:=id bQ;clear hbel hg;(go_wp2_with fail);refine (zPN (p:=⟨V,⟨qa,on,qc⟩,⟨ra,m2,rd⟩,⟨ba,m2,bd⟩⟩) (V:=V) HQ.out rfl (by omega) HFb.out.o1 HFb.out.o2 hym rfl HFb.out.co (zTw HFb.out.cr _) (by rw [HZl.out]; omega)).mono ?_;rintro e w4 ⟨⟨r,rfl,hsol⟩,hb4⟩;replace HR:=hdq (HR.out.below hb4);replace bP:=bP.below hb4 s0;replace s0:=ltl s0 hb4.size;replace hbW:=hbW.trans (hb4.mono hbW.size);clear p0 p1 p2 p3 p4;obtain ⟨p0,p1,p2,p3,p4,-⟩:=id bP;clear q0 q1 q2 q3 bQ HQ;have HOut:=hdq (zTY HFb.out.lp hV4 hbl (zQj HFb.out.zok) hsol);clear hsol hb4;(go_upto_region 10 with fail);obtain ⟨rk,⟨lA,ln,lc⟩,⟨y1,y2,y3⟩,⟨r1,r2,r3⟩,⟨f1,f2,f3⟩,rpv⟩:=r;dsimp only [SV.val];have al:Below w4 w4 (w4.alloc (.cells #[.int .u8 rk,.slice lA ln lc,.slice y1 y2 y3,.slice r1 r2 r3,.slice f1 f2 f3,.int .i64 rpv] 60)):=bal;have bR:Box6 (w4.alloc (.cells #[.int .u8 rk,.slice lA ln lc,.slice y1 y2 y3,.slice r1 r2 r3,.slice f1 f2 f3,.int .i64 rpv] 60)) w4 (.int .u8 rk) (.slice lA ln lc) (.slice y1 y2 y3) (.slice r1 r2 r3) (.slice f1 f2 f3) (.int .i64 rpv):=zAd _ _ rfl;replace HR:=hdq (HR.out.below al);replace bP:=bP.below al s0;replace s0:=ltl s0 al.size;replace hbW:=hbW.trans (al.mono hbW.size);clear p0 p1 p2 p3 p4;obtain ⟨p0,p1,p2,p3,p4,-⟩:=id bP;have AL:=hdq al;clear al;generalize w4.alloc (.cells #[.int .u8 rk,.slice lA ln lc,.slice y1 y2 y3,.slice r1 r2 r3,.slice f1 f2 f3,.int .i64 rpv] 60)=W5 at *;obtain ⟨c0,c1,-⟩:=zO1 bR;have sb:=zAa bR;rcases HOut.out with ⟨hk,hno⟩ | ⟨hk,hhas,hray⟩ | ⟨hk,hhas,hray,l,hl,hv,hlS,hlm⟩
       ·dsimp only at hk;subst hk;have Hfin:Hid (BbL w V os rs bs zs ⟨vA,vn,vc⟩ c y (.int .i64 V) (.slice oA on oc) (.slice rA rn rc) (.slice bA bn bc) (.slice iA iN ic) (.int .i64 (f:Int)) (.int .i64 (fr:Int)) (.bool eq) (.int .i64 ((n:Int)+1)) W5):=hdq ⟨n+1,f,fr,eq,by rw [HN2.out]; exact hlt,rfl,rfl,rfl,by simp,hdq (HN.out.no HR.out hno),hbW,bP,HR⟩;clear bP bR HOut;go_wp2;go_roundw;case rel=>exact fn_ Hfin.out
        case measure=>simp [intOf]; omega
       ·dsimp only at hk;subst hk;have hfr:fr=f:=HN.out.2.1 hray;have hw3:IntKind.i64.wrap ((fr:Int)+1)=(fr:Int)+1:=IntWalk.i64_in _ (by omega);have Hfin:Hid (BbL w V os rs bs zs ⟨vA,vn,vc⟩ c y (.int .i64 V) (.slice oA on oc) (.slice rA rn rc) (.slice bA bn bc) (.slice iA iN ic) (.int .i64 ((f:Int)+1)) (.int .i64 ((fr:Int)+1)) (.bool eq) (.int .i64 ((n:Int)+1)) W5):=hdq ⟨n+1,f+1,fr+1,eq,by rw [HN2.out]; exact hlt,by simp,by simp,rfl,by simp,hdq (HN.out.free HR.out hhas hray),hbW,bP,HR⟩;clear bP bR HOut hfr;go_wp2;go_roundw;case rel=>exact fn_ Hfin.out
        case measure=>simp [intOf]; omega
       ·dsimp only at hk;subst hk;obtain ⟨hc,hyl,hyv,hyS,hyb⟩:=HR.out.ok hhas hray;subst hc;have HX:Hid (VecIs W5 AllB AllB 6000 ⟨lA,ln,lc⟩ l):=hdq (hv.below AL.out);have HY:=hdq hyv;have HL:=hdq hl;have HYL:=hdq hyl;have HLe:=hdq (hyb _ hlS);obtain ⟨o,ho⟩:∃ o,lpcmp os l y=o:=⟨_,rfl⟩;have hge:¬ 0<o:=by rw [<-ho]; exact zTO (rs:=rs) (bs:=bs) (zs:=zs) HFb.out.co (by rw [hl]; exact nlr _) (by rw [hyl]; exact nlr _) (by rw [hl,hyl]; exact Nat.max_self _) HLe.out
        have HO:=hdq ho;have HM:=hdq (And.intro hhas (And.intro hray (And.intro hyS hlm)));clear hv hl hyv hyl ho hhas hray hlS hlm hyS hyb HOut AL;(go_wp2_with fail);refine (zNq (kb:=29000000) (p:=⟨V,⟨oA,on,oc⟩,⟨rA,rn,rc⟩,⟨bA,bn,bc⟩⟩) (sx:=⟨lA,ln,lc⟩) (sy:=⟨vA,vn,vc⟩) (HFb.out.lp.below hbW) HX.out HY.out (by have:=HFb.out.o2; dsimp only at this; show on<=_; omega) (fun i=>nlt (zBT HFb.out.co i) (by omega)) (by have h1:=HX.out.len; have h2:=HL.out; dsimp only at h1; show ln<=_; omega) (by have h1:=HY.out.len; have h2:=HYL.out; dsimp only at h1; show vn<=_; omega) (by rw [zAZ]; omega) (by rw [zAZ]; omega) (by rw [zAZ]; omega) (by rw [zAZ]; omega) (fun i k=>((zAR (HFb.out.lp.obj.fit i k)).mul (zAR (HX.out.fit k))).mono (by omega)) (fun i k=>((zAR (HFb.out.lp.obj.fit i k)).mul (zAR (HY.out.fit k))).mono (by omega))).mono ?_;rw [HO.out];rintro e x2 ⟨rfl,hx2⟩;replace HR:=hdq (HR.out.below hx2);replace bP:=bP.below hx2 s0;replace s0:=ltl s0 hx2.size;replace hbW:=hbW.trans (hx2.mono hbW.size);clear p0 p1 p2 p3 p4;obtain ⟨p0,p1,p2,p3,p4,-⟩:=id bP;replace bR:=(hx2.block _ (zAa bR)).trans bR;clear c0 c1;obtain ⟨c0,c1,-⟩:=zO1 bR;replace sb:=zAa bR;replace HX:=hdq (HX.out.below hx2);replace HY:=hdq (HY.out.below hx2);clear hx2
        cases eq with
        | true=>
         have Hfin:Hid (BbL w V os rs bs zs ⟨vA,vn,vc⟩ 0 y (.int .i64 V) (.slice oA on oc) (.slice rA rn rc) (.slice bA bn bc) (.slice iA iN ic) (.int .i64 ((f:Int)+1)) (.int .i64 (fr:Int)) (.bool true) (.int .i64 ((n:Int)+1)) x2):=hdq ⟨n+1,f+1,fr,true,by rw [HN2.out]; exact hlt,by simp,rfl,rfl,by simp,hdq (HN.out.opt HM.out.1 HM.out.2.1 HL.out HYL.out HM.out.2.2.1 HLe.out HM.out.2.2.2 (fun _=>rfl) fun _=>rfl),hbW,bP,HR⟩;clear bP bR;go_wp2;go_roundw;case rel=>exact fn_ Hfin.out
         case measure=>simp [intOf]; omega
        | false=>
         obtain ⟨c5,hc5⟩:∃ c5:Bool,(∀ i,i<V->l.getD i 0=y.getD i 0) ↔ c5=true:=by
          by_cases h:∀ i,i<V->l.getD i 0=y.getD i 0
          ·exact ⟨true,fun _=>rfl,fun _=>h⟩
          ·exact ⟨false,fun h'=>absurd h' h,fun h=>by cases h⟩
         (go_wp2_with fail);refine (zNx c5 (V:=V) (sa:=⟨lA,ln,lc⟩) (sb:=⟨vA,vn,vc⟩) HX.out HY.out (by rw [zAZ]; omega) (by rw [zAZ]; omega) HL.out HYL.out (by omega) hc5).mono ?_;rintro e x4 ⟨rfl,hx4⟩;replace HR:=hdq (HR.out.below hx4);replace bP:=bP.below hx4 s0;replace s0:=ltl s0 hx4.size;replace hbW:=hbW.trans (hx4.mono hbW.size);clear p0 p1 p2 p3 p4;obtain ⟨p0,p1,p2,p3,p4,-⟩:=id bP;have Hfin:Hid (BbL w V os rs bs zs ⟨vA,vn,vc⟩ 0 y (.int .i64 V) (.slice oA on oc) (.slice rA rn rc) (.slice bA bn bc) (.slice iA iN ic) (.int .i64 ((f:Int)+1)) (.int .i64 (fr:Int)) (.bool c5) (.int .i64 ((n:Int)+1)) x4):=hdq ⟨n+1,f+1,fr,c5,by rw [HN2.out]; exact hlt,by simp,rfl,rfl,by simp,hdq (HN.out.opt HM.out.1 HM.out.2.1 HL.out HYL.out HM.out.2.2.1 HLe.out HM.out.2.2.2 (fun h=>by cases h) fun h=>hc5.1 fun i _=>by rw [h]),hbW,bP,HR⟩;clear bP bR hc5;go_wp2;go_roundw;case rel=>exact fn_ Hfin.out
         case measure=>simp [intOf]; omega
     ·(obtain rfl:n=N2:=by omega);(go_wp2_with fail);refine (BinF.count (b:=⟨⟨V,⟨oA,on,oc⟩,⟨rA,rn,rc⟩,⟨bA,bn,bc⟩⟩,⟨iA,iN,ic⟩⟩) (HFb.out.below hbW)).mono ?_;rintro e x2 ⟨⟨cf,hcf,rfl⟩,hx2⟩;rw [HN2.out] at hcf;obtain rfl:=hcf.unique HN.out.1;replace HR:=hdq (HR.out.below hx2);replace bP:=bP.below hx2 s0;replace s0:=ltl s0 hx2.size;replace hbW:=hbW.trans (hx2.mono hbW.size);clear p0 p1 p2 p3 p4;obtain ⟨p0,p1,p2,p3,p4,-⟩:=id bP;clear hx2 hcf;rcases HR.out with ⟨hc,hyl,hyv,hyS,hray,hyb⟩ | ⟨hc,hno⟩ | ⟨hc,hray,x,hx⟩
      ·subst hc;obtain rfl:fr=0:=HN.out.2.2.1 hray
       obtain rfl:eq=true:=by
        obtain ⟨m,hm,hi⟩:=zTK hyS;exact HN.out.2.2.2 rfl m (by rw [<-HN2.out]; exact hm) hi
       obtain rfl:vn=V:=by have h1:=hyv.len; dsimp only at h1; omega
       have HYv:=hdq hyv;have HYs:=hdq (And.intro hyl hyS);clear hyl hyv hyS hray hyb;(go_wp2_with fail);refine (BinF.feas (b:=⟨⟨vn,⟨oA,on,oc⟩,⟨rA,rn,rc⟩,⟨bA,bn,bc⟩⟩,⟨iA,iN,ic⟩⟩) (s:=⟨vA,vn,vc⟩) true (HFb.out.below hbW) HYv.out (by decide) (by show vn<=_; omega) ⟨fun _=>rfl,fun _=>⟨by rw [HYs.out.1]; exact nlr _,HYs.out.2⟩⟩).mono ?_;rintro e x3 ⟨rfl,hf⟩;replace bP:=bP.below hf s0;replace s0:=ltl s0 hf.size;replace hbW:=hbW.trans (hf.mono hbW.size);clear p0 p1 p2 p3 p4;obtain ⟨p0,p1,p2,p3,p4,-⟩:=id bP;(go_wp2_with fail);refine zLi.mono ?_;rintro e wl ⟨rfl,hbl⟩;have hbf:=hbW.trans (hbl.mono hbW.size);go_wp2;go_ret;exact ⟨rfl,hbf⟩
      ·subst hc;obtain rfl:cf=0:=HN.out.1.unique (Num.none fun m _ ⟨x,hx,_⟩=>hno x hx);clear hno;(go_wp2_with fail);refine zLi.mono ?_;rintro e wl ⟨rfl,hbl⟩;have hbf:=hbW.trans (hbl.mono hbW.size);go_wp2;go_ret;exact ⟨rfl,hbf⟩
      ·subst hc;obtain rfl:fr=cf:=HN.out.2.1 hray
       have h0:(0:Int)<(fr:Int):=by
        obtain ⟨m,hm,hi⟩:=zTK hx;by_cases e:fr=0
        ·subst e;exact absurd ⟨x,hx,hi⟩ (Num.zero HN.out.1 m (by rw [<-HN2.out]; exact hm))
        ·omega
       clear hray hx;(go_wp2_with fail);refine zLi.mono ?_;rintro e wl ⟨rfl,hbl⟩;have hbf:=hbW.trans (hbl.mono hbW.size);go_wp2;go_ret;exact ⟨rfl,hbf⟩
end Go.Proofs.YtbpngececjihlaaGreat
