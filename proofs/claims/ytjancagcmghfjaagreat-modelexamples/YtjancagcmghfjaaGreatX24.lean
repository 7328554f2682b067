/- Texts McMatI McSpC MpF MpG MpH MpK of this claim. -/
import Derived.Test.YtjancagcmghfjaaGreatX23
import Derived.Test.YtjancagcmghfjaaGreatX22
set_option maxHeartbeats 4000000
set_option maxRecDepth 40000
namespace Go.Proofs.YtjancagcmghfjaaGreat
open Go.RowKit Go.Shelf Gj
variable {sa sb:SV} {L M b:Nat} {X Y X' Y' G:Nat->Prop} {w:World}
theorem zFA:(Tryz.prog.info? 34).map (fun i=>(i.zero,i.size,i.bytes))=some (some (.slice none 0 0),1,24):=by kernel_rfl
def zeroS (n:Nat):Array Value:=madeCells #[Value.slice none 0 0] n
theorem zIb (n:Nat):(zeroS n).size=n:=by simp [zeroS,madeCells]
theorem zHV (n:Nat) (hn:n<=1000000) (w:World) :
  (Instr.makeSlice 33 (.int .i64 (n:Int)) (.int .i64 (n:Int))).run Tryz.prog w = .ok (.slice (some w) n n) (w.alloc (.cells (zeroS n) 34)):=by
 obtain ⟨i0,hi,hz0,hz1,hz2⟩:=info_parts zFA;have hr:=run_make (P:=Tryz.prog) w 33 34 i0 (.slice none 0 0) Tryz.underlying33 hi hz0 .i64 .i64 n n (by omega) (by omega) (by rw [hz2]; omega) (by omega);rw [hz1] at hr;simpa [zeroS,Value.cells] using hr
theorem zNQ {la lb:List Rat} (ha:VecIs w X Y L sa la) (hb:VecIs w X' Y' M sb lb) (hL:L<=LM) (hM:M<=LM) (hna:sa.n<=1000000) (hnb:sb.n<=1000000) :
  Calls Tryz.prog 59 #[sa.val,sb.val] w fun e w'=>e = .returned (.bool (vcmp (fun i=>la.getD i 0) (fun i=>lb.getD i 0) (max sa.n sb.n) == 0))/\Below w w w':=by
 have HC:=hdq (zKw ha hb hL hM hna hnb);clear ha hb hL hM;generalize vcmp (fun i=>la.getD i 0) (fun i=>lb.getD i 0) (max sa.n sb.n)=z at *;go_enter Tryz.func59,Tryz.ntmps59
 go_wp2_with fail
 refine HC.out.mono ?_; rintro e w1 ⟨rfl,hb1⟩
 go_wp2;go_ret;exact ⟨rfl,hb1⟩
def MBlk (w:World) (b:Nat) (m:List (List Rat)) (w':World):Prop:=
 w.heap.size<=b/\∃ (cs:Array Value) (sv:Nat->SV),w'.heap[b]?=some (.cells cs 34 (0,0))/\cs.size=m.length/\∀ j,j<m.length->cs[j]?=some (sv j).val/\VecCan w' (fun x=>w.heap.size<=x/\x ≠ b) (fun x=>w.heap.size<=x/\x ≠ b) (sv j) (m.getD j [])
def MFill (w:World) (b n i:Nat) (g:Nat->List Rat) (W:World):Prop:=
 ∃ (cs:Array Value) (sv:Nat->SV),W.heap[b]?=some (.cells cs 34 (0,0))/\cs.size=n/\∀ j,j<i->cs[j]?=some (sv j).val/\VecCan W (New (w+1+1)) (New (w+1+1)) (sv j) (g j)
def FiO (w:World) (fv:Value) (n:Nat) (g:Nat->List Rat) (t:Value) (W:World):Prop:=
 ∃ i:Nat,i<=n/\t = .int .i64 i/\Below w w W/\W.heap[w.heap.size]?=some (.cells #[fv] 226 (0,0))/\MFill w (w+1) n i g W
theorem zRY {fn rows cols:Nat} {caps:Array Value} {g:Nat->Nat->Rat} (hr:rows<=100000) (hc:cols<=100000) (hcall:∀ (args:Array Value) (w:World),Sem.run Tryz.prog (callFunc fn args) w = .ok (.enter fn args) w)
  (ht:∀ W i k,Below w w W->i<rows->k<cols->Calls Tryz.prog fn (#[.int .i64 (i:Int),.int .i64 (k:Int)]++caps) W fun e W'=>QRet W (g i k) e W'/\Below W W W') :
  Calls Tryz.prog 186 #[.agg #[.func (.func fn) #[] caps],.int .i64 (rows:Int),.int .i64 (cols:Int)] w fun e w'=>(∃ b,e = .returned (.slice (some ⟨b,0,none⟩) rows rows)/\MBlk w b ((List.range rows).map fun i=>(List.range cols).map (g i)) w')/\Below w w w':=by
 have hmk:=zHV rows (by omega);have hmq:=zBZ cols (by omega);have HT:=hdq ht;have HC:=hdq hcall;clear ht hcall;go_enter Tryz.func186,Tryz.ntmps186
 go_wp2
 have H0:FiO w (.func (.func fn) #[] caps) rows (fun i=>(List.range cols).map (g i)) (.int .i64 0) ((w.alloc (.cells #[.func (.func fn) #[] caps] 226)).alloc (.cells (zeroS rows) 34)):=
  ⟨0,nzl _,rfl,(bal).alloc (by simp) _,(Below.heap_alloc _ _ _ (by simp)).trans (zAd _ _ rfl),zeroS rows,fun _=>⟨none,0,0⟩,zAd _ _ (by simp),zIb rows,fun j hj=>absurd hj (by omega)⟩
 clear hmk;generalize (w.alloc (.cells #[.func (.func fn) #[] caps] 226)).alloc (.cells (zeroS rows) 34)=W0 at *;go_loopw [14] (fun t W=>FiO w (.func (.func fn) #[] caps) rows (fun i=>(List.range cols).map (g i)) t W) (fun t _=>rows-(intOf t).toNat)
 case atStart=>exact H0
 case round=>
  clear H0;obtain ⟨i,hi,rfl,hB,hfv,hM⟩:=hrel;by_cases hlt:i<rows
  ·obtain ⟨cs,sv,h1,h2,h3⟩:=id hM;have hyl:=zAa h1;have hii:(i:Int)<(rows:Int):=(by omega);have y0:(wr.cell? ⟨w.heap.size+1,i,none⟩).isSome=true:=by simp only [World.cell?,h1]; simp [h2,hlt]
   obtain ⟨yv,hyv⟩:=Option.isSome_iff_exists.1 y0;have yf:∀ o,wr.frozen? ⟨w.heap.size+1,o,none⟩=false:=(fun o=>by simp [World.frozen?,h1]);(go_upto_region 6 with fail);obtain ⟨wO,hwO⟩:∃ W,W=wr.setCell ⟨w.heap.size+1,i,none⟩ (.slice (some wr) cols cols):=⟨_,rfl⟩;rw [<-hwO];have hOs:wO.heap.size=wr.heap.size:=by rw [hwO]; simp [World.setCell]
   have hO1:wO.heap[w.heap.size+1]?=some (.cells (cs.setIfInBounds i (.slice (some wr) cols cols)) 34 (0,0)):=by rw [hwO]; exact zAe _ h1
   have hOf:wO.heap[w.heap.size]?=some (.cells #[.func (.func fn) #[] caps] 226 (0,0)):=by rw [hwO]; exact (bhs _ _ _ _ (by show w.heap.size ≠ w.heap.size+1; omega)).trans hfv
   have hOB:Below w w wO:=by rw [hwO]; exact hB.setCell (p:=⟨w.heap.size+1,i,none⟩) (by show w.heap.size<=w.heap.size+1; omega) _
   have kk:∀ p:Addr,New (w+1+1) p.block->wO.cell? p=wr.cell? p:=fun p hp=>by rw [hwO]; exact cob (bhs _ _ _ _ (by simp only [New] at hp; show p.block ≠ w.heap.size+1; omega))
   have hOr:Hid (∀ j,j<i->cs[j]?=some (sv j).val/\VecCan wO (New (w+1+1)) (New (w+1+1)) (sv j) ((List.range cols).map (g j))):=(fun j hj=>⟨(h3 j hj).1,(h3 j hj).2.keep (fun a ha _=>kk a ha) fun v q hq=>hq.keep fun p hp _=>kk p hp⟩);have hOl:w.heap.size+1<wO.heap.size:=(by omega);clear hwO kk h3 hM hB hfv y0 hyv yf h1 hyl;rw [<-hOs] at hO1 ⊢;clear hOs;have b0:Below wO wO (wO.alloc (.cells (zeroQ cols) 80)):=bal
   have H2:FillLoop wO wO (g i) cols cols (fun _=>True) (.int .i64 0) (wO.alloc (.cells (zeroQ cols) 80)):=
    ⟨0,nzl _,rfl,by rw [zEe]; exact RowAt.made wO cols _ (.inr rfl),b0,trivial⟩
   have c0:(wO.alloc (.cells (zeroQ cols) 80)).cell? ⟨w.heap.size+1,i,none⟩=some (.slice (some wO) cols cols):=by
    rw [b0.cell (p:=⟨w.heap.size+1,i,none⟩) hOl]; simp [World.cell?,hO1,h2,hlt]
   clear b0;generalize wO.alloc (.cells (zeroQ cols) 80)=WB at *;go_wp2;clear c0;(go_loopw [27] (fun t W=>FillLoop wO wO (g i) cols cols (fun _=>True) t W) (fun t _=>cols-(intOf t).toNat));case atStart=>exact H2
   case round=>
    clear H2;obtain ⟨k,hk,rfl,hR,hb,-⟩:=hrel;have hRl:=hR.lt;have q1:wr.heap[w.heap.size+1]?=_:=(hb.block _ hOl).trans hO1;have qf:wr.heap[w.heap.size]?=_:=(hb.block _ (by omega)).trans hOf;have c1:wr.cell? ⟨w.heap.size+1,i,none⟩=some (.slice (some wO) cols cols):=(by simp [World.cell?,q1,h2,hlt]);have cf:wr.cell? w=some (.func (.func fn) #[] caps):=(by simp [World.cell?,qf]);by_cases hlk:k<cols
    ·have hkk:(k:Int)<(cols:Int):=(by omega);have hcall:=HC.out;(go_upto_region 9 with fail);refine zAp 11 (fun _ w'=>w'.cell? ⟨w.heap.size+1,i,none⟩=some (.slice (some wO) cols cols)/\w'.cell? w=some (.func (.func fn) #[] caps)) (by kernel_rfl) ?_;have hS0:wr.drew.cell? ⟨w.heap.size+1,i,none⟩=some (.slice (some wO) cols cols)/\wr.drew.cell? w=some (.func (.func fn) #[] caps):=⟨c1,cf⟩;refine tx4 0 1 2 3 hS0 ?_;refine tx4 4 5 6 7 hS0 ?_;refine tx1 8 hS0 ?_;refine tk1 9 ?_;intro K hK;go_simp;have hdr:Below wr wr wr.drew:=(brf _ _).drew;refine (HT.out _ i k (hOB.trans ((hb.trans (hdr.mono hb.size)).mono hOB.size)) hlt hlk).mono ?_;rintro e w5 ⟨⟨z,rfl,hz⟩,h5⟩;dsimp only;have h5':Below wr wr w5:=hdr.trans h5
     have hs5:w5.cell? ⟨w.heap.size+1,i,none⟩=some (.slice (some wO) cols cols)/\w5.cell? w=some (.func (.func fn) #[] caps):=
      ⟨(h5'.cell (p:=⟨w.heap.size+1,i,none⟩) (by show w.heap.size+1<_; omega)).trans c1,(h5'.cell (p:=w) (by show w.heap.size<_; omega)).trans cf⟩
     refine hK.out _ _ hs5 ?_;clear hK K hcall;have hR5:=hR.below h5';obtain ⟨zv,⟨d0,d1,d2,d3⟩,-⟩:=hR5.elem k (by rw [zBj _ (by omega)]; omega);have fz:=hR5.frozen;dsimp only at d1 d2 d3;refine tx1 10 hs5 ?_;refine tk1 11 ?_;intro K hK;go_simp;have kp:∀ p:Addr,p.block ≠ wO.heap.size->(put4 w5 wO k z).cell? p=w5.cell? p:=(fun p hp=>zCq _ _ _ _ hp);refine hK.out _ _ (show (put4 w5 wO k z).cell? _=_/\(put4 w5 wO k z).cell? _=_ from ⟨(kp _ (by show w.heap.size+1 ≠ _; omega)).trans hs5.1,(kp _ (by show w.heap.size ≠ _; omega)).trans hs5.2⟩) ?_;clear hK K;refine zAf (by kernel_rfl) ?_ _;have hz2:QCan w5 (New wr) z (g i k):=hz.imp fun b _ hx=>by simp only [New] at hx ⊢; have:=hdr.size; omega
     have Hfin:=hdq (FillLoop.step (E:=fun _=>True) (B:=wr) hlk (nlr _) hR hb h5' hb.size hRl (nlr _) hz2 trivial);clear hz hz2 hs5 hS0 d0 d1 d2 d3 fz hR5 hR h5 h5' hdr kp q1 qf c1 cf hb;go_wp2;go_roundw;case rel=>exact fn_ Hfin.out
     case measure=>simp [intOf]; omega
    ·(obtain rfl:k=cols:=by omega);rw [zGv] at hR;obtain ⟨⟨a1,a2,a3⟩,e3,hv⟩:=VRet.of (n:=k) (by simp) (by omega) (nlr _) hR;simp only [Ending.returned.injEq,SV.val,Value.slice.injEq] at e3;obtain ⟨rfl,rfl,rfl⟩:=e3
     have Hfin:Hid (FiO w (.func (.func fn) #[] caps) rows (fun i=>(List.range k).map (g i)) (.int .i64 ((i:Int)+1)) wr):=by
      refine ⟨i+1,by omega,by simp,hOB.trans (hb.mono hOB.size),qf,_,fun j=>if j=i then ⟨some ⟨wO,0,none⟩,k,k⟩ else sv j,q1,by simpa using h2,fun j hj=>?_⟩;rw [Array.getElem?_setIfInBounds];by_cases e:i=j
      ·subst e;rw [if_pos rfl,if_pos (by omega)];dsimp only;rw [if_pos rfl];exact ⟨rfl,hv.imp (fun b _ hb=>by simp only [New] at hb ⊢; omega) fun v q hq=>hq.imp fun b _ hb=>by simp only [New] at hb ⊢; omega⟩
      ·rw [if_neg e];dsimp only;rw [if_neg (Ne.symm e)];obtain ⟨g1,g2⟩:=hOr.out j (by omega);exact ⟨g1,g2.belowC hb⟩
     clear hR hv q1 qf c1 cf hb hOr hO1 hOf hOB;go_wp2;go_roundw;case rel=>exact fn_ Hfin.out
     case measure=>simp [intOf]; omega
  ·have hin:i=rows:=(by omega);subst hin
   have HF:Hid (MBlk w (w+1) ((List.range i).map fun i=>(List.range cols).map (g i)) wr):=by
    obtain ⟨cs,sv,h1,h2,h3⟩:=hM;refine ⟨by omega,cs,sv,h1,by simpa using h2,fun j hj=>?_⟩;have hj':j<i:=(by simpa using hj);obtain ⟨g1,g2⟩:=h3 j hj';rw [zA6 _ _ _ _ hj'];exact ⟨g1,g2.imp (fun b _ hb=>by simp only [New] at hb ⊢; omega) fun v q hq=>hq.imp fun b _ hb=>by simp only [New] at hb ⊢; omega⟩
   clear hM hfv;go_wp2;go_ret;exact ⟨⟨_,rfl,HF.out⟩,hB⟩
theorem RowAt.anti {G':Nat->Prop} {l:List Rat} (h:RowAt w G b l) (hb:G' b) (hG:∀ x,G' x->G x):RowAt w G' b l:=
 ⟨hb,h.blk,fun k hk=>by
  obtain ⟨v,h1,h2⟩:=h.elem k hk;exact ⟨v,h1,h2.imp fun x _ hx e=>hx (hG x e)⟩⟩
namespace Mo
structure MRw (W:World) (B0 b c n:Nat) (rb:Nat->Nat) (g:Nat->List Rat) (i:Nat):Prop where
 blk:∃ cs:Array Value,W.heap[b]?=some (.cells cs 34 (0,0))/\cs.size=n/\∀ j,j<i->cs[j]?=some (.slice (some ⟨rb j,0,none⟩) c c)
 ne:∀ j,j<i->rb j ≠ b
 inj:∀ j k,j<i->k<i->rb j=rb k->j=k
 row:∀ j,j<i->RowAt W (fun x=>x<B0\/x=b\/∃ j,j<i/\x=rb j) (rb j) (g j)
 ge:∀ j,j<i->B0<=rb j
theorem MRw.eqm {W:World} {B0 b n:Nat} {rb:Nat->Nat} {g:Nat->Nat->Rat} (h:MRw W B0 b n n rb (fun i=>(List.range n).map (g i)) n):EqM W b (fun x=>x<B0\/x=b\/∃ j,j<n/\x=rb j) rb n ((List.range n).map fun i=>(List.range n).map (g i)):=
 ⟨⟨by simp,fun i hi=>by
  have hi':i<n:=by simpa using hi
  rw [getD_map_range _ _ hi']; simp⟩,.inr (.inl rfl),fun i j hi hj e=>h.inj i j hi hj e,h.ne,fun i hi=>by rw [getD_map_range _ _ hi]; exact h.row i hi,h.blk⟩
theorem MRw.lower {W:World} {B0 B1 b c n i:Nat} {rb:Nat->Nat} {g:Nat->List Rat} (h:MRw W B0 b c n rb g i) (hB:B1<=B0):MRw W B1 b c n rb g i:=
 ⟨h.blk,h.ne,h.inj,fun j hj=>(h.row j hj).anti (.inr (.inr ⟨j,hj,rfl⟩)) fun x hx=>hx.elim (fun hx=>.inl (by omega)) .inr,fun j hj=>nlt hB (h.ge j hj)⟩
def FiE (w:World) (cols:Nat) (fv:Value) (n:Nat) (g:Nat->List Rat) (t:Value) (W:World):Prop:=
 ∃ i:Nat,i<=n/\t = .int .i64 i/\Below w w W/\W.heap[w.heap.size]?=some (.cells #[fv] 226 (0,0))/\∃ rb:Nat->Nat,0<=w.heap.size/\MRw W w (w+1) cols n rb g i
theorem zVl {w:World} {fn rows cols:Nat} {caps:Array Value} {g:Nat->Nat->Rat} (hr:rows<=100000) (hc:cols<=100000) (hcall:∀ (args:Array Value) (w:World),Sem.run Tryz.prog (callFunc fn args) w = .ok (.enter fn args) w)
  (ht:∀ W i k,Below w w W->i<rows->k<cols->Calls Tryz.prog fn (#[.int .i64 (i:Int),.int .i64 (k:Int)]++caps) W fun e W'=>QRet W (g i k) e W'/\Below W W W') :
  Calls Tryz.prog 186 #[.agg #[.func (.func fn) #[] caps],.int .i64 (rows:Int),.int .i64 (cols:Int)] w fun e w'=>(∃ b rb,e = .returned (.slice (some ⟨b,0,none⟩) rows rows)/\w.heap.size<=b/\MRw w' w b cols rows rb (fun i=>(List.range cols).map (g i)) rows)/\Below w w w':=by
 have hmk:=zHV rows (by omega);have hmq:=zBZ cols (by omega);have HT:=hdq ht;have HC:=hdq hcall;clear ht hcall;go_enter Tryz.func186,Tryz.ntmps186
 go_wp2
 have H0:FiE w cols (.func (.func fn) #[] caps) rows (fun i=>(List.range cols).map (g i)) (.int .i64 0) ((w.alloc (.cells #[.func (.func fn) #[] caps] 226)).alloc (.cells (zeroS rows) 34)):=
  ⟨0,nzl _,rfl,(bal).alloc (by simp) _,(Below.heap_alloc _ _ _ (by simp)).trans (zAd _ _ rfl),fun _=>0,by omega,⟨⟨zeroS rows,zAd _ _ (by simp),zIb rows,fun j hj=>absurd hj (by omega)⟩,fun j hj=>absurd hj (by omega),fun j k hj=>absurd hj (by omega),fun j hj=>absurd hj (by omega),fun j hj=>absurd hj (by omega)⟩⟩
 clear hmk;generalize (w.alloc (.cells #[.func (.func fn) #[] caps] 226)).alloc (.cells (zeroS rows) 34)=W0 at *;go_loopw [14] (fun t W=>FiE w cols (.func (.func fn) #[] caps) rows (fun i=>(List.range cols).map (g i)) t W) (fun t _=>rows-(intOf t).toNat)
 case atStart=>exact H0
 case round=>
  clear H0;obtain ⟨i,hi,rfl,hB,hfv,rb,hBs,hM⟩:=hrel;by_cases hlt:i<rows
  ·obtain ⟨cs,h1,h2,h3⟩:=hM.blk;have hyl:=zAa h1;have hii:(i:Int)<(rows:Int):=(by omega);have y0:(wr.cell? ⟨w.heap.size+1,i,none⟩).isSome=true:=by simp only [World.cell?,h1]; simp [h2,hlt]
   obtain ⟨yv,hyv⟩:=Option.isSome_iff_exists.1 y0;have yf:∀ o,wr.frozen? ⟨w.heap.size+1,o,none⟩=false:=(fun o=>by simp [World.frozen?,h1]);(go_upto_region 6 with fail);obtain ⟨wO,hwO⟩:∃ W,W=wr.setCell ⟨w.heap.size+1,i,none⟩ (.slice (some wr) cols cols):=⟨_,rfl⟩;rw [<-hwO];have hOs:wO.heap.size=wr.heap.size:=by rw [hwO]; simp [World.setCell]
   have hO1:wO.heap[w.heap.size+1]?=some (.cells (cs.setIfInBounds i (.slice (some wr) cols cols)) 34 (0,0)):=by rw [hwO]; exact zAe _ h1
   have hOf:wO.heap[w.heap.size]?=some (.cells #[.func (.func fn) #[] caps] 226 (0,0)):=by rw [hwO]; exact (bhs _ _ _ _ (by show w.heap.size ≠ w.heap.size+1; omega)).trans hfv
   have hOB:Below w w wO:=by rw [hwO]; exact hB.setCell (p:=⟨w.heap.size+1,i,none⟩) (by show w.heap.size<=w.heap.size+1; omega) _
   have hOr:Hid (∀ j,j<i->RowAt wO (fun x=>x<w.heap.size\/x=w.heap.size+1\/∃ j,j<i/\x=rb j) (rb j) ((List.range cols).map (g j))):=fun j hj=>(hM.row j hj).keep (by rw [hwO]; exact bhs _ _ _ _ (by show rb j ≠ w.heap.size+1; exact hM.ne j hj)) fun p hp _=>by rw [hwO]; exact cob (bhs _ _ _ _ fun e=>hp (.inr (.inl e)))
   have HNe:=hdq hM.ne;have HIn:=hdq hM.inj;have HGe:=hdq hM.ge;have HLt:Hid (∀ j,j<i->rb j<wO.heap.size):=(fun j hj=>(hOr.out j hj).lt);have H3:=hdq h3;have hOl:w.heap.size+1<wO.heap.size:=(by omega);clear hwO h3 hM hB hfv y0 hyv yf h1 hyl hBs;rw [<-hOs] at hO1 ⊢;clear hOs;have b0:Below wO wO (wO.alloc (.cells (zeroQ cols) 80)):=bal
   have H2:FillLoop wO wO (g i) cols cols (fun _=>True) (.int .i64 0) (wO.alloc (.cells (zeroQ cols) 80)):=
    ⟨0,nzl _,rfl,by rw [zEe]; exact RowAt.made wO cols _ (.inr rfl),b0,trivial⟩
   have c0:(wO.alloc (.cells (zeroQ cols) 80)).cell? ⟨w.heap.size+1,i,none⟩=some (.slice (some wO) cols cols):=by
    rw [b0.cell (p:=⟨w.heap.size+1,i,none⟩) hOl]; simp [World.cell?,hO1,h2,hlt]
   clear b0;generalize wO.alloc (.cells (zeroQ cols) 80)=WB at *;go_wp2;clear c0;(go_loopw [27] (fun t W=>FillLoop wO wO (g i) cols cols (fun _=>True) t W) (fun t _=>cols-(intOf t).toNat));case atStart=>exact H2
   case round=>
    clear H2;obtain ⟨k,hk,rfl,hR,hb,-⟩:=hrel;have hRl:=hR.lt;have q1:wr.heap[w.heap.size+1]?=_:=(hb.block _ hOl).trans hO1;have qf:wr.heap[w.heap.size]?=_:=(hb.block _ (by omega)).trans hOf;have c1:wr.cell? ⟨w.heap.size+1,i,none⟩=some (.slice (some wO) cols cols):=(by simp [World.cell?,q1,h2,hlt]);have cf:wr.cell? w=some (.func (.func fn) #[] caps):=(by simp [World.cell?,qf]);by_cases hlk:k<cols
    ·have hkk:(k:Int)<(cols:Int):=(by omega);have hcall:=HC.out;(go_upto_region 9 with fail);refine zAp 11 (fun _ w'=>w'.cell? ⟨w.heap.size+1,i,none⟩=some (.slice (some wO) cols cols)/\w'.cell? w=some (.func (.func fn) #[] caps)) (by kernel_rfl) ?_;have hS0:wr.drew.cell? ⟨w.heap.size+1,i,none⟩=some (.slice (some wO) cols cols)/\wr.drew.cell? w=some (.func (.func fn) #[] caps):=⟨c1,cf⟩;refine tx4 0 1 2 3 hS0 ?_;refine tx4 4 5 6 7 hS0 ?_;refine tx1 8 hS0 ?_;refine tk1 9 ?_;intro K hK;go_simp;have hdr:Below wr wr wr.drew:=(brf _ _).drew;refine (HT.out _ i k (hOB.trans ((hb.trans (hdr.mono hb.size)).mono hOB.size)) hlt hlk).mono ?_;rintro e w5 ⟨⟨z,rfl,hz⟩,h5⟩;dsimp only;have h5':Below wr wr w5:=hdr.trans h5
     have hs5:w5.cell? ⟨w.heap.size+1,i,none⟩=some (.slice (some wO) cols cols)/\w5.cell? w=some (.func (.func fn) #[] caps):=
      ⟨(h5'.cell (p:=⟨w.heap.size+1,i,none⟩) (by show w.heap.size+1<_; omega)).trans c1,(h5'.cell (p:=w) (by show w.heap.size<_; omega)).trans cf⟩
     refine hK.out _ _ hs5 ?_;clear hK K hcall;have hR5:=hR.below h5';obtain ⟨zv,⟨d0,d1,d2,d3⟩,-⟩:=hR5.elem k (by rw [zBj _ (by omega)]; omega);have fz:=hR5.frozen;dsimp only at d1 d2 d3;refine tx1 10 hs5 ?_;refine tk1 11 ?_;intro K hK;go_simp;have kp:∀ p:Addr,p.block ≠ wO.heap.size->(put4 w5 wO k z).cell? p=w5.cell? p:=(fun p hp=>zCq _ _ _ _ hp);refine hK.out _ _ (show (put4 w5 wO k z).cell? _=_/\(put4 w5 wO k z).cell? _=_ from ⟨(kp _ (by show w.heap.size+1 ≠ _; omega)).trans hs5.1,(kp _ (by show w.heap.size ≠ _; omega)).trans hs5.2⟩) ?_;clear hK K;refine zAf (by kernel_rfl) ?_ _;have hz2:QCan w5 (New wr) z (g i k):=hz.imp fun b _ hx=>by simp only [New] at hx ⊢; have:=hdr.size; omega
     have Hfin:=hdq (FillLoop.step (E:=fun _=>True) (B:=wr) hlk (nlr _) hR hb h5' hb.size hRl (nlr _) hz2 trivial);clear hz hz2 hs5 hS0 d0 d1 d2 d3 fz hR5 hR h5 h5' hdr kp q1 qf c1 cf hb;go_wp2;go_roundw;case rel=>exact fn_ Hfin.out
     case measure=>simp [intOf]; omega
    ·(obtain rfl:k=cols:=by omega);rw [zGv] at hR
     have Hfin:Hid (FiE w k (.func (.func fn) #[] caps) rows (fun i=>(List.range k).map (g i)) (.int .i64 ((i:Int)+1)) wr):=by
      refine ⟨i+1,by omega,by simp,hOB.trans (hb.mono hOB.size),qf,fun j=>if j=i then wO.heap.size else rb j,by omega,⟨⟨_,q1,by simpa using h2,fun j hj=>?_⟩,fun j hj=>?_,fun j l hj hl e=>?_,fun j hj=>?_,fun j hj=>?_⟩⟩
      ·rw [Array.getElem?_setIfInBounds];by_cases e:i=j
       ·subst e;rw [if_pos rfl,if_pos (by omega)];rw [if_pos rfl]
       ·rw [if_neg e];rw [if_neg (Ne.symm e)];exact H3.out j (by omega)
      ·split
       ·omega
       ·exact HNe.out j (by omega)
      ·by_cases ej:j=i
       ·by_cases el:l=i
        ·omega
        ·rw [if_pos ej,if_neg el] at e;have:=HLt.out l (by omega);omega
       ·by_cases el:l=i
        ·rw [if_neg ej,if_pos el] at e;have:=HLt.out j (by omega);omega
        ·rw [if_neg ej,if_neg el] at e;exact HIn.out j l (by omega) (by omega) e
      ·have hG:∀ x,(x<w.heap.size\/x=w.heap.size+1\/∃ j,j<i+1/\x=if j=i then wO.heap.size else rb j)->(x<w.heap.size\/x=w.heap.size+1\/∃ j,j<i/\x=rb j)\/x=wO.heap.size:=fun x hx=>by
        rcases hx with hx | hx | ⟨l,hl,hx⟩
        ·exact .inl (.inl hx)
        ·exact .inl (.inr (.inl hx))
        ·by_cases e:l=i
         ·rw [if_pos e] at hx; exact .inr hx
         ·rw [if_neg e] at hx; exact .inl (.inr (.inr ⟨l,by omega,hx⟩))
       by_cases e:j=i
       ·subst e;rw [if_pos rfl];(refine hR.anti (.inr (.inr ⟨j,by omega,(if_pos rfl).symm⟩)) fun x hx=>?_);rcases hG x hx with (hx | hx | ⟨l,hl,hx⟩) | hx
        ·omega
        ·omega
        ·have:=HLt.out l hl;omega
        ·exact .inr hx
       ·rw [if_neg e];refine ((hOr.out j (by omega)).grow (fun x hx=>?_) fun x hxl hx=>?_).below hb
        ·rcases hx with hx | hx | ⟨l,hl,hx⟩
         ·exact .inl hx
         ·exact .inr (.inl hx)
         ·exact .inr (.inr ⟨l,by omega,by rw [if_neg (by omega)]; exact hx⟩)
        ·rcases hG x hx with hx | hx
         ·exact hx
         ·omega
      ·split
       ·omega
       ·exact HGe.out j (by omega)
     clear hR q1 qf c1 cf hb hOr hO1 hOf hOB;go_wp2;go_roundw;case rel=>exact fn_ Hfin.out
     case measure=>simp [intOf]; omega
  ·have hin:i=rows:=(by omega);subst hin;have HF:=hdq hM;clear hM hfv;clear hBs;go_wp2;go_ret;exact ⟨⟨_,_,rfl,by omega,HF.out⟩,hB⟩
end Mo
namespace Mo
theorem zWz {w:World} {i k:Nat}:Calls Tryz.prog 91 #[.slice none 0 0,.int .i64 (i:Int),.int .i64 (k:Int)] w fun e w'=>QRet w 0 e w'/\Below w w w':=by
 have h1:¬ ((i:Int)<0):=by omega
 have h3:¬ ((k:Int)<0):=by omega
 have HR:Hid (∀ W:World,Calls Tryz.prog 147 #[.slice none 0 0,.int .i64 (i:Int)] W fun e w'=>e = .returned (.slice none 0 0)/\W=w'):=fun W=>by
  go_enter Tryz.func147,Tryz.ntmps147
  go_wp2;go_ret;exact ⟨rfl,rfl⟩
 go_enter Tryz.func91,Tryz.ntmps91
 go_wp2_with fail
 refine zAg (fun W=>Below w w W/\Box4 W w (.bool false) (.slice none 0 0) (.bool false) (.slice none 0 0)/\w.heap.size<W.heap.size) ⟨(az (brf _ _)),bx4,by simp <;> omega⟩ ?_;rintro W ⟨hbW,bR,s0⟩;have hBW:=hbW.size;refine (HR.out W).mono ?_; rintro e w1 ⟨rfl,rfl⟩
 obtain ⟨v0,v1,v2,v3,-⟩:=bR.stored (.bool false) (.slice none 0 0) (.bool false) (.slice none 0 0);have hB:=zAl (x0:=.bool false) (x1:=.slice none 0 0) (x2:=.bool false) (x3:=.slice none 0 0) hbW (nlr w);go_wp2;exact bodyPost_ret (v:=.agg #[.bool false,.slice none 0 0,.bool false,.slice none 0 0]) (by simp [results,Tryz.results91,go_sem,v0,v1,v2,v3]) rfl ⟨⟨⟨⟨false,none,0,0⟩,⟨false,none,0,0⟩⟩,rfl,QCan.zero _ _⟩,hB⟩
theorem zWQ {w:World} {i k c:Nat} (h0:w.cell? c=some (.slice none 0 0)):Calls Tryz.prog 192 #[.int .i64 (i:Int),.int .i64 (k:Int),.pointer (some c)] w fun e w'=>QRet w 0 e w'/\Below w w w':=by
 have hcl:=zAb h0;dsimp only at hcl;go_enter Tryz.func192,Tryz.ntmps192
 go_upto_region 1 with fail
 refine zAo (fun W=>Below w w W/\Box4 W w (.bool false) (.slice none 0 0) (.bool false) (.slice none 0 0)/\w.heap.size<W.heap.size) ⟨(az (brf _ _)),bx4,by simp <;> omega⟩ ?_;rintro W ⟨hbW,bR,s0⟩;have hBW:=hbW.size;replace h0:=(hbW.cell (p:=c) hcl).trans h0;go_wp2_with fail
 refine zWz.mono ?_; rintro e w1 ⟨⟨z,rfl,hz⟩,hb1⟩
 have hb01:=hbW.trans (hb1.mono hBW);have bR1:=bR.below hb1 s0;obtain ⟨v0,v1,v2,v3,-⟩:=bR1.stored (.bool z.num.ng) (.slice z.num.A z.num.n z.num.c) (.bool z.den.ng) (.slice z.den.A z.den.n z.den.c);have HB:=hdq (zAl (x0:=.bool z.num.ng) (x1:=.slice z.num.A z.num.n z.num.c) (x2:=.bool z.den.ng) (x3:=.slice z.den.A z.den.n z.den.c) (b:=w) hb01 (by omega));have HZ:=hdq ((hz.set4 (b:=w) (x0:=.bool z.num.ng) (x1:=.slice z.num.A z.num.n z.num.c) (x2:=.bool z.den.ng) (x3:=.slice z.den.A z.den.n z.den.c) s0).lower hBW);clear hb1 hb01 hz bR h0;go_wp2;exact bodyPost_ret (v:=z.val) (by simp [results,Tryz.results192,go_sem,v0,v1,v2,v3]) rfl ⟨⟨z,rfl,HZ.out⟩,HB.out⟩
theorem zUF {w:World} {n:Nat} (hn:n<=1024):Calls Tryz.prog 193 #[.int .i64 (n:Int)] w fun e w'=>e = .returned (.int .i64 (n:Int))/\w=w':=by
 have h1:min (n:Int) 1024=(n:Int):=by omega
 have h2:max (0:Int) (n:Int)=(n:Int):=by omega
 go_enter Tryz.func193,Tryz.ntmps193
 go_wp2;go_ret;exact ⟨rfl,rfl⟩
theorem zXo {w:World} {n:Nat} (hn:n<=1024):Calls Tryz.prog 144 #[.slice none 0 0,.int .i64 (n:Int),.int .i64 (n:Int)] w fun e w'=>
  (∃ b rb,e = .returned (.slice (some ⟨b,0,none⟩) n n)/\w.heap.size<=b/\MRw w' w b n n rb (fun _=>(List.range n).map fun _=>0) n)/\Below w w w':=by
 go_enter Tryz.func144,Tryz.ntmps144
 go_upto_region 2 with fail
 refine zAo (fun W=>Below w w W/\Box1 W w (.slice none 0 0)/\Box1 W (w+1) (.func (.func 192) #[] #[.pointer (some w)])/\w.heap.size<W.heap.size/\w.heap.size+1<W.heap.size) ⟨(az (az (brf _ _))),⟨by go_simp,by intro o; go_simp⟩,⟨by go_simp,by intro o; go_simp⟩,by simp <;> omega,by simp <;> omega⟩ ?_;rintro W ⟨hbW,b0,b1,s0,s1⟩;have hBW:=hbW.size;obtain ⟨c0,-⟩:=id b0;obtain ⟨c1,-⟩:=id b1;have hS0:Sees w [] W W.drew:=Sees.st (by simp) hBW;refine zAp 1000 (fun _ w'=>Sees w [] W w') (by kernel_rfl) ?_;refine tx1 0 hS0 ?_;refine tx1 1 hS0 ?_;refine tx1 3 hS0 ?_;refine tk1 2 ?_;intro K hK;go_simp;refine (zUF hn).mono ?_;rintro e w2 ⟨rfl,rfl⟩;refine hK.out _ _ hS0 ?_;clear hK K;refine tk1 4 ?_;intro K hK;go_simp;refine (zUF hn).mono ?_;rintro e w2 ⟨rfl,rfl⟩;refine hK.out _ _ hS0 ?_;clear hK K;refine tk1 5 ?_;intro K hK;go_simp;have hdr:Below W W W.drew:=(brf _ _).drew;refine (zVl (g:=fun _ _=>0) (caps:=#[.pointer (some w)]) (by omega) (by omega) (fun _ _=>rfl) fun W' i k hb hi hk=>zWQ ((hdr.trans hb).cell (p:=w) s0 |>.trans c0)).mono ?_;rintro e w2 ⟨⟨b,rb,rfl,hb,hM⟩,hb2⟩;have hS1:=Kept.call2 hb2 hS0;refine hK.out _ _ hS1 ?_;clear hK K;have HF:=hdq (hbW.trans ((hdr.trans hb2).mono hBW));have HM:=hdq (hM.lower hBW);refine tx1 6 hS1 ?_;refine zAf (by kernel_rfl) ?_ _;clear hS0 hS1 hM hb2 hdr c0 c1 b0 b1 hbW;go_wp2;go_ret;exact ⟨⟨b,rb,rfl,nlt hBW hb,HM.out⟩,HF.out⟩
def idE (i k:Nat):Rat:=if k=i then 1 else 0
theorem zWj {w:World} {i k:Nat}:Calls Tryz.prog 194 #[.int .i64 (i:Int),.int .i64 (k:Int)] w fun e w'=>QRet w (idE i k) e w'/\Below w w w':=by
 go_enter Tryz.func194,Tryz.ntmps194
 go_upto_region 1 with fail
 refine zAo (fun W=>Below w w W/\Box4 W w (.bool false) (.slice none 0 0) (.bool false) (.slice none 0 0)/\w.heap.size<W.heap.size) ⟨(az (brf _ _)),bx4,by simp <;> omega⟩ ?_;rintro W ⟨hbW,bR,s0⟩;have hBW:=hbW.size;by_cases h:i=k
 ·have hE:Hid (idE i k=1):=hdq (if_pos h.symm);have hib:((i:Int) == (k:Int))=true:=by simp [h]
  have hii:(i:Int)=(k:Int):=by omega
  go_wp2_with fail
  refine (zAN 1 (by decide) (by decide) _).mono ?_; rintro e w1 ⟨⟨z,rfl,hz⟩,hb1⟩
  have hb01:=hbW.trans (hb1.mono hBW);have bR1:=bR.below hb1 s0;obtain ⟨v0,v1,v2,v3,-⟩:=bR1.stored (.bool z.num.ng) (.slice z.num.A z.num.n z.num.c) (.bool z.den.ng) (.slice z.den.A z.den.n z.den.c);have HB:=hdq (zAl (x0:=.bool z.num.ng) (x1:=.slice z.num.A z.num.n z.num.c) (x2:=.bool z.den.ng) (x3:=.slice z.den.A z.den.n z.den.c) (b:=w) hb01 (by omega));have HZ:=hdq ((hz.set4 (b:=w) (x0:=.bool z.num.ng) (x1:=.slice z.num.A z.num.n z.num.c) (x2:=.bool z.den.ng) (x3:=.slice z.den.A z.den.n z.den.c) s0).lower hBW);rw [show ((1:Int):Rat)=1 from rfl,<-hE.out] at HZ;clear hb1 hb01 hz bR hib hii h hE;go_wp2;exact bodyPost_ret (v:=z.val) (by simp [results,Tryz.results194,go_sem,v0,v1,v2,v3]) rfl ⟨⟨z,rfl,HZ.out⟩,HB.out⟩
 ·have hE:Hid (idE i k=0):=hdq (if_neg fun e=>h e.symm);have hib:((i:Int) == (k:Int))=false:=beq_false_of_ne (by omega);have hii:¬ (i:Int)=(k:Int):=by omega
  obtain ⟨v0,v1,v2,v3,-⟩:=bR.stored (.bool false) (.slice none 0 0) (.bool false) (.slice none 0 0);have HB:=hdq (zAl (x0:=.bool false) (x1:=.slice none 0 0) (x2:=.bool false) (x3:=.slice none 0 0) hbW (nlr w))
  have HZ:Hid (QCan ((((W.setCell w (.bool false)).setCell ⟨w.heap.size,1,none⟩ (.slice none 0 0)).setCell ⟨w.heap.size,2,none⟩ (.bool false)).setCell ⟨w.heap.size,3,none⟩ (.slice none 0 0)) (New w) ⟨⟨false,none,0,0⟩,⟨false,none,0,0⟩⟩ (idE i k)):=by
   rw [hE.out]; exact QCan.zero _ _
  go_wp2;exact bodyPost_ret (v:=.agg #[.bool false,.slice none 0 0,.bool false,.slice none 0 0]) (by simp [results,Tryz.results194,go_sem,v0,v1,v2,v3]) rfl ⟨⟨⟨⟨false,none,0,0⟩,⟨false,none,0,0⟩⟩,rfl,HZ.out⟩,HB.out⟩
theorem zWI {w:World} {n:Nat} (hn:n<=1024):Calls Tryz.prog 146 #[.int .i64 (n:Int)] w fun e w'=>
  (∃ b rb,e = .returned (.slice (some ⟨b,0,none⟩) n n)/\w.heap.size<=b/\MRw w' w b n n rb (fun i=>(List.range n).map (idE i)) n)/\Below w w w':=by
 go_enter Tryz.func146,Tryz.ntmps146
 go_upto_region 2 with fail
 refine zAo (fun W=>Below w w W/\Box1 W w (.func (.func 194) #[] #[])/\w.heap.size<W.heap.size) ⟨(az (brf _ _)),⟨by go_simp,by intro o; go_simp⟩,by simp <;> omega⟩ ?_;rintro W ⟨hbW,b1,s0⟩;have hBW:=hbW.size;obtain ⟨c1,-⟩:=id b1;have hS0:Sees w [] W W.drew:=Sees.st (by simp) hBW;refine zAp 1000 (fun _ w'=>Sees w [] W w') (by kernel_rfl) ?_;refine tx1 0 hS0 ?_;refine tx1 1 hS0 ?_;refine tx1 3 hS0 ?_;refine tk1 2 ?_;intro K hK;go_simp;refine (zUF hn).mono ?_;rintro e w2 ⟨rfl,rfl⟩;refine hK.out _ _ hS0 ?_;clear hK K;refine tk1 4 ?_;intro K hK;go_simp;refine (zUF hn).mono ?_;rintro e w2 ⟨rfl,rfl⟩;refine hK.out _ _ hS0 ?_;clear hK K;refine tk1 5 ?_;intro K hK;go_simp;have hdr:Below W W W.drew:=(brf _ _).drew;refine (zVl (g:=idE) (caps:=#[]) (by omega) (by omega) (fun _ _=>rfl) fun W' i k hb hi hk=>zWj).mono ?_;rintro e w2 ⟨⟨b,rb,rfl,hb,hM⟩,hb2⟩;have hS1:=Kept.call2 hb2 hS0;refine hK.out _ _ hS1 ?_;clear hK K;have HF:=hdq (hbW.trans ((hdr.trans hb2).mono hBW));have HM:=hdq (hM.lower hBW);refine tx1 6 hS1 ?_;refine zAf (by kernel_rfl) ?_ _;clear hS0 hS1 hM hb2 hdr c1 b1 hbW;go_wp2;go_ret;exact ⟨⟨b,rb,rfl,nlt hBW hb,HM.out⟩,HF.out⟩
theorem zXn {w:World} {x:Int} (h1:1<=x) (h2:x<=1000000):Calls Tryz.prog 145 #[.int .i64 1,.int .i64 x] w fun e w'=>QERet w (1 / (x:Rat)) e w'/\Below w w w':=by
 have hx0:¬ x=0:=by omega
 have hxb:(x == 0)=false:=beq_false_of_ne hx0;go_enter Tryz.func145,Tryz.ntmps145
 go_upto_region 1 with fail
 refine zAo (fun W=>Below w w W/\Box4 W w (.bool false) (.slice none 0 0) (.bool false) (.slice none 0 0)/\w.heap.size<W.heap.size) ⟨(az (brf _ _)),bx4,by simp <;> omega⟩ ?_;rintro W ⟨hbW,bR,s0⟩;have hBW:=hbW.size;go_wp2_with fail
 refine (zAI 1 (by decide) (by decide) _).mono ?_; rintro e w1 ⟨⟨ng1,A1,k1,c1,rfl,z1⟩,hb1⟩
 have hb01:=hbW.trans (hb1.mono hBW);have bR1:=bR.below hb1 s0;clear bR;go_wp2_with fail
 refine (zAI x (by omega) (by omega) _).mono ?_; rintro e w2 ⟨⟨ng2,A2,k2,c2,rfl,z2⟩,hb2⟩
 have i1:ZIs w2 (New W) 1 ⟨ng1,A1,k1,c1⟩ 1:=(z1.below hb2).zis (by decide)
 have i2:ZIs w2 (New w1) 1 ⟨ng2,A2,k2,c2⟩ x:=z2.zis (by
  rw [show Num.base ^ 1=4294967296 from rfl];omega)
 have HI:=hdq (And.intro i1 i2);have HB2:=hdq (hb01.trans (hb2.mono hb01.size));have bR2:=bR1.below hb2 (ltl s0 hb1.size);have s2:w.heap.size<w2.heap.size:=ltl (ltl s0 hb1.size) hb2.size;clear z1 z2 i1 i2 hb1 hb01 hb2 bR1 hbW hBW s0;go_wp2_with fail
 refine (zBz (zn:=⟨ng1,A1,k1,c1⟩) (zd:=⟨ng2,A2,k2,c2⟩) (q:=1 / (x:Rat)) HI.out.1 HI.out.2 hx0 rfl (by decide)).mono ?_; rintro e w3 ⟨⟨z,rfl,hz⟩,hb3⟩
 have hb03:=HB2.out.trans (hb3.mono HB2.out.size);have bR3:=bR2.below hb3 s2;obtain ⟨v0,v1,v2,v3,-⟩:=bR3.stored (.bool z.num.ng) (.slice z.num.A z.num.n z.num.c) (.bool z.den.ng) (.slice z.den.A z.den.n z.den.c);have HB:=hdq (zAl (x0:=.bool z.num.ng) (x1:=.slice z.num.A z.num.n z.num.c) (x2:=.bool z.den.ng) (x3:=.slice z.den.A z.den.n z.den.c) (b:=w) hb03 (by omega));have HZ:=hdq ((hz.set4 (b:=w) (x0:=.bool z.num.ng) (x1:=.slice z.num.A z.num.n z.num.c) (x2:=.bool z.den.ng) (x3:=.slice z.den.A z.den.n z.den.c) s2).lower (Nat.le_of_lt s2));clear hb3 hb03 hz bR2 HB2 HI;go_wp2;exact bodyPost_ret (v:=.tuple #[z.val,.int .i64 0]) (by simp [results,Tryz.results145,go_sem,v0,v1,v2,v3]) rfl ⟨⟨z,rfl,HZ.out⟩,HB.out⟩
end Mo
namespace Mo
theorem zWi {n:Nat} {Q:Exit->Act->World->Prop} {ex:Exit} {a:Act} {w:World} {Φ:World->Prop} (h0:Gen Φ w) (h:∀ W,Φ W->Exit.inBlock n Q ex a W):Exit.inBlock n Q ex a w:=h w h0
def GE (B0 b N:Nat) (rb:Nat->Nat) (x:Nat):Prop:=x<B0\/x=b\/∃ j,j<N/\x=rb j
structure EqW (w:World) (n:Int) (s:SV) (B0 b N:Nat) (rb:Nat->Nat) (L P f t:Nat) (u:QV) (q:Rat) (m:Mt) (W:World):Prop where
 bel:Below w w W
 n0:W.cell? w=some (.int .i64 n)
 n1:W.cell? ⟨w.heap.size,1,none⟩=some (.slice s.A s.n s.c)
 mat:EqM W b (GE B0 b N rb) rb N m
 ge:∀ j,j<N->B0<=rb j
 le:w.heap.size<B0
 bb:B0<=b
 l0:W.cell? L=some (.int .i64 (f:Int))
 l1:W.cell? ⟨L,1,none⟩=some (.int .i64 (t:Int))
 lN:∀ j,j<N->rb j ≠ L
 p:QCell W ⟨P,0,none⟩ u
 pN:∀ j,j<N->rb j ≠ P
 hu:QCan W (fun y=>¬ GE B0 b N rb y) u q
section
variable {w W w9:World} {n:Int} {s:SV} {B0 b N L P f t:Nat} {rb:Nat->Nat} {u z:QV} {q q':Rat} {m:Mt}
theorem EqM.ge_lt (h:EqM W b (GE B0 b N rb) rb N m) (hB:B0<=b) {y:Nat} (hy:GE B0 b N rb y):y<W.heap.size:=by
 rcases hy with hy | hy | ⟨j,hj,hy⟩
 ·have:=h.lt; omega
 ·have:=h.lt; omega
 ·have:=(h.row j hj).lt; omega
theorem EqW.step (h:EqW w n s B0 b N rb L P f t u q m W) (hb:Below W W w9) {i j:Nat} (hi:i<N) (hj:j<N) (hz:QCan w9 (New W) z (ent m i j+q')) :
  EqW w n s B0 b N rb L P f t u q (addAt m i j q') (put4 w9 (rb i) j z):=by
 have hg:=h.ge i hi;have hle:=h.le;have c4:∀ {p:Addr} {v:Value},W.cell? p=some v->p.block ≠ rb i->(put4 w9 (rb i) j z).cell? p=some v:=fun hc hp=>(zCq _ _ _ _ hp).trans (cellB hb hc)
 obtain ⟨p0,p1,p2,p3⟩:=h.p
 exact ⟨zBq (h.bel.trans (hb.mono h.bel.size)) (by omega) _ _,c4 h.n0 (by show w.heap.size ≠ rb i; omega),c4 h.n1 (by show w.heap.size ≠ rb i; omega),
  (h.mat.below hb).add hi hj (hz.imp fun x _ hx e=>by have:=h.mat.ge_lt h.bb e; simp only [New] at hx; omega),h.ge,h.le,h.bb,
  c4 h.l0 (Ne.symm (h.lN i hi)),c4 h.l1 (Ne.symm (h.lN i hi)),h.lN,⟨c4 p0 (Ne.symm (h.pN i hi)),c4 p1 (Ne.symm (h.pN i hi)),c4 p2 (Ne.symm (h.pN i hi)),c4 p3 (Ne.symm (h.pN i hi))⟩,h.pN,
  (h.hu.below hb).keep fun p hp _=>zCq _ _ _ _ fun e=>hp (.inr (.inr ⟨i,hi,e⟩))⟩
end
structure EqO (w:World) (n:Int) (s:SV) (B0 b N:Nat) (rb:Nat->Nat) (m:Mt) (W:World):Prop where
 bel:Below w w W
 n0:W.cell? w=some (.int .i64 n)
 n1:W.cell? ⟨w.heap.size,1,none⟩=some (.slice s.A s.n s.c)
 mat:EqM W b (GE B0 b N rb) rb N m
 ge:∀ j,j<N->B0<=rb j
 le:w.heap.size<B0
 bb:B0<=b
def EqA (w:World) (n:Int) (s:SV) (B0 b N:Nat) (rb:Nat->Nat) (ls:List Ln) (ks:List Nat) (tn:Nat) (t:Value) (W:World):Prop:=
 ∃ k:Nat,k<=tn/\t = .int .i64 (k:Int)/\EqO w n s B0 b N rb ((ks.take k).foldl (fun m k=>eqLine m (ls.getD k ⟨0,0,0,0⟩)) (zeroM N)) W
theorem zUt {n:Nat} {m:Mt} (h:Sq n m) {i j a b:Nat} (hi:i<n) (hj:j<n) (q:Rat) (hne:¬ (a=i/\b=j)):ent (addAt m i j q) a b=ent m a b:=by
 rw [zUb h hi hj,if_neg hne]
theorem MRw.keep {W W':World} {B0 b c n i:Nat} {rb:Nat->Nat} {g:Nat->List Rat} (h:MRw W B0 b c n rb g i) (hk:∀ x,B0<=x->W'.heap[x]?=W.heap[x]?) (hb:B0<=b):MRw W' B0 b c n rb g i:=by
 obtain ⟨cs,h1,h2⟩:=h.blk
 exact ⟨⟨cs,(hk b hb).trans h1,h2⟩,h.ne,h.inj,fun j hj=>(h.row j hj).keep (hk _ (h.ge j hj)) fun p hp _=>cob (hk _ (by
  rcases Nat.lt_or_ge p.block B0 with h | h
  ·exact absurd (.inl h) hp
  ·exact h)),h.ge⟩
theorem zYu {N i:Nat} (h:i<N):(unitM N).getD i []=(List.range N).map (idE i):=getD_map_range _ _ h
def EqR (w:World) (B1 b b2 N rn:Nat) (rb2:Nat->Nat) (rf:List Nat) (m:Mt) (v:Value) (W:World):Prop:=
 ∃ k:Nat,k<=rn/\v = .int .i64 (k:Int)/\Below w w W/\GjM W b ((rf.take k).foldl (fun m b=>m.set b ((unitM N).getD b [])) m)/\MRw W B1 b2 N N rb2 (fun i=>(List.range N).map (idE i)) N
theorem zVj {w:World} {N:Nat} {s t r:SV} {ls:List Ln} {ks rf:List Nat} (h:LinesAt w s ls) (ht:NatsAt w t ks) (hr:NatsAt w r rf) (hN1:1<=N) (hN:N<=6) (hks:∀ k ∈ ks,k<ls.length) (hok:∀ i,i<ls.length->LnOk (N:Int) (ls.getD i ⟨0,0,0,0⟩)) (hkl:ks.length<=10) (hrf:∀ b ∈ rf,b<N) :
  Calls Tryz.prog 89 #[.agg #[.int .i64 (N:Int),.slice s.A s.n s.c],.slice t.A t.n t.c,.slice r.A r.n r.c] w fun e w'=>
   (∃ b,e = .returned (.slice (some ⟨b,0,none⟩) N N)/\w.heap.size<=b/\GjM w' b (eqs N ls ks rf))/\Below w w w':=by
 obtain ⟨sA,sn,sc⟩:=s;obtain ⟨tA,tn,tc⟩:=t;obtain ⟨rA,rn,rc⟩:=r;have HS:=hdq h;have HT:=hdq ht;have HR:=hdq hr;have HTn:Hid (ks.length=tn):=by have:=ht.len; rw [List.length_map] at this; exact this
 have HRn:Hid (rf.length=rn):=by have:=hr.len; rw [List.length_map] at this; exact this
 have HSn:Hid (ls.length=sn):=h.len;have hsle:sn<=sc:=h.le;have hscap:sc<=9223372036854775807:=h.cap;have htle:tn<=tc:=ht.le;have htcap:tc<=9223372036854775807:=ht.cap;have hrle:rn<=rc:=hr.le;have hrcap:rc<=9223372036854775807:=hr.cap;have HKs:=hdq hks;have HOk:=hdq hok;have HRf:=hdq hrf;have htn:tn<=10:=by have:=HTn.out; omega
 clear h ht hr hks hok hkl hrf;dsimp only;go_enter Tryz.func89,Tryz.ntmps89
 go_upto_region 1 with fail
 refine zAo (fun W=>Below w w W/\Box2 W w (.int .i64 (N:Int)) (.slice sA sn sc)/\w.heap.size<W.heap.size) ⟨(az (brf _ _)),bx2,by simp <;> omega⟩ ?_;rintro W ⟨hbW,bN,s0⟩;have hBW:=hbW.size;obtain ⟨c0,c1,-⟩:=id bN;go_wp2_with fail
 refine (zXo (n:=N) (by omega)).mono ?_; rintro e w1 ⟨⟨b,rb,rfl,hb,hM⟩,hb1⟩
 obtain ⟨B0,hB0⟩:∃ B0,B0=W.heap.size:=⟨_,rfl⟩;rw [<-hB0] at hb hM;have hzm:(List.range N).map (fun _=>(List.range N).map fun _=>(0:Rat))=zeroM N:=rfl;have H0:EqA w N ⟨sA,sn,sc⟩ B0 b N rb ls ks tn (.int .i64 0) w1:=⟨0,nzl _,rfl,hbW.trans (hb1.mono hBW),(bN.below hb1 s0).1,(bN.below hb1 s0).2.1,by rw [List.take_zero]; exact hM.eqm,hM.ge,by omega,hb⟩;clear hM hb1 hbW hBW bN c0 c1 s0 hB0 hzm;go_wp2;go_loopw [23] (fun v W=>EqA w N ⟨sA,sn,sc⟩ B0 b N rb ls ks tn v W) (fun v _=>tn-(intOf v).toNat)
 case atStart=>exact H0
 case round=>
  clear H0;obtain ⟨k,hk,rfl,hO⟩:=hrel;have n1:=hO.n1;dsimp only at n1;have hwl:=zAb n1;dsimp only at hwl;have hB:=hO.bel;by_cases hlt:k<tn
  ·obtain ⟨ad,e,q0⟩:=(HT.out.below hB).cell k hlt;dsimp only at e;subst e;have hkl:k<ks.length:=by rw [HTn.out]; exact hlt
   have hmem:ks.getD k 0 ∈ ks:=by rw [gdd,gge hkl]; exact List.getElem_mem hkl
   have hx:=HKs.out _ hmem;have hg:(ks.map fun i:Nat=>(i:Int)).getD k 0=(ks.getD k 0:Int):=(by simp [gdd,hkl]);rw [hg] at q0
   have HJ:Hid ((ks.take (k+1)).foldl (fun m k=>eqLine m (ls.getD k ⟨0,0,0,0⟩)) (zeroM N)=eqLine ((ks.take k).foldl (fun m k=>eqLine m (ls.getD k ⟨0,0,0,0⟩)) (zeroM N)) (ls.getD (ks.getD k 0) ⟨0,0,0,0⟩)):=by
    show _=_;rw [zUx 0 hkl,List.foldl_append]; rfl
   obtain ⟨la,e,l0,l1,l2,l3⟩:=(LinesAt.below hB HS.out).cell (ks.getD k 0) (by rw [<-HSn.out]; exact hx);dsimp only at e;subst e;have hok:=HOk.out (ks.getD k 0) hx;have hsx:ks.getD k 0<sn:=by rw [<-HSn.out]; exact hx
   have HFt:Hid (FitM 110 ((ks.take k).foldl (fun m k=>eqLine m (ls.getD k ⟨0,0,0,0⟩)) (zeroM N))):=by
    have h1:FitM 0 (zeroM N):=fun i j=>by rw [zVA]; exact Lin.Fits.zero _
    have h2:=zVn (fun j=>ls.getD j ⟨0,0,0,0⟩) (ks.take k) (zUV N) h1 fun j hj=>by
     have:=HOk.out j (HKs.out j (List.mem_of_mem_take hj));obtain ⟨a1,a2,a3,a4,a5,a6,a7,-⟩:=this;exact ⟨by omega,by omega,by omega,a6,a7⟩
    have hl:(ks.take k).length<=10:=by rw [List.length_take]; omega
    exact fun i j=>(h2 i j).mono (by omega)
   clear hmem hg hkl hx;generalize (ks.take k).foldl (fun m k=>eqLine m (ls.getD k ⟨0,0,0,0⟩)) (zeroM N)=m at *;generalize ks.getD k 0=x at *;generalize ls.getD x ⟨0,0,0,0⟩=l at *;obtain ⟨f,t,xx,cc⟩:=l;obtain ⟨k1,k2,k3,k4,k5,k6,k7,-⟩:=hok;dsimp only at k1 k2 k3 k4 k5 k6 k7 l0 l1 l2 l3;obtain ⟨f,rfl⟩:∃ f':Nat,f=(f':Int):=⟨f.toNat,by omega⟩;obtain ⟨t,rfl⟩:∃ t':Nat,t=(t':Int):=⟨t.toNat,by omega⟩;have hL:eqLine m ⟨(f:Int),(t:Int),xx,cc⟩=addAt (addAt (addAt (addAt m f f (1 / (xx:Rat))) f t (-(1 / (xx:Rat)))) t t (1 / (xx:Rat))) t f (-(1 / (xx:Rat))):=rfl;rw [hL] at HJ;clear hL;have tl:=zAb l0;have tq:=zAb q0;have hji:(k:Int)<(tn:Int):=(by omega);have hxi:(x:Int)<(sn:Int):=(by omega);have HO:=hdq hO;clear hO hB;(go_wp2_with fail);have al:Below wr wr (wr.alloc (.cells #[.int .i64 (f:Int),.int .i64 (t:Int),.int .i64 xx,.int .i64 cc] 47)):=bal;refine (zXn k6 (by omega)).mono ?_; rintro e w2 ⟨⟨u,rfl,hu⟩,hb2⟩
   have hb02:=al.trans (hb2.mono al.size);have x0:w2.cell? wr=some (.int .i64 (f:Int)):=(hb2.cell (p:=wr) (by simp)).trans (by go_simp);have x1:w2.cell? ⟨wr.heap.size,1,none⟩=some (.int .i64 (t:Int)):=(hb2.cell (p:=⟨wr.heap.size,1,none⟩) (by simp)).trans (by go_simp);have hs2:wr.heap.size<w2.heap.size:=ltl (by simp) hb2.size;have Hu:=hdq hu;clear hu al hb2 q0 l0 l1 l2 l3;(go_upto_region 7 with fail);have al2:Below w2 w2 (w2.alloc (.cells #[.bool u.num.ng,.slice u.num.A u.num.n u.num.c,.bool u.den.ng,.slice u.den.A u.den.n u.den.c] 80)):=bal
   have hE0:EqW w N ⟨some la,sn,sc⟩ B0 b N rb wr w2 f t u (1 / (xx:Rat)) m (w2.alloc (.cells #[.bool u.num.ng,.slice u.num.A u.num.n u.num.c,.bool u.den.ng,.slice u.den.A u.den.n u.den.c] 80)):=by
    obtain ⟨e1,e2,e3,e4,e5,e6,e7⟩:=HO.out;have hb03:=hb02.trans (al2.mono hb02.size);have hgl:=fun {y:Nat} (hy:GE B0 b N rb y)=>EqM.ge_lt e4 e7 hy
    exact ⟨e1.trans (hb03.mono e1.size),(hb03.cell (p:=w) hwl).trans e2,(hb03.cell (p:=⟨w.heap.size,1,none⟩) hwl).trans e3,e4.below hb03,e5,e6,e7,
     (al2.cell (p:=wr) hs2).trans x0,(al2.cell (p:=⟨wr.heap.size,1,none⟩) hs2).trans x1,(fun j hj=>by have:=hgl (.inr (.inr ⟨j,hj,rfl⟩)); omega),
     ⟨by go_simp,by go_simp,by go_simp,by go_simp⟩,(fun j hj=>by have:=hgl (.inr (.inr ⟨j,hj,rfl⟩)); omega),
     (Hu.out.below al2).imp fun y _ hy hG=>by have:=hgl hG; simp only [New,World.size_alloc] at hy; omega⟩
   refine zAo (fun W=>EqW w N ⟨some la,sn,sc⟩ B0 b N rb wr w2 f t u (1 / (xx:Rat)) m W) hE0 ?_;clear hE0 al2 hb02 x0 x1 Hu HO n1;generalize wr.heap.size=L at *;generalize w2.heap.size=P at *;intro W2 hE;have hsq:=hE.mat.sq;have hfN:f<N:=(by omega);have htN:t<N:=(by omega);have hne:f ≠ t:=(by omega);have F1:=hdq (HFt.out f f);have F2:Hid (Lin.Fits 110 (ent (addAt m f f (1 / (xx:Rat))) f t)):=by rw [zUt hsq hfN hfN _ (by omega)]; exact HFt.out f t
   have F3:Hid (Lin.Fits 110 (ent (addAt (addAt m f f (1 / (xx:Rat))) f t (-(1 / (xx:Rat)))) t t)):=by rw [zUt (hsq.addAt _ _ _) hfN htN _ (by omega),zUt hsq hfN hfN _ (by omega)]; exact HFt.out t t
   have F4:Hid (Lin.Fits 110 (ent (addAt (addAt (addAt m f f (1 / (xx:Rat))) f t (-(1 / (xx:Rat)))) t t (1 / (xx:Rat))) t f)):=by rw [zUt ((hsq.addAt _ _ _).addAt _ _ _) htN htN _ (by omega),zUt (hsq.addAt _ _ _) hfN htN _ (by omega),zUt hsq hfN hfN _ (by omega)]; exact HFt.out t f
   clear hsq;obtain ⟨v,⟨d0,d1,d2,d3⟩,hv⟩:=hE.mat.elem (i:=f) (j:=f) (by omega) (by omega);have cb:=hE.mat.cell (i:=f) (by omega);have l0:=hE.l0;have l1:=hE.l1;obtain ⟨p0,p1,p2,p3⟩:=hE.p;have gf:=(hE.mat.row f (by omega)).frozen;have gl:=(hE.mat.row f (by omega)).lt;have bl:=hE.mat.lt;have gb:=hE.mat.ne f (by omega);have gL:=hE.lN f (by omega);have gP:=hE.pN f (by omega);have gw:w.heap.size<rb f:=ltl hE.le (hE.ge f (by omega));have bW:=hE.bel.size;have Hv:=hdq (show QIs W2 _ 16 v _ from hv.qis (zBn (F1.out) (by decide)));have Hu:=hdq (show QIs W2 _ 16 u _ from hE.hu.qis (zBn (zUC k6 k7) (by decide)));have HE:=hdq hE;clear hE hv;obtain ⟨g,hg⟩:∃ g,g=rb f:=⟨_,rfl⟩;rw [<-hg] at d0 d1 d2 d3 cb gf gl gb gL gP gw;have Hg:=hdq hg;clear hg;dsimp only at d1 d2 d3 p1 p2 p3;rw [Nat.zero_add] at p1 p2 p3;have lL:=zAb l0;have lP:=zAb p0;dsimp only at lL lP;have gb':¬ b=g:=Ne.symm gb;have gL':¬ L=g:=Ne.symm gL;have gP':¬ P=g:=Ne.symm gP;clear gb gL gP;refine zAp 19 (fun fl w'=>Sees w [g] W2 w'/\(fl=false->Sees w [] W2 w')) (by kernel_rfl) ?_;have hS0:Sees w [g] W2 W2.drew:=Sees.st (by simp; omega) bW;have hS1:Sees w [] W2 W2.drew:=Sees.st (by simp) bW;refine tkE 0 ?_ (fun w' hSw=>?_) (⟨hS0,fun _=>hS1⟩) ?_;rotate_left
   ·((obtain ⟨_,hSv⟩:=hSw; replace hSw:=hSv.1); go_simp; try with_reducible rfl)
   simp only [zz];refine tkE 1 ?_ (fun w' hSw=>?_) (⟨hS0,fun _=>hS1⟩) ?_;rotate_left
   ·((obtain ⟨_,hSv⟩:=hSw; replace hSw:=hSv.1); go_simp; try with_reducible rfl)
   simp only [zz];refine tkE 2 ?_ (fun w' hSw=>?_) (⟨hS0,fun _=>hS1⟩) ?_;rotate_left
   ·((obtain ⟨_,hSv⟩:=hSw; replace hSw:=hSv.1); go_simp; try with_reducible rfl)
   simp only [zz];refine tkE 3 ?_ (fun w' hSw=>?_) (⟨hS0,fun _=>hS1⟩) ?_;rotate_left
   ·((obtain ⟨_,hSv⟩:=hSw; replace hSw:=hSv.1); go_simp; try with_reducible rfl)
   simp only [zz];refine tkE 4 ?_ (fun w' hSw=>?_) (⟨hS0,fun _=>hS1⟩) ?_;rotate_left
   ·((obtain ⟨_,hSv⟩:=hSw; replace hSw:=hSv.1); go_simp; try with_reducible rfl)
   simp only [zz];refine tkE 5 ?_ (fun w' hSw=>?_) (⟨hS0,fun _=>hS1⟩) ?_;rotate_left
   ·((obtain ⟨_,hSv⟩:=hSw; replace hSw:=hSv.1); go_simp; try with_reducible rfl)
   simp only [zz];refine tkE 6 ?_ (fun w' hSw=>?_) (⟨hS0,fun _=>hS1⟩) ?_;rotate_left
   ·((obtain ⟨_,hSv⟩:=hSw; replace hSw:=hSv.1); go_simp; try with_reducible rfl)
   simp only [zz];refine tkE 7 ?_ (fun w' hSw=>?_) (⟨hS0,fun _=>hS1⟩) ?_;rotate_left
   ·((obtain ⟨_,hSv⟩:=hSw; replace hSw:=hSv.1); go_simp; try with_reducible rfl)
   simp only [zz];refine tkE 8 ?_ (fun w' hSw=>?_) (⟨hS0,fun _=>hS1⟩) ?_;rotate_left
   ·((obtain ⟨_,hSv⟩:=hSw; replace hSw:=hSv.1); go_simp; try with_reducible rfl)
   simp only [zz];refine tkE 9 ?_ (fun w' hSw=>?_) (⟨hS0,fun _=>hS1⟩) ?_;rotate_left
   ·((obtain ⟨_,hSv⟩:=hSw; replace hSw:=hSv.1); go_simp; try with_reducible rfl)
   simp only [zz];refine tkE 10 ?_ (fun w' hSw=>?_) (⟨hS0,fun _=>hS1⟩) ?_;rotate_left
   ·((obtain ⟨_,hSv⟩:=hSw; replace hSw:=hSv.1); go_simp; try with_reducible rfl)
   simp only [zz];refine tkE 11 ?_ (fun w' hSw=>?_) (⟨hS0,fun _=>hS1⟩) ?_;rotate_left
   ·((obtain ⟨_,hSv⟩:=hSw; replace hSw:=hSv.1); go_simp; try with_reducible rfl)
   simp only [zz];refine tkE 12 ?_ (fun w' hSw=>?_) (⟨hS0,fun _=>hS1⟩) ?_;rotate_left
   ·((obtain ⟨_,hSv⟩:=hSw; replace hSw:=hSv.1); go_simp; try with_reducible rfl)
   simp only [zz];refine tkE 13 ?_ (fun w' hSw=>?_) (⟨hS0,fun _=>hS1⟩) ?_;rotate_left
   ·((obtain ⟨_,hSv⟩:=hSw; replace hSw:=hSv.1); go_simp; try with_reducible rfl)
   simp only [zz];refine tkE 14 ?_ (fun w' hSw=>?_) (⟨hS0,fun _=>hS1⟩) ?_;rotate_left
   ·((obtain ⟨_,hSv⟩:=hSw; replace hSw:=hSv.1); go_simp; try with_reducible rfl)
   simp only [zz];refine tkV 15 17 (v.val) (fun w' hSw=>?_) (⟨hS0,fun _=>hS1⟩) ?_
   ·(replace hSw:=hSw.2 rfl; go_simp; try with_reducible rfl)
   simp only [zz];refine tkE 16 ?_ (fun w' hSw=>?_) (⟨hS0,fun _=>hS1⟩) ?_;rotate_left
   ·((obtain ⟨_,hSv⟩:=hSw; replace hSw:=hSv.1); go_simp; try with_reducible rfl)
   simp only [zz];refine tk1 17 ?_;intro K hK;go_simp;have hdr:Below W2 W2 W2.drew:=(brf _ _).drew;refine (zCD (a:=v) (b:=u) (Hv.out.below hdr) (Hu.out.below hdr) (by decide) (by decide)).mono ?_;rintro e w9 ⟨⟨z,rfl,hz⟩,hb9⟩;have hS2:=Kept.call2 hb9 hS0;have hS3:=Kept.call2 hb9 hS1;have hb9':Below W2 W2 w9:=hdr.trans hb9;refine hK.out _ _ ⟨hS2,fun _=>hS3⟩ ?_;clear hK K;have HZ:=hdq hz;rw [<-hb9'.cell (p:=⟨g,_,none⟩) gl] at d0 d1 d2 d3;have gf9:∀ o,w9.frozen? ⟨g,o,none⟩=false:=fun o=>by rw [hb9'.frozen (p:=⟨g,o,none⟩) gl]; exact gf o
   clear hz;refine tkE 18 ?_ (fun w' hSw=>?_) (⟨hS2,fun _=>hS3⟩) ?_;rotate_left
   ·((obtain ⟨_,hSv⟩:=hSw; replace hSw:=hSv.1); go_simp; try with_reducible rfl)
   simp only [zz];refine tk1 19 ?_;intro K hK;go_simp;refine hK.out _ _ ⟨Sees.k4 (g:=g) hS2 (by simp),fun h=>absurd h (by decide)⟩ ?_;clear hK K;refine zAf (by kernel_rfl) ?_ _;have hE1:=HE.out.step (i:=f) (j:=f) (q':=1 / (xx:Rat)) hb9' (by omega) (by omega) HZ.out;rw [<-Hg.out] at hE1;have F:Gen (fun W=>EqW w N ⟨some la,sn,sc⟩ B0 b N rb L P f t u (1 / (xx:Rat)) _ W) (put4 w9 g f z):=hE1;(first | refine zDq F ?_ | refine zWi F ?_);clear F gf hE1 Hg HE HZ hS0 hS1 hS2 hS3 hb9 hb9' hdr gf9 d0 d1 d2 d3 cb l0 l1 p0 p1 p2 p3 Hv Hu bW gw gP' gL' gb' bl gl lL lP;intro W2 hE;(go_upto_region 8 with fail);obtain ⟨v,⟨d0,d1,d2,d3⟩,hv⟩:=hE.mat.elem (i:=f) (j:=t) (by omega) (by omega);have cb:=hE.mat.cell (i:=f) (by omega);have l0:=hE.l0;have l1:=hE.l1;obtain ⟨p0,p1,p2,p3⟩:=hE.p;have gf:=(hE.mat.row f (by omega)).frozen;have gl:=(hE.mat.row f (by omega)).lt;have bl:=hE.mat.lt;have gb:=hE.mat.ne f (by omega);have gL:=hE.lN f (by omega);have gP:=hE.pN f (by omega);have gw:w.heap.size<rb f:=ltl hE.le (hE.ge f (by omega));have bW:=hE.bel.size;have Hv:=hdq (show QIs W2 _ 16 v _ from hv.qis (zBn (F2.out) (by decide)));have Hu:=hdq (show QIs W2 _ 16 u _ from hE.hu.qis (zBn (zUC k6 k7) (by decide)));have HE:=hdq hE;clear hE hv;obtain ⟨g,hg⟩:∃ g,g=rb f:=⟨_,rfl⟩;rw [<-hg] at d0 d1 d2 d3 cb gf gl gb gL gP gw;have Hg:=hdq hg;clear hg;dsimp only at d1 d2 d3 p1 p2 p3;rw [Nat.zero_add] at p1 p2 p3;have lL:=zAb l0;have lP:=zAb p0;dsimp only at lL lP;have gb':¬ b=g:=Ne.symm gb;have gL':¬ L=g:=Ne.symm gL;have gP':¬ P=g:=Ne.symm gP;clear gb gL gP;refine zAp 19 (fun fl w'=>Sees w [g] W2 w'/\(fl=false->Sees w [] W2 w')) (by kernel_rfl) ?_;have hS0:Sees w [g] W2 W2.drew:=Sees.st (by simp; omega) bW;have hS1:Sees w [] W2 W2.drew:=Sees.st (by simp) bW;refine tkE 0 ?_ (fun w' hSw=>?_) (⟨hS0,fun _=>hS1⟩) ?_;rotate_left
   ·((obtain ⟨_,hSv⟩:=hSw; replace hSw:=hSv.1); go_simp; try with_reducible rfl)
   simp only [zz];refine tkE 1 ?_ (fun w' hSw=>?_) (⟨hS0,fun _=>hS1⟩) ?_;rotate_left
   ·((obtain ⟨_,hSv⟩:=hSw; replace hSw:=hSv.1); go_simp; try with_reducible rfl)
   simp only [zz];refine tkE 2 ?_ (fun w' hSw=>?_) (⟨hS0,fun _=>hS1⟩) ?_;rotate_left
   ·((obtain ⟨_,hSv⟩:=hSw; replace hSw:=hSv.1); go_simp; try with_reducible rfl)
   simp only [zz];refine tkE 3 ?_ (fun w' hSw=>?_) (⟨hS0,fun _=>hS1⟩) ?_;rotate_left
   ·((obtain ⟨_,hSv⟩:=hSw; replace hSw:=hSv.1); go_simp; try with_reducible rfl)
   simp only [zz];refine tkE 4 ?_ (fun w' hSw=>?_) (⟨hS0,fun _=>hS1⟩) ?_;rotate_left
   ·((obtain ⟨_,hSv⟩:=hSw; replace hSw:=hSv.1); go_simp; try with_reducible rfl)
   simp only [zz];refine tkE 5 ?_ (fun w' hSw=>?_) (⟨hS0,fun _=>hS1⟩) ?_;rotate_left
   ·((obtain ⟨_,hSv⟩:=hSw; replace hSw:=hSv.1); go_simp; try with_reducible rfl)
   simp only [zz];refine tkE 6 ?_ (fun w' hSw=>?_) (⟨hS0,fun _=>hS1⟩) ?_;rotate_left
   ·((obtain ⟨_,hSv⟩:=hSw; replace hSw:=hSv.1); go_simp; try with_reducible rfl)
   simp only [zz];refine tkE 7 ?_ (fun w' hSw=>?_) (⟨hS0,fun _=>hS1⟩) ?_;rotate_left
   ·((obtain ⟨_,hSv⟩:=hSw; replace hSw:=hSv.1); go_simp; try with_reducible rfl)
   simp only [zz];refine tkE 8 ?_ (fun w' hSw=>?_) (⟨hS0,fun _=>hS1⟩) ?_;rotate_left
   ·((obtain ⟨_,hSv⟩:=hSw; replace hSw:=hSv.1); go_simp; try with_reducible rfl)
   simp only [zz];refine tkE 9 ?_ (fun w' hSw=>?_) (⟨hS0,fun _=>hS1⟩) ?_;rotate_left
   ·((obtain ⟨_,hSv⟩:=hSw; replace hSw:=hSv.1); go_simp; try with_reducible rfl)
   simp only [zz];refine tkE 10 ?_ (fun w' hSw=>?_) (⟨hS0,fun _=>hS1⟩) ?_;rotate_left
   ·((obtain ⟨_,hSv⟩:=hSw; replace hSw:=hSv.1); go_simp; try with_reducible rfl)
   simp only [zz];refine tkE 11 ?_ (fun w' hSw=>?_) (⟨hS0,fun _=>hS1⟩) ?_;rotate_left
   ·((obtain ⟨_,hSv⟩:=hSw; replace hSw:=hSv.1); go_simp; try with_reducible rfl)
   simp only [zz];refine tkE 12 ?_ (fun w' hSw=>?_) (⟨hS0,fun _=>hS1⟩) ?_;rotate_left
   ·((obtain ⟨_,hSv⟩:=hSw; replace hSw:=hSv.1); go_simp; try with_reducible rfl)
   simp only [zz];refine tkE 13 ?_ (fun w' hSw=>?_) (⟨hS0,fun _=>hS1⟩) ?_;rotate_left
   ·((obtain ⟨_,hSv⟩:=hSw; replace hSw:=hSv.1); go_simp; try with_reducible rfl)
   simp only [zz];refine tkE 14 ?_ (fun w' hSw=>?_) (⟨hS0,fun _=>hS1⟩) ?_;rotate_left
   ·((obtain ⟨_,hSv⟩:=hSw; replace hSw:=hSv.1); go_simp; try with_reducible rfl)
   simp only [zz];refine tkV 15 17 (v.val) (fun w' hSw=>?_) (⟨hS0,fun _=>hS1⟩) ?_
   ·(replace hSw:=hSw.2 rfl; go_simp; try with_reducible rfl)
   simp only [zz];refine tkE 16 ?_ (fun w' hSw=>?_) (⟨hS0,fun _=>hS1⟩) ?_;rotate_left
   ·((obtain ⟨_,hSv⟩:=hSw; replace hSw:=hSv.1); go_simp; try with_reducible rfl)
   simp only [zz];refine tk1 17 ?_;intro K hK;go_simp;have hdr:Below W2 W2 W2.drew:=(brf _ _).drew;refine (zDx (a:=v) (b:=u) (Hv.out.below hdr) (Hu.out.below hdr) (by decide) (by decide)).mono ?_;rintro e w9 ⟨⟨z,rfl,hz⟩,hb9⟩;have hS2:=Kept.call2 hb9 hS0;have hS3:=Kept.call2 hb9 hS1;have hb9':Below W2 W2 w9:=hdr.trans hb9;refine hK.out _ _ ⟨hS2,fun _=>hS3⟩ ?_;clear hK K;have HZ:=hdq hz;rw [<-hb9'.cell (p:=⟨g,_,none⟩) gl] at d0 d1 d2 d3;have gf9:∀ o,w9.frozen? ⟨g,o,none⟩=false:=fun o=>by rw [hb9'.frozen (p:=⟨g,o,none⟩) gl]; exact gf o
   clear hz;refine tkE 18 ?_ (fun w' hSw=>?_) (⟨hS2,fun _=>hS3⟩) ?_;rotate_left
   ·((obtain ⟨_,hSv⟩:=hSw; replace hSw:=hSv.1); go_simp; try with_reducible rfl)
   simp only [zz];refine tk1 19 ?_;intro K hK;go_simp;refine hK.out _ _ ⟨Sees.k4 (g:=g) hS2 (by simp),fun h=>absurd h (by decide)⟩ ?_;clear hK K;refine zAf (by kernel_rfl) ?_ _;have hE1:=HE.out.step (i:=f) (j:=t) (q':=-(1 / (xx:Rat))) hb9' (by omega) (by omega) (by rw [<-Rat.sub_eq_add_neg]; exact HZ.out);rw [<-Hg.out] at hE1;have F:Gen (fun W=>EqW w N ⟨some la,sn,sc⟩ B0 b N rb L P f t u (1 / (xx:Rat)) _ W) (put4 w9 g t z):=hE1;(first | refine zDq F ?_ | refine zWi F ?_);clear F gf hE1 Hg HE HZ hS0 hS1 hS2 hS3 hb9 hb9' hdr gf9 d0 d1 d2 d3 cb l0 l1 p0 p1 p2 p3 Hv Hu bW gw gP' gL' gb' bl gl lL lP;intro W2 hE;(go_upto_region 9 with fail);obtain ⟨v,⟨d0,d1,d2,d3⟩,hv⟩:=hE.mat.elem (i:=t) (j:=t) (by omega) (by omega);have cb:=hE.mat.cell (i:=t) (by omega);have l0:=hE.l0;have l1:=hE.l1;obtain ⟨p0,p1,p2,p3⟩:=hE.p;have gf:=(hE.mat.row t (by omega)).frozen;have gl:=(hE.mat.row t (by omega)).lt;have bl:=hE.mat.lt;have gb:=hE.mat.ne t (by omega);have gL:=hE.lN t (by omega);have gP:=hE.pN t (by omega);have gw:w.heap.size<rb t:=ltl hE.le (hE.ge t (by omega));have bW:=hE.bel.size;have Hv:=hdq (show QIs W2 _ 16 v _ from hv.qis (zBn (F3.out) (by decide)));have Hu:=hdq (show QIs W2 _ 16 u _ from hE.hu.qis (zBn (zUC k6 k7) (by decide)));have HE:=hdq hE;clear hE hv;obtain ⟨g,hg⟩:∃ g,g=rb t:=⟨_,rfl⟩;rw [<-hg] at d0 d1 d2 d3 cb gf gl gb gL gP gw;have Hg:=hdq hg;clear hg;dsimp only at d1 d2 d3 p1 p2 p3;rw [Nat.zero_add] at p1 p2 p3;have lL:=zAb l0;have lP:=zAb p0;dsimp only at lL lP;have gb':¬ b=g:=Ne.symm gb;have gL':¬ L=g:=Ne.symm gL;have gP':¬ P=g:=Ne.symm gP;clear gb gL gP;refine zAp 19 (fun fl w'=>Sees w [g] W2 w'/\(fl=false->Sees w [] W2 w')) (by kernel_rfl) ?_;have hS0:Sees w [g] W2 W2.drew:=Sees.st (by simp; omega) bW;have hS1:Sees w [] W2 W2.drew:=Sees.st (by simp) bW;refine tkE 0 ?_ (fun w' hSw=>?_) (⟨hS0,fun _=>hS1⟩) ?_;rotate_left
   ·((obtain ⟨_,hSv⟩:=hSw; replace hSw:=hSv.1); go_simp; try with_reducible rfl)
   simp only [zz];refine tkE 1 ?_ (fun w' hSw=>?_) (⟨hS0,fun _=>hS1⟩) ?_;rotate_left
   ·((obtain ⟨_,hSv⟩:=hSw; replace hSw:=hSv.1); go_simp; try with_reducible rfl)
   simp only [zz];refine tkE 2 ?_ (fun w' hSw=>?_) (⟨hS0,fun _=>hS1⟩) ?_;rotate_left
   ·((obtain ⟨_,hSv⟩:=hSw; replace hSw:=hSv.1); go_simp; try with_reducible rfl)
   simp only [zz];refine tkE 3 ?_ (fun w' hSw=>?_) (⟨hS0,fun _=>hS1⟩) ?_;rotate_left
   ·((obtain ⟨_,hSv⟩:=hSw; replace hSw:=hSv.1); go_simp; try with_reducible rfl)
   simp only [zz];refine tkE 4 ?_ (fun w' hSw=>?_) (⟨hS0,fun _=>hS1⟩) ?_;rotate_left
   ·((obtain ⟨_,hSv⟩:=hSw; replace hSw:=hSv.1); go_simp; try with_reducible rfl)
   simp only [zz];refine tkE 5 ?_ (fun w' hSw=>?_) (⟨hS0,fun _=>hS1⟩) ?_;rotate_left
   ·((obtain ⟨_,hSv⟩:=hSw; replace hSw:=hSv.1); go_simp; try with_reducible rfl)
   simp only [zz];refine tkE 6 ?_ (fun w' hSw=>?_) (⟨hS0,fun _=>hS1⟩) ?_;rotate_left
   ·((obtain ⟨_,hSv⟩:=hSw; replace hSw:=hSv.1); go_simp; try with_reducible rfl)
   simp only [zz];refine tkE 7 ?_ (fun w' hSw=>?_) (⟨hS0,fun _=>hS1⟩) ?_;rotate_left
   ·((obtain ⟨_,hSv⟩:=hSw; replace hSw:=hSv.1); go_simp; try with_reducible rfl)
   simp only [zz];refine tkE 8 ?_ (fun w' hSw=>?_) (⟨hS0,fun _=>hS1⟩) ?_;rotate_left
   ·((obtain ⟨_,hSv⟩:=hSw; replace hSw:=hSv.1); go_simp; try with_reducible rfl)
   simp only [zz];refine tkE 9 ?_ (fun w' hSw=>?_) (⟨hS0,fun _=>hS1⟩) ?_;rotate_left
   ·((obtain ⟨_,hSv⟩:=hSw; replace hSw:=hSv.1); go_simp; try with_reducible rfl)
   simp only [zz];refine tkE 10 ?_ (fun w' hSw=>?_) (⟨hS0,fun _=>hS1⟩) ?_;rotate_left
   ·((obtain ⟨_,hSv⟩:=hSw; replace hSw:=hSv.1); go_simp; try with_reducible rfl)
   simp only [zz];refine tkE 11 ?_ (fun w' hSw=>?_) (⟨hS0,fun _=>hS1⟩) ?_;rotate_left
   ·((obtain ⟨_,hSv⟩:=hSw; replace hSw:=hSv.1); go_simp; try with_reducible rfl)
   simp only [zz];refine tkE 12 ?_ (fun w' hSw=>?_) (⟨hS0,fun _=>hS1⟩) ?_;rotate_left
   ·((obtain ⟨_,hSv⟩:=hSw; replace hSw:=hSv.1); go_simp; try with_reducible rfl)
   simp only [zz];refine tkE 13 ?_ (fun w' hSw=>?_) (⟨hS0,fun _=>hS1⟩) ?_;rotate_left
   ·((obtain ⟨_,hSv⟩:=hSw; replace hSw:=hSv.1); go_simp; try with_reducible rfl)
   simp only [zz];refine tkE 14 ?_ (fun w' hSw=>?_) (⟨hS0,fun _=>hS1⟩) ?_;rotate_left
   ·((obtain ⟨_,hSv⟩:=hSw; replace hSw:=hSv.1); go_simp; try with_reducible rfl)
   simp only [zz];refine tkV 15 17 (v.val) (fun w' hSw=>?_) (⟨hS0,fun _=>hS1⟩) ?_
   ·(replace hSw:=hSw.2 rfl; go_simp; try with_reducible rfl)
   simp only [zz];refine tkE 16 ?_ (fun w' hSw=>?_) (⟨hS0,fun _=>hS1⟩) ?_;rotate_left
   ·((obtain ⟨_,hSv⟩:=hSw; replace hSw:=hSv.1); go_simp; try with_reducible rfl)
   simp only [zz];refine tk1 17 ?_;intro K hK;go_simp;have hdr:Below W2 W2 W2.drew:=(brf _ _).drew;refine (zCD (a:=v) (b:=u) (Hv.out.below hdr) (Hu.out.below hdr) (by decide) (by decide)).mono ?_;rintro e w9 ⟨⟨z,rfl,hz⟩,hb9⟩;have hS2:=Kept.call2 hb9 hS0;have hS3:=Kept.call2 hb9 hS1;have hb9':Below W2 W2 w9:=hdr.trans hb9;refine hK.out _ _ ⟨hS2,fun _=>hS3⟩ ?_;clear hK K;have HZ:=hdq hz;rw [<-hb9'.cell (p:=⟨g,_,none⟩) gl] at d0 d1 d2 d3;have gf9:∀ o,w9.frozen? ⟨g,o,none⟩=false:=fun o=>by rw [hb9'.frozen (p:=⟨g,o,none⟩) gl]; exact gf o
   clear hz;refine tkE 18 ?_ (fun w' hSw=>?_) (⟨hS2,fun _=>hS3⟩) ?_;rotate_left
   ·((obtain ⟨_,hSv⟩:=hSw; replace hSw:=hSv.1); go_simp; try with_reducible rfl)
   simp only [zz];refine tk1 19 ?_;intro K hK;go_simp;refine hK.out _ _ ⟨Sees.k4 (g:=g) hS2 (by simp),fun h=>absurd h (by decide)⟩ ?_;clear hK K;refine zAf (by kernel_rfl) ?_ _;have hE1:=HE.out.step (i:=t) (j:=t) (q':=1 / (xx:Rat)) hb9' (by omega) (by omega) HZ.out;rw [<-Hg.out] at hE1;have F:Gen (fun W=>EqW w N ⟨some la,sn,sc⟩ B0 b N rb L P f t u (1 / (xx:Rat)) _ W) (put4 w9 g t z):=hE1;(first | refine zDq F ?_ | refine zWi F ?_);clear F gf hE1 Hg HE HZ hS0 hS1 hS2 hS3 hb9 hb9' hdr gf9 d0 d1 d2 d3 cb l0 l1 p0 p1 p2 p3 Hv Hu bW gw gP' gL' gb' bl gl lL lP;intro W2 hE;(go_upto_region 10 with fail);obtain ⟨v,⟨d0,d1,d2,d3⟩,hv⟩:=hE.mat.elem (i:=t) (j:=f) (by omega) (by omega);have cb:=hE.mat.cell (i:=t) (by omega);have l0:=hE.l0;have l1:=hE.l1;obtain ⟨p0,p1,p2,p3⟩:=hE.p;have gf:=(hE.mat.row t (by omega)).frozen;have gl:=(hE.mat.row t (by omega)).lt;have bl:=hE.mat.lt;have gb:=hE.mat.ne t (by omega);have gL:=hE.lN t (by omega);have gP:=hE.pN t (by omega);have gw:w.heap.size<rb t:=ltl hE.le (hE.ge t (by omega));have bW:=hE.bel.size;have Hv:=hdq (show QIs W2 _ 16 v _ from hv.qis (zBn (F4.out) (by decide)));have Hu:=hdq (show QIs W2 _ 16 u _ from hE.hu.qis (zBn (zUC k6 k7) (by decide)));have HE:=hdq hE;clear hE hv;obtain ⟨g,hg⟩:∃ g,g=rb t:=⟨_,rfl⟩;rw [<-hg] at d0 d1 d2 d3 cb gf gl gb gL gP gw;have Hg:=hdq hg;clear hg;dsimp only at d1 d2 d3 p1 p2 p3;rw [Nat.zero_add] at p1 p2 p3;have lL:=zAb l0;have lP:=zAb p0;dsimp only at lL lP;have gb':¬ b=g:=Ne.symm gb;have gL':¬ L=g:=Ne.symm gL;have gP':¬ P=g:=Ne.symm gP;clear gb gL gP;refine zAp 19 (fun fl w'=>Sees w [g] W2 w'/\(fl=false->Sees w [] W2 w')) (by kernel_rfl) ?_;have hS0:Sees w [g] W2 W2.drew:=Sees.st (by simp; omega) bW;have hS1:Sees w [] W2 W2.drew:=Sees.st (by simp) bW;refine tkE 0 ?_ (fun w' hSw=>?_) (⟨hS0,fun _=>hS1⟩) ?_;rotate_left
   ·((obtain ⟨_,hSv⟩:=hSw; replace hSw:=hSv.1); go_simp; try with_reducible rfl)
   simp only [zz];refine tkE 1 ?_ (fun w' hSw=>?_) (⟨hS0,fun _=>hS1⟩) ?_;rotate_left
   ·((obtain ⟨_,hSv⟩:=hSw; replace hSw:=hSv.1); go_simp; try with_reducible rfl)
   simp only [zz];refine tkE 2 ?_ (fun w' hSw=>?_) (⟨hS0,fun _=>hS1⟩) ?_;rotate_left
   ·((obtain ⟨_,hSv⟩:=hSw; replace hSw:=hSv.1); go_simp; try with_reducible rfl)
   simp only [zz];refine tkE 3 ?_ (fun w' hSw=>?_) (⟨hS0,fun _=>hS1⟩) ?_;rotate_left
   ·((obtain ⟨_,hSv⟩:=hSw; replace hSw:=hSv.1); go_simp; try with_reducible rfl)
   simp only [zz];refine tkE 4 ?_ (fun w' hSw=>?_) (⟨hS0,fun _=>hS1⟩) ?_;rotate_left
   ·((obtain ⟨_,hSv⟩:=hSw; replace hSw:=hSv.1); go_simp; try with_reducible rfl)
   simp only [zz];refine tkE 5 ?_ (fun w' hSw=>?_) (⟨hS0,fun _=>hS1⟩) ?_;rotate_left
   ·((obtain ⟨_,hSv⟩:=hSw; replace hSw:=hSv.1); go_simp; try with_reducible rfl)
   simp only [zz];refine tkE 6 ?_ (fun w' hSw=>?_) (⟨hS0,fun _=>hS1⟩) ?_;rotate_left
   ·((obtain ⟨_,hSv⟩:=hSw; replace hSw:=hSv.1); go_simp; try with_reducible rfl)
   simp only [zz];refine tkE 7 ?_ (fun w' hSw=>?_) (⟨hS0,fun _=>hS1⟩) ?_;rotate_left
   ·((obtain ⟨_,hSv⟩:=hSw; replace hSw:=hSv.1); go_simp; try with_reducible rfl)
   simp only [zz];refine tkE 8 ?_ (fun w' hSw=>?_) (⟨hS0,fun _=>hS1⟩) ?_;rotate_left
   ·((obtain ⟨_,hSv⟩:=hSw; replace hSw:=hSv.1); go_simp; try with_reducible rfl)
   simp only [zz];refine tkE 9 ?_ (fun w' hSw=>?_) (⟨hS0,fun _=>hS1⟩) ?_;rotate_left
   ·((obtain ⟨_,hSv⟩:=hSw; replace hSw:=hSv.1); go_simp; try with_reducible rfl)
   simp only [zz];refine tkE 10 ?_ (fun w' hSw=>?_) (⟨hS0,fun _=>hS1⟩) ?_;rotate_left
   ·((obtain ⟨_,hSv⟩:=hSw; replace hSw:=hSv.1); go_simp; try with_reducible rfl)
   simp only [zz];refine tkE 11 ?_ (fun w' hSw=>?_) (⟨hS0,fun _=>hS1⟩) ?_;rotate_left
   ·((obtain ⟨_,hSv⟩:=hSw; replace hSw:=hSv.1); go_simp; try with_reducible rfl)
   simp only [zz];refine tkE 12 ?_ (fun w' hSw=>?_) (⟨hS0,fun _=>hS1⟩) ?_;rotate_left
   ·((obtain ⟨_,hSv⟩:=hSw; replace hSw:=hSv.1); go_simp; try with_reducible rfl)
   simp only [zz];refine tkE 13 ?_ (fun w' hSw=>?_) (⟨hS0,fun _=>hS1⟩) ?_;rotate_left
   ·((obtain ⟨_,hSv⟩:=hSw; replace hSw:=hSv.1); go_simp; try with_reducible rfl)
   simp only [zz];refine tkE 14 ?_ (fun w' hSw=>?_) (⟨hS0,fun _=>hS1⟩) ?_;rotate_left
   ·((obtain ⟨_,hSv⟩:=hSw; replace hSw:=hSv.1); go_simp; try with_reducible rfl)
   simp only [zz];refine tkV 15 17 (v.val) (fun w' hSw=>?_) (⟨hS0,fun _=>hS1⟩) ?_
   ·(replace hSw:=hSw.2 rfl; go_simp; try with_reducible rfl)
   simp only [zz];refine tkE 16 ?_ (fun w' hSw=>?_) (⟨hS0,fun _=>hS1⟩) ?_;rotate_left
   ·((obtain ⟨_,hSv⟩:=hSw; replace hSw:=hSv.1); go_simp; try with_reducible rfl)
   simp only [zz];refine tk1 17 ?_;intro K hK;go_simp;have hdr:Below W2 W2 W2.drew:=(brf _ _).drew;refine (zDx (a:=v) (b:=u) (Hv.out.below hdr) (Hu.out.below hdr) (by decide) (by decide)).mono ?_;rintro e w9 ⟨⟨z,rfl,hz⟩,hb9⟩;have hS2:=Kept.call2 hb9 hS0;have hS3:=Kept.call2 hb9 hS1;have hb9':Below W2 W2 w9:=hdr.trans hb9;refine hK.out _ _ ⟨hS2,fun _=>hS3⟩ ?_;clear hK K;have HZ:=hdq hz;rw [<-hb9'.cell (p:=⟨g,_,none⟩) gl] at d0 d1 d2 d3;have gf9:∀ o,w9.frozen? ⟨g,o,none⟩=false:=fun o=>by rw [hb9'.frozen (p:=⟨g,o,none⟩) gl]; exact gf o
   clear hz;refine tkE 18 ?_ (fun w' hSw=>?_) (⟨hS2,fun _=>hS3⟩) ?_;rotate_left
   ·((obtain ⟨_,hSv⟩:=hSw; replace hSw:=hSv.1); go_simp; try with_reducible rfl)
   simp only [zz];refine tk1 19 ?_;intro K hK;go_simp;refine hK.out _ _ ⟨Sees.k4 (g:=g) hS2 (by simp),fun h=>absurd h (by decide)⟩ ?_;clear hK K;refine zAf (by kernel_rfl) ?_ _;have hE1:=HE.out.step (i:=t) (j:=f) (q':=-(1 / (xx:Rat))) hb9' (by omega) (by omega) (by rw [<-Rat.sub_eq_add_neg]; exact HZ.out);rw [<-Hg.out] at hE1;have F:Gen (fun W=>EqW w N ⟨some la,sn,sc⟩ B0 b N rb L P f t u (1 / (xx:Rat)) _ W) (put4 w9 g f z):=hE1;(first | refine zDq F ?_ | refine zWi F ?_);clear F gf hE1 Hg HE HZ hS0 hS1 hS2 hS3 hb9 hb9' hdr gf9 d0 d1 d2 d3 cb l0 l1 p0 p1 p2 p3 Hv Hu bW gw gP' gL' gb' bl gl lL lP;intro W2 hE;rw [<-HJ.out] at hE;have HN:Hid (EqA w N ⟨some la,sn,sc⟩ B0 b N rb ls ks tn (.int .i64 ((k:Int)+1)) W2):=⟨k+1,by omega,by simp,hE.bel,hE.n0,hE.n1,hE.mat,hE.ge,hE.le,hE.bb⟩;clear hE F1 F2 F3 F4 HJ HFt;go_wp2;go_roundw;case rel=>first | exact HN.out | ((repeat apply Exists.intro); exact ⟨HN.out,rfl⟩)
   case measure=>simp [intOf]; omega
  ·(obtain rfl:tn=k:=by omega);have hta:ks.take tn=ks:=(by rw [<-HTn.out,List.take_length]);rw [hta] at hO;clear hta n1 hB;generalize hm1:ks.foldl (fun m k=>eqLine m (ls.getD k ⟨0,0,0,0⟩)) (zeroM N)=m1 at *;have HM1:=hdq hm1;have n0:=hO.n0;have HO:=hdq hO;clear hO hm1;(go_wp2_with fail);refine (zWI (n:=N) (by omega)).mono ?_; rintro e w2 ⟨⟨b2,rb2,rfl,hb2,hM2⟩,hbb⟩
   have HB2:=hdq (HO.out.bel.trans (hbb.mono HO.out.bel.size));have hbl:=HO.out.mat.lt;have hwb:w.heap.size<=b:=by have:=HO.out.le; omega
   have hml:m1.length=N:=HO.out.mat.sq.1;have H1:EqR w wr b b2 N rn rb2 rf m1 (.int .i64 0) w2:=⟨0,nzl _,rfl,HB2.out,(HO.out.mat.gjm (by omega)).below hbb,hM2⟩;clear hM2 hbb n0 HO;generalize wr.heap.size=B1 at *;go_wp2;(go_loopw [120] (fun v W=>EqR w B1 b b2 N rn rb2 rf m1 v W) (fun v _=>rn-(intOf v).toNat));case atStart=>exact H1
   case round=>
    clear H1;obtain ⟨k,hk,rfl,hB,hG,hM⟩:=hrel;by_cases hlt:k<rn
    ·obtain ⟨ad,e,q0⟩:=(HR.out.below hB).cell k hlt;dsimp only at e;subst e;have hkl:k<rf.length:=by rw [HRn.out]; exact hlt
     have hmem:rf.getD k 0 ∈ rf:=by rw [gdd,gge hkl]; exact List.getElem_mem hkl
     have hx:=HRf.out _ hmem;have hg:(rf.map fun i:Nat=>(i:Int)).getD k 0=(rf.getD k 0:Int):=(by simp [gdd,hkl]);rw [hg] at q0
     have HJ:Hid ((rf.take (k+1)).foldl (fun m b=>m.set b ((unitM N).getD b [])) m1=((rf.take k).foldl (fun m b=>m.set b ((unitM N).getD b [])) m1).set (rf.getD k 0) ((unitM N).getD (rf.getD k 0) [])):=by
      show _=_;rw [zUx 0 hkl,List.foldl_append]; rfl
     have hlen:((rf.take k).foldl (fun m b=>m.set b ((unitM N).getD b [])) m1).length=N:=by
      have key:∀ (l:List Nat) (m:Mt),(l.foldl (fun m b=>m.set b ((unitM N).getD b [])) m).length=m.length:=by
       intro l
       induction l with
       | nil=>exact fun m=>rfl
       | cons a l ih=>exact fun m=>by rw [List.foldl_cons,ih,List.length_set]
      rw [key,hml]
     generalize hm2:(rf.take k).foldl (fun m b=>m.set b ((unitM N).getD b [])) m1=m2 at *;generalize rf.getD k 0=x at *;obtain ⟨cs,u1,u2,u3⟩:=hM.blk;have hrow:=hM.row x hx;have hvl:((List.range N).map (idE x)).length=N:=(by simp);have hv:=hrow.vec (by rw [hvl]; omega) N (by rw [hvl]; exact nlr _) (by omega);rw [hvl] at hv;have hxm:x<m2.length:=by rw [hlen]; exact hx
     have hS:=hG.set hxm (hv.imp (fun y _ hy=>by subst hy; have:=hM.ge x hx; omega) fun v q hq=>hq.imp fun y _ hy e=>hy (.inl (by omega)));obtain ⟨s0,g0,-⟩:=hG.row hxm;have gf:=hG.frozen;have c2:wr.cell? ⟨b2,x,none⟩=some (.slice (some ⟨rb2 x,0,none⟩) N N):=by simp only [World.cell?,u1]; exact u3 x hx
     have hb2l:=zAa u1;have hbl2:=hG.lt;have tq:=zAb q0;have hki:(k:Int)<(rn:Int):=(by omega);have hxi:(x:Int)<(N:Int):=(by omega);rw [<-zYu hx] at hS;have HN:Hid (EqR w B1 b b2 N rn rb2 rf m1 (.int .i64 ((k:Int)+1)) (wr.setCell ⟨b,x,none⟩ (.slice (some ⟨rb2 x,0,none⟩) N N))):=⟨k+1,by omega,by simp,hB.setCell (p:=⟨b,x,none⟩) hwb _,by rw [HJ.out]; exact hS,hM.keep (fun y hy=>bhs _ _ _ _ (by show y ≠ b; omega)) (by omega)⟩;clear hS hM hG hB HJ hm2 hrow hv u1 u2 u3 hmem hg;go_wp2;go_roundw;case rel=>first | exact HN.out | ((repeat apply Exists.intro); exact ⟨HN.out,rfl⟩)
     case measure=>simp [intOf]; omega
    ·(obtain rfl:rn=k:=by omega);have hta:rf.take rn=rf:=(by rw [<-HRn.out,List.take_length]);rw [hta] at hG
     have HG:Hid (GjM wr b (eqs N ls ks rf)):=by
      show GjM _ _ _;unfold eqs;rw [HM1.out];exact hG
     clear hta hG hM;go_wp2;go_ret;exact ⟨⟨b,rfl,hwb,HG.out⟩,hB⟩
end Mo
namespace Mo
structure GjX (W:World) (b:Nat) (X:Nat->Prop) (m:Mt):Prop where
 xb:X b
 blk:∃ cs:Array Value,W.heap[b]?=some (.cells cs 34 (0,0))/\cs.size=m.length/\∀ i,i<m.length->∃ s:SV,cs[i]?=some s.val/\VecCan W (fun x=>¬ X x) (fun x=>¬ X x) s (m.getD i [])
section
variable {W W':World} {b:Nat} {X X':Nat->Prop} {m:Mt}
theorem GjX.lt (h:GjX W b X m):b<W.heap.size:=by obtain ⟨cs,h1,-⟩:=h.blk; exact zAa h1
theorem GjX.row (h:GjX W b X m) {i:Nat} (hi:i<m.length):∃ s:SV,W.cell? ⟨b,i,none⟩=some (.slice s.A s.n s.c)/\VecCan W (fun x=>¬ X x) (fun x=>¬ X x) s (m.getD i []):=by
 obtain ⟨cs,h1,-,h3⟩:=h.blk;obtain ⟨s,h4,h5⟩:=h3 i hi;exact ⟨s,by simp only [World.cell?,h1]; exact h4,h5⟩
theorem GjX.frozen (h:GjX W b X m) (o:Nat):W.frozen? ⟨b,o,none⟩=false:=by
 obtain ⟨cs,h1,-⟩:=h.blk;simp [World.frozen?,h1]
theorem zUp {W W':World} {X Y:Nat->Prop} {s:SV} {l:List Rat} (h:VecCan W X Y s l) (hx:∀ p:Addr,X p.block->p.block<W->W'.cell? p=W.cell? p) (hy:∀ p:Addr,Y p.block->p.block<W->W'.cell? p=W.cell? p):VecCan W' X Y s l:=
 h.keep (fun p hp hl=>hx p hp hl) fun v q hq=>hq.keep fun p hp hl=>hy p hp hl
theorem GjX.keep (h:GjX W b X m) (hb:W'.heap[b]?=W.heap[b]?) (hk:∀ x,¬ X x->x<W.heap.size->W'.heap[x]?=W.heap[x]?):GjX W' b X m:=by
 obtain ⟨cs,h1,h2,h3⟩:=h.blk;refine ⟨h.xb,cs,hb.trans h1,h2,fun i hi=>?_⟩;obtain ⟨s,h4,h5⟩:=h3 i hi;exact ⟨s,h4,zUp h5 (fun p hp hl=>cob (hk _ hp hl)) fun p hp hl=>cob (hk _ hp hl)⟩
theorem GjX.below (h:GjX W b X m) (hb:Below W W W'):GjX W' b X m:=h.keep (hb.block b h.lt) fun x _ hx=>hb.block x hx
theorem GjX.grow (h:GjX W b X m) (hb:X' b) (hn:∀ x,x<W.heap.size->X' x->X x):GjX W b X' m:=by
 obtain ⟨cs,h1,h2,h3⟩:=h.blk;refine ⟨hb,cs,h1,h2,fun i hi=>?_⟩;obtain ⟨s,h4,h5⟩:=h3 i hi;exact ⟨s,h4,h5.imp (fun x hl hx e=>hx (hn x hl e)) fun v q hq=>hq.imp fun x hl hx e=>hx (hn x hl e)⟩
theorem GjX.gjm (h:GjX W b X m):GjM W b m:=by
 obtain ⟨cs,h1,h2,h3⟩:=h.blk;refine ⟨cs,h1,h2,fun i hi=>?_⟩;obtain ⟨s,h4,h5⟩:=h3 i hi;exact ⟨s,h4,h5.imp (fun x _ hx e=>hx (e ▸ h.xb)) fun v q hq=>hq.imp fun x _ hx e=>hx (e ▸ h.xb)⟩
theorem _root_.Go.Proofs.YtjancagcmghfjaaGreat.Gj.GjM.gjx (h:GjM W b m):GjX W b (fun x=>x=b) m:=by
 obtain ⟨cs,h1,h2,h3⟩:=h.blk;exact ⟨rfl,cs,h1,h2,h3⟩
theorem GjX.set (h:GjX W b X m) {i:Nat} (hi:i<m.length) {s:SV} {l:List Rat} (hs:VecCan W (fun x=>¬ X x) (fun x=>¬ X x) s l):GjX (W.setCell ⟨b,i,none⟩ (.slice s.A s.n s.c)) b X (m.set i l):=by
 obtain ⟨cs,h1,h2,h3⟩:=h.blk;have hk:∀ p:Addr,¬ X p.block->p.block<W->(W.setCell ⟨b,i,none⟩ (.slice s.A s.n s.c)).cell? p=W.cell? p:=fun p hp _=>cob (bhs _ _ _ _ fun e=>hp (by have:p.block=b:=e; rw [this]; exact h.xb))
 refine ⟨h.xb,cs.setIfInBounds i (.slice s.A s.n s.c),by rw [zAe _ h1],by simp [h2],fun j hj=>?_⟩;rw [List.length_set] at hj;rw [zT6 _ _ _ _ _ hi,Array.getElem?_setIfInBounds];by_cases e:i=j
 ·subst e;rw [if_pos rfl,if_pos (by omega),if_pos rfl];exact ⟨s,rfl,zUp hs hk hk⟩
 ·rw [if_neg e,if_neg (Ne.symm e)];obtain ⟨t,h4,h5⟩:=h3 j hj;exact ⟨t,h4,zUp h5 hk hk⟩
end
theorem elemL {W:World} {X Y:Nat->Prop} {s:SV} {l:List Rat} (h:VecCan W X Y s l) {k:Nat} (hk:k<s.n):∃ ab ao v,s.A=some ⟨ab,ao,none⟩/\X ab/\QCell W ⟨ab,ao+k*4,none⟩ v/\QCan W Y v (l.getD k 0):=by
 obtain ⟨ad,v,e,hx,hc,hq⟩:=h.elem k hk;obtain ⟨ad',v',e',-,hc',-⟩:=h.elem 0 (by omega);rw [e] at e';cases e';have h9:=hc'.1;rw [Nat.zero_mul,add_zero'] at h9;obtain ⟨ab,ao,sp⟩:=ad;obtain rfl:sp=none:=World.cell?_spot h9;rw [zA4] at hc;exact ⟨ab,ao,v,e,hx,hc,hq⟩
def gr:Nat->Nat->Nat
 | 0,k=>k
 | c+1,k=>5*gr c k+5
theorem zUX {k:Nat}:∀ {c d:Nat},c<=d->gr c k<=gr d k
 | c,0,h=>by
  obtain rfl:c=0:=by omega
  exact nlr _
 | c,d+1,h=>by
  by_cases e:c=d+1
  ·subst e; exact nlr _
  ·have:=zUX (k:=k) (show c<=d by omega);show gr c k<=5*gr d k+5;omega
def ElL (w:World) (b n R Wd k0:Nat) (m0:Mt) (v t:Value) (W:World):Prop:=
 ∃ (c:Nat) (P:List Nat) (M:Mt),c<=n/\t = .int .i64 (c:Int)/\run n 0 m0 []=run (n-c) c M P/\P.length<=R/\(∀ x ∈ P,x<=n)/\M.length=R/\Rect M Wd/\FitM (gr c k0) M/\Fr (fun y=>y=b) w W/\
  W.cell? w=some (.func (.func 190) #[] #[])/\W.cell? ⟨w.heap.size,1,none⟩=some (.func (.func 191) #[] #[])/\
  W.ownsRow (w+1) 3 1 v P.length (iv P)/\GjX W b (fun x=>x=b\/v.ownBlock=some x) M
def ElS (w:World) (b:Nat) (v:Value) (P:List Nat) (M:Mt) (W:World):Prop:=
 Fr (fun y=>y=b) w W/\W.cell? w=some (.func (.func 190) #[] #[])/\W.cell? ⟨w.heap.size,1,none⟩=some (.func (.func 191) #[] #[])/\
  W.ownsRow (w+1) 3 1 v P.length (iv P)/\GjX W b (fun x=>x=b\/v.ownBlock=some x) M
theorem GjX.anti {W:World} {b:Nat} {X X':Nat->Prop} {m:Mt} (h:GjX W b X m) (hb:X' b) (hX:∀ x,X' x->X x):GjX W b X' m:=by
 obtain ⟨cs,h1,h2,h3⟩:=h.blk;refine ⟨hb,cs,h1,h2,fun i hi=>?_⟩;obtain ⟨s,h4,h5⟩:=h3 i hi;exact ⟨s,h4,h5.imp (fun x _ hx e=>hx (hX x e)) fun v q hq=>hq.imp fun x _ hx e=>hx (hX x e)⟩
theorem ElS.below {w W W':World} {b:Nat} {v:Value} {P:List Nat} {M:Mt} (h:ElS w b v P M W) (hb:Below W W W'):ElS w b v P M W':=by
 obtain ⟨hF,f0,f1,ho,hG⟩:=h;exact ⟨hF.call hb,cellB hb f0,cellB hb f1,zAr ho fun j hj=>hb.block j (by obtain ⟨_,cs,hh⟩:=zAc ho hj; exact zAa hh),hG.below hb⟩
theorem ElS.set {w W w9:World} {b B i:Nat} {v:Value} {P:List Nat} {M:Mt} {s:SV} {l:List Rat} (h:ElS w b v P M W) (hbw:b<w.heap.size) (hb:Below W W w9) (hi:i<M.length) (hs:VecCan w9 (New B) (New B) s l) (hB:W.heap.size<=B) :
  ElS w b v P (M.set i l) (w9.setCell ⟨b,i,none⟩ (.slice s.A s.n s.c)):=by
 obtain ⟨hF,f0,f1,ho,hG⟩:=h.below hb
 have hX:∀ x,B<=x->¬ (x=b\/v.ownBlock=some x):=fun x hx hX=>by
  rcases hX with hX | hX
  ·have:=h.2.2.2.2.lt; omega
  ·obtain ⟨_,cs,hh⟩:=zAc h.2.2.2.1 hX;have:=zAa hh;omega
 refine ⟨hF.set (p:=⟨b,i,none⟩) rfl _,?_,?_,zAr ho fun j hj=>?_,hG.set hi (hs.imp (fun x _ hx=>hX x hx) fun v q hq=>hq.imp fun x _ hx=>hX x hx)⟩
 ·rw [World.cell?_setCell_far _ _ _ _ (by show b ≠ w.heap.size; omega)]; exact f0
 ·rw [World.cell?_setCell_far _ _ _ _ (by show b ≠ w.heap.size; omega)]; exact f1
 ·have:=(zAc ho hj).1;exact bhs _ _ _ _ (by show j ≠ b; omega)
def ClL (w:World) (b R:Nat) (v:Value) (P:List Nat) (Nm:Mt) (p c:Nat) (t:Value) (W:World):Prop:=
 ∃ i:Nat,i<=R/\t = .int .i64 (i:Int)/\ElS w b v P (clearTo Nm p c i) W
theorem zW3 {α:Type} (l:List α) (i:Nat) (d:α) (h:i<l.length):l.set i (l.getD i d)=l:=by
 rw [gdd,gge h];exact List.set_getElem_self h
theorem zXe {w:World} {b n Wd k0:Nat} {m0:Mt} (h:GjM w b m0) (hr:Rect m0 Wd) (hn:n<=Wd) (hf:FitM k0 m0) (hk:gr (n+1) k0<32*LM) (hm:m0.length<=1000) (hw:Wd<=1000) :
  Calls Tryz.prog 142 #[.slice (some b) m0.length m0.length,.int .i64 (n:Int),ignV] w fun e w'=>
   (∃ t:SV,e = .returned t.val/\NatsAt w' t (run n 0 m0 []).2/\t.n=(run n 0 m0 []).2.length/\GjM w' b (run n 0 m0 []).1)/\Fr (fun y=>y=b) w w':=by
 have HK:=hdq hk;have hb0:=h.lt;obtain ⟨R,hR⟩:∃ R,R=m0.length:=⟨_,rfl⟩;rw [<-hR];have hR1:R<=1000:=by omega
 unfold ignV;clear hk;go_enter Tryz.func142,Tryz.ntmps142
 go_upto_region 1 with fail
 have al:Below w w (w.alloc (.cells #[.func (.func 190) #[] #[],.func (.func 191) #[] #[]] 184)):=bal
 have H0:ElL w b n R Wd k0 m0 (.slice none 0 0) (.int .i64 0) (w.alloc (.cells #[.func (.func 190) #[] #[],.func (.func 191) #[] #[]] 184)):=
  ⟨0,[],m0,nzl _,rfl,rfl,nzl _,fun x hx=>(by cases hx),hR.symm,hr,hf,Fr.of_below al,by go_simp,by go_simp,World.ownsRow_nil _ _ _ _,(h.below al).gjx.grow (.inl rfl) fun x _ hx=>hx.elim id fun e=>by cases e⟩
 clear al h hr hf hm hR;go_wp2;go_loopw [7,17] (fun v t W=>ElL w b n R Wd k0 m0 v t W) (fun _ t _=>n-(intOf t).toNat)
 case atStart=>exact H0
 case round=>
  clear H0;obtain ⟨c,P,M,hc,rfl,hrun,hP,hPn,hML,hRc,hFt,hFr,e0,e1,hown,hG⟩:=hrel;obtain ⟨uA,uc,rfl,ho1,ho2⟩:=zKU hown;have hbl:=hG.lt;have HRun:=hdq hrun;clear hrun;by_cases hlt:c<n
  ·have hci:(c:Int)<(n:Int):=(by omega);by_cases hfull:P.length=R
   ·have HE:Hid (run n 0 m0 []=(M,P)):=by
     show _=_;rw [HRun.out,show n-c=(n-c-1)+1 by omega];unfold run;rw [if_pos (by rw [hML]; exact hfull)]
    obtain rfl:R=P.length:=hfull.symm;obtain ⟨⟨tA,tn,tc⟩,et,ht,hnt,-⟩:=zVc hown rfl fun x hx=>by have:=hPn x hx; omega
    dsimp only at ht;subst ht;cases et
    have HZ:Hid ((∃ t:SV,(.returned (.slice tA P.length tc):Ending) = .returned t.val/\NatsAt wr t (run n 0 m0 []).2/\t.n=(run n 0 m0 []).2.length/\GjM wr b (run n 0 m0 []).1)/\Fr (fun y=>y=b) w wr):=by
     show _/\_;rw [HE.out];exact ⟨⟨⟨tA,_,tc⟩,rfl,hnt,rfl,hG.gjm⟩,hFr⟩
    clear hnt hG hFr hown HE e0 e1;go_wp2;go_ret;exact HZ.out
   ·have hPR:P.length<M.length:=(by omega);have hfb:((P.length:Int) == (R:Int))=false:=beq_false_of_ne (by omega);have hkc:gr c k0<32*LM:=Nat.lt_of_le_of_lt (zUX (by omega)) HK.out;have hpv:=hdq (zVD (c:=c) hG.gjm hRc (by omega) (Nat.le_of_lt hPR) hFt hkc (by omega) hw);rw [hML] at hpv;(go_wp2_with fail);refine hpv.out.mono ?_;rintro e w1 ⟨rfl,hb1⟩;have hwl:=zAb e0;dsimp only at hwl;have e0':=(hb1.cell (p:=w) hwl).trans e0;have e1':=(hb1.cell (p:=⟨w.heap.size,1,none⟩) hwl).trans e1;have hG1:=hG.below hb1;have hown1:=zAr hown fun j hj=>hb1.block j (by obtain ⟨_,cs,hh⟩:=zAc hown hj; exact zAa hh)
    have hFr1:=hFr.call hb1;clear hpv hb1 hG hown hFr e0 e1
    cases hpf:pfind M c (R-P.length) P.length with
    | none=>
     have HN:Hid (ElL w b n R Wd k0 m0 (.slice uA P.length uc) (.int .i64 ((c:Int)+1)) w1):=⟨c+1,P,M,by omega,by simp,by
      rw [HRun.out,show n-c=(n-(c+1))+1 by omega]
      conv=>lhs; unfold run
      rw [if_neg (by omega),hML,hpf],hP,hPn,hML,hRc,fun i j=>(hFt i j).mono (by show gr c k0<=5*gr c k0+5; omega),hFr1,e0',e1',hown1,hG1⟩
     clear hG1 hown1 hFr1 e0' e1' hpf;dsimp only [pvR];go_wp2;go_roundw;case rel=>first | exact HN.out | ((repeat apply Exists.intro); exact ⟨HN.out,rfl⟩)
     case measure=>simp [intOf]; omega
    | some g=>
     obtain ⟨q1,q2,q3⟩:=zUD hpf;have hgR:g<R:=(by omega);have HPf:=hdq hpf;dsimp only [pvR];clear hpf;(go_upto_if 37 with fail);go_cut [9,17] from 35 to 54 (fun p t W=>p = .int .i64 (P.length:Int)/\t = .int .i64 (c:Int)/\ElS w b (.slice uA P.length uc) P (sw M P.length g) W)
     case first=>
      by_cases hgp:g=P.length
      ·subst hgp
       have HS:Hid (ElS w b (.slice uA P.length uc) P (sw M P.length P.length) w1):=by
        have:sw M P.length P.length=M:=if_pos rfl;rw [this];exact ⟨hFr1,e0',e1',hown1,hG1⟩
       clear hFr1 e0' e1' hown1 hG1;go_wp2;go_meet;case rel=>exact ⟨rfl,rfl,HS.out⟩
      ·have hgb:((g:Int) == (P.length:Int))=false:=beq_false_of_ne (by omega);obtain ⟨⟨A1,n1,k1⟩,x1,v1⟩:=hG1.row (i:=g) (by omega);obtain ⟨⟨A2,n2,k2⟩,x2,v2⟩:=hG1.row hPR;have gf:=hG1.frozen;have bl1:=hG1.lt;dsimp only at x1 x2;have hPi:(P.length:Int)<(R:Int):=(by omega);have hgi:(g:Int)<(R:Int):=(by omega);have hw1:=zAb e0';dsimp only at hw1;have hbw:¬ w.heap.size=b:=by omega
       have HS:Hid (ElS w b (.slice uA P.length uc) P (sw M P.length g) ((w1.drew.setCell ⟨b,g,none⟩ (.slice A2 n2 k2)).setCell ⟨b,P.length,none⟩ (.slice A1 n1 k1))):=by
        have hG2:=hG1.below ((brf w1 w1).drew);have dr:Below w1 w1 w1.drew:=(brf _ _).drew;have g1:=hG2.set (i:=g) (by omega) (v2.belowC dr);have g2:=g1.set (i:=P.length) (s:=⟨A1,n1,k1⟩) (l:=M.getD g []) (by rw [List.length_set]; exact hPR) (zUp (v1.belowC dr) (fun p hp _=>cob (bhs _ _ _ _ fun e=>hp (.inl e))) fun p hp _=>cob (bhs _ _ _ _ fun e=>hp (.inl e)));have es:sw M P.length g=(M.set g (M.getD P.length [])).set P.length (M.getD g []):=if_neg hgp;rw [es];refine ⟨(hFr1.drew.set (p:=⟨b,g,none⟩) rfl _).set (p:=⟨b,P.length,none⟩) rfl _,?_,?_,?_,g2⟩
        ·rw [World.cell?_setCell_far _ _ _ _ (Ne.symm hbw),World.cell?_setCell_far _ _ _ _ (Ne.symm hbw)]; exact e0'
        ·rw [World.cell?_setCell_far _ _ _ _ (Ne.symm hbw),World.cell?_setCell_far _ _ _ _ (Ne.symm hbw)]; exact e1'
        ·(refine zAr hown1 fun j hj=>?_);have:=(zAc hown1 hj).1;rw [bhs _ _ _ _ (by show j ≠ b; omega),bhs _ _ _ _ (by show j ≠ b; omega)];rfl
       clear hG1 v1 v2;(go_upto_region 10 with fail);refine zAp 13 (fun f w'=>f=false->Sees 0 [] w1 w') (by kernel_rfl) ?_;have hS0:Sees 0 [] w1 w1.drew:=Sees.st (by simp) (nzl _);refine tx4 0 1 2 3 (fun _=>hS0) ?_;refine tx4 4 5 6 8 (fun _=>hS0) ?_;refine tx1 9 (fun _=>hS0) ?_;refine tx1 10 (fun _=>hS0) ?_;refine tkW 7 (.slice A2 n2 k2) (fun w' hSw=>?_) (fun _=>hS0) ?_
       ·(replace hSw:=hSw rfl; go_simp; try with_reducible rfl)
       simp only [zz];refine tkW 11 (.slice A1 n1 k1) (fun w' hSw=>?_) (fun _=>hS0) ?_
       ·(replace hSw:=hSw rfl; go_simp; try with_reducible rfl)
       simp only [zz];refine tx1 12 (fun _=>hS0) ?_;refine tk1 13 ?_;intro K hK;go_simp;refine hK.out _ _ (fun h=>absurd h (by decide)) ?_;clear hK K;refine tx1 14 (fun h=>absurd h (by decide)) ?_;refine tk1 15 ?_;intro K hK;go_simp;refine hK.out _ _ (fun h=>absurd h (by decide)) ?_;clear hK K;refine zAf (by kernel_rfl) ?_ _;clear hS0;obtain ⟨-,f0,f1,-,-⟩:=id HS.out;(go_wp2_with fail);refine zXh.mono ?_;rintro e w3 ⟨⟨v,rfl⟩,rfl⟩;clear f0 f1;go_wp2;go_meet;case rel=>exact ⟨rfl,rfl,HS.out⟩
     case rest=>
      obtain ⟨rfl,rfl,hFr2,f0,f1,hown2,hG2⟩:=hcut;obtain ⟨Ms,hMs⟩:∃ Ms,Ms=sw M P.length g:=⟨_,rfl⟩;rw [<-hMs] at hG2;have hMsL:Ms.length=R:=by rw [hMs,zUc]; exact hML
      have hMsE:∀ i k,ent Ms i k=ent M (if i=P.length then g else if i=g then P.length else i) k:=fun i k=>by rw [hMs]; unfold ent; rw [zWb hPR (by omega)]
      have hMsF:FitM (gr c k0) Ms:=fun i k=>by rw [hMsE]; exact hFt _ _
      have hMsR:Rect Ms Wd:=fun i hi=>by
       rw [hMs,zWb hPR (by omega)];apply hRc
       split
       ·omega
       ·split <;> omega
      have hpe:ent Ms P.length c ≠ 0:=by rw [hMsE,if_pos rfl]; exact q3
      have HMs:=hdq hMs;clear hMs hMsE;obtain ⟨⟨A3,n3,k3⟩,x3,v3⟩:=hG2.row (i:=P.length) (by omega);have h3n:n3=Wd:=by have h1:=v3.len; have h2:=hMsR P.length (by omega); dsimp only at h1; omega
      subst h3n;have h3le:=v3.le;have h3cap:=v3.cap;obtain ⟨ab,ao,u,e,hxa,⟨d0,d1,d2,d3⟩,hu⟩:=elemL v3 (k:=c) (show c<n3 by omega);dsimp only at x3 e d1 d2 d3 h3le h3cap;subst e;have hab:=zAb d0;have hbl2:=hG2.lt;have hwl2:=zAb f0;dsimp only at hab hwl2;have hPi:(P.length:Int)<(R:Int):=(by omega);have hcn:(c:Int)<(n3:Int):=(by omega);have hent:(Ms.getD P.length []).getD c 0=ent Ms P.length c:=rfl;rw [hent] at hu;have Hu:=hdq (hu.qis (zBn (hMsF P.length c) hkc));have HV3:=hdq v3;have HStR:=hdq (zWu hRc hPR (show g<M.length by omega) (c:=c));have HStF:Hid (FitM (gr (c+1) k0) (Gj.step M P.length c g)):=hdq (hFt.next hPR (show g<M.length by omega));clear hu hent v3 hFt hRc hG1 hFr1 hown1 e0' e1';(go_upto_region 12 with fail);refine zAp 1000 (fun _ w'=>Sees 0 [] wc w') (by kernel_rfl) ?_;have hS0:Sees 0 [] wc wc.drew:=Sees.st (by simp) (nzl _);refine tx4 0 1 2 3 hS0 ?_;refine tx4 4 5 6 7 hS0 ?_;refine tx1 8 hS0 ?_;refine tk1 9 ?_;intro K hK;go_simp;refine (zXi (v:=u)).mono ?_;rintro e w3 ⟨⟨vv,rfl⟩,hb3⟩;have hS1:=Kept.call2 hb3 hS0;refine hK.out _ _ hS1 ?_;clear hK K;refine zAf (by kernel_rfl) ?_ _;have h3:Below wc wc w3:=((brf wc wc).drew).trans hb3;have x33:=(h3.cell (p:=⟨b,P.length,none⟩) hbl2).trans x3;have e0:=(h3.cell (p:=⟨ab,_,none⟩) hab).trans d0;have e1:=(h3.cell (p:=⟨ab,_,none⟩) hab).trans d1;have e2:=(h3.cell (p:=⟨ab,_,none⟩) hab).trans d2;have e3:=(h3.cell (p:=⟨ab,_,none⟩) hab).trans d3;have hu1:=Hu.out.below h3;have hG3:=hG2.below h3;have hown3:=zAr hown2 fun j hj=>h3.block j (by obtain ⟨_,cs,hh⟩:=zAc hown2 hj; exact zAa hh)
      have HB3:=hdq (And.intro (hFr2.call h3) (And.intro ((h3.cell (p:=w) hwl2).trans f0) (And.intro ((h3.cell (p:=⟨w.heap.size,1,none⟩) hwl2).trans f1) (And.intro hown3 hG3))));have hab3:ab<w3.heap.size:=ltl hab h3.size;have hbl3:b<w3.heap.size:=ltl hbl2 h3.size;have HV:=hdq (HV3.out.belowC h3);clear hS0 hS1 hb3 d0 d1 d2 d3 x3 Hu hG2 hown2 hFr2 f0 f1 HV3 hab hbl2 hwl2 hG3 hown3 h3;(go_upto_region 13 with fail);go_cut [12,13,17] from 65 to 123 (fun p er t W=>∃ (g2:Nat) (z:QV),p = .pointer (some g2)/\er = .int .i64 0/\t = .int .i64 (c:Int)/\w3.heap.size<=g2/\Box4 W g2 (.bool z.num.ng) (.slice z.num.A z.num.n z.num.c) (.bool z.den.ng) (.slice z.den.A z.den.n z.den.c)/\QCan W (New w3) z (1 / ent Ms P.length c)/\Below w3 w3 W)
      case first=>
       have bW3:w.heap.size<=w3.heap.size:=HB3.out.1.size
       go_region_held3 (Sees w [] w3) (exact kp)
        (first
         | (go_at_call 47; ((with_reducible refine (zAN 1 (by decide) (by decide) _).mono ?_); rintro e w4 ⟨⟨y,rfl,hy⟩,hb4⟩; (have sz4:w3.heap.size<=w4.heap.size:=by exact nlt (Sees.kept (by assumption):Kept w [] w3 _).size hb4.size); (obtain ⟨hc4,hf4⟩:=bcell hb4); (have lt4:=fun (b:Nat) h=>ltl (n:=b) h hb4.size)))
         | (go_at_call 92; ((with_reducible refine (zEY (L:=16) (a:=y) (b:=u) (hy.qis (zBn (Lin.Fits.one 1) (by decide))) (hu1.keptNil (Sees.kept (by assumption))) (by decide) (nlr _) hpe).mono ?_); rintro e w5 ⟨⟨z,rfl,hz⟩,hb5⟩; (have sz5:w3.heap.size<=w5.heap.size:=by exact nlt (Sees.kept (by assumption):Kept w [] w3 _).size hb5.size); (obtain ⟨hc5,hf5⟩:=bcell hb5); (have lt5:=fun (b:Nat) h=>ltl (n:=b) h hb5.size)))
         | (go_at_call 92; ((with_reducible refine (zEY (L:=16) (a:=y) (b:=u) ((hy.below (bal)).qis (zBn (Lin.Fits.one 1) (by decide))) (hu1.keptNil (Sees.kept (by assumption))) (by decide) (nlr _) hpe).mono ?_); rintro e w5 ⟨⟨z,rfl,hz⟩,hb5⟩; (have sz5:w3.heap.size<=w5.heap.size:=by exact nlt (Sees.kept (by assumption):Kept w [] w3 _).size hb5.size); (obtain ⟨hc5,hf5⟩:=bcell hb5); (have lt5:=fun (b:Nat) h=>ltl (n:=b) h hb5.size)))
         | fail)
       ·rename_i hS;(go_wp2_with fail);go_meet;case rel=>exact ⟨_,z,rfl,rfl,rfl,sz5,bx4,(hz.below (bal)).lower sz4,hS.kept.whole⟩
       ·rename_i hS;(go_wp2_with fail);go_meet;case rel=>exact ⟨_,z,rfl,rfl,rfl,sz4,bx4,(hz.set4 (by simp)).lower (by simp; omega),hS.kept.whole⟩
       ·rename_i hS;(go_wp2_with fail);go_meet
        case rel=>
         have b0:Box4 (w3.alloc (.cells #[.bool false,.slice none 0 0,.bool false,.slice none 0 0] 80)).drew w3 (.bool false) (.slice none 0 0) (.bool false) (.slice none 0 0):=bx4;exact ⟨_,z,rfl,rfl,rfl,nlr _,((b0.below hb4 (by simp)).below hb5 (lt4 _ (by simp))).stored _ _ _ _,(hz.set4 (lt4 _ (by simp))).lower (by omega),hS.kept.whole⟩
      case rest=>
       obtain ⟨g2,z,rfl,rfl,rfl,hg2,bZ,hz,hb5⟩:=hcut;rw [Rat.div_def,Rat.one_mul] at hz;obtain ⟨hFr3,f0,f1,hown3,hG3⟩:=HB3.out;have hwl3:=zAb f0;dsimp only at hwl3;have x4:=(hb5.cell (p:=⟨b,P.length,none⟩) hbl3).trans x33;have hv4:=HV.out.belowC hb5;have Hz:=hdq (hz.qis (zBn (hMsF P.length c).inv hkc));have Hv:=hdq (hv4.loose (L:=LM) fun j=>zBn (hMsF P.length j) hkc);have HS4:Hid (ElS w b (.slice uA P.length uc) P Ms wc):=⟨hFr3.call hb5,(hb5.cell (p:=w) hwl3).trans f0,(hb5.cell (p:=⟨w.heap.size,1,none⟩) hwl3).trans f1,zAr hown3 fun j hj=>hb5.block j (by obtain ⟨_,cs,hh⟩:=zAc hown3 hj; exact zAa hh),hG3.below hb5⟩;have hbl4:=HS4.out.2.2.2.2.lt;have gf:=HS4.out.2.2.2.2.frozen;obtain ⟨z0,z1,z2,z3,-⟩:=id bZ;have lg2:=zAb z0;dsimp only at lg2;have hg2b:¬ g2=b:=(by omega);clear hz hv4 hFr3 f0 f1 hown3 hG3 HB3 bZ hb5 e0 e1 e2 e3 hu1 HV x33;(go_upto_region 14 with fail);refine zAp 9 (fun fl w'=>Sees 0 [b] wc w'/\(fl=false->Sees 0 [] wc w')) (by kernel_rfl) ?_;have hS0:Sees 0 [b] wc wc.drew:=Sees.st (by simp) (nzl _);have hS1:Sees 0 [] wc wc.drew:=Sees.st (by simp) (nzl _);refine tkE 0 ?_ (fun w' hSw=>?_) (⟨hS0,fun _=>hS1⟩) ?_;rotate_left
       ·((obtain ⟨_,hSv⟩:=hSw; replace hSw:=hSv.1); go_simp; try with_reducible rfl)
       simp only [zz];refine tkE 1 ?_ (fun w' hSw=>?_) (⟨hS0,fun _=>hS1⟩) ?_;rotate_left
       ·((obtain ⟨_,hSv⟩:=hSw; replace hSw:=hSv.1); go_simp; try with_reducible rfl)
       simp only [zz];refine tkE 2 ?_ (fun w' hSw=>?_) (⟨hS0,fun _=>hS1⟩) ?_;rotate_left
       ·((obtain ⟨_,hSv⟩:=hSw; replace hSw:=hSv.1); go_simp; try with_reducible rfl)
       simp only [zz];refine tkE 3 ?_ (fun w' hSw=>?_) (⟨hS0,fun _=>hS1⟩) ?_;rotate_left
       ·((obtain ⟨_,hSv⟩:=hSw; replace hSw:=hSv.1); go_simp; try with_reducible rfl)
       simp only [zz];refine tkE 4 ?_ (fun w' hSw=>?_) (⟨hS0,fun _=>hS1⟩) ?_;rotate_left
       ·((obtain ⟨_,hSv⟩:=hSw; replace hSw:=hSv.1); go_simp; try with_reducible rfl)
       simp only [zz];refine tkE 5 ?_ (fun w' hSw=>?_) (⟨hS0,fun _=>hS1⟩) ?_;rotate_left
       ·((obtain ⟨_,hSv⟩:=hSw; replace hSw:=hSv.1); go_simp; try with_reducible rfl)
       simp only [zz];refine tkV 6 7 (.slice (some ⟨ab,ao,none⟩) n3 k3) (fun w' hSw=>?_) (⟨hS0,fun _=>hS1⟩) ?_
       ·(replace hSw:=hSw.2 rfl; go_simp; try with_reducible rfl)
       simp only [zz];refine tk1 7 ?_;intro K hK;go_simp;have hdr:Below wc wc wc.drew:=(brf _ _).drew;refine (zLH (k:=z) (s:=⟨some ⟨ab,ao,none⟩,n3,k3⟩) (Hz.out.below hdr) (Hv.out.below hdr) (show n3<=1000000 by omega) (nlr _) (nlr _)).mono ?_;rintro e w6 ⟨⟨⟨rA,rn,rc⟩,rfl,hr6⟩,hb6⟩;have hS2:=Kept.call2 hb6 hS0;have hS3:=Kept.call2 hb6 hS1;have hb6':Below wc wc w6:=hdr.trans hb6;refine hK.out _ _ ⟨hS2,fun _=>hS3⟩ ?_;clear hK K;have x6:=(hb6'.cell (p:=⟨b,P.length,none⟩) hbl4).trans x4;have gf6:∀ o,w6.frozen? ⟨b,o,none⟩=false:=fun o=>by rw [hb6'.frozen (p:=⟨b,o,none⟩) hbl4]; exact gf o
       have hNm:norm Ms P.length c=Ms.set P.length ((Ms.getD P.length []).map ((ent Ms P.length c)⁻¹*·)):=rfl
       have HS6:Hid (ElS w b (.slice uA P.length uc) P (norm Ms P.length c) (w6.setCell ⟨b,P.length,none⟩ (.slice rA rn rc))):=by
        rw [hNm];exact HS4.out.set hb0 hb6' (by omega) hr6 (nlr _)
       refine tkE 8 ?_ (fun w' hSw=>?_) (⟨hS2,fun _=>hS3⟩) ?_;rotate_left
       ·((obtain ⟨_,hSv⟩:=hSw; replace hSw:=hSv.1); go_simp; try with_reducible rfl)
       simp only [zz];refine tk1 9 ?_;intro K hK;go_simp;refine hK.out _ _ ⟨Sees.k1 hS2 (by simp),fun h=>absurd h (by decide)⟩ ?_;clear hK K;refine zAf (by kernel_rfl) ?_ _;have F:Gen (fun W=>ElS w b (.slice uA P.length uc) P (norm Ms P.length c) W) (w6.setCell ⟨b,P.length,none⟩ (.slice rA rn rc)):=HS6.out;(first | refine zDq F ?_ | refine zWi F ?_);have hNL:(norm Ms P.length c).length=R:=by rw [zUd]; exact hMsL
       have hNE:∀ i k,ent (norm Ms P.length c) i k=if i=P.length then (ent Ms P.length c)⁻¹*ent Ms P.length k else ent Ms i k:=fun i k=>zVb (by omega) i k
       have hNF:FitM (2*gr c k0) (norm Ms P.length c):=fun i k=>by
        rw [hNE]
        split
        ·exact ((hMsF P.length c).inv.mul (hMsF P.length k)).mono (by omega)
        ·exact (hMsF i k).mono (by omega)
       have hNR:Rect (norm Ms P.length c) n3:=fun i hi=>by
        rw [zUd] at hi;unfold norm;rw [zT6 _ _ _ _ _ (by omega)]
        split
        ·rw [List.length_map]; exact hMsR P.length (by omega)
        ·exact hMsR i hi
       have HStp:Hid (Gj.step M P.length c g=clearTo (norm Ms P.length c) P.length c R):=by
        show _=_;rw [zWa,<-HMs.out,hNL]
       clear F HS6 hS0 hS1 hS2 hS3 hb6 hb6' hdr x6 gf6 gf x4 z0 z1 z2 z3 HS4 Hz Hv hr6 hNE hNm hMsF hMsR HMs hbl4;generalize norm Ms P.length c=Nm at *;intro W7 hS7;have H7:ClL w b R (.slice uA P.length uc) P Nm P.length c (.int .i64 0) W7:=⟨0,nzl _,rfl,hS7⟩;clear hS7;go_wp2;(go_loopw [88] (fun t W=>ClL w b R (.slice uA P.length uc) P Nm P.length c t W) (fun t _=>R-(intOf t).toNat));case atStart=>exact H7
       case round=>
        clear H7;obtain ⟨i,hi,rfl,hS⟩:=hrel;have HS:=hdq hS;have hCL:(clearTo Nm P.length c i).length=R:=by rw [zT7]; exact hNL
        by_cases hli:i<R
        ·have hii:(i:Int)<(R:Int):=(by omega);obtain ⟨⟨A5,n5,k5⟩,x5,v5⟩:=hS.2.2.2.2.row (i:=i) (by omega);have hgi:(clearTo Nm P.length c i).getD i []=Nm.getD i []:=(by rw [zUe i (by omega),if_neg (by omega)]);have hgp:(clearTo Nm P.length c i).getD P.length []=Nm.getD P.length []:=(by rw [zUe i (by omega),if_neg (by omega)]);rw [hgi] at v5;have h5n:n3=n5:=by have h1:=v5.len; have h2:=hNR i (by omega); dsimp only at h1; omega
         subst h5n;dsimp only at x5;by_cases hip:i=P.length
         ·subst hip
          have HN:Hid (ClL w b R (.slice uA P.length uc) P Nm P.length c (.int .i64 ((P.length:Int)+1)) wr):=⟨P.length+1,by omega,by simp,by
           have:clearTo Nm P.length c (P.length+1)=clearTo Nm P.length c P.length:=if_pos rfl;rw [this]; exact HS.out⟩
          clear hS v5 HS;go_wp2;go_roundw;case rel=>first | exact HN.out | ((repeat apply Exists.intro); exact ⟨HN.out,rfl⟩)
          case measure=>simp [intOf]; omega
         ·have hib:((i:Int) == (P.length:Int))=false:=beq_false_of_ne (by omega);obtain ⟨ab5,ao5,u5,e,hx5,⟨d0,d1,d2,d3⟩,hu⟩:=elemL v5 (k:=c) (show c<n3 by omega);dsimp only at e d1 d2 d3;subst e;have h5le:n3<=k5:=v5.le;have h5cap:k5<=9223372036854775807:=v5.cap;have h5b:=zAb d0;dsimp only at h5b;have hent:(Nm.getD i []).getD c 0=ent Nm i c:=rfl;rw [hent] at hu
          have hk2:2*gr c k0<32*LM:=by
           have h1:=zUX (k:=k0) (show c+1<=n+1 by omega);have h2:=HK.out;have h3:gr (c+1) k0=5*gr c k0+5:=rfl;omega
          have Hu:=hdq (hu.qis (zBn (hNF i c) hk2));have Hv5:=hdq (v5.loose (L:=LM) fun j=>zBn (hNF i j) hk2);have hst:clearTo Nm P.length c (i+1)=(clearTo Nm P.length c i).set i (clearRow ((clearTo Nm P.length c i).getD P.length []) ((clearTo Nm P.length c i).getD i []) c):=if_neg hip;rw [hgi,hgp] at hst;have HSt:=hdq hst;clear hu hent hst v5;(go_wp2_with fail);refine (zAn (v:=u5) Hu.out).mono ?_;rintro e w8 ⟨rfl,hb8⟩;have HS8:=hdq (hS.below hb8);by_cases hz0:ent Nm i c=0
          ·have hsg:qsign (ent Nm i c)=0:=by rw [hz0]; rfl
           have HN:Hid (ClL w b R (.slice uA P.length uc) P Nm P.length c (.int .i64 ((i:Int)+1)) w8):=⟨i+1,by omega,by simp,by
            have hcr:clearRow (Nm.getD P.length []) (Nm.getD i []) c=Nm.getD i []:=if_pos hz0;rw [HSt.out,hcr,<-hgi,zW3 _ _ _ (by omega)];exact HS8.out⟩
           rw [hsg];clear hS hgi hgp HS8 HS hb8 d0 d1 d2 d3 hz0 hsg;go_wp2;go_roundw;case rel=>first | exact HN.out | ((repeat apply Exists.intro); exact ⟨HN.out,rfl⟩)
           case measure=>simp [intOf]; omega
          ·have hsg:(qsign (ent Nm i c) != 0)=true:=by
            have:qsign (ent Nm i c) ≠ 0:=(fun e=>hz0 (zBX.1 e));simp [this]
           have hcr:clearRow (Nm.getD P.length []) (Nm.getD i []) c=(List.range (max n3 n3)).map fun k=>-(ent Nm i c)*(Nm.getD P.length []).getD k 0+(Nm.getD i []).getD k 0:=by
            unfold clearRow;rw [hNR P.length (by omega),hNR i (by omega)];exact if_neg hz0
           obtain ⟨⟨A6,n6,k6⟩,x6,v6⟩:=HS8.out.2.2.2.2.row (i:=P.length) (by omega);rw [hgp] at v6;have h6n:n3=n6:=by have h1:=v6.len; have h2:=hNR P.length (by omega); dsimp only at h1; omega
           subst h6n;dsimp only at x6;have h6le:n3<=k6:=v6.le;have h6cap:k6<=9223372036854775807:=v6.cap;have Hv6:=hdq (v6.loose (L:=LM) fun j=>zBn (hNF P.length j) hk2);have gf:=HS8.out.2.2.2.2.frozen;have hbl8:=HS8.out.2.2.2.2.lt;have x58:=(hb8.cell (p:=⟨b,i,none⟩) (by have:=hS.2.2.2.2.lt; exact this)).trans x5;have e0:=(hb8.cell (p:=⟨ab5,_,none⟩) h5b).trans d0;have e1:=(hb8.cell (p:=⟨ab5,_,none⟩) h5b).trans d1;have e2:=(hb8.cell (p:=⟨ab5,_,none⟩) h5b).trans d2;have e3:=(hb8.cell (p:=⟨ab5,_,none⟩) h5b).trans d3;have h58:ab5<w8.heap.size:=ltl h5b hb8.size;have h5ne:¬ ab5=b:=(fun e=>hx5 (.inl e));have Hu8:=hdq (Hu.out.below hb8);have Hv58:=hdq (Hv5.out.below hb8)
           have HFq:Hid (∀ j,QFit LM (-(ent Nm i c)*(Nm.getD P.length []).getD j 0)):=hdq fun j=>zBn ((hNF i c).neg.mul (hNF P.length j)) (by
            have h1:=zUX (k:=k0) (show c+1<=n+1 by omega);have h2:=HK.out;have h3:gr (c+1) k0=5*gr c k0+5:=rfl;omega)
           have HNq:=hdq (zBn (hNF i c).neg hk2);rw [hcr] at HSt;clear hS v6 hb8 d0 d1 d2 d3 x5 Hu Hv5 hgi hgp HS hcr hz0 hx5;generalize qsign (ent Nm i c)=sg at *;generalize ent Nm i c=q at *;(go_upto_region 19 with fail);refine zAp 14 (fun fl w'=>Sees 0 [b] w8 w'/\(fl=false->Sees 0 [] w8 w')) (by kernel_rfl) ?_;have hS0:Sees 0 [b] w8 w8.drew:=Sees.st (by simp) (nzl _);have hS1:Sees 0 [] w8 w8.drew:=Sees.st (by simp) (nzl _);refine tkE 0 ?_ (fun w' hSw=>?_) (⟨hS0,fun _=>hS1⟩) ?_;rotate_left
           ·((obtain ⟨_,hSv⟩:=hSw; replace hSw:=hSv.1); go_simp; try with_reducible rfl)
           simp only [zz];refine tkE 1 ?_ (fun w' hSw=>?_) (⟨hS0,fun _=>hS1⟩) ?_;rotate_left
           ·((obtain ⟨_,hSv⟩:=hSw; replace hSw:=hSv.1); go_simp; try with_reducible rfl)
           simp only [zz];refine tkE 2 ?_ (fun w' hSw=>?_) (⟨hS0,fun _=>hS1⟩) ?_;rotate_left
           ·((obtain ⟨_,hSv⟩:=hSw; replace hSw:=hSv.1); go_simp; try with_reducible rfl)
           simp only [zz];refine tkE 3 ?_ (fun w' hSw=>?_) (⟨hS0,fun _=>hS1⟩) ?_;rotate_left
           ·((obtain ⟨_,hSv⟩:=hSw; replace hSw:=hSv.1); go_simp; try with_reducible rfl)
           simp only [zz];refine tkE 4 ?_ (fun w' hSw=>?_) (⟨hS0,fun _=>hS1⟩) ?_;rotate_left
           ·((obtain ⟨_,hSv⟩:=hSw; replace hSw:=hSv.1); go_simp; try with_reducible rfl)
           simp only [zz];refine tkE 5 ?_ (fun w' hSw=>?_) (⟨hS0,fun _=>hS1⟩) ?_;rotate_left
           ·((obtain ⟨_,hSv⟩:=hSw; replace hSw:=hSv.1); go_simp; try with_reducible rfl)
           simp only [zz];refine tkE 7 ?_ (fun w' hSw=>?_) (⟨hS0,fun _=>hS1⟩) ?_;rotate_left
           ·((obtain ⟨_,hSv⟩:=hSw; replace hSw:=hSv.1); go_simp; try with_reducible rfl)
           simp only [zz];refine tkE 8 ?_ (fun w' hSw=>?_) (⟨hS0,fun _=>hS1⟩) ?_;rotate_left
           ·((obtain ⟨_,hSv⟩:=hSw; replace hSw:=hSv.1); go_simp; try with_reducible rfl)
           simp only [zz];refine tkE 9 ?_ (fun w' hSw=>?_) (⟨hS0,fun _=>hS1⟩) ?_;rotate_left
           ·((obtain ⟨_,hSv⟩:=hSw; replace hSw:=hSv.1); go_simp; try with_reducible rfl)
           simp only [zz];refine tkV 10 12 (.slice A6 n3 k6) (fun w' hSw=>?_) (⟨hS0,fun _=>hS1⟩) ?_
           ·(replace hSw:=hSw.2 rfl; go_simp; try with_reducible rfl)
           simp only [zz];refine tkE 11 ?_ (fun w' hSw=>?_) (⟨hS0,fun _=>hS1⟩) ?_;rotate_left
           ·((obtain ⟨_,hSv⟩:=hSw; replace hSw:=hSv.1); go_simp; try with_reducible rfl)
           simp only [zz];refine tk1 6 ?_;intro K hK;go_simp;have hdr:Below w8 w8 w8.drew:=(brf _ _).drew;refine (zHK (a:=u5) (Hu8.out.below hdr) (nlr _)).mono ?_;rintro e w9 ⟨⟨nq,rfl,hnq⟩,hb9⟩;have hS2:=Kept.call2 hb9 hS0;have hS3:=Kept.call2 hb9 hS1;have hb9':Below w8 w8 w9:=hdr.trans hb9;refine hK.out _ _ ⟨hS2,fun _=>hS3⟩ ?_;clear hK K;refine tk1 12 ?_;intro K hK;go_simp;refine (zD5 (k:=nq) (sa:=⟨A6,n3,k6⟩) (sb:=⟨some ⟨ab5,ao5,none⟩,n3,k5⟩) (hnq.qis HNq.out) (Hv6.out.below hb9') (Hv58.out.below hb9') (nlr _) (nlr _) (nlr _) (show n3<=1000000 by omega) (show n3<=1000000 by omega) HFq.out).mono ?_;rintro e wA ⟨⟨⟨rA,rn,rc⟩,rfl,hrA⟩,hbA⟩;have hS4:=Kept.call2 hbA hS2;have hS5:=Kept.call2 hbA hS3;have hbA':Below w8 w8 wA:=hb9'.trans (hbA.mono hb9'.size);refine hK.out _ _ ⟨hS4,fun _=>hS5⟩ ?_;clear hK K;have x5A:=(hbA'.cell (p:=⟨b,i,none⟩) hbl8).trans x58;have gfA:∀ o,wA.frozen? ⟨b,o,none⟩=false:=fun o=>by rw [hbA'.frozen (p:=⟨b,o,none⟩) hbl8]; exact gf o
           have HN:Hid (ClL w b R (.slice uA P.length uc) P Nm P.length c (.int .i64 ((i:Int)+1)) (wA.setCell ⟨b,i,none⟩ (.slice rA rn rc))):=⟨i+1,by omega,by simp,by
            rw [HSt.out];exact HS8.out.set hb0 hbA' (by omega) hrA hb9'.size⟩
           refine tkE 13 ?_ (fun w' hSw=>?_) (⟨hS4,fun _=>hS5⟩) ?_;rotate_left
           ·((obtain ⟨_,hSv⟩:=hSw; replace hSw:=hSv.1); go_simp; try with_reducible rfl)
           simp only [zz];refine tk1 14 ?_;intro K hK;go_simp;refine hK.out _ _ ⟨Sees.k1 hS4 (by simp),fun h=>absurd h (by decide)⟩ ?_;clear hK K;refine zAf (by kernel_rfl) ?_ _;clear hS0 hS1 hS2 hS3 hS4 hS5 hb9 hb9' hbA hbA' hdr x5A gfA gf x58 x6 e0 e1 e2 e3 Hu8 Hv58 Hv6 HFq HNq HSt HS8 hrA hnq;go_wp2;go_roundw;case rel=>first | exact HN.out | ((repeat apply Exists.intro); exact ⟨HN.out,rfl⟩)
           case measure=>simp [intOf]; omega
        ·(obtain rfl:R=i:=by omega);obtain ⟨hFr5,f0,f1,hown5,hG5⟩:=HS.out;rw [<-HStp.out] at hG5;have HR5:=hdq (And.intro hFr5 (And.intro f0 (And.intro f1 hG5)));have hwl5:=zAb f0;dsimp only at hwl5;obtain ⟨i0,hiI,hz0,hz1,hz2⟩:=info_parts zUP;clear hS HS hCL hFr5 f0 f1 hG5;(go_wp2_with (at_builtin; refine wpList_append_own_at _ rfl _ _ 25 rfl (w+1) 3 i0 (.int .i64 0) 1 8 Tryz.underlying25 hiI hz0 hz1 hz2 rfl (by decide) (.slice uA P.length uc) P.length (iv P) rfl (hown5.alloc _) ⟨wr,0,none⟩ 1 1 [.int .i64 (c:Int)] rfl rfl ?cells ?one ?b1 ?b2 ?b3 ?_));case cells=>exact cell_one_new _ _ _
         case one=>first | rfl | (intro u hu; simp at hu; subst hu; rfl)
         case b1=>simp [maxLen]; omega
         case b2=>omega
         case b3=>simp; omega
         intro v' W9 hown9 hg9 hnil9 hat9;have hF9:Fr (fun y=>w.heap.size+1<=y) wr W9:=⟨hg9.os,hg9.tape,hg9.output,by have:=hg9.size; simp at this; omega,fun x hx hn=>(hg9.block x (by simp; omega) fun e=>hn (zAc hown5 e.symm).1).trans (Below.heap_alloc _ _ _ hx)⟩
         have HN:Hid (ElL w b n R n3 k0 m0 v' (.int .i64 ((c:Int)+1)) W9):=by
          obtain ⟨hFr5,f0,f1,hG5⟩:=HR5.out;have hwr:w.heap.size<=wr.heap.size:=hFr5.size
          refine ⟨c+1,P++[c],Gj.step M P.length c g,by omega,by simp,?_,by rw [List.length_append]; simp; omega,fun x hx=>?_,by rw [zT5]; exact hML,HStR.out,HStF.out,⟨hF9.os.trans hFr5.os,hF9.tape.trans hFr5.tape,hF9.output.trans hFr5.output,nlt hFr5.size hF9.size,fun x hx hxb=>(hF9.block x (by omega) (by omega)).trans (hFr5.block x hx hxb)⟩,
           (hF9.cell (p:=w) hwl5 (by show ¬ w.heap.size+1<=w.heap.size; omega)).trans f0,(hF9.cell (p:=⟨w.heap.size,1,none⟩) hwl5 (by show ¬ w.heap.size+1<=w.heap.size; omega)).trans f1,by rw [List.length_append,zWK]; exact hown9,?_⟩
          ·rw [HRun.out,show n-c=(n-(c+1))+1 by omega]
           conv=>lhs; unfold run
           rw [if_neg (by omega),hML,HPf.out]
          ·rcases List.mem_append.1 hx with hx | hx
           ·exact hPn x hx
           ·obtain rfl:=List.mem_singleton.1 hx;omega
          ·have hGa:=hG5.below ((brf wr wr).alloc (nlr _) (.cells #[.int .i64 (c:Int)] 3))
           have hGb:=hGa.grow (X':=fun x=>(x=b\/(Value.slice uA P.length uc).ownBlock=some x)\/v'.ownBlock=some x) (.inl (.inl rfl)) fun x hx hX=>by
            rcases hX with hX | hX
            ·exact hX
            ·rcases hat9 with h9 | h9
             ·exact .inr (h9 ▸ hX)
             ·rw [h9] at hX;cases hX;simp at hx
           have hob:(Value.slice uA P.length uc).ownBlock ≠ some b:=fun e=>by
            have:=(zAc hown5 e).1;omega
           exact (hGb.keep (hg9.block b hGb.lt (Ne.symm hob)) fun x hX hx=>hg9.block x hx fun e=>hX (.inl (.inr e.symm))).anti (.inl rfl) fun x hX=>hX.elim (fun h=>.inl (.inl h)) .inr
         obtain ⟨g9,c9,rfl⟩:=ownsRow_succ hown9;clear hown9 hg9 hnil9 hat9 hF9 hown5 HR5;go_wp2;go_roundw;case rel=>first | exact HN.out | ((repeat apply Exists.intro); exact ⟨HN.out,rfl⟩)
         case measure=>simp [intOf]; omega
  ·obtain rfl:n=c:=by omega
   have HE:Hid (run n 0 m0 []=(M,P)):=by
    show _=_;rw [HRun.out,Nat.sub_self];rfl
   clear e0 e1;obtain ⟨⟨tA,tn,tc⟩,et,ht,hnt,-⟩:=zVc hown rfl fun x hx=>by have:=hPn x hx; omega
   dsimp only at ht;subst ht;cases et
   have HZ:Hid ((∃ t:SV,(.returned (.slice tA P.length tc):Ending) = .returned t.val/\NatsAt wr t (run n 0 m0 []).2/\t.n=(run n 0 m0 []).2.length/\GjM wr b (run n 0 m0 []).1)/\Fr (fun y=>y=b) w wr):=by
    show _/\_;rw [HE.out];exact ⟨⟨⟨tA,_,tc⟩,rfl,hnt,rfl,hG.gjm⟩,hFr⟩
   clear hnt hG hFr hown HE;go_wp2;go_ret;exact HZ.out
end Mo
end Go.Proofs.YtjancagcmghfjaaGreat
