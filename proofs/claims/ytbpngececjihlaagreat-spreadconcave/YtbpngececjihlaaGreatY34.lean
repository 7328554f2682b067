/- Texts OptmM PrV SpC SpD SpE SpF of this claim. -/
import Derived.Test.YtbpngececjihlaaGreatY30
import Derived.Test.YtbpngececjihlaaGreatY32
import Derived.Test.YtbpngececjihlaaGreatY33
set_option maxHeartbeats 4000000
set_option maxRecDepth 40000
namespace Go.Proofs.YtbpngececjihlaaGreat
open Go.RowKit Go.Shelf Lin
open Go.RowKit Go.Shelf
variable {b L i k c0 c1 d B V g row r M n c N:Nat} {w w':World} {s sa sb:SV} {X Y X' Y' Z:Nat->Prop} {bs cl:List Rat} {v0 v1 v2 v3 v:Value} {rs os:List (List Rat)} {q:Rat} {z:QV} {p:LPV} {ad:Addr}
theorem heapK {o:Obj} (h:w.heap[b]?=some o) (hb:Below w w w'):w'.heap[b]?=some o:=(hb.block _ (zAa h)).trans h
abbrev intCells (l:List Int):Obj:=.cells (l.map fun z=>Value.int .i64 z).toArray 2
theorem zCE {l:List Int} (hl:l.length<=1000) (hr:∀ x ∈ l,-9223372036854775808<=x/\x<=9223372036854775807) :
  Calls Tryz.prog 47 #[.slice (some w) l.length l.length] (w.alloc (intCells l)) fun e w'=>VRet w (rats l) e w'/\Below w w w':=by
 have i1:(w.alloc (intCells l)).heap[w.heap.size]?=some (.cells (l.map fun z=>Value.int .i64 z).toArray 2 (0,0)):=zAd _ _ rfl;have hb:Below w w (w.alloc (intCells l)):=bal;refine (zBP (s:=⟨some ⟨w,0,none⟩,l.length,l.length⟩) (IntsAt.blk i1 hl hr) hl).mono ?_;rintro e w' ⟨⟨s,rfl,hv⟩,hb'⟩;exact ⟨⟨s,rfl,hv.low hb.size⟩,hb.trans (hb'.mono hb.size)⟩
def MFill (w:World) (b n i:Nat) (g:Nat->List Rat) (W:World):Prop:=
 ∃ (cs:Array Value) (sv:Nat->SV),W.heap[b]?=some (.cells cs 23 (0,0))/\cs.size=n/\∀ j,j<i->cs[j]?=some (sv j).val/\VecCan W (New (w+1+1)) (New (w+1+1)) (sv j) (g j)
def FiO (w:World) (fv:Value) (n:Nat) (g:Nat->List Rat) (t:Value) (W:World):Prop:=
 ∃ i:Nat,i<=n/\t = .int .i64 i/\Below w w W/\W.heap[w.heap.size]?=some (.cells #[fv] 240 (0,0))/\MFill w (w+1) n i g W
theorem zRx {p:Addr} (v:Value) (o:Obj) (h:p.block<w):(w.alloc o).setCell p v=(w.setCell p v).alloc o:=by
 have e:((w.alloc o).setCell p v).heap=((w.setCell p v).alloc o).heap:=by
  apply Array.ext_getElem?;intro k;by_cases hk:k<w.heap.size
  ·rw [Below.heap_alloc _ _ _ (by simpa [World.setCell] using hk)];by_cases hp:k=p.block
   ·subst hp;simp [World.setCell,Array.getElem?_modify,Below.heap_alloc _ _ _ hk]
   ·rw [bhs _ _ _ _ hp,bhs _ _ _ _ hp,Below.heap_alloc _ _ _ hk]
  ·rw [bhs _ _ _ _ (by omega)];by_cases hk2:k=w.heap.size
   ·subst hk2;rw [zAd _ _ rfl];exact (zAd _ _ (by simp [World.setCell])).symm
   ·rw [Array.getElem?_eq_none (by simp; omega),Array.getElem?_eq_none (by simp [World.setCell]; omega)]
 cases w;simp only [World.setCell,World.alloc] at e ⊢;simpa using e
theorem zRY {fn rows cols:Nat} {caps:Array Value} {g:Nat->Nat->Rat} (hr:rows<=100000) (hc:cols<=100000) (hcall:∀ (args:Array Value) (w:World),Sem.run Tryz.prog (callFunc fn args) w = .ok (.enter fn args) w)
  (ht:∀ W i k,Below w w W->i<rows->k<cols->Calls Tryz.prog fn (#[.int .i64 (i:Int),.int .i64 (k:Int)]++caps) W fun e W'=>QRet W (g i k) e W'/\Below W W W') :
  Calls Tryz.prog 217 #[.agg #[.func (.func fn) #[] caps],.int .i64 (rows:Int),.int .i64 (cols:Int)] w fun e w'=>(∃ b,e = .returned (.slice (some ⟨b,0,none⟩) rows rows)/\MBlk w b ((List.range rows).map fun i=>(List.range cols).map (g i)) w')/\Below w w w':=by
 have hmk:=zHV rows (by omega);have hmq:=zBZ cols (by omega);have HT:=hdq ht;have HC:=hdq hcall;clear ht hcall;go_enter Tryz.func217,Tryz.ntmps217
 go_wp2
 have H0:FiO w (.func (.func fn) #[] caps) rows (fun i=>(List.range cols).map (g i)) (.int .i64 0) ((w.alloc (.cells #[.func (.func fn) #[] caps] 240)).alloc (.cells (zeroS rows) 23)):=
  ⟨0,nzl _,rfl,(bal).alloc (by simp) _,(Below.heap_alloc _ _ _ (by simp)).trans (zAd _ _ rfl),zeroS rows,fun _=>⟨none,0,0⟩,zAd _ _ (by simp),zIb rows,fun j hj=>absurd hj (by omega)⟩
 clear hmk;generalize (w.alloc (.cells #[.func (.func fn) #[] caps] 240)).alloc (.cells (zeroS rows) 23)=W0 at *;go_loopw [14] (fun t W=>FiO w (.func (.func fn) #[] caps) rows (fun i=>(List.range cols).map (g i)) t W) (fun t _=>rows-(intOf t).toNat)
 case atStart=>exact H0
 case round=>
  clear H0;obtain ⟨i,hi,rfl,hB,hfv,hM⟩:=hrel;by_cases hlt:i<rows
  ·obtain ⟨cs,sv,h1,h2,h3⟩:=id hM;have hyl:=zAa h1;have hii:(i:Int)<(rows:Int):=(by omega);have y0:(wr.cell? ⟨w.heap.size+1,i,none⟩).isSome=true:=by simp only [World.cell?,h1]; simp [h2,hlt]
   obtain ⟨yv,hyv⟩:=Option.isSome_iff_exists.1 y0;have yf:∀ o,wr.frozen? ⟨w.heap.size+1,o,none⟩=false:=(fun o=>by simp [World.frozen?,h1]);(go_upto_region 6 with fail);obtain ⟨wO,hwO⟩:∃ W,W=wr.setCell ⟨w.heap.size+1,i,none⟩ (.slice (some wr) cols cols):=⟨_,rfl⟩;rw [<-hwO];have hOs:wO.heap.size=wr.heap.size:=by rw [hwO]; simp [World.setCell]
   have hO1:wO.heap[w.heap.size+1]?=some (.cells (cs.setIfInBounds i (.slice (some wr) cols cols)) 23 (0,0)):=by rw [hwO]; exact zAe _ h1
   have hOf:wO.heap[w.heap.size]?=some (.cells #[.func (.func fn) #[] caps] 240 (0,0)):=by rw [hwO]; exact (bhs _ _ _ _ (by show w.heap.size ≠ w.heap.size+1; omega)).trans hfv
   have hOB:Below w w wO:=by rw [hwO]; exact hB.setCell (p:=⟨w.heap.size+1,i,none⟩) (by show w.heap.size<=w.heap.size+1; omega) _
   have kk:∀ p:Addr,New (w+1+1) p.block->wO.cell? p=wr.cell? p:=fun p hp=>by rw [hwO]; exact cob (bhs _ _ _ _ (by simp only [New] at hp; show p.block ≠ w.heap.size+1; omega))
   have hOr:Hid (∀ j,j<i->cs[j]?=some (sv j).val/\VecCan wO (New (w+1+1)) (New (w+1+1)) (sv j) ((List.range cols).map (g j))):=(fun j hj=>⟨(h3 j hj).1,(h3 j hj).2.keep (fun a ha _=>kk a ha) fun v q hq=>hq.keep fun p hp _=>kk p hp⟩);have hOl:w.heap.size+1<wO.heap.size:=(by omega);clear hwO kk h3 hM hB hfv y0 hyv yf h1 hyl;rw [<-hOs] at hO1 ⊢;clear hOs;have b0:Below wO wO (wO.alloc (.cells (zeroQ cols) 30)):=bal
   have H2:FillLoop wO wO (g i) cols cols (fun _=>True) (.int .i64 0) (wO.alloc (.cells (zeroQ cols) 30)):=
    ⟨0,nzl _,rfl,by rw [zEe]; exact RowAt.made wO cols _ (.inr rfl),b0,trivial⟩
   have c0:(wO.alloc (.cells (zeroQ cols) 30)).cell? ⟨w.heap.size+1,i,none⟩=some (.slice (some wO) cols cols):=by
    rw [b0.cell (p:=⟨w.heap.size+1,i,none⟩) hOl]; simp [World.cell?,hO1,h2,hlt]
   clear b0;generalize wO.alloc (.cells (zeroQ cols) 30)=WB at *;go_wp2;clear c0;(go_loopw [27] (fun t W=>FillLoop wO wO (g i) cols cols (fun _=>True) t W) (fun t _=>cols-(intOf t).toNat));case atStart=>exact H2
   case round=>
    clear H2;obtain ⟨k,hk,rfl,hR,hb,-⟩:=hrel;have hRl:=hR.lt;have q1:wr.heap[w.heap.size+1]?=_:=(hb.block _ hOl).trans hO1;have qf:wr.heap[w.heap.size]?=_:=(hb.block _ (by omega)).trans hOf;have c1:wr.cell? ⟨w.heap.size+1,i,none⟩=some (.slice (some wO) cols cols):=(by simp [World.cell?,q1,h2,hlt]);have cf:wr.cell? w=some (.func (.func fn) #[] caps):=(by simp [World.cell?,qf]);by_cases hlk:k<cols
    ·have hkk:(k:Int)<(cols:Int):=(by omega);have hcall:=HC.out;(go_upto_region 9 with fail);refine zAp 11 (fun _ w'=>w'.cell? ⟨w.heap.size+1,i,none⟩=some (.slice (some wO) cols cols)/\w'.cell? w=some (.func (.func fn) #[] caps)) (by kernel_rfl) ?_;have hS0:wr.drew.cell? ⟨w.heap.size+1,i,none⟩=some (.slice (some wO) cols cols)/\wr.drew.cell? w=some (.func (.func fn) #[] caps):=⟨c1,cf⟩;refine tx4 0 1 2 3 hS0 ?_;refine tx4 4 5 6 7 hS0 ?_;refine tx1 8 hS0 ?_;refine tk1 9 ?_;intro K hK;go_simp;have hdr:Below wr wr wr.drew:=(brf _ _).drew;refine (HT.out _ i k (hOB.trans ((hb.trans (hdr.mono hb.size)).mono hOB.size)) hlt hlk).mono ?_;rintro e w5 ⟨⟨z,rfl,hz⟩,h5⟩;dsimp only;have h5':Below wr wr w5:=hdr.trans h5
     have hs5:w5.cell? ⟨w.heap.size+1,i,none⟩=some (.slice (some wO) cols cols)/\w5.cell? w=some (.func (.func fn) #[] caps):=
      ⟨(h5'.cell (p:=⟨w.heap.size+1,i,none⟩) (by show w.heap.size+1<_; omega)).trans c1,(h5'.cell (p:=w) (by show w.heap.size<_; omega)).trans cf⟩
     refine hK.out _ _ hs5 ?_;clear hK K hcall;have hR5:=hR.below h5';obtain ⟨zv,⟨d0,d1,d2,d3⟩,-⟩:=hR5.elem k (by rw [zBj _ (by omega)]; omega);have fz:=hR5.frozen;dsimp only at d1 d2 d3;refine tx1 10 hs5 ?_;refine tk1 11 ?_;intro K hK;go_simp;have kp:∀ p:Addr,p.block ≠ wO.heap.size->(put4 w5 wO k z).cell? p=w5.cell? p:=(fun p hp=>zCq _ _ _ _ hp);refine hK.out _ _ (show (put4 w5 wO k z).cell? _=_/\(put4 w5 wO k z).cell? _=_ from ⟨(kp _ (by show w.heap.size+1 ≠ _; omega)).trans hs5.1,(kp _ (by show w.heap.size ≠ _; omega)).trans hs5.2⟩) ?_;clear hK K;refine zAf (by kernel_rfl) ?_ _;have hz2:QCan w5 (New wr) z (g i k):=hz.imp fun b _ hx=>by simp only [New] at hx ⊢; have:=hdr.size; omega
     have Hfin:=hdq (FillLoop.step (E:=fun _=>True) (B:=wr) hlk (nlr _) hR hb h5' hb.size hRl (nlr _) hz2 trivial);clear hz hz2 hs5 hS0 d0 d1 d2 d3 fz hR5 hR h5 h5' hdr kp q1 qf c1 cf hb;go_wp2;go_roundw;case rel=>exact fn_ Hfin.out
     case measure=>simp [intOf]; omega
    ·(obtain rfl:k=cols:=by omega);rw [zGv] at hR;obtain ⟨⟨a1,a2,a3⟩,e3,hv⟩:=VRet.of (n:=k) (by simp) (by omega) (nlr _) hR;simp only [Ending.returned.injEq,SV.val,Value.slice.injEq] at e3;obtain ⟨rfl,rfl,rfl⟩:=e3
     have Hfin:Hid (FiO w (.func (.func fn) #[] caps) rows (fun i=>(List.range k).map (g i)) (.int .i64 ((i:Int)+1)) wr):=by
      refine ⟨i+1,by omega,by simp,hOB.trans (hb.mono hOB.size),qf,_,fun j=>if j=i then ⟨some ⟨wO,0,none⟩,k,k⟩ else sv j,q1,by simpa using h2,fun j hj=>?_⟩;rw [Array.getElem?_setIfInBounds];by_cases e:i=j
      ·subst e;rw [if_pos rfl,if_pos (by omega)];dsimp only;rw [if_pos rfl];exact ⟨rfl,hv.imp (fun b _ hb=>by simp only [New] at hb ⊢; omega) fun v q hq=>hq.imp fun b _ hb=>by simp only [New] at hb ⊢; omega⟩
      ·rw [if_neg e];dsimp only;rw [if_neg (Ne.symm e)];obtain ⟨g1,g2⟩:=hOr.out j (by omega);exact ⟨g1,g2.belowC hb⟩
     clear hR hv q1 qf c1 cf hb hOr hO1 hOf hOB;go_wp2;go_roundw;case rel=>exact fn_ Hfin.out
     case measure=>simp [intOf]; omega
  ·have hin:i=rows:=(by omega);subst hin
   have HF:Hid (MBlk w (w+1) ((List.range i).map fun i=>(List.range cols).map (g i)) wr):=by
    obtain ⟨cs,sv,h1,h2,h3⟩:=hM;refine ⟨by omega,cs,sv,h1,by simpa using h2,fun j hj=>?_⟩;have hj':j<i:=(by simpa using hj);obtain ⟨g1,g2⟩:=h3 j hj';rw [zA6 _ _ _ _ hj'];exact ⟨g1,g2.imp (fun b _ hb=>by simp only [New] at hb ⊢; omega) fun v q hq=>hq.imp fun b _ hb=>by simp only [New] at hb ⊢; omega⟩
   clear hM hfv;go_wp2;go_ret;exact ⟨⟨_,rfl,HF.out⟩,hB⟩
theorem zRr {left:Nat} {c2:Value} {m:List (List Rat)} (h:MatIs w X Y L s m) (h0:w.cell? c0=some (.int .i64 (left:Int))) (h1:w.cell? c1=some s.val) (hi:i<s.n) (hk:k<left) (hl:left<=1000000) (hL:L<=LM) :
  Calls Tryz.prog 216 #[.int .i64 (i:Int),.int .i64 (k:Int),.pointer (some c0),.pointer (some c1),c2] w fun e w'=>QRet w ((m.getD i []).getD k 0) e w'/\Below w w w':=by
 obtain ⟨A,n,c⟩:=s;have hki:(k:Int)<(left:Int):=by omega
 have t0:=zAb h0;have t1:=zAb h1;dsimp only at t0 t1;have HL:=hdq hL;clear hL;dsimp only [SV.val] at h1;go_enter Tryz.func216,Tryz.ntmps216
 go_wp2_with fail
 refine zAg (fun W=>Below w w W/\Box4 W w (.bool false) (.slice none 0 0) (.bool false) (.slice none 0 0)/\w.heap.size<W.heap.size) ⟨(az (brf _ _)),bx4,by simp <;> omega⟩ ?_;rintro W ⟨hbW,bR,s0⟩;have hBW:=hbW.size;refine (zFd (s:=⟨A,n,c⟩) (h.below hbW) i k hi (by omega) HL.out).mono ?_;rintro e w1 ⟨⟨z,rfl,hz⟩,hb1⟩;have hb01:=hbW.trans (hb1.mono hBW);have bR1:=bR.below hb1 s0;have s01:w.heap.size<w1.heap.size:=ltl s0 hb1.size;obtain ⟨v0,v1,v2,v3,-⟩:=bR1.stored (.bool z.num.ng) (.slice z.num.A z.num.n z.num.c) (.bool z.den.ng) (.slice z.den.A z.den.n z.den.c);have HB:=hdq (zAl (x0:=.bool z.num.ng) (x1:=.slice z.num.A z.num.n z.num.c) (x2:=.bool z.den.ng) (x3:=.slice z.den.A z.den.n z.den.c) (b:=w) hb01 (by omega));have HZ:=hdq ((hz.set4 (b:=w) (x0:=.bool z.num.ng) (x1:=.slice z.num.A z.num.n z.num.c) (x2:=.bool z.den.ng) (x3:=.slice z.den.A z.den.n z.den.c) s0).lower hBW);clear hb1 hb01 hz bR h0 h1;go_wp2;try rw [Exit.noGoto_ret]
 exact bodyPost_ret (v:=z.val) (by simp [results,Tryz.results216,go_sem,v0,v1,v2,v3]) rfl ⟨⟨z,rfl,HZ.out⟩,HB.out⟩
theorem MatAt.nil (w:World) (X Y:Nat->Prop) (L:Nat):MatIs w X Y L ⟨none,0,0⟩ []:=⟨rfl,nlr _,nzl _,fun k hk=>absurd hk (Nat.not_lt_zero k)⟩
theorem MBlk.lower {w9 w8:World} {m:List (List Rat)} (h:MBlk w9 b m w8) (hs:w.heap.size<=w9.heap.size):MBlk w b m w8:=by
 obtain ⟨h1,cs,sv,h2,h3,h4⟩:=h;exact ⟨nlt hs h1,cs,sv,h2,h3,fun j hj=>⟨(h4 j hj).1,(h4 j hj).2.imp (fun x _ hx=>⟨nlt hs hx.1,hx.2⟩) fun v q hq=>hq.imp fun x _ hx=>⟨nlt hs hx.1,hx.2⟩⟩⟩
theorem zRi (m:List (List Rat)) (c:Nat):((List.range m.length).map fun i=>(List.range c).map fun k=>(m.getD i []).getD k 0)=m.map fun r=>resize r c:=by
 apply List.ext_getElem
 ·simp
 ·intro i h1 h2;simp only [List.length_map,List.length_range] at h1;simp [resize,List.getD,h1]
theorem zRl {m:List (List Rat)} (h:MatIs w X Y L s m) :
  Calls Tryz.prog 119 #[s.val] w fun e w'=>e = .returned (.int .i64 (colsOf m))/\Below w w w':=(zDl h).mono fun _ _ h=>⟨h.1,h.2 ▸ brf _ _⟩
theorem zRD {m:List (List Rat)} (h:MatIs w X Y L s m) (hn:s.n<=100000) (hc:colsOf m<=100000) (hL:L<=LM) :
  Calls Tryz.prog 182 #[s.val,.slice none 0 0] w fun e w'=>(∃ b,e = .returned (.slice (some ⟨b,0,none⟩) m.length m.length)/\MBlk w b (m.map fun r=>resize r (colsOf m)) w')/\Below w w w':=by
 obtain ⟨A,n,c⟩:=s;dsimp only at hn;have HLen:Hid (m.length=n):=h.len;have HL:=hdq hL;clear hL;dsimp only [SV.val];go_enter Tryz.func182,Tryz.ntmps182
 go_upto_region 1 with fail
 obtain ⟨W,hW⟩:∃ W,(w.alloc (.cells #[.slice A n c] 22)).alloc (.cells #[.slice none 0 0] 22)=W:=⟨_,rfl⟩;rw [hW];have bA:Boxed W w 22 (.slice A n c):=by rw [<-hW]; exact (Boxed.new w _ _).alloc _
 have bB:Boxed W (w+1) 22 (.slice none 0 0):=by
  have:=Boxed.new (w.alloc (.cells #[.slice A n c] 22)) 22 (.slice none 0 0);rw [World.size_alloc,hW] at this; exact this
 have hbW:Below w w W:=by rw [<-hW]; exact (bal).alloc (by simp) _
 have c0:=bA.cell;have c1:=bB.cell;have s0:=bA.lt;have s1:=bB.lt;have hBW:=hbW.size;clear hW;go_cut [5,6] from 12 (fun p r W'=>∃ g:Nat,p = .pointer (some ⟨g,0,none⟩)/\r = .int .i64 0/\W.heap.size<=g/\W'.cell? ⟨g,0,none⟩=some (.int .i64 (colsOf m:Int))/\Below W W W')
 case first=>
  go_region_held3 (Sees w [] W) (exact kp)
   (first
    | (go_at_call 119; ((with_reducible refine (zRl (s:=⟨A,n,c⟩) (h.below (hbW.trans ((Sees.kept (by assumption)).whole.mono hBW)))).mono ?_); rintro e w3 ⟨rfl,hb3⟩; (have sz3:W.heap.size<=w3.heap.size:=by exact nlt (Sees.kept (by assumption):Kept w [] W _).size hb3.size); (obtain ⟨hc3,hf3⟩:=bcell hb3); (have lt3:=fun (b:Nat) h=>ltl (n:=b) h hb3.size); (have kq3:Kept w [] W w3:=(Kept.call2 hb3 (by assumption):Sees w [] W w3).kept)))
    | (go_at_call 119; ((with_reducible refine (zRl (s:=⟨none,0,0⟩) (MatAt.nil _ AllB AllB 0)).mono ?_); rintro e w4 ⟨rfl,hb4⟩; (have sz4:W.heap.size<=w4.heap.size:=by exact nlt (Sees.kept (by assumption):Kept w [] W _).size hb4.size); (obtain ⟨hc4,hf4⟩:=bcell hb4); (have lt4:=fun (b:Nat) h=>ltl (n:=b) h hb4.size); (have kq4:Kept w [] W w4:=(Kept.call2 hb4 (by assumption):Sees w [] W w4).kept)))
    | fail)
  focus
   rename_i hS;(go_wp2_with fail);go_meet;case rel=>exact ⟨_,rfl,rfl,sz4,by simp,hS.kept.whole⟩
  focus
   rename_i hS;(go_wp2_with fail);go_meet;case rel=>exact ⟨_,rfl,rfl,sz3,by go_simp,hS.kept.whole⟩
  focus
   rename_i hS;(go_wp2_with fail);go_meet
   case rel=>
    have e0:w4.cell? W=some (.int .i64 0):=(hc4 _ 0 (lt3 _ (by simp))).trans ((hc3 _ 0 (by simp)).trans (by show (W.alloc _).cell? _=_; simp));exact ⟨_,rfl,rfl,nlr _,World.cell?_setCell_same' _ _ _ (by rw [e0]; rfl),hS.kept.whole⟩
 case rest=>
  obtain ⟨g,rfl,rfl,hg,cg,hbc⟩:=hcut;have a0:=(hbc.cell (p:=w) s0).trans c0;have a1:=(hbc.cell (p:=⟨w+1,0,none⟩) s1).trans c1;have tg:=zAb cg;dsimp only at tg;have hb1:=hbW.trans (hbc.mono hBW);have hsz:=hbc.size;have t0:w.heap.size<wc.heap.size:=by omega
  have t1:w.heap.size+1<wc.heap.size:=by omega
  clear hbc c0 c1 bA bB;go_upto_region 3 with fail
  have al:Below wc wc (wc.alloc (.cells #[.func (.func 216) #[] #[.pointer (some g),.pointer (some w),.pointer (some ⟨w+1,0,none⟩)]] 240)):=bal;have hb2:=hb1.trans (al.mono hb1.size);have x0:(wc.alloc (.cells #[.func (.func 216) #[] #[.pointer (some g),.pointer (some w),.pointer (some ⟨w+1,0,none⟩)]] 240)).cell? wc=some (.func (.func 216) #[] #[.pointer (some g),.pointer (some w),.pointer (some ⟨w+1,0,none⟩)]):=by simp
  replace a0:=(al.cell (p:=w) t0).trans a0;replace a1:=(al.cell (p:=⟨w+1,0,none⟩) t1).trans a1;replace cg:=(al.cell (p:=g) tg).trans cg;have hs9:=al.size;clear al;generalize wc.alloc (.cells #[.func (.func 216) #[] #[.pointer (some g),.pointer (some w),.pointer (some ⟨w+1,0,none⟩)]] 240)=w9 at *;generalize wc.heap.size=fb at *;have hmx:max (n:Int) 0=(n:Int):=by omega
  have hwr:IntKind.i64.wrap (colsOf m:Int)=(colsOf m:Int):=IntWalk.i64_in _ (by omega);go_wp2_with fail
  refine (zRY (fn:=216) (caps:=#[.pointer (some g),.pointer (some w),.pointer (some ⟨w+1,0,none⟩)]) (rows:=n) (cols:=colsOf m) (g:=fun i k=>(m.getD i []).getD k 0) hn hc (fun _ _=>rfl) (fun W' i k hb hi hk=>by
   have h9:=zRr (c2:=.pointer (some ⟨w+1,0,none⟩)) (s:=⟨A,n,c⟩) (h.below (hb2.trans (hb.mono hb2.size))) ((hb.cell (p:=g) (by show g<_; omega)).trans cg) ((hb.cell (p:=w) (by show w.heap.size<_; omega)).trans a0) hi hk (by omega) HL.out;simpa using h9)).mono ?_
  rintro e w8 ⟨⟨b,rfl,hbk⟩,hb8⟩
  have em:((List.range n).map fun i=>(List.range (colsOf m)).map fun k=>(m.getD i []).getD k 0)=m.map fun r=>resize r (colsOf m):=by
   rw [<-HLen.out];exact zRi m _
  rw [em] at hbk;have HM:=hdq (hbk.lower hb2.size);have HB:=hdq (hb2.trans (hb8.mono hb2.size));clear hbk hb8 hb2 hb1 h a0 a1 cg em;go_wp2;go_ret;rw [HLen.out];exact ⟨⟨b,rfl,HM.out⟩,HB.out⟩
def RpNew (B V:Nat) (m:List (List Rat)) (bs:List Rat) (p:Value) (W:World):Prop:=
 ∃ g b1 b2 l1 h1 l2 h2,p = .pointer (some ⟨g,0,none⟩)/\B<=g/\B<=l1/\h1<=l2/\¬ (l1<=g/\g<h1)/\¬ (l2<=g/\g<h2)/\Box4 W g (.int .i64 V) (.slice none 0 0) (.slice (some ⟨b1,0,none⟩) m.length m.length) (.slice (some ⟨b2,0,none⟩) bs.length bs.length)/\MPart l1 h1 b1 m W/\VPart l2 h2 b2 bs W
theorem zQI (W:World):Box4 (W.alloc (.cells #[.int .i64 0,.slice none 0 0,.slice none 0 0,.slice none 0 0] 25)) W (.int .i64 0) (.slice none 0 0) (.slice none 0 0) (.slice none 0 0):=bx4
theorem zRu (W:World):Box4 (W.alloc (.cells #[.int .i64 0,.slice none 0 0,.slice none 0 0,.slice none 0 0] 25)).drew W (.int .i64 0) (.slice none 0 0) (.slice none 0 0) (.slice none 0 0):=bx4
theorem zSu {y y1 y2 y3:World} {b1 b2:Nat} {m:List (List Rat)} (h0:B<=y1.heap.size) (h1:MBlk y1 b1 m y2) (h2:y2.heap.size<=y3.heap.size) (h3:y3.heap.size<=b2) (h4:RowAt y (fun x=>x<y3.heap.size\/x=b2) b2 bs) (hb2:Below y2 y2 y3) (hb3:Below y3 y3 y) (hd:d=m.length) {d':Nat} (hd':d'=bs.length) :
  RpNew B V m bs (.pointer (some y)) (y.alloc (.cells #[.int .i64 V,.slice none 0 0,.slice (some b1) d d,.slice (some b2) d' d'] 25)):=by
 subst hd hd';have e1:=hb3.size;have p1:=h1.part;have p2:=VRow.part h3 h4;have hlt:=p1.1
 exact ⟨_,b1,b2,_,_,_,_,rfl,by have:=p1.2.1; omega,h0,h2,by omega,by omega,bx4,p1.keep fun x _ hx=>by
  rw [Below.heap_alloc _ _ _ (by omega),hb3.block x (by omega),hb2.block x hx],p2.keep fun x _ hx=>Below.heap_alloc _ _ _ hx⟩
theorem zRH {y y1 y2 y3:World} {b1 b2:Nat} {m:List (List Rat)} (h0:B<=y1.heap.size) (h1:MBlk y1 b1 m y2) (h2:y2.heap.size<=y3.heap.size) (h3:y3.heap.size<=b2) (h4:RowAt y (fun x=>x<y3.heap.size\/x=b2) b2 bs) (hb2:Below y2 y2 y3) (hb3:Below y3 y3 y) (hd:d=m.length) {d':Nat} (hd':d'=bs.length)
  (hg:B<=g) (hg1:¬ (y1.heap.size<=g/\g<y2.heap.size)) (hg2:g<y3.heap.size) (bx:Box4 y g v0 v1 v2 v3) :
  RpNew B V m bs (.pointer (some g)) ((((y.setCell g (.int .i64 V)).setCell ⟨g,1,none⟩ (.slice none 0 0)).setCell ⟨g,2,none⟩ (.slice (some b1) d d)).setCell ⟨g,3,none⟩ (.slice (some b2) d' d')):=by
 subst hd hd';have P8:=Put.four (W:=y) g (.int .i64 V) (.slice none 0 0) (.slice (some b1) m.length m.length) (.slice (some b2) bs.length bs.length);have p1:=h1.part;have p2:=VRow.part h3 h4
 exact ⟨_,b1,b2,_,_,_,_,rfl,hg,h0,h2,hg1,by omega,bx.stored _ _ _ _,p1.keep fun x hl hx=>by
  rw [P8.keep x (by omega),hb3.block x (by omega),hb2.block x hx],p2.keep fun x hl _=>P8.keep x (by omega)⟩
theorem zRp {l:List Rat} (h:VecIs w X Y L s l) (h1:1<=s.n) (hn:s.n<=1000) (hL:L<=LM) :
  Calls Tryz.prog 35 #[s.val,.int .i64 (s.n:Int)] w fun e w'=>(∃ b,e = .returned (.slice (some ⟨b,0,none⟩) s.n s.n)/\w.heap.size<=b/\RowAt w' (fun x=>x<w.heap.size\/x=b) b l)/\Below w w w':=by
 have hl:=h.len;refine (zLn h s.n hn hL).mono ?_;rintro e w' ⟨h1 | ⟨b,rfl,hb,hR⟩,hB⟩
 ·omega
 ·rw [zNR hl,hl] at *;exact ⟨⟨b,rfl,hb,hR⟩,hB⟩
theorem zRs {m:List (List Rat)} (h:MatIs w X Y L s m) (hn:s.n<=100000) (hc:colsOf m<=100000) (hL:L<=LM) :
  Calls Tryz.prog 182 #[s.val,.slice none 0 0] w fun e w'=>(∃ b,e = .returned (.slice (some ⟨b,0,none⟩) s.n s.n)/\MBlk w b (m.map fun r=>resize r (colsOf m)) w')/\Below w w w':=by
 have hl:=h.len;refine (zRD h hn hc hL).mono ?_;rw [hl];exact fun _ _ h=>h
theorem zSH (h:∀ i k,QFit (L+1) ((rs.getD i []).getD k 0)) (c i k:Nat):QFit (L+1) (((rs.map fun r=>resize r c).getD i []).getD k 0):=by
 by_cases hi:i<rs.length
 ·rw [show (rs.map fun r=>resize r c).getD i []=resize (rs.getD i []) c by simp [List.getD,hi]];exact zNC (h i) c k
 ·rw [zAw (rs.map fun r=>resize r c) i [] (by simpa using hi)];have:=h rs.length k;rw [zAw rs _ _ (nlr _)] at this;exact this
theorem zSF {wc:World} {S:Nat->Prop} {b1 b2 l1 h1 l2 h2:Nat} {m:List (List Rat)} {c:SV} (hbe:Below w w wc) (hr:w.heap.size<=r) (hl:r<l1) (h12:h1<=l2) (p1:MPart l1 h1 b1 m wc) (p2:VPart l2 h2 b2 bs wc) (hi:row<m.length) (hib:row<bs.length) (hcl:VecIs w S S L c cl) (hz:QCan w S z q) (hq:QFit L q) (fm:∀ i k,QFit L ((m.getD i []).getD k 0)) (fb:∀ k,QFit L (bs.getD k 0)) (lm:m.length<=1000) (lb:bs.length<=1000) :
  MatIs (put4 (wc.setCell ⟨b1,row,none⟩ c.val) b2 row z) (fun x=>x ≠ r/\(S x\/w.heap.size<=x)) (fun x=>x ≠ r/\(S x\/w.heap.size<=x)) L ⟨some ⟨b1,0,none⟩,m.length,m.length⟩ (m.set row cl)/\VecIs (put4 (wc.setCell ⟨b1,row,none⟩ c.val) b2 row z) (fun x=>x ≠ r/\(S x\/w.heap.size<=x)) (fun x=>x ≠ r/\(S x\/w.heap.size<=x)) L ⟨some ⟨b2,0,none⟩,bs.length,bs.length⟩ (bs.set row q)/\Below w w (put4 (wc.setCell ⟨b1,row,none⟩ c.val) b2 row z):=by
 obtain ⟨g1,g2,cs,sv,g3,g4,g5⟩:=p1;obtain ⟨k1,k2,hR⟩:=p2;have n3:b1 ≠ b2:=by omega
 have hb:=zBq (hbe.setCell (p:=⟨b1,row,none⟩) (by show w.heap.size<=b1; omega) c.val) (b:=b2) (by omega) row z
 have kp:∀ x,x ≠ b1->x ≠ b2->(put4 (wc.setCell ⟨b1,row,none⟩ c.val) b2 row z).heap[x]?=wc.heap[x]?:=fun x e1 e2=>by
  rw [zAx _ _ _ _ e2,bhs _ _ _ _ e1]
 have e1:(put4 (wc.setCell ⟨b1,row,none⟩ c.val) b2 row z).heap[b1]?=some (.cells (cs.setIfInBounds row c.val) 23 (0,0)):=by
  rw [zAx _ _ _ _ n3]; exact zAe _ g3
 have hR2:RowAt (wc.setCell ⟨b1,row,none⟩ c.val) (fun x=>x=b1\/x=b2\/x=r\/(x<w.heap.size/\¬ S x)) b2 bs:=by
  refine RowAt.keep (w:=wc) ⟨.inr (.inl rfl),hR.blk,fun k hk=>?_⟩ (bhs _ _ _ _ (Ne.symm n3)) fun p hp _=>cob (bhs _ _ _ _ fun e=>hp (.inl e))
  obtain ⟨v,h1,h2⟩:=hR.elem k hk;exact ⟨v,h1,h2.imp fun x _ hx=>by have:=Classical.not_not.1 hx; omega⟩
 have hz2:QCan (wc.setCell ⟨b1,row,none⟩ c.val) (fun x=>¬ (x=b1\/x=b2\/x=r\/(x<w.heap.size/\¬ S x))) z q:=
  ((hz.imp (Y:=fun x=>x<w.heap.size/\S x) fun b hb hs=>⟨hb,hs⟩).below (hbe.setCell (p:=⟨b1,row,none⟩) (by show w.heap.size<=b1; omega) c.val)).imp fun b _ hb hg=>by
   rcases hg with e | e | e | e
   ·have:=hb.1; omega
   ·have:=hb.1; omega
   ·have:=hb.1; omega
   ·exact e.2 hb.2
 have hR3:=hR2.put4 hib hz2;refine ⟨⟨by simp,nlr _,by dsimp only; omega,fun i hi'=>?_⟩,?_,hb⟩
 ·dsimp only at hi';by_cases e:i=row
  ·subst e;refine ⟨⟨b1,0,none⟩,c,rfl,⟨by dsimp only; omega,.inr (by dsimp only; omega)⟩,?_,?_⟩
   ·rw [zA4,Nat.zero_add]; simp only [World.cell?,e1]; simp [g4,hi]
   ·rw [show (m.set i cl).getD i []=cl by simp [List.getD,hi]];exact ((hcl.imp (X':=fun x=>x<w.heap.size/\S x) (R':=QIs w (fun x=>x<w.heap.size/\S x) L) (fun b hb hs=>⟨hb,hs⟩) fun v q hq=>hq.imp fun b hb hs=>⟨hb,hs⟩).below hb).imp (fun b _ hb=>⟨by have:=hb.1; omega,.inl hb.2⟩) fun v q hq=>hq.imp fun b _ hb=>⟨by have:=hb.1; omega,.inl hb.2⟩
  ·obtain ⟨j1,j2⟩:=g5 i hi';refine ⟨⟨b1,0,none⟩,sv i,rfl,⟨by dsimp only; omega,.inr (by dsimp only; omega)⟩,?_,?_⟩
   ·rw [zA4,Nat.zero_add]; simp only [World.cell?,e1]; simp [Ne.symm e,j1]
   ·rw [show (m.set row cl).getD i []=m.getD i [] by simp [List.getD,Ne.symm e]];have hk:∀ a:Addr,(l1<=a.block/\a.block<h1/\a.block ≠ b1)->a.block<wc->(put4 (wc.setCell ⟨b1,row,none⟩ c.val) b2 row z).cell? a=wc.cell? a:=(fun a ha _=>cob (kp _ ha.2.2 (by omega)));exact ((j2.keep (w':=put4 (wc.setCell ⟨b1,row,none⟩ c.val) b2 row z) hk fun v q hq=>hq.keep hk).loose (fun k=>fm i k)).imp (fun b _ hb=>⟨by omega,.inr (by omega)⟩) fun v q hq=>hq.imp fun b _ hb=>⟨by omega,.inr (by omega)⟩
 ·have hv:=(hR3.vec (by rw [List.length_set]; omega) _ (nlr _) (by rw [List.length_set]; omega)).loose (L:=L) fun k=>by
   by_cases e:row=k
   ·subst e; simp [List.getD,hib,hq]
   ·rw [show (bs.set row q).getD k 0=bs.getD k 0 by simp [List.getD,e]]; exact fb k
  rw [List.length_set] at hv
  exact hv.imp (fun b _ hb=>⟨by omega,.inr (by omega)⟩) fun v q hq=>hq.imp fun b _ hb=>⟨fun e=>hb (.inr (.inr (.inl e))),by
   rcases Nat.lt_or_ge b w with h | h
   ·exact .inl (Classical.not_not.1 fun hs=>hb (.inr (.inr (.inr ⟨h,hs⟩))))
   ·exact .inr h⟩
def RepOut (w w':World) (L row:Nat) (c:SV) (z:QV) (R B:SV) (m:List (List Rat)) (cl bs:List Rat) (q:Rat):Prop:=
 ∀ S:Nat->Prop,VecIs w S S (L+1) c cl->QCan w S z q->MatIs w' (fun x=>S x\/w.heap.size<=x) (fun x=>S x\/w.heap.size<=x) (L+1) R (m.set row cl)/\VecIs w' (fun x=>S x\/w.heap.size<=x) (fun x=>S x\/w.heap.size<=x) (L+1) B (bs.set row q)
theorem zQY {c:SV} (h:LPIs w X Y L p os rs bs) (hn:p.n=V) (hr:p.R.n<=128) (hb:p.B.n=p.R.n) (hcr:colsOf rs<=1000) (hi:row<p.R.n) (hL:L<=LM) (hzf:QFit (L+1) q) :
  Calls Tryz.prog 126 #[p.val,.int .i64 (row:Int),c.val,z.val] w fun e w'=>(∃ s:LPV,e = .returned s.val/\s.n=V/\s.O=⟨none,0,0⟩/\s.R.n=p.R.n/\s.B.n=p.R.n/\RepOut w w' L row c z s.R s.B (rs.map fun r=>resize r (colsOf rs)) cl bs q)/\Below w w w':=by
 obtain ⟨n,⟨oA,on,oc⟩,⟨rA,rn,rc⟩,⟨bA,bn,bc⟩⟩:=p;obtain ⟨cA,cn,cc⟩:=c;dsimp only at hn hr hb hi;subst hn hb;have HL:=hdq hL;have H:=hdq h;have HCr:=hdq hcr;have Hm:Hid (bn=(rs.map fun r=>resize r (colsOf rs)).length):=by show _=_; rw [List.length_map]; exact h.rows.len.symm
 have Hb:Hid (bn=bs.length):=h.bounds.len.symm;have HZF:=hdq hzf;clear hL h hcr hzf;dsimp only [LPV.val,SV.val];go_enter Tryz.func126,Tryz.ntmps126
 go_upto_region 1 with fail
 refine zAo (fun W=>Below w w W/\Box4 W w (.int .i64 V) (.slice oA on oc) (.slice rA bn rc) (.slice bA bn bc)/\Box4 W (w+1) (.bool z.num.ng) (.slice z.num.A z.num.n z.num.c) (.bool z.den.ng) (.slice z.den.A z.den.n z.den.c)/\Box4 W (w+1+1) (.int .i64 0) (.slice none 0 0) (.slice none 0 0) (.slice none 0 0)/\w.heap.size<W.heap.size/\w.heap.size+1<W.heap.size/\w.heap.size+1+1<W.heap.size) ⟨(az (az (az (brf _ _)))),bx4,bx4,bx4,by simp <;> omega,by simp <;> omega,by simp <;> omega⟩ ?_;rintro W ⟨hbW,bP,bQ,bR,s0,s1,s2⟩;have hBW:=hbW.size;have ne02:¬ (w.heap.size=w.heap.size+1+1):=by omega
 obtain ⟨p0,p1,p2,p3,-⟩:=id bP;go_cut [9] from 10 to 22 (fun p W'=>RpNew W V (rs.map fun r=>resize r (colsOf rs)) bs p W'/\Below W W W')
 case first=>
  go_region_held3 (Sees w [] W) (exact kp)
   (first
    | (go_at_call 182; ((with_reducible refine (zRs (s:=⟨rA,bn,rc⟩) (H.out.rows.below (hbW.trans ((Sees.kept (by assumption)).whole.mono hBW))) (by show bn<=_; omega) (nlt HCr.out (by omega)) HL.out).mono ?_); rintro e y1 ⟨⟨b1,rfl,hm⟩,hc1⟩; (have sz1:W.heap.size<=y1.heap.size:=by exact nlt (Sees.kept (by assumption):Kept w [] W _).size hc1.size); (have lt1:=fun (b:Nat) h=>ltl (n:=b) h hc1.size); (obtain ⟨hcc1,hf1⟩:=bcell hc1)))
    | (go_at_call 35; ((with_reducible refine (zRp (s:=⟨bA,bn,bc⟩) (H.out.bounds.below (hbW.trans ((Sees.kept (by assumption)).whole.mono hBW))) (by show 1<=bn; omega) (by show bn<=_; omega) HL.out).mono ?_); rintro e y2 ⟨⟨b2,rfl,hb2,hv⟩,hc2⟩; (have sz2:W.heap.size<=y2.heap.size:=by exact nlt (Sees.kept (by assumption):Kept w [] W _).size hc2.size); (have lt2:=fun (b:Nat) h=>ltl (n:=b) h hc2.size); (obtain ⟨hcc2,hf2⟩:=bcell hc2)))
    | fail)
  focus
   rename_i hS;(go_wp2_with fail);go_meet;case rel=>exact ⟨zSu (nlr _) hm (nlr _) hb2 hv (brf _ _) hc2 Hm.out Hb.out,hS.kept.whole⟩
  focus
   rename_i hS;(go_wp2_with fail);go_meet;case rel=>exact ⟨zRH (nlr _) hm (by simp) hb2 hv (bal) hc2 Hm.out Hb.out sz1 (by omega) (by simp) ((zQI y1).below hc2 (by simp)),hS.kept.whole⟩
  focus
   rename_i hS;(go_wp2_with fail);go_meet;case rel=>exact ⟨zRH (by simp) hm (nlr _) hb2 hv (brf _ _) hc2 Hm.out Hb.out (nlr _) (by simp; omega) (lt1 _ (by simp)) (((zRu W).below hc1 (by simp)).below hc2 (lt1 _ (by simp))),hS.kept.whole⟩
 case rest=>
  obtain ⟨⟨g,b1,b2,l1,h1,l2,h2,rfl,hg,hl1,h12,hg1,hg2,bG,hM,hV2⟩,hbc⟩:=hcut;have bQ':=bQ.below hbc s1;have bR':=bR.below hbc s2;have hbW':=hbW.trans (hbc.mono hBW);rw [<-Hm.out,<-Hb.out] at bG;obtain ⟨g0,g1,g2,g3,-⟩:=id bG;obtain ⟨q0,q1,q2,q3,-⟩:=id bQ';clear p0 p1 p2 p3 bP bQ bR hbc;have sg:=zAb g0;dsimp only at sg;obtain ⟨hM1,hM2,cs,sv,hM3,hM4,hM5⟩:=id hM;obtain ⟨hV3,hV4,hR⟩:=id hV2;obtain ⟨zv,⟨d0,d1,d2,d3⟩,-⟩:=hR.elem row (by rw [<-Hb.out]; omega);have hcs:row<cs.size:=by rw [hM4,<-Hm.out]; exact hi
  have y0:(wc.cell? ⟨b1,row,none⟩).isSome=true:=by simp only [World.cell?,hM3]; simp [hcs]
  obtain ⟨yv,hyv⟩:=Option.isSome_iff_exists.1 y0;have yf:∀ o,wc.frozen? ⟨b1,o,none⟩=false:=fun o=>by simp [World.frozen?,hM3]
  have fz:=hR.frozen;dsimp only at d1 d2 d3;have n1:b1 ≠ g:=fun e=>hg1 (e ▸ ⟨hM1,hM2⟩)
  have n2:b2 ≠ g:=fun e=>hg2 (e ▸ ⟨hV3,hV4⟩)
  have n3:b1 ≠ b2:=by omega
  have hii:(row:Int)<(bn:Int):=by omega
  clear hM hV2 hg1 hg2;go_upto_region 2 with fail
  refine zAp 11 (fun _ w'=>(w'.cell? ⟨g,2,none⟩=some (.slice (some b1) bn bn)/\w'.cell? ⟨g,3,none⟩=some (.slice (some b2) bn bn))/\w'.cell? ⟨w+1,0,none⟩=some (.bool z.num.ng)/\w'.cell? ⟨w.heap.size+1,1,none⟩=some (.slice z.num.A z.num.n z.num.c)/\w'.cell? ⟨w.heap.size+1,2,none⟩=some (.bool z.den.ng)/\w'.cell? ⟨w.heap.size+1,3,none⟩=some (.slice z.den.A z.den.n z.den.c)) (by kernel_rfl) ?_;have hS0:(wc.drew.cell? ⟨g,2,none⟩=some (.slice (some b1) bn bn)/\wc.drew.cell? ⟨g,3,none⟩=some (.slice (some b2) bn bn))/\wc.drew.cell? ⟨w+1,0,none⟩=some (.bool z.num.ng)/\wc.drew.cell? ⟨w.heap.size+1,1,none⟩=some (.slice z.num.A z.num.n z.num.c)/\wc.drew.cell? ⟨w.heap.size+1,2,none⟩=some (.bool z.den.ng)/\wc.drew.cell? ⟨w.heap.size+1,3,none⟩=some (.slice z.den.A z.den.n z.den.c):=⟨⟨g2,g3⟩,q0,q1,q2,q3⟩;refine tx4 0 1 2 3 hS0 ?_;refine tx4 4 5 6 7 hS0 ?_;refine tk1 8 ?_;intro K hK;go_simp;refine hK.out _ _ hS0 ?_;clear hK K;refine tk1 9 ?_;intro K hK;go_simp
  have hS1:((wc.setCell ⟨b1,row,none⟩ (.slice cA cn cc)).drew.cell? ⟨g,2,none⟩=some (.slice (some b1) bn bn)/\(wc.setCell ⟨b1,row,none⟩ (.slice cA cn cc)).drew.cell? ⟨g,3,none⟩=some (.slice (some b2) bn bn))/\(wc.setCell ⟨b1,row,none⟩ (.slice cA cn cc)).drew.cell? ⟨w+1,0,none⟩=some (.bool z.num.ng)/\(wc.setCell ⟨b1,row,none⟩ (.slice cA cn cc)).drew.cell? ⟨w.heap.size+1,1,none⟩=some (.slice z.num.A z.num.n z.num.c)/\(wc.setCell ⟨b1,row,none⟩ (.slice cA cn cc)).drew.cell? ⟨w.heap.size+1,2,none⟩=some (.bool z.den.ng)/\(wc.setCell ⟨b1,row,none⟩ (.slice cA cn cc)).drew.cell? ⟨w.heap.size+1,3,none⟩=some (.slice z.den.A z.den.n z.den.c):=by
   have kk:∀ p:Addr,p.block ≠ b1->(wc.setCell ⟨b1,row,none⟩ (.slice cA cn cc)).drew.cell? p=wc.cell? p:=(fun p hp=>cob (bhs _ _ _ _ hp));exact ⟨⟨(kk _ (by show g ≠ b1; omega)).trans g2,(kk _ (by show g ≠ b1; omega)).trans g3⟩,(kk _ (by show w.heap.size+1 ≠ b1; omega)).trans q0,(kk _ (by show w.heap.size+1 ≠ b1; omega)).trans q1,(kk _ (by show w.heap.size+1 ≠ b1; omega)).trans q2,(kk _ (by show w.heap.size+1 ≠ b1; omega)).trans q3⟩
  refine hK.out _ _ hS1 ?_;clear hK K;refine tk1 10 ?_;intro K hK;go_simp;refine hK.out _ _ hS1 ?_;clear hK K;refine tk1 11 ?_;intro K hK;go_simp;have HA:=fun (S:Nat->Prop) hcl hz=>zSF (S:=S) (r:=w+1+1) (c:=⟨cA,cn,cc⟩) (z:=z) (cl:=cl) (L:=L+1) hbW' (by omega) (by omega) h12 ⟨hM1,hM2,cs,sv,hM3,hM4,hM5⟩ ⟨hV3,hV4,hR⟩ (by rw [<-Hm.out]; exact hi) (by rw [<-Hb.out]; exact hi) hcl hz HZF.out (fun i k=>zSH H.out.rows.fit _ i k) H.out.bounds.fit (by rw [<-Hm.out]; omega) (by rw [<-Hb.out]; omega)
  have HB:=zBq (hbW'.setCell (p:=⟨b1,row,none⟩) (by show w.heap.size<=b1; omega) (.slice cA cn cc)) (b:=b2) (by omega) row z;rw [<-Hm.out,<-Hb.out] at HA;replace HA:=hdq HA;have bG':Box4 (put4 (wc.setCell ⟨b1,row,none⟩ (.slice cA cn cc)) b2 row z) g (.int .i64 V) (.slice none 0 0) (.slice (some b1) bn bn) (.slice (some b2) bn bn):=bG.heap ((zAx _ _ _ _ (Ne.symm n2)).trans (bhs _ _ _ _ (Ne.symm n1)));have bR2:Box4 (put4 (wc.setCell ⟨b1,row,none⟩ (.slice cA cn cc)) b2 row z) (w+1+1) (.int .i64 0) (.slice none 0 0) (.slice none 0 0) (.slice none 0 0):=bR'.heap ((zAx _ _ _ _ (by omega)).trans (bhs _ _ _ _ (by show w.heap.size+1+1 ≠ b1; omega)));refine hK.out _ _ (?_:_/\_) ?_
  ·have kk:∀ p:Addr,p.block ≠ b1->p.block ≠ b2->(put4 (wc.setCell ⟨b1,row,none⟩ (.slice cA cn cc)) b2 row z).drew.cell? p=wc.cell? p:=(fun p hp hp2=>cob ((zAx _ _ _ _ hp2).trans (bhs _ _ _ _ hp)));exact ⟨⟨(kk _ (Ne.symm n1) (Ne.symm n2)).trans g2,(kk _ (Ne.symm n1) (Ne.symm n2)).trans g3⟩,(kk _ (by show w.heap.size+1 ≠ b1; omega) (by show w.heap.size+1 ≠ b2; omega)).trans q0,(kk _ (by show w.heap.size+1 ≠ b1; omega) (by show w.heap.size+1 ≠ b2; omega)).trans q1,(kk _ (by show w.heap.size+1 ≠ b1; omega) (by show w.heap.size+1 ≠ b2; omega)).trans q2,(kk _ (by show w.heap.size+1 ≠ b1; omega) (by show w.heap.size+1 ≠ b2; omega)).trans q3⟩
  clear hK K;refine zAf (by kernel_rfl) ?_ _;clear hS0 hS1 q0 q1 q2 q3 g0 g1 g2 g3 d0 d1 d2 d3 hyv y0 yf fz hM3 hM4 hM5 hR bQ' bR' bG;show Exit.then _ _ Exit.normal _ (put4 (wc.setCell ⟨b1,row,none⟩ (.slice cA cn cc)) b2 row z).drew;generalize put4 (wc.setCell ⟨b1,row,none⟩ (.slice cA cn cc)) b2 row z=WF at *;obtain ⟨g0,g1,g2,g3,-⟩:=id bG';obtain ⟨r0,r1,r2,r3,rf⟩:=id bR2;have P8:=Put.four (W:=WF) (w+1+1) (.int .i64 V) (.slice none 0 0) (.slice (some b1) bn bn) (.slice (some b2) bn bn);have bR8:=bR2.stored (.int .i64 V) (.slice none 0 0) (.slice (some b1) bn bn) (.slice (some b2) bn bn);have hbf:=HB.trans (P8.below _ (by omega))
  have HO:Hid (RepOut w ((((WF.setCell ⟨w+1+1,0,none⟩ (.int .i64 V)).setCell ⟨w.heap.size+1+1,1,none⟩ (.slice none 0 0)).setCell ⟨w.heap.size+1+1,2,none⟩ (.slice (some b1) bn bn)).setCell ⟨w.heap.size+1+1,3,none⟩ (.slice (some b2) bn bn)).drew L row ⟨cA,cn,cc⟩ z ⟨some ⟨b1,0,none⟩,bn,bn⟩ ⟨some ⟨b2,0,none⟩,bn,bn⟩ (rs.map fun r=>resize r (colsOf rs)) cl bs q):=fun S hcl hz=>by
   obtain ⟨g1,g2,-⟩:=HA.out S hcl hz;have kx:∀ a:Addr,(a.block ≠ w.heap.size+1+1/\(S a.block\/w.heap.size<=a.block))->a.block<WF->((((WF.setCell ⟨w+1+1,0,none⟩ (.int .i64 V)).setCell ⟨w.heap.size+1+1,1,none⟩ (.slice none 0 0)).setCell ⟨w.heap.size+1+1,2,none⟩ (.slice (some b1) bn bn)).setCell ⟨w.heap.size+1+1,3,none⟩ (.slice (some b2) bn bn)).drew.cell? a=WF.cell? a:=fun a ha _=>cob (P8.keep _ ha.1)
   exact ⟨(g1.keep (R':=QIs _ (fun x=>x ≠ w.heap.size+1+1/\(S x\/w.heap.size<=x)) (L+1)) kx fun v q hq=>hq.keep kx).imp (X':=fun x=>S x\/w.heap.size<=x) (R':=QIs _ (fun x=>S x\/w.heap.size<=x) (L+1)) (fun _ _ h=>h.2) fun v q hq=>hq.imp fun _ _ h=>h.2,
    (g2.keep (R':=QIs _ (fun x=>x ≠ w.heap.size+1+1/\(S x\/w.heap.size<=x)) (L+1)) kx fun v q hq=>hq.keep kx).imp (X':=fun x=>S x\/w.heap.size<=x) (R':=QIs _ (fun x=>S x\/w.heap.size<=x) (L+1)) (fun _ _ h=>h.2) fun v q hq=>hq.imp fun _ _ h=>h.2⟩
  have HBF:=hdq hbf;clear hbf P8 HA;go_wp2;clear r0 r1 r2 r3 rf;obtain ⟨r0,r1,r2,r3,-⟩:=id bR8;try rw [Exit.noGoto_ret]
  exact bodyPost_ret (v:=.agg #[.int .i64 V,.slice none 0 0,.slice (some b1) bn bn,.slice (some b2) bn bn]) (by simp [results,Tryz.results126,go_sem,r0,r1,r2,r3]) rfl ⟨⟨⟨V,⟨none,0,0⟩,⟨some ⟨b1,0,none⟩,bn,bn⟩,⟨some ⟨b2,0,none⟩,bn,bn⟩⟩,rfl,rfl,rfl,rfl,rfl,HO.out⟩,HBF.out.drew⟩
theorem zR7 {la lb:List Rat} (ha:VecIs w X Y L sa la) (hb:VecIs w X' Y' M sb lb) (hL:L<=LM) (hM:M<=LM) (hna:sa.n<=1000000) (hnb:sb.n<=1000000) :
  Calls Tryz.prog 129 #[sa.val,sb.val] w fun e w'=>VRet w ((List.range (max sa.n sb.n)).map fun i=>la.getD i 0-lb.getD i 0) e w'/\Below w w w':=by
 have HC:=hdq (zFh (f:=113) (caps:=#[]) (g:=fun i=>la.getD i 0-lb.getD i 0) ha hb hna hnb (fun args w=>rfl) (fun W x y i _ hx hy=>zDx (a:=x) (b:=y) hx hy hL hM));clear ha hb hL hM hna hnb;obtain ⟨A,n,c⟩:=sa;obtain ⟨B,m,d⟩:=sb;dsimp only [SV.val] at *;go_enter Tryz.func129,Tryz.ntmps129
 go_wp2_with fail
 refine HC.out.mono ?_;rintro e w1 ⟨⟨z,rfl,hz⟩,hb1⟩;go_wp2;go_ret;exact ⟨⟨z,rfl,hz⟩,hb1⟩
abbrev FrS (B c0 c1 row n c:Nat) (ad:Addr) (v z:QV) (_:Bool) (w':World):Prop:=
 (w'.cell? B=some (.bool z.num.ng)/\w'.cell? ⟨B,1,none⟩=some (.slice z.num.A z.num.n z.num.c)/\w'.cell? ⟨B,2,none⟩=some (.bool z.den.ng)/\w'.cell? ⟨B,3,none⟩=some (.slice z.den.A z.den.n z.den.c))/\w'.cell? ⟨c0,3,none⟩=some (.slice (some ad) n c)/\w'.cell? c1=some (.int .i64 (row:Int))/\w'.cell? (ad.add (row*4))=some (.bool v.num.ng)/\w'.cell? ⟨(ad.add (row*4)).block,(ad.add (row*4)).off+1,none⟩=some (.slice v.num.A v.num.n v.num.c)/\w'.cell? ⟨(ad.add (row*4)).block,(ad.add (row*4)).off+2,none⟩=some (.bool v.den.ng)/\w'.cell? ⟨(ad.add (row*4)).block,(ad.add (row*4)).off+3,none⟩=some (.slice v.den.A v.den.n v.den.c)
theorem cellK {p:Addr} (hb:Below w w w') (h:w.cell? p=some v):w'.cell? p=some v:=(hb.cell (zAb h)).trans h
theorem zRE {v:QV} {b:Bool} (h:FrS B c0 c1 row n c ad v z b w) (hb:Below w w w'):FrS B c0 c1 row n c ad v z b w':=by
 obtain ⟨⟨a0,a1,a2,a3⟩,a4,a5,a6,a7,a8,a9⟩:=h;exact ⟨⟨cellK hb a0,cellK hb a1,cellK hb a2,cellK hb a3⟩,cellK hb a4,cellK hb a5,cellK hb a6,cellK hb a7,cellK hb a8,cellK hb a9⟩
theorem zSf {v:QV} {b:Bool} (h:FrS B c0 c1 row n c ad v z b w) (g0:c0 ≠ g) (g1:c1 ≠ g) (g2:ad.block ≠ g) (hk:∀ p:Addr,p.block ≠ g->w'.cell? p=w.cell? p) (gB:B ≠ g):FrS B c0 c1 row n c ad v z b w':=by
 obtain ⟨⟨a0,a1,a2,a3⟩,a4,a5,a6,a7,a8,a9⟩:=h;exact ⟨⟨(hk _ gB).trans a0,(hk _ gB).trans a1,(hk _ gB).trans a2,(hk _ gB).trans a3⟩,(hk _ g0).trans a4,(hk _ g1).trans a5,(hk _ (by rw [zAj]; exact g2)).trans a6,(hk _ (by show (ad.add _).block ≠ g; rw [zAj]; exact g2)).trans a7,(hk _ (by show (ad.add _).block ≠ g; rw [zAj]; exact g2)).trans a8,(hk _ (by show (ad.add _).block ≠ g; rw [zAj]; exact g2)).trans a9⟩
theorem zRZ {l:List Rat} (h:VecIs w X Y L s l) (b3:w.cell? ⟨c0,3,none⟩=some s.val) (b1:w.cell? c1=some (.int .i64 (row:Int))) (hi:row<s.n) (hz:QIs w Z M z q) (hs:QFit N (q+l.getD row 0)) (hL:L<=LM) (hM:M<=LM) (hN:N<=LM) :
  Calls Tryz.prog 127 #[z.val,.pointer (some c0),.pointer (some c1)] w fun e w'=>QRet w (-(q+l.getD row 0)) e w'/\Below w w w':=by
 have HL:=hdq hL;have HM:=hdq hM;have HN:=hdq hN;have HS:=hdq hs;have HZ:=hdq hz;obtain ⟨ad,v,ea,-,hv,hq⟩:=h.elem row hi;obtain ⟨A,n,c⟩:=s;dsimp only at ea hi;subst ea;have HQ:=hdq hq;have g0:=zAb b3;have g1:=zAb b1;have g2:=zAb hv.1;rw [zAj] at g2;dsimp only at g0 g1;clear hL hM hN hs hz hq h;dsimp only [SV.val] at b3;go_enter Tryz.func127,Tryz.ntmps127
 go_upto_region 1 with fail
 refine zAo (fun W=>Below w w W/\Box4 W w (.bool z.num.ng) (.slice z.num.A z.num.n z.num.c) (.bool z.den.ng) (.slice z.den.A z.den.n z.den.c)/\Box4 W (w+1) (.bool false) (.slice none 0 0) (.bool false) (.slice none 0 0)/\w.heap.size<W.heap.size/\w.heap.size+1<W.heap.size) ⟨(az (az (brf _ _))),bx4,bx4,by simp <;> omega,by simp <;> omega⟩ ?_;rintro W ⟨hbW,bZ,bR,s0,s1⟩;have hBW:=hbW.size;obtain ⟨z0,z1,z2,z3,-⟩:=id bZ;obtain ⟨r0,r1,r2,r3,rf⟩:=id bR;have k3:W.cell? ⟨c0,3,none⟩=_:=(hbW.cell (zAb b3)).trans b3;have k1:W.cell? c1=_:=(hbW.cell (zAb b1)).trans b1;have kv:QCell W (ad.add (row*4)) v:=hv.keep fun a ha hl=>hbW.cell (ha ▸ hl)
 obtain ⟨e0,e1,e2,e3⟩:=id kv;have l3:=zAb k3;have l1:=zAb k1;have lv:=zAb e0;have hii:(row:Int)<(n:Int):=by omega
 clear b3 b1 hv kv;refine zAp 8 (FrS w c0 c1 row n c ad v z) (by kernel_rfl) ?_;have hS0:FrS w c0 c1 row n c ad v z false W.drew:=⟨⟨z0,z1,z2,z3⟩,k3,k1,e0,e1,e2,e3⟩;refine tx4 0 1 2 3 hS0 ?_;refine tx1 4 hS0 ?_;refine tx1 5 hS0 ?_;refine tk1 6 ?_;intro K hK;go_simp;have hd:Below W W W.drew:=(brf _ _).drew;refine (zCD (a:=z) (b:=v) (HZ.out.below (hbW.trans (hd.mono hBW))) (HQ.out.below (hbW.trans (hd.mono hBW))) HM.out HL.out).mono ?_;rintro e w1 ⟨⟨x,rfl,hx⟩,hb1⟩;have h1:Below W W w1:=hd.trans hb1;have hS1:=zRE hS0 hb1;refine hK.out _ _ hS1 ?_;clear hK K;refine tk1 7 ?_;intro K hK;go_simp;refine (zHK (a:=x) (hx.qis HS.out) HN.out).mono ?_;rintro e w2 ⟨⟨y,rfl,hy⟩,hb2⟩;have h2:Below W W w2:=h1.trans (hb2.mono h1.size);have hS2:=zRE hS1 hb2;refine hK.out _ _ hS2 ?_;clear hK K;have bR2:=bR.below h2 s1;have hb02:=hbW.trans (h2.mono hBW);have h12:=h1.size;clear hS0 hS1 z0 z1 z2 z3 k3 k1 e0 e1 e2 e3 l3 l1 lv r0 r1 r2 r3 rf hb1 hb2 hx hd h1 h2 bZ bR;obtain ⟨r0,r1,r2,r3,rf⟩:=id bR2;obtain ⟨v0,v1,v2,v3,-⟩:=bR2.stored (.bool y.num.ng) (.slice y.num.A y.num.n y.num.c) (.bool y.den.ng) (.slice y.den.A y.den.n y.den.c);have HB:=hdq (zAl (x0:=.bool y.num.ng) (x1:=.slice y.num.A y.num.n y.num.c) (x2:=.bool y.den.ng) (x3:=.slice y.den.A y.den.n y.den.c) (b:=w+1) hb02 (by omega));have HY:=hdq ((hy.set4 (b:=w+1) (x0:=.bool y.num.ng) (x1:=.slice y.num.A y.num.n y.num.c) (x2:=.bool y.den.ng) (x3:=.slice y.den.A y.den.n y.den.c) (by omega)).lower (show w.heap.size<=_ by omega));have hS3:=zSf (w':=(((w2.setCell ⟨w+1,0,none⟩ (.bool y.num.ng)).setCell ⟨w.heap.size+1,1,none⟩ (.slice y.num.A y.num.n y.num.c)).setCell ⟨w.heap.size+1,2,none⟩ (.bool y.den.ng)).setCell ⟨w.heap.size+1,3,none⟩ (.slice y.den.A y.den.n y.den.c)) hS2 (by omega) (by omega) (by omega) (fun p hp=>cob ((Put.four _ _ _ _ _).keep _ hp)) (by omega);clear hS2 hy hb02;refine tk1 8 ?_;intro K hK;go_simp;refine hK.out _ _ hS3 ?_;clear hK K;refine zAf (by kernel_rfl) ?_ _;go_wp2;try rw [Exit.noGoto_ret]
 exact bodyPost_ret (v:=y.val) (by simp [results,Tryz.results127,go_sem,v0,v1,v2,v3]) rfl ⟨⟨y,rfl,HY.out⟩,HB.out⟩
end Go.Proofs.YtbpngececjihlaaGreat
