/- Texts McAddS McAdd McSpC MpF MpG of this claim. -/
import Derived.Test.YtjancagcmghfjaaGreatW21
import Derived.Test.YtjancagcmghfjaaGreatW20
set_option maxHeartbeats 4000000
set_option maxRecDepth 40000
namespace Go.Proofs.YtjancagcmghfjaaGreat
open Go.RowKit
variable {p q:Rat} {L M N b B:Nat} {X Y X' Y' G:Nat->Prop} {w:World} {s sa sb:SV}
theorem zHp {Z:Nat->Prop} {x y kv:QV} {k:Rat} (hx:QIs w X L x p) (hy:QIs w Y M y q) (hk:QIs w Z N kv k) (hbox:w.heap[b]?=some (.cells #[.bool kv.num.ng,.slice kv.num.A kv.num.n kv.num.c,.bool kv.den.ng,.slice kv.den.A kv.den.n kv.den.c] 80 (0,0))) (hL:L<=LM) (hM:M<=LM) (hN:N<=LM) (hf:QFit LM (k*p)) :
  Calls Tryz.prog 226 #[x.val,y.val,.pointer (some b)] w fun e w'=>QRet w (k*p+q) e w'/\Below w w w':=by
 have HX:=hdq hx.old;have HY:=hdq hy.old;have HKv:=hdq hk.old;have HL:=hdq hL;have HM:=hdq hM;have HN:=hdq hN;have HF:=hdq hf;have hbl:=zAa hbox;clear hx hy hk hL hM hN hf;go_enter Tryz.func226,Tryz.ntmps226
 go_wp2;refine zAo (fun W=>Below w w W/\Box4 W w (.bool x.num.ng) (.slice x.num.A x.num.n x.num.c) (.bool x.den.ng) (.slice x.den.A x.den.n x.den.c)/\Box4 W (w+1) (.bool y.num.ng) (.slice y.num.A y.num.n y.num.c) (.bool y.den.ng) (.slice y.den.A y.den.n y.den.c)/\Box4 W (w+1+1) (.bool false) (.slice none 0 0) (.bool false) (.slice none 0 0)/\w.heap.size<W.heap.size/\w.heap.size+1<W.heap.size/\w.heap.size+1+1<W.heap.size) ⟨(az (az (az (brf _ _)))),bx4,bx4,bx4,by simp <;> omega,by simp <;> omega,by simp <;> omega⟩ ?_;rintro W ⟨hbW,bX,bY,bR,s0,s1,s2⟩;have hBW:=hbW.size;have ne02:¬ (w.heap.size=w.heap.size+1+1):=by omega
 obtain ⟨k0,k1,k2,k3⟩:W.cell? b=some (.bool kv.num.ng)/\W.cell? ⟨b,1,none⟩=some (.slice kv.num.A kv.num.n kv.num.c)/\W.cell? ⟨b,2,none⟩=some (.bool kv.den.ng)/\W.cell? ⟨b,3,none⟩=some (.slice kv.den.A kv.den.n kv.den.c):=by simp [World.cell?,(hbW.block b hbl).trans hbox]
 obtain ⟨x0,x1,x2,x3,-⟩:=id bX;obtain ⟨y0,y1,y2,y3,-⟩:=id bY;have HX2:=hdq (HX.out.below hbW);have HY2:=hdq (HY.out.below hbW);have HK2:=hdq (HKv.out.below hbW);have m1:¬ (b=w.heap.size+1+1):=by omega
 have m2:¬ (b=w.heap.size+1):=by omega
 have m3:¬ (b=w.heap.size):=by omega
 have m4:b<W.heap.size:=by omega
 clear hbox HX HY HKv bX bY
 go_region_held3 (Sees w [w.heap.size+1+1] W) (exact kp)
  (first
   | (go_at_call 50; ((with_reducible refine (zBb (a:=kv) (b:=x) (HK2.out.keptOld (Sees.kept (by assumption))) (HX2.out.keptOld (Sees.kept (by assumption))) HN.out HL.out).mono ?_); rintro e w1 ⟨⟨u,rfl,hu⟩,hb1⟩))
   | (go_at_call 60; ((with_reducible refine (zCD (a:=u) (b:=y) (hu.qis HF.out) (HY2.out.keptOld (Sees.kept (by assumption))) (nlr _) HM.out).mono ?_); rintro e w2 ⟨⟨z,rfl,hz⟩,hb2⟩))
   | fail)
 rename_i hS;obtain ⟨v0,v1,v2,v3⟩:=hS.kept.val4 (by simp) (by rw [bR.1]; rfl) (by rw [bR.2.1]; rfl) (by rw [bR.2.2.1]; rfl) (by rw [bR.2.2.2.1]; rfl);have hbf:=hbW.trans hS.kept.below;have hb2s:=hb2.size;have hb1s:=hb1.size;clear hS hu;go_wp2;refine bodyPost_ret (v:=z.val) (by simp [results,Tryz.results226,go_sem,v0,v1,v2,v3]) rfl ⟨⟨z,rfl,?_⟩,hbf⟩;simp only [World.size_drew] at hb1s hb2s;exact (hz.set4 (by omega)).lower (by omega)
open Go.RowKit Go.Shelf Gj
theorem VecAt.low {B':Nat} {l:List Rat} (h:VecCan w (New B) (New B) s l) (hB:B'<=B):VecCan w (New B') (New B') s l:=h.imp (fun _ _ hb=>nlt hB hb) fun _ _ hq=>hq.lower hB
theorem zKJ {Z:Nat->Prop} {k:QV} {la lb:List Rat} (hk:QIs w Z N k q) (ha:VecIs w X Y L sa la) (hb:VecIs w X' Y' M sb lb) (hL:L<=LM) (hM:M<=LM) (hN:N<=LM) (hna:sa.n<=1000000) (hnb:sb.n<=1000000) (hf:∀ i,QFit LM (q*la.getD i 0)) :
  Calls Tryz.prog 189 #[k.val,sa.val,sb.val] w fun e w'=>CbRet w ((List.range (max sa.n sb.n)).map fun i=>q*la.getD i 0+lb.getD i 0) e w'/\Below w w w':=by
 have al:Below w w (w.alloc (.cells #[.bool k.num.ng,.slice k.num.A k.num.n k.num.c,.bool k.den.ng,.slice k.den.A k.den.n k.den.c] 80)):=bal;have hbx:(w.alloc (.cells #[.bool k.num.ng,.slice k.num.A k.num.n k.num.c,.bool k.den.ng,.slice k.den.A k.den.n k.den.c] 80)).heap[w.heap.size]?=some (.cells #[.bool k.num.ng,.slice k.num.A k.num.n k.num.c,.bool k.den.ng,.slice k.den.A k.den.n k.den.c] 80 (0,0)):=zAd _ _ rfl;have hsz:w.heap.size<(w.alloc (.cells #[.bool k.num.ng,.slice k.num.A k.num.n k.num.c,.bool k.den.ng,.slice k.den.A k.den.n k.den.c] 80)).heap.size:=by simp
 have HC:=hdq (zLa (f:=226) (caps:=#[.pointer (some ⟨w,0,none⟩)]) (g:=fun i=>q*la.getD i 0+lb.getD i 0) (ha.below al) (hb.below al) hna hnb (fun args w=>rfl)
  (fun W x y i hc hx hy=>zHp hx hy ((hk.below al).old.carry hc) (hc.blk _ _ _ _ hsz hbx) hL hM hN (hf i)))
 clear ha hb hk hL hM hN hna hnb hf;obtain ⟨A,n,c⟩:=sa;obtain ⟨B,m,d⟩:=sb;dsimp only [SV.val] at *;go_enter Tryz.func189,Tryz.ntmps189
 go_wp2_with fail
 refine HC.out.mono ?_;rintro e w1 ⟨⟨z,rfl,hz,hz2⟩,hb1⟩;go_wp2;go_ret;exact ⟨⟨z,rfl,hz.low al.size,fun hp=>by obtain ⟨b,c,q1,q2,q3,q4,q5⟩:=hz2 hp; exact ⟨b,c,q1,q2,q3,nlt al.size q4,.inr rfl,q5.blk,fun k hk=>by obtain ⟨v,h1,h2⟩:=q5.elem k hk; exact ⟨v,h1,h2.imp fun x _ hx e=>hx (e.imp (fun h=>ltl h al.size) id)⟩⟩⟩,al.trans (hb1.mono al.size)⟩
theorem zD5 {Z:Nat->Prop} {k:QV} {la lb:List Rat} (hk:QIs w Z N k q) (ha:VecIs w X Y L sa la) (hb:VecIs w X' Y' M sb lb) (hL:L<=LM) (hM:M<=LM) (hN:N<=LM) (hna:sa.n<=1000000) (hnb:sb.n<=1000000) (hf:∀ i,QFit LM (q*la.getD i 0)) :
  Calls Tryz.prog 189 #[k.val,sa.val,sb.val] w fun e w'=>VRet w ((List.range (max sa.n sb.n)).map fun i=>q*la.getD i 0+lb.getD i 0) e w'/\Below w w w':=by
 refine (zKJ hk ha hb hL hM hN hna hnb hf).mono ?_;rintro e w' ⟨⟨s,rfl,h,_⟩,hb⟩;exact ⟨⟨s,rfl,h⟩,hb⟩
def MBlk (w:World) (b:Nat) (m:List (List Rat)) (w':World):Prop:=
 w.heap.size<=b/\∃ (cs:Array Value) (sv:Nat->SV),w'.heap[b]?=some (.cells cs 34 (0,0))/\cs.size=m.length/\∀ j,j<m.length->cs[j]?=some (sv j).val/\VecCan w' (fun x=>w.heap.size<=x/\x ≠ b) (fun x=>w.heap.size<=x/\x ≠ b) (sv j) (m.getD j [])
def MFill (w:World) (b n i:Nat) (g:Nat->List Rat) (W:World):Prop:=
 ∃ (cs:Array Value) (sv:Nat->SV),W.heap[b]?=some (.cells cs 34 (0,0))/\cs.size=n/\∀ j,j<i->cs[j]?=some (sv j).val/\VecCan W (New (w+1+1)) (New (w+1+1)) (sv j) (g j)
def FiO (w:World) (fv:Value) (n:Nat) (g:Nat->List Rat) (t:Value) (W:World):Prop:=
 ∃ i:Nat,i<=n/\t = .int .i64 i/\Below w w W/\W.heap[w.heap.size]?=some (.cells #[fv] 226 (0,0))/\MFill w (w+1) n i g W
theorem zRY {fn rows cols:Nat} {caps:Array Value} {g:Nat->Nat->Rat} (hr:rows<=100000) (hc:cols<=100000) (hcall:∀ (args:Array Value) (w:World),Sem.run Tryz.prog (callFunc fn args) w = .ok (.enter fn args) w)
  (ht:∀ W i k,Below w w W->i<rows->k<cols->Calls Tryz.prog fn (#[.int .i64 (i:Int),.int .i64 (k:Int)]++caps) W fun e W'=>QRet W (g i k) e W'/\Below W W W') :
  Calls Tryz.prog 186 #[.agg #[.func (.func fn) #[] caps],.int .i64 (rows:Int),.int .i64 (cols:Int)] w fun e w'=>(∃ b,e = .returned (.slice (some ⟨b,0,none⟩) rows rows)/\MBlk w b ((List.range rows).map fun i=>(List.range cols).map (g i)) w')/\Below w w w':=by
 have hmk:=zHV rows (by omega);have hmq:=zBZ cols (by omega);have HT:=hdq ht;have HC:=hdq hcall;clear ht hcall;go_enter Tryz.func186,Tryz.ntmps186
 go_wp2
 have H0:FiO w (.func (.func fn) #[] caps) rows (fun i=>(List.range cols).map (g i)) (.int .i64 0) ((w.alloc (.cells #[.func (.func fn) #[] caps] 226)).alloc (.cells (zeroS rows) 34)):=
  ⟨0,nzl _,rfl,(bal).alloc (by simp) _,(Below.heap_alloc _ _ _ (by simp)).trans (zAd _ _ rfl),zeroS rows,fun _=>⟨none,0,0⟩,zAd _ _ (by simp),zIb rows,fun j hj=>absurd hj (by omega)⟩
 clear hmk;generalize (w.alloc (.cells #[.func (.func fn) #[] caps] 226)).alloc (.cells (zeroS rows) 34)=W0 at *;go_loopw [14] (fun t W=>FiO w (.func (.func fn) #[] caps) rows (fun i=>(List.range cols).map (g i)) t W) (fun t _=>rows-(intOf t).toNat)
 case atStart=>exact H0
 case round=>
  clear H0;obtain ⟨i,hi,rfl,hB,hfv,hM⟩:=hrel;by_cases hlt:i<rows
  ·obtain ⟨cs,sv,h1,h2,h3⟩:=id hM;have hyl:=zAa h1;have hii:(i:Int)<(rows:Int):=(by omega);have y0:(wr.cell? ⟨w.heap.size+1,i,none⟩).isSome=true:=by simp only [World.cell?,h1]; simp [h2,hlt]
   obtain ⟨yv,hyv⟩:=Option.isSome_iff_exists.1 y0;have yf:∀ o,wr.frozen? ⟨w.heap.size+1,o,none⟩=false:=(fun o=>by simp [World.frozen?,h1]);(go_upto_region 6 with fail);obtain ⟨wO,hwO⟩:∃ W,W=wr.setCell ⟨w.heap.size+1,i,none⟩ (.slice (some wr) cols cols):=⟨_,rfl⟩;rw [<-hwO];have hOs:wO.heap.size=wr.heap.size:=by rw [hwO]; simp [World.setCell]
   have hO1:wO.heap[w.heap.size+1]?=some (.cells (cs.setIfInBounds i (.slice (some wr) cols cols)) 34 (0,0)):=by rw [hwO]; exact zAe _ h1
   have hOf:wO.heap[w.heap.size]?=some (.cells #[.func (.func fn) #[] caps] 226 (0,0)):=by rw [hwO]; exact (bhs _ _ _ _ (by show w.heap.size ≠ w.heap.size+1; omega)).trans hfv
   have hOB:Below w w wO:=by rw [hwO]; exact hB.setCell (p:=⟨w.heap.size+1,i,none⟩) (by show w.heap.size<=w.heap.size+1; omega) _
   have kk:∀ p:Addr,New (w+1+1) p.block->wO.cell? p=wr.cell? p:=fun p hp=>by rw [hwO]; exact cob (bhs _ _ _ _ (by simp only [New] at hp; show p.block ≠ w.heap.size+1; omega))
   have hOr:Hid (∀ j,j<i->cs[j]?=some (sv j).val/\VecCan wO (New (w+1+1)) (New (w+1+1)) (sv j) ((List.range cols).map (g j))):=(fun j hj=>⟨(h3 j hj).1,(h3 j hj).2.keep (fun a ha _=>kk a ha) fun v q hq=>hq.keep fun p hp _=>kk p hp⟩);have hOl:w.heap.size+1<wO.heap.size:=(by omega);clear hwO kk h3 hM hB hfv y0 hyv yf h1 hyl;rw [<-hOs] at hO1 ⊢;clear hOs;have b0:Below wO wO (wO.alloc (.cells (zeroQ cols) 80)):=bal
   have H2:FillLoop wO wO (g i) cols cols (fun _=>True) (.int .i64 0) (wO.alloc (.cells (zeroQ cols) 80)):=
    ⟨0,nzl _,rfl,by rw [zEe]; exact RowAt.made wO cols _ (.inr rfl),b0,trivial⟩
   have c0:(wO.alloc (.cells (zeroQ cols) 80)).cell? ⟨w.heap.size+1,i,none⟩=some (.slice (some wO) cols cols):=by
    rw [b0.cell (p:=⟨w.heap.size+1,i,none⟩) hOl]; simp [World.cell?,hO1,h2,hlt]
   clear b0;generalize wO.alloc (.cells (zeroQ cols) 80)=WB at *;go_wp2;clear c0;(go_loopw [27] (fun t W=>FillLoop wO wO (g i) cols cols (fun _=>True) t W) (fun t _=>cols-(intOf t).toNat));case atStart=>exact H2
   case round=>
    clear H2;obtain ⟨k,hk,rfl,hR,hb,-⟩:=hrel;have hRl:=hR.lt;have q1:wr.heap[w.heap.size+1]?=_:=(hb.block _ hOl).trans hO1;have qf:wr.heap[w.heap.size]?=_:=(hb.block _ (by omega)).trans hOf;have c1:wr.cell? ⟨w.heap.size+1,i,none⟩=some (.slice (some wO) cols cols):=(by simp [World.cell?,q1,h2,hlt]);have cf:wr.cell? w=some (.func (.func fn) #[] caps):=(by simp [World.cell?,qf]);by_cases hlk:k<cols
    ·have hkk:(k:Int)<(cols:Int):=(by omega);have hcall:=HC.out;(go_upto_region 9 with fail);refine zAp 11 (fun _ w'=>w'.cell? ⟨w.heap.size+1,i,none⟩=some (.slice (some wO) cols cols)/\w'.cell? w=some (.func (.func fn) #[] caps)) (by kernel_rfl) ?_;have hS0:wr.drew.cell? ⟨w.heap.size+1,i,none⟩=some (.slice (some wO) cols cols)/\wr.drew.cell? w=some (.func (.func fn) #[] caps):=⟨c1,cf⟩;refine tx4 0 1 2 3 hS0 ?_;refine tx4 4 5 6 7 hS0 ?_;refine tx1 8 hS0 ?_;refine tk1 9 ?_;intro K hK;go_simp;have hdr:Below wr wr wr.drew:=(brf _ _).drew;refine (HT.out _ i k (hOB.trans ((hb.trans (hdr.mono hb.size)).mono hOB.size)) hlt hlk).mono ?_;rintro e w5 ⟨⟨z,rfl,hz⟩,h5⟩;dsimp only;have h5':Below wr wr w5:=hdr.trans h5
     have hs5:w5.cell? ⟨w.heap.size+1,i,none⟩=some (.slice (some wO) cols cols)/\w5.cell? w=some (.func (.func fn) #[] caps):=
      ⟨(h5'.cell (p:=⟨w.heap.size+1,i,none⟩) (by show w.heap.size+1<_; omega)).trans c1,(h5'.cell (p:=w) (by show w.heap.size<_; omega)).trans cf⟩
     refine hK.out _ _ hs5 ?_;clear hK K hcall;have hR5:=hR.below h5';obtain ⟨zv,⟨d0,d1,d2,d3⟩,-⟩:=hR5.elem k (by rw [zBj _ (by omega)]; omega);have fz:=hR5.frozen;dsimp only at d1 d2 d3;refine tx1 10 hs5 ?_;refine tk1 11 ?_;intro K hK;go_simp;have kp:∀ p:Addr,p.block ≠ wO.heap.size->(put4 w5 wO k z).cell? p=w5.cell? p:=(fun p hp=>zCq _ _ _ _ hp);refine hK.out _ _ (show (put4 w5 wO k z).cell? _=_/\(put4 w5 wO k z).cell? _=_ from ⟨(kp _ (by show w.heap.size+1 ≠ _; omega)).trans hs5.1,(kp _ (by show w.heap.size ≠ _; omega)).trans hs5.2⟩) ?_;clear hK K;refine zAf (by kernel_rfl) ?_ _;have hz2:QCan w5 (New wr) z (g i k):=hz.imp fun b _ hx=>by simp only [New] at hx ⊢; have:=hdr.size; omega
     have Hfin:=hdq (FillLoop.step (E:=fun _=>True) (B:=wr) hlk (nlr _) hR hb h5' hb.size hRl (nlr _) hz2 trivial);clear hz hz2 hs5 hS0 d0 d1 d2 d3 fz hR5 hR h5 h5' hdr kp q1 qf c1 cf hb;go_wp2;go_roundw;case rel=>exact fn_ Hfin.out
     case measure=>simp [intOf]; omega
    ·(obtain rfl:k=cols:=by omega);rw [zGv] at hR;obtain ⟨⟨a1,a2,a3⟩,e3,hv⟩:=VRet.of (n:=k) (by simp) (by omega) (nlr _) hR;simp only [Ending.returned.injEq,SV.val,Value.slice.injEq] at e3;obtain ⟨rfl,rfl,rfl⟩:=e3
     have Hfin:Hid (FiO w (.func (.func fn) #[] caps) rows (fun i=>(List.range k).map (g i)) (.int .i64 ((i:Int)+1)) wr):=by
      refine ⟨i+1,by omega,by simp,hOB.trans (hb.mono hOB.size),qf,_,fun j=>if j=i then ⟨some ⟨wO,0,none⟩,k,k⟩ else sv j,q1,by simpa using h2,fun j hj=>?_⟩;rw [Array.getElem?_setIfInBounds];by_cases e:i=j
      ·subst e;rw [if_pos rfl,if_pos (by omega)];dsimp only;rw [if_pos rfl];exact ⟨rfl,hv.imp (fun b _ hb=>by simp only [New] at hb ⊢; omega) fun v q hq=>hq.imp fun b _ hb=>by simp only [New] at hb ⊢; omega⟩
      ·rw [if_neg e];dsimp only;rw [if_neg (Ne.symm e)];obtain ⟨g1,g2⟩:=hOr.out j (by omega);exact ⟨g1,g2.belowC hb⟩
     clear hR hv q1 qf c1 cf hb hOr hO1 hOf hOB;go_wp2;go_roundw;case rel=>exact fn_ Hfin.out
     case measure=>simp [intOf]; omega
  ·have hin:i=rows:=(by omega);subst hin
   have HF:Hid (MBlk w (w+1) ((List.range i).map fun i=>(List.range cols).map (g i)) wr):=by
    obtain ⟨cs,sv,h1,h2,h3⟩:=hM;refine ⟨by omega,cs,sv,h1,by simpa using h2,fun j hj=>?_⟩;have hj':j<i:=(by simpa using hj);obtain ⟨g1,g2⟩:=h3 j hj';rw [zA6 _ _ _ _ hj'];exact ⟨g1,g2.imp (fun b _ hb=>by simp only [New] at hb ⊢; omega) fun v q hq=>hq.imp fun b _ hb=>by simp only [New] at hb ⊢; omega⟩
   clear hM hfv;go_wp2;go_ret;exact ⟨⟨_,rfl,HF.out⟩,hB⟩
theorem RowAt.anti {G':Nat->Prop} {l:List Rat} (h:RowAt w G b l) (hb:G' b) (hG:∀ x,G' x->G x):RowAt w G' b l:=
 ⟨hb,h.blk,fun k hk=>by
  obtain ⟨v,h1,h2⟩:=h.elem k hk;exact ⟨v,h1,h2.imp fun x _ hx e=>hx (hG x e)⟩⟩
namespace Mo
structure MRw (W:World) (B0 b c n:Nat) (rb:Nat->Nat) (g:Nat->List Rat) (i:Nat):Prop where
 blk:∃ cs:Array Value,W.heap[b]?=some (.cells cs 34 (0,0))/\cs.size=n/\∀ j,j<i->cs[j]?=some (.slice (some ⟨rb j,0,none⟩) c c)
 ne:∀ j,j<i->rb j ≠ b
 inj:∀ j k,j<i->k<i->rb j=rb k->j=k
 row:∀ j,j<i->RowAt W (fun x=>x<B0\/x=b\/∃ j,j<i/\x=rb j) (rb j) (g j)
 ge:∀ j,j<i->B0<=rb j
theorem MRw.eqm {W:World} {B0 b n:Nat} {rb:Nat->Nat} {g:Nat->Nat->Rat} (h:MRw W B0 b n n rb (fun i=>(List.range n).map (g i)) n):EqM W b (fun x=>x<B0\/x=b\/∃ j,j<n/\x=rb j) rb n ((List.range n).map fun i=>(List.range n).map (g i)):=
 ⟨⟨by simp,fun i hi=>by
  have hi':i<n:=by simpa using hi
  rw [getD_map_range _ _ hi']; simp⟩,.inr (.inl rfl),fun i j hi hj e=>h.inj i j hi hj e,h.ne,fun i hi=>by rw [getD_map_range _ _ hi]; exact h.row i hi,h.blk⟩
theorem MRw.lower {W:World} {B0 B1 b c n i:Nat} {rb:Nat->Nat} {g:Nat->List Rat} (h:MRw W B0 b c n rb g i) (hB:B1<=B0):MRw W B1 b c n rb g i:=
 ⟨h.blk,h.ne,h.inj,fun j hj=>(h.row j hj).anti (.inr (.inr ⟨j,hj,rfl⟩)) fun x hx=>hx.elim (fun hx=>.inl (by omega)) .inr,fun j hj=>nlt hB (h.ge j hj)⟩
def FiE (w:World) (cols:Nat) (fv:Value) (n:Nat) (g:Nat->List Rat) (t:Value) (W:World):Prop:=
 ∃ i:Nat,i<=n/\t = .int .i64 i/\Below w w W/\W.heap[w.heap.size]?=some (.cells #[fv] 226 (0,0))/\∃ rb:Nat->Nat,0<=w.heap.size/\MRw W w (w+1) cols n rb g i
theorem zVl {w:World} {fn rows cols:Nat} {caps:Array Value} {g:Nat->Nat->Rat} (hr:rows<=100000) (hc:cols<=100000) (hcall:∀ (args:Array Value) (w:World),Sem.run Tryz.prog (callFunc fn args) w = .ok (.enter fn args) w)
  (ht:∀ W i k,Below w w W->i<rows->k<cols->Calls Tryz.prog fn (#[.int .i64 (i:Int),.int .i64 (k:Int)]++caps) W fun e W'=>QRet W (g i k) e W'/\Below W W W') :
  Calls Tryz.prog 186 #[.agg #[.func (.func fn) #[] caps],.int .i64 (rows:Int),.int .i64 (cols:Int)] w fun e w'=>(∃ b rb,e = .returned (.slice (some ⟨b,0,none⟩) rows rows)/\w.heap.size<=b/\MRw w' w b cols rows rb (fun i=>(List.range cols).map (g i)) rows)/\Below w w w':=by
 have hmk:=zHV rows (by omega);have hmq:=zBZ cols (by omega);have HT:=hdq ht;have HC:=hdq hcall;clear ht hcall;go_enter Tryz.func186,Tryz.ntmps186
 go_wp2
 have H0:FiE w cols (.func (.func fn) #[] caps) rows (fun i=>(List.range cols).map (g i)) (.int .i64 0) ((w.alloc (.cells #[.func (.func fn) #[] caps] 226)).alloc (.cells (zeroS rows) 34)):=
  ⟨0,nzl _,rfl,(bal).alloc (by simp) _,(Below.heap_alloc _ _ _ (by simp)).trans (zAd _ _ rfl),fun _=>0,by omega,⟨⟨zeroS rows,zAd _ _ (by simp),zIb rows,fun j hj=>absurd hj (by omega)⟩,fun j hj=>absurd hj (by omega),fun j k hj=>absurd hj (by omega),fun j hj=>absurd hj (by omega),fun j hj=>absurd hj (by omega)⟩⟩
 clear hmk;generalize (w.alloc (.cells #[.func (.func fn) #[] caps] 226)).alloc (.cells (zeroS rows) 34)=W0 at *;go_loopw [14] (fun t W=>FiE w cols (.func (.func fn) #[] caps) rows (fun i=>(List.range cols).map (g i)) t W) (fun t _=>rows-(intOf t).toNat)
 case atStart=>exact H0
 case round=>
  clear H0;obtain ⟨i,hi,rfl,hB,hfv,rb,hBs,hM⟩:=hrel;by_cases hlt:i<rows
  ·obtain ⟨cs,h1,h2,h3⟩:=hM.blk;have hyl:=zAa h1;have hii:(i:Int)<(rows:Int):=(by omega);have y0:(wr.cell? ⟨w.heap.size+1,i,none⟩).isSome=true:=by simp only [World.cell?,h1]; simp [h2,hlt]
   obtain ⟨yv,hyv⟩:=Option.isSome_iff_exists.1 y0;have yf:∀ o,wr.frozen? ⟨w.heap.size+1,o,none⟩=false:=(fun o=>by simp [World.frozen?,h1]);(go_upto_region 6 with fail);obtain ⟨wO,hwO⟩:∃ W,W=wr.setCell ⟨w.heap.size+1,i,none⟩ (.slice (some wr) cols cols):=⟨_,rfl⟩;rw [<-hwO];have hOs:wO.heap.size=wr.heap.size:=by rw [hwO]; simp [World.setCell]
   have hO1:wO.heap[w.heap.size+1]?=some (.cells (cs.setIfInBounds i (.slice (some wr) cols cols)) 34 (0,0)):=by rw [hwO]; exact zAe _ h1
   have hOf:wO.heap[w.heap.size]?=some (.cells #[.func (.func fn) #[] caps] 226 (0,0)):=by rw [hwO]; exact (bhs _ _ _ _ (by show w.heap.size ≠ w.heap.size+1; omega)).trans hfv
   have hOB:Below w w wO:=by rw [hwO]; exact hB.setCell (p:=⟨w.heap.size+1,i,none⟩) (by show w.heap.size<=w.heap.size+1; omega) _
   have hOr:Hid (∀ j,j<i->RowAt wO (fun x=>x<w.heap.size\/x=w.heap.size+1\/∃ j,j<i/\x=rb j) (rb j) ((List.range cols).map (g j))):=fun j hj=>(hM.row j hj).keep (by rw [hwO]; exact bhs _ _ _ _ (by show rb j ≠ w.heap.size+1; exact hM.ne j hj)) fun p hp _=>by rw [hwO]; exact cob (bhs _ _ _ _ fun e=>hp (.inr (.inl e)))
   have HNe:=hdq hM.ne;have HIn:=hdq hM.inj;have HGe:=hdq hM.ge;have HLt:Hid (∀ j,j<i->rb j<wO.heap.size):=(fun j hj=>(hOr.out j hj).lt);have H3:=hdq h3;have hOl:w.heap.size+1<wO.heap.size:=(by omega);clear hwO h3 hM hB hfv y0 hyv yf h1 hyl hBs;rw [<-hOs] at hO1 ⊢;clear hOs;have b0:Below wO wO (wO.alloc (.cells (zeroQ cols) 80)):=bal
   have H2:FillLoop wO wO (g i) cols cols (fun _=>True) (.int .i64 0) (wO.alloc (.cells (zeroQ cols) 80)):=
    ⟨0,nzl _,rfl,by rw [zEe]; exact RowAt.made wO cols _ (.inr rfl),b0,trivial⟩
   have c0:(wO.alloc (.cells (zeroQ cols) 80)).cell? ⟨w.heap.size+1,i,none⟩=some (.slice (some wO) cols cols):=by
    rw [b0.cell (p:=⟨w.heap.size+1,i,none⟩) hOl]; simp [World.cell?,hO1,h2,hlt]
   clear b0;generalize wO.alloc (.cells (zeroQ cols) 80)=WB at *;go_wp2;clear c0;(go_loopw [27] (fun t W=>FillLoop wO wO (g i) cols cols (fun _=>True) t W) (fun t _=>cols-(intOf t).toNat));case atStart=>exact H2
   case round=>
    clear H2;obtain ⟨k,hk,rfl,hR,hb,-⟩:=hrel;have hRl:=hR.lt;have q1:wr.heap[w.heap.size+1]?=_:=(hb.block _ hOl).trans hO1;have qf:wr.heap[w.heap.size]?=_:=(hb.block _ (by omega)).trans hOf;have c1:wr.cell? ⟨w.heap.size+1,i,none⟩=some (.slice (some wO) cols cols):=(by simp [World.cell?,q1,h2,hlt]);have cf:wr.cell? w=some (.func (.func fn) #[] caps):=(by simp [World.cell?,qf]);by_cases hlk:k<cols
    ·have hkk:(k:Int)<(cols:Int):=(by omega);have hcall:=HC.out;(go_upto_region 9 with fail);refine zAp 11 (fun _ w'=>w'.cell? ⟨w.heap.size+1,i,none⟩=some (.slice (some wO) cols cols)/\w'.cell? w=some (.func (.func fn) #[] caps)) (by kernel_rfl) ?_;have hS0:wr.drew.cell? ⟨w.heap.size+1,i,none⟩=some (.slice (some wO) cols cols)/\wr.drew.cell? w=some (.func (.func fn) #[] caps):=⟨c1,cf⟩;refine tx4 0 1 2 3 hS0 ?_;refine tx4 4 5 6 7 hS0 ?_;refine tx1 8 hS0 ?_;refine tk1 9 ?_;intro K hK;go_simp;have hdr:Below wr wr wr.drew:=(brf _ _).drew;refine (HT.out _ i k (hOB.trans ((hb.trans (hdr.mono hb.size)).mono hOB.size)) hlt hlk).mono ?_;rintro e w5 ⟨⟨z,rfl,hz⟩,h5⟩;dsimp only;have h5':Below wr wr w5:=hdr.trans h5
     have hs5:w5.cell? ⟨w.heap.size+1,i,none⟩=some (.slice (some wO) cols cols)/\w5.cell? w=some (.func (.func fn) #[] caps):=
      ⟨(h5'.cell (p:=⟨w.heap.size+1,i,none⟩) (by show w.heap.size+1<_; omega)).trans c1,(h5'.cell (p:=w) (by show w.heap.size<_; omega)).trans cf⟩
     refine hK.out _ _ hs5 ?_;clear hK K hcall;have hR5:=hR.below h5';obtain ⟨zv,⟨d0,d1,d2,d3⟩,-⟩:=hR5.elem k (by rw [zBj _ (by omega)]; omega);have fz:=hR5.frozen;dsimp only at d1 d2 d3;refine tx1 10 hs5 ?_;refine tk1 11 ?_;intro K hK;go_simp;have kp:∀ p:Addr,p.block ≠ wO.heap.size->(put4 w5 wO k z).cell? p=w5.cell? p:=(fun p hp=>zCq _ _ _ _ hp);refine hK.out _ _ (show (put4 w5 wO k z).cell? _=_/\(put4 w5 wO k z).cell? _=_ from ⟨(kp _ (by show w.heap.size+1 ≠ _; omega)).trans hs5.1,(kp _ (by show w.heap.size ≠ _; omega)).trans hs5.2⟩) ?_;clear hK K;refine zAf (by kernel_rfl) ?_ _;have hz2:QCan w5 (New wr) z (g i k):=hz.imp fun b _ hx=>by simp only [New] at hx ⊢; have:=hdr.size; omega
     have Hfin:=hdq (FillLoop.step (E:=fun _=>True) (B:=wr) hlk (nlr _) hR hb h5' hb.size hRl (nlr _) hz2 trivial);clear hz hz2 hs5 hS0 d0 d1 d2 d3 fz hR5 hR h5 h5' hdr kp q1 qf c1 cf hb;go_wp2;go_roundw;case rel=>exact fn_ Hfin.out
     case measure=>simp [intOf]; omega
    ·(obtain rfl:k=cols:=by omega);rw [zGv] at hR
     have Hfin:Hid (FiE w k (.func (.func fn) #[] caps) rows (fun i=>(List.range k).map (g i)) (.int .i64 ((i:Int)+1)) wr):=by
      refine ⟨i+1,by omega,by simp,hOB.trans (hb.mono hOB.size),qf,fun j=>if j=i then wO.heap.size else rb j,by omega,⟨⟨_,q1,by simpa using h2,fun j hj=>?_⟩,fun j hj=>?_,fun j l hj hl e=>?_,fun j hj=>?_,fun j hj=>?_⟩⟩
      ·rw [Array.getElem?_setIfInBounds];by_cases e:i=j
       ·subst e;rw [if_pos rfl,if_pos (by omega)];rw [if_pos rfl]
       ·rw [if_neg e];rw [if_neg (Ne.symm e)];exact H3.out j (by omega)
      ·split
       ·omega
       ·exact HNe.out j (by omega)
      ·by_cases ej:j=i
       ·by_cases el:l=i
        ·omega
        ·rw [if_pos ej,if_neg el] at e;have:=HLt.out l (by omega);omega
       ·by_cases el:l=i
        ·rw [if_neg ej,if_pos el] at e;have:=HLt.out j (by omega);omega
        ·rw [if_neg ej,if_neg el] at e;exact HIn.out j l (by omega) (by omega) e
      ·have hG:∀ x,(x<w.heap.size\/x=w.heap.size+1\/∃ j,j<i+1/\x=if j=i then wO.heap.size else rb j)->(x<w.heap.size\/x=w.heap.size+1\/∃ j,j<i/\x=rb j)\/x=wO.heap.size:=fun x hx=>by
        rcases hx with hx | hx | ⟨l,hl,hx⟩
        ·exact .inl (.inl hx)
        ·exact .inl (.inr (.inl hx))
        ·by_cases e:l=i
         ·rw [if_pos e] at hx; exact .inr hx
         ·rw [if_neg e] at hx; exact .inl (.inr (.inr ⟨l,by omega,hx⟩))
       by_cases e:j=i
       ·subst e;rw [if_pos rfl];(refine hR.anti (.inr (.inr ⟨j,by omega,(if_pos rfl).symm⟩)) fun x hx=>?_);rcases hG x hx with (hx | hx | ⟨l,hl,hx⟩) | hx
        ·omega
        ·omega
        ·have:=HLt.out l hl;omega
        ·exact .inr hx
       ·rw [if_neg e];refine ((hOr.out j (by omega)).grow (fun x hx=>?_) fun x hxl hx=>?_).below hb
        ·rcases hx with hx | hx | ⟨l,hl,hx⟩
         ·exact .inl hx
         ·exact .inr (.inl hx)
         ·exact .inr (.inr ⟨l,by omega,by rw [if_neg (by omega)]; exact hx⟩)
        ·rcases hG x hx with hx | hx
         ·exact hx
         ·omega
      ·split
       ·omega
       ·exact HGe.out j (by omega)
     clear hR q1 qf c1 cf hb hOr hO1 hOf hOB;go_wp2;go_roundw;case rel=>exact fn_ Hfin.out
     case measure=>simp [intOf]; omega
  ·have hin:i=rows:=(by omega);subst hin;have HF:=hdq hM;clear hM hfv;clear hBs;go_wp2;go_ret;exact ⟨⟨_,_,rfl,by omega,HF.out⟩,hB⟩
end Mo
namespace Mo
theorem zWz {w:World} {i k:Nat}:Calls Tryz.prog 91 #[.slice none 0 0,.int .i64 (i:Int),.int .i64 (k:Int)] w fun e w'=>QRet w 0 e w'/\Below w w w':=by
 have h1:¬ ((i:Int)<0):=by omega
 have h3:¬ ((k:Int)<0):=by omega
 have HR:Hid (∀ W:World,Calls Tryz.prog 147 #[.slice none 0 0,.int .i64 (i:Int)] W fun e w'=>e = .returned (.slice none 0 0)/\W=w'):=fun W=>by
  go_enter Tryz.func147,Tryz.ntmps147
  go_wp2;go_ret;exact ⟨rfl,rfl⟩
 go_enter Tryz.func91,Tryz.ntmps91
 go_wp2_with fail
 refine zAg (fun W=>Below w w W/\Box4 W w (.bool false) (.slice none 0 0) (.bool false) (.slice none 0 0)/\w.heap.size<W.heap.size) ⟨(az (brf _ _)),bx4,by simp <;> omega⟩ ?_;rintro W ⟨hbW,bR,s0⟩;have hBW:=hbW.size;refine (HR.out W).mono ?_; rintro e w1 ⟨rfl,rfl⟩
 obtain ⟨v0,v1,v2,v3,-⟩:=bR.stored (.bool false) (.slice none 0 0) (.bool false) (.slice none 0 0);have hB:=zAl (x0:=.bool false) (x1:=.slice none 0 0) (x2:=.bool false) (x3:=.slice none 0 0) hbW (nlr w);go_wp2;exact bodyPost_ret (v:=.agg #[.bool false,.slice none 0 0,.bool false,.slice none 0 0]) (by simp [results,Tryz.results91,go_sem,v0,v1,v2,v3]) rfl ⟨⟨⟨⟨false,none,0,0⟩,⟨false,none,0,0⟩⟩,rfl,QCan.zero _ _⟩,hB⟩
theorem zWQ {w:World} {i k c:Nat} (h0:w.cell? c=some (.slice none 0 0)):Calls Tryz.prog 192 #[.int .i64 (i:Int),.int .i64 (k:Int),.pointer (some c)] w fun e w'=>QRet w 0 e w'/\Below w w w':=by
 have hcl:=zAb h0;dsimp only at hcl;go_enter Tryz.func192,Tryz.ntmps192
 go_upto_region 1 with fail
 refine zAo (fun W=>Below w w W/\Box4 W w (.bool false) (.slice none 0 0) (.bool false) (.slice none 0 0)/\w.heap.size<W.heap.size) ⟨(az (brf _ _)),bx4,by simp <;> omega⟩ ?_;rintro W ⟨hbW,bR,s0⟩;have hBW:=hbW.size;replace h0:=(hbW.cell (p:=c) hcl).trans h0;go_wp2_with fail
 refine zWz.mono ?_; rintro e w1 ⟨⟨z,rfl,hz⟩,hb1⟩
 have hb01:=hbW.trans (hb1.mono hBW);have bR1:=bR.below hb1 s0;obtain ⟨v0,v1,v2,v3,-⟩:=bR1.stored (.bool z.num.ng) (.slice z.num.A z.num.n z.num.c) (.bool z.den.ng) (.slice z.den.A z.den.n z.den.c);have HB:=hdq (zAl (x0:=.bool z.num.ng) (x1:=.slice z.num.A z.num.n z.num.c) (x2:=.bool z.den.ng) (x3:=.slice z.den.A z.den.n z.den.c) (b:=w) hb01 (by omega));have HZ:=hdq ((hz.set4 (b:=w) (x0:=.bool z.num.ng) (x1:=.slice z.num.A z.num.n z.num.c) (x2:=.bool z.den.ng) (x3:=.slice z.den.A z.den.n z.den.c) s0).lower hBW);clear hb1 hb01 hz bR h0;go_wp2;exact bodyPost_ret (v:=z.val) (by simp [results,Tryz.results192,go_sem,v0,v1,v2,v3]) rfl ⟨⟨z,rfl,HZ.out⟩,HB.out⟩
theorem zUF {w:World} {n:Nat} (hn:n<=1024):Calls Tryz.prog 193 #[.int .i64 (n:Int)] w fun e w'=>e = .returned (.int .i64 (n:Int))/\w=w':=by
 have h1:min (n:Int) 1024=(n:Int):=by omega
 have h2:max (0:Int) (n:Int)=(n:Int):=by omega
 go_enter Tryz.func193,Tryz.ntmps193
 go_wp2;go_ret;exact ⟨rfl,rfl⟩
theorem zXo {w:World} {n:Nat} (hn:n<=1024):Calls Tryz.prog 144 #[.slice none 0 0,.int .i64 (n:Int),.int .i64 (n:Int)] w fun e w'=>
  (∃ b rb,e = .returned (.slice (some ⟨b,0,none⟩) n n)/\w.heap.size<=b/\MRw w' w b n n rb (fun _=>(List.range n).map fun _=>0) n)/\Below w w w':=by
 go_enter Tryz.func144,Tryz.ntmps144
 go_upto_region 2 with fail
 refine zAo (fun W=>Below w w W/\Box1 W w (.slice none 0 0)/\Box1 W (w+1) (.func (.func 192) #[] #[.pointer (some w)])/\w.heap.size<W.heap.size/\w.heap.size+1<W.heap.size) ⟨(az (az (brf _ _))),⟨by go_simp,by intro o; go_simp⟩,⟨by go_simp,by intro o; go_simp⟩,by simp <;> omega,by simp <;> omega⟩ ?_;rintro W ⟨hbW,b0,b1,s0,s1⟩;have hBW:=hbW.size;obtain ⟨c0,-⟩:=id b0;obtain ⟨c1,-⟩:=id b1;have hS0:Sees w [] W W.drew:=Sees.st (by simp) hBW;refine zAp 1000 (fun _ w'=>Sees w [] W w') (by kernel_rfl) ?_;refine tx1 0 hS0 ?_;refine tx1 1 hS0 ?_;refine tx1 3 hS0 ?_;refine tk1 2 ?_;intro K hK;go_simp;refine (zUF hn).mono ?_;rintro e w2 ⟨rfl,rfl⟩;refine hK.out _ _ hS0 ?_;clear hK K;refine tk1 4 ?_;intro K hK;go_simp;refine (zUF hn).mono ?_;rintro e w2 ⟨rfl,rfl⟩;refine hK.out _ _ hS0 ?_;clear hK K;refine tk1 5 ?_;intro K hK;go_simp;have hdr:Below W W W.drew:=(brf _ _).drew;refine (zVl (g:=fun _ _=>0) (caps:=#[.pointer (some w)]) (by omega) (by omega) (fun _ _=>rfl) fun W' i k hb hi hk=>zWQ ((hdr.trans hb).cell (p:=w) s0 |>.trans c0)).mono ?_;rintro e w2 ⟨⟨b,rb,rfl,hb,hM⟩,hb2⟩;have hS1:=Kept.call2 hb2 hS0;refine hK.out _ _ hS1 ?_;clear hK K;have HF:=hdq (hbW.trans ((hdr.trans hb2).mono hBW));have HM:=hdq (hM.lower hBW);refine tx1 6 hS1 ?_;refine zAf (by kernel_rfl) ?_ _;clear hS0 hS1 hM hb2 hdr c0 c1 b0 b1 hbW;go_wp2;go_ret;exact ⟨⟨b,rb,rfl,nlt hBW hb,HM.out⟩,HF.out⟩
def idE (i k:Nat):Rat:=if k=i then 1 else 0
theorem zWj {w:World} {i k:Nat}:Calls Tryz.prog 194 #[.int .i64 (i:Int),.int .i64 (k:Int)] w fun e w'=>QRet w (idE i k) e w'/\Below w w w':=by
 go_enter Tryz.func194,Tryz.ntmps194
 go_upto_region 1 with fail
 refine zAo (fun W=>Below w w W/\Box4 W w (.bool false) (.slice none 0 0) (.bool false) (.slice none 0 0)/\w.heap.size<W.heap.size) ⟨(az (brf _ _)),bx4,by simp <;> omega⟩ ?_;rintro W ⟨hbW,bR,s0⟩;have hBW:=hbW.size;by_cases h:i=k
 ·have hE:Hid (idE i k=1):=hdq (if_pos h.symm);have hib:((i:Int) == (k:Int))=true:=by simp [h]
  have hii:(i:Int)=(k:Int):=by omega
  go_wp2_with fail
  refine (zAN 1 (by decide) (by decide) _).mono ?_; rintro e w1 ⟨⟨z,rfl,hz⟩,hb1⟩
  have hb01:=hbW.trans (hb1.mono hBW);have bR1:=bR.below hb1 s0;obtain ⟨v0,v1,v2,v3,-⟩:=bR1.stored (.bool z.num.ng) (.slice z.num.A z.num.n z.num.c) (.bool z.den.ng) (.slice z.den.A z.den.n z.den.c);have HB:=hdq (zAl (x0:=.bool z.num.ng) (x1:=.slice z.num.A z.num.n z.num.c) (x2:=.bool z.den.ng) (x3:=.slice z.den.A z.den.n z.den.c) (b:=w) hb01 (by omega));have HZ:=hdq ((hz.set4 (b:=w) (x0:=.bool z.num.ng) (x1:=.slice z.num.A z.num.n z.num.c) (x2:=.bool z.den.ng) (x3:=.slice z.den.A z.den.n z.den.c) s0).lower hBW);rw [show ((1:Int):Rat)=1 from rfl,<-hE.out] at HZ;clear hb1 hb01 hz bR hib hii h hE;go_wp2;exact bodyPost_ret (v:=z.val) (by simp [results,Tryz.results194,go_sem,v0,v1,v2,v3]) rfl ⟨⟨z,rfl,HZ.out⟩,HB.out⟩
 ·have hE:Hid (idE i k=0):=hdq (if_neg fun e=>h e.symm);have hib:((i:Int) == (k:Int))=false:=beq_false_of_ne (by omega);have hii:¬ (i:Int)=(k:Int):=by omega
  obtain ⟨v0,v1,v2,v3,-⟩:=bR.stored (.bool false) (.slice none 0 0) (.bool false) (.slice none 0 0);have HB:=hdq (zAl (x0:=.bool false) (x1:=.slice none 0 0) (x2:=.bool false) (x3:=.slice none 0 0) hbW (nlr w))
  have HZ:Hid (QCan ((((W.setCell w (.bool false)).setCell ⟨w.heap.size,1,none⟩ (.slice none 0 0)).setCell ⟨w.heap.size,2,none⟩ (.bool false)).setCell ⟨w.heap.size,3,none⟩ (.slice none 0 0)) (New w) ⟨⟨false,none,0,0⟩,⟨false,none,0,0⟩⟩ (idE i k)):=by
   rw [hE.out]; exact QCan.zero _ _
  go_wp2;exact bodyPost_ret (v:=.agg #[.bool false,.slice none 0 0,.bool false,.slice none 0 0]) (by simp [results,Tryz.results194,go_sem,v0,v1,v2,v3]) rfl ⟨⟨⟨⟨false,none,0,0⟩,⟨false,none,0,0⟩⟩,rfl,HZ.out⟩,HB.out⟩
theorem zWI {w:World} {n:Nat} (hn:n<=1024):Calls Tryz.prog 146 #[.int .i64 (n:Int)] w fun e w'=>
  (∃ b rb,e = .returned (.slice (some ⟨b,0,none⟩) n n)/\w.heap.size<=b/\MRw w' w b n n rb (fun i=>(List.range n).map (idE i)) n)/\Below w w w':=by
 go_enter Tryz.func146,Tryz.ntmps146
 go_upto_region 2 with fail
 refine zAo (fun W=>Below w w W/\Box1 W w (.func (.func 194) #[] #[])/\w.heap.size<W.heap.size) ⟨(az (brf _ _)),⟨by go_simp,by intro o; go_simp⟩,by simp <;> omega⟩ ?_;rintro W ⟨hbW,b1,s0⟩;have hBW:=hbW.size;obtain ⟨c1,-⟩:=id b1;have hS0:Sees w [] W W.drew:=Sees.st (by simp) hBW;refine zAp 1000 (fun _ w'=>Sees w [] W w') (by kernel_rfl) ?_;refine tx1 0 hS0 ?_;refine tx1 1 hS0 ?_;refine tx1 3 hS0 ?_;refine tk1 2 ?_;intro K hK;go_simp;refine (zUF hn).mono ?_;rintro e w2 ⟨rfl,rfl⟩;refine hK.out _ _ hS0 ?_;clear hK K;refine tk1 4 ?_;intro K hK;go_simp;refine (zUF hn).mono ?_;rintro e w2 ⟨rfl,rfl⟩;refine hK.out _ _ hS0 ?_;clear hK K;refine tk1 5 ?_;intro K hK;go_simp;have hdr:Below W W W.drew:=(brf _ _).drew;refine (zVl (g:=idE) (caps:=#[]) (by omega) (by omega) (fun _ _=>rfl) fun W' i k hb hi hk=>zWj).mono ?_;rintro e w2 ⟨⟨b,rb,rfl,hb,hM⟩,hb2⟩;have hS1:=Kept.call2 hb2 hS0;refine hK.out _ _ hS1 ?_;clear hK K;have HF:=hdq (hbW.trans ((hdr.trans hb2).mono hBW));have HM:=hdq (hM.lower hBW);refine tx1 6 hS1 ?_;refine zAf (by kernel_rfl) ?_ _;clear hS0 hS1 hM hb2 hdr c1 b1 hbW;go_wp2;go_ret;exact ⟨⟨b,rb,rfl,nlt hBW hb,HM.out⟩,HF.out⟩
theorem zXn {w:World} {x:Int} (h1:1<=x) (h2:x<=1000000):Calls Tryz.prog 145 #[.int .i64 1,.int .i64 x] w fun e w'=>QERet w (1 / (x:Rat)) e w'/\Below w w w':=by
 have hx0:¬ x=0:=by omega
 have hxb:(x == 0)=false:=beq_false_of_ne hx0;go_enter Tryz.func145,Tryz.ntmps145
 go_upto_region 1 with fail
 refine zAo (fun W=>Below w w W/\Box4 W w (.bool false) (.slice none 0 0) (.bool false) (.slice none 0 0)/\w.heap.size<W.heap.size) ⟨(az (brf _ _)),bx4,by simp <;> omega⟩ ?_;rintro W ⟨hbW,bR,s0⟩;have hBW:=hbW.size;go_wp2_with fail
 refine (zAI 1 (by decide) (by decide) _).mono ?_; rintro e w1 ⟨⟨ng1,A1,k1,c1,rfl,z1⟩,hb1⟩
 have hb01:=hbW.trans (hb1.mono hBW);have bR1:=bR.below hb1 s0;clear bR;go_wp2_with fail
 refine (zAI x (by omega) (by omega) _).mono ?_; rintro e w2 ⟨⟨ng2,A2,k2,c2,rfl,z2⟩,hb2⟩
 have i1:ZIs w2 (New W) 1 ⟨ng1,A1,k1,c1⟩ 1:=(z1.below hb2).zis (by decide)
 have i2:ZIs w2 (New w1) 1 ⟨ng2,A2,k2,c2⟩ x:=z2.zis (by
  rw [show Num.base ^ 1=4294967296 from rfl];omega)
 have HI:=hdq (And.intro i1 i2);have HB2:=hdq (hb01.trans (hb2.mono hb01.size));have bR2:=bR1.below hb2 (ltl s0 hb1.size);have s2:w.heap.size<w2.heap.size:=ltl (ltl s0 hb1.size) hb2.size;clear z1 z2 i1 i2 hb1 hb01 hb2 bR1 hbW hBW s0;go_wp2_with fail
 refine (zBz (zn:=⟨ng1,A1,k1,c1⟩) (zd:=⟨ng2,A2,k2,c2⟩) (q:=1 / (x:Rat)) HI.out.1 HI.out.2 hx0 rfl (by decide)).mono ?_; rintro e w3 ⟨⟨z,rfl,hz⟩,hb3⟩
 have hb03:=HB2.out.trans (hb3.mono HB2.out.size);have bR3:=bR2.below hb3 s2;obtain ⟨v0,v1,v2,v3,-⟩:=bR3.stored (.bool z.num.ng) (.slice z.num.A z.num.n z.num.c) (.bool z.den.ng) (.slice z.den.A z.den.n z.den.c);have HB:=hdq (zAl (x0:=.bool z.num.ng) (x1:=.slice z.num.A z.num.n z.num.c) (x2:=.bool z.den.ng) (x3:=.slice z.den.A z.den.n z.den.c) (b:=w) hb03 (by omega));have HZ:=hdq ((hz.set4 (b:=w) (x0:=.bool z.num.ng) (x1:=.slice z.num.A z.num.n z.num.c) (x2:=.bool z.den.ng) (x3:=.slice z.den.A z.den.n z.den.c) s2).lower (Nat.le_of_lt s2));clear hb3 hb03 hz bR2 HB2 HI;go_wp2;exact bodyPost_ret (v:=.tuple #[z.val,.int .i64 0]) (by simp [results,Tryz.results145,go_sem,v0,v1,v2,v3]) rfl ⟨⟨z,rfl,HZ.out⟩,HB.out⟩
end Mo
end Go.Proofs.YtjancagcmghfjaaGreat
