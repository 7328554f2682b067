/- Texts Pivot Last Comp1 Infeas Unb of this claim. -/
import Derived.Test.YtbpngececjihlaaGreatB13
set_option maxHeartbeats 4000000
set_option maxRecDepth 40000
namespace Go.Proofs.YtbpngececjihlaaGreat
open Go.RowKit Go.Shelf
variable {T:TypeId} {cs:Array Value} {v v0 v1 v2 v3 v4:Value} {l:List Rat} {b g o n k r i j V M K kb col B c:Nat} {s:SV} {D:Lin.Dict} {pv rw cl:Int} {G:Nat->Prop} {w W:World}
section
variable {W:World} {G:Nat->Prop} {x:DV} {V M K:Nat} {D D':Lin.Dict} {pv rw cl:Int}
theorem DA.congr (h:DA W G x V M K D pv rw cl) (hb:∀ i,i<M->D.basic i=D'.basic i) (hf:∀ j,j<V->D.free j=D'.free j) (ha:∀ i j,i<M->j<=V->D.a i j=D'.a i j) (hc:∀ i j,i<K->j<=V->D.c i j=D'.c i j):DA W G x V M K D' pv rw cl:=
 ⟨h.blk,h.bas.congr fun i hi=>by rw [hb i hi],h.fre.congr fun j hj=>by rw [hf j hj],h.row,h.cst,fun i hi=>by rw [<-zBs fun j hj=>ha i j hi hj]; exact h.rows i hi,fun i hi=>by rw [<-zBs fun j hj=>hc i j hi hj]; exact h.csts i hi,h.rinj,h.cinj,h.apart,h.bf,h.gin,h.gd,h.gb,h.gf,h.gr,h.gc⟩
theorem RowAt.setOther {f:Nat × Nat} (h:RowAt W G b l) (hg:G g) (hb:W.heap[g]?=some (.cells cs T f)) (hT:T ≠ 30):RowAt (W.setCell ⟨g,o,none⟩ v) G b l:=by
 have hne:b ≠ g:=by
  rintro rfl;obtain ⟨cs',e,_⟩:=h.blk;rw [hb] at e;simp only [Option.some.injEq,Obj.cells.injEq] at e;exact hT e.2.1
 exact h.keep (bhs _ _ _ _ hne) fun p hp _=>cob (bhs _ _ _ _ (fun e=>hp (by rw [e]; exact hg)))
theorem DA.setD (h:DA W G x V M K D pv rw cl) {pv' rw' cl':Int} (he:#[Value.int .i64 V,x.bas.val,x.fre.val,x.row.val,x.cst.val,.int .i64 pv,.int .i64 rw,.int .i64 cl].setIfInBounds o v=#[Value.int .i64 V,x.bas.val,x.fre.val,x.row.val,x.cst.val,.int .i64 pv',.int .i64 rw',.int .i64 cl']) :
  DA (W.setCell ⟨x.d,o,none⟩ v) G x V M K D pv' rw' cl':=by
 have ne:∀ {s:SV} {n:Nat} {T:TypeId} {f:Nat->Value},T ≠ 193->Arr W s n T f->Arr (W.setCell ⟨x.d,o,none⟩ v) s n T f:=fun hT ha=>ha.keep fun g e _=>bhs _ _ _ _ (zDD ha h.blk (Ne.symm hT) e)
 exact ⟨by rw [zAe _ h.blk,he],ne dj h.bas,ne dj h.fre,ne dj h.row,ne dj h.cst,fun i hi=>(h.rows i hi).setOther h.gd h.blk dj,fun i hi=>(h.csts i hi).setOther h.gd h.blk dj,h.rinj,h.cinj,h.apart,h.bf,
  fun b hb=>by simpa [World.setCell] using h.gin b hb,h.gd,h.gb,h.gf,h.gr,h.gc⟩
theorem Arr.block {f:Nat->Value} (h:Arr W s n T f) (e:s.A=some ⟨g,0,none⟩):∃ cs,W.heap[g]?=some (.cells cs T (0,0)):=by
 rcases h.blk with ⟨h0,_⟩ | ⟨g',cs,e',hb,_⟩
 ·rw [h0] at e; cases e
 ·rw [e] at e'; cases e'; exact ⟨cs,hb⟩
theorem DA.setB (h:DA W G x V M K D pv rw cl) (e:x.bas.A=some ⟨g,0,none⟩) (r v:Nat):DA (W.setCell ⟨g,r,none⟩ v) G x V M K {D with basic:=Lin.turn D.basic r v} pv rw cl:=by
 obtain ⟨cs,hb⟩:=h.bas.block e;have hd:x.d ≠ g:=by rintro e'; have:=h.blk; rw [e',hb] at this; cases this
 have k:∀ g',g' ≠ g->(W.setCell ⟨g,r,none⟩ v).heap[g']?=W.heap[g']?:=fun g' hg=>bhs _ _ _ _ hg
 exact ⟨(k _ hd).trans h.blk,(h.bas.set e v).congr fun i _=>by by_cases hir:i=r <;> simp [hir,Lin.turn],h.fre.keep fun g' e' _=>k g' (fun e2=>h.bf g e (by rw [<-e2]; exact e')),h.row.keep fun g' e' _=>k g' (zDD h.row hb dj e'),h.cst.keep fun g' e' _=>k g' (zDD h.cst hb dj e'),
  fun i hi=>(h.rows i hi).setOther (h.gb g e) hb dj,fun i hi=>(h.csts i hi).setOther (h.gb g e) hb dj,h.rinj,h.cinj,h.apart,h.bf,fun b hb=>by simpa [World.setCell] using h.gin b hb,h.gd,h.gb,h.gf,h.gr,h.gc⟩
theorem DA.setF (h:DA W G x V M K D pv rw cl) (e:x.fre.A=some ⟨g,0,none⟩) (r v:Nat):DA (W.setCell ⟨g,r,none⟩ v) G x V M K {D with free:=Lin.turn D.free r v} pv rw cl:=by
 obtain ⟨cs,hb⟩:=h.fre.block e;have hd:x.d ≠ g:=by rintro e'; have:=h.blk; rw [e',hb] at this; cases this
 have k:∀ g',g' ≠ g->(W.setCell ⟨g,r,none⟩ v).heap[g']?=W.heap[g']?:=fun g' hg=>bhs _ _ _ _ hg
 exact ⟨(k _ hd).trans h.blk,h.bas.keep fun g' e' _=>k g' (fun e2=>h.bf g' e' (by rw [e2]; exact e)),(h.fre.set e v).congr fun i _=>by by_cases hir:i=r <;> simp [hir,Lin.turn],h.row.keep fun g' e' _=>k g' (zDD h.row hb dj e'),h.cst.keep fun g' e' _=>k g' (zDD h.cst hb dj e'),
  fun i hi=>(h.rows i hi).setOther (h.gf g e) hb dj,fun i hi=>(h.csts i hi).setOther (h.gf g e) hb dj,h.rinj,h.cinj,h.apart,h.bf,fun b hb=>by simpa [World.setCell] using h.gin b hb,h.gd,h.gb,h.gf,h.gr,h.gc⟩
end
def scaleTo (s:Nat) (r:Nat->Rat) (k:Nat):Nat->Rat:=fun j=>if j<k then Lin.scaled s r j else if j=s then 1 else r j
theorem zF8 (s:Nat) (r:Nat->Rat):scaleTo s r 0=Lin.turn r s 1:=by funext j; simp [scaleTo,Lin.turn]
theorem zDO {s:Nat} {r:Nat->Rat} :Lin.turn (scaleTo s r k) k ((r s)⁻¹*(if k=s then 1 else r k))=scaleTo s r (k+1):=by
 funext j;unfold Lin.turn scaleTo Lin.scaled;grind
theorem zF7 {s:Nat} {r:Nat->Rat} (h0:(if k=s then 1 else r k)=0):scaleTo s r k=scaleTo s r (k+1):=by
 rw [<-zDO,h0];funext j;unfold Lin.turn scaleTo;grind
theorem zHX {s:Nat} {r:Nat->Rat} :scaleTo s r k k=if k=s then 1 else r k:=by unfold scaleTo; rw [if_neg om]
def pivTo (D:Lin.Dict) (r s i l:Nat):Lin.Dict where
 basic:=D.basic
 free:=D.free
 a:=fun j=>if j=r then Lin.scaled s (D.a r) else if j<i then Lin.elim s (Lin.scaled s (D.a r)) (D.a j) else D.a j
 c:=fun j=>if j<l then Lin.elim s (Lin.scaled s (D.a r)) (D.c j) else D.c j
theorem zEW {s l:Nat} (h:j ≠ i):(pivTo D r s (i+1) l).a j=(pivTo D r s i l).a j:=by
 have:j<i+1 ↔ j<i:=om
 simp only [pivTo,this]
theorem zEV {s l:Nat} (h:i ≠ r):(pivTo D r s (i+1) l).a i=Lin.elim s (Lin.scaled s (D.a r)) (D.a i)/\(pivTo D r s i l).a i=D.a i:=by
 simp [pivTo,h]
theorem zC8 {s l:Nat}:(pivTo D r s i l).a r=Lin.scaled s (D.a r):=by simp [pivTo]
theorem zPD {s l:Nat} (h:j ≠ l):(pivTo D r s i (l+1)).c j=(pivTo D r s i l).c j:=by
 have:j<l+1 ↔ j<l:=om
 simp only [pivTo,this]
theorem zEX {s l:Nat}:(pivTo D r s i (l+1)).c l=Lin.elim s (Lin.scaled s (D.a r)) (D.c l)/\(pivTo D r s i l).c l=D.c l:=by
 simp [pivTo]
def PLoop1 (w:World) (G:Nat->Prop) (x:DV) (V M K:Nat) (D:Lin.Dict) (pv rw cl:Int) (r s:Nat) (v:QV) (g:Nat) (t:Value) (W:World):Prop:=
 ∃ k:Nat,k<=V+1/\t = .int .i64 k/\DA W G x V M K {D with a:=Lin.turn D.a r (scaleTo s (D.a r) k)} pv rw cl/\Fr G w W/\Box4 W g (.bool v.num.ng) (.slice v.num.A v.num.n v.num.c) (.bool v.den.ng) (.slice v.den.A v.den.n v.den.c)/\QCan W (fun y=>¬ G y) v (D.a r s)⁻¹
def PLoop2 (w:World) (G:Nat->Prop) (x:DV) (V M K:Nat) (D:Lin.Dict) (pv rw cl:Int) (r s:Nat) (t:Value) (W:World):Prop:=
 ∃ i:Nat,i<=M/\t = .int .i64 i/\DA W G x V M K (pivTo D r s i 0) pv rw cl/\Fr G w W
def PLoop3 (w:World) (G:Nat->Prop) (x:DV) (V M K:Nat) (D:Lin.Dict) (pv rw cl:Int) (r s:Nat) (t:Value) (W:World):Prop:=
 ∃ l:Nat,l<=K/\t = .int .i64 l/\DA W G x V M K (pivTo D r s M l) pv rw cl/\Fr G w W
def PivRet (w:World) (G:Nat->Prop) (x:DV) (V M K:Nat) (D:Lin.Dict) (rw cl:Int) (r s:Nat) (w':World):Prop:=
 ∃ pv,DA w' G x V M K (D.pivot r s) pv rw cl/\Fr G w w'
theorem zPf {x:DV} {s:Nat} (h:DA w G x V M K D pv rw cl) (hr:r<M) (hs:s<V) (hV:V<=1000) (_hM:M<=1000) (hKb:K<=1000) (h0:D.a r s ≠ 0)
  (hfa:∀ i j,i<M->j<=V->Lin.Fits kb (D.a i j)) (hfc:∀ i j,i<K->j<=V->Lin.Fits kb (D.c i j)) (hfs:∀ j,j<=V->Lin.Fits kb (Lin.scaled s (D.a r) j)) (hk:2*kb+1<=LM) :
  Calls Tryz.prog 160 #[.pointer (some x.d),.int .i64 (r:Int),.int .i64 (s:Int)] w fun e w'=>(∃ v,e = .returned v)/\PivRet w G x V M K D rw cl r s w':=by
 have HK:=hdq hk;have HK1:Hid (kb+1<=LM):=by show kb+1<=LM; omega
 have HFA:=hdq hfa;have HFC:=hdq hfc;have HFS:=hdq hfs;have H0:=hdq h0;clear hk hfa hfc hfs h0;obtain ⟨d,⟨bA,bn,bc⟩,⟨fA,fn,fc⟩,⟨rA,rn,rc⟩,⟨cA,cn,cc⟩,rb,cb⟩:=x;obtain ⟨c0,c1,c2,c3,c4,c5,c6,c7,c8⟩:=h.cells;dsimp only [SV.val] at c0 c1 c2 c3 c4 c5 c6 c7 c8;obtain ⟨hdl,rfl,rfl,rfl,rfl,l1,l1',l2,l2',l3,l3',l4,l4'⟩:=h.opn;obtain ⟨gr,e,r0,r1,r2⟩:=h.row.elem hr;dsimp only at e;subst e;have hrow:=h.rows r hr;dsimp only at hrow;obtain ⟨u,⟨q0,q1,q2,q3⟩,hu⟩:=hrow.elem s (by rw [zAm]; omega);rw [zAL _ om] at hu;dsimp only at q1 q2 q3;have hrl:=hrow.lt;have hsl:s<V+1:=om
 have hsi:(s:Int)<(V:Int)+1:=om
 go_enter Tryz.func160,Tryz.ntmps160
 go_wp2;have hu1:=hu.qis (zAv (HFA.out r s hr om));go_cut [7] from 15 (fun p W=>∃ (g:Nat) (z:QV),p = .pointer (some g)/\w.heap.size<=g/\Box4 W g z.num.ng z.num z.den.ng z.den/\QCan W (New w) z (1 / D.a r s)/\Below w w W)
 case first=>
  go_region_held3 (Sees w [] w) (exact kp)
   (first
    | (go_at_call 44; ((with_reducible refine (zAN 1 dj dj _).mono ?_); rintro e w3 ⟨⟨y,rfl,hy⟩,hb3⟩; (have sz3:w.heap.size<=w3.heap.size:=by exact nlt (Sees.kept (by assumption):Kept w [] w _).size hb3.size); (obtain ⟨hc3,hf3⟩:=bcell hb3); (have lt3:=fun (b:Nat) h=>ltl (n:=b) h hb3.size)))
    | (go_at_call 109; ((with_reducible refine (zEY (a:=y) (b:=u) (hy.qis (zAv (Lin.Fits.one _))) (hu1.keptNil sk) HK1.out HK1.out H0.out).mono ?_); rintro e w4 ⟨⟨z,rfl,hz⟩,hb4⟩; (have sz4:w.heap.size<=w4.heap.size:=by exact nlt (Sees.kept (by assumption):Kept w [] w _).size hb4.size); (obtain ⟨hc4,hf4⟩:=bcell hb4); (have lt4:=fun (b:Nat) h=>ltl (n:=b) h hb4.size)))
    | (go_at_call 109; ((with_reducible refine (zEY (a:=y) (b:=u) ((hy.below (bal)).qis (zAv (Lin.Fits.one _))) (hu1.keptNil sk) HK1.out HK1.out H0.out).mono ?_); rintro e w4 ⟨⟨z,rfl,hz⟩,hb4⟩; (have sz4:w.heap.size<=w4.heap.size:=by exact nlt (Sees.kept (by assumption):Kept w [] w _).size hb4.size); (obtain ⟨hc4,hf4⟩:=bcell hb4); (have lt4:=fun (b:Nat) h=>ltl (n:=b) h hb4.size)))
    | fail)
  ·rename_i hS;(go_wp2_with fail);go_meet;case rel=>exact ⟨_,z,rfl,sz4,bx4,(hz.below (bal)).lower sz3,hS.kept.below⟩
  ·rename_i hS;(go_wp2_with fail);go_meet;case rel=>exact ⟨_,z,rfl,sz3,bx4,(hz.set4 si).lower (by simp; omega),hS.kept.below⟩
  ·rename_i hS;(go_wp2_with fail);go_meet
   case rel=>
    have b0:Box4 (w.alloc (.cells #[false,(),false,()] 30)).drew w false () false ():=bx4;exact ⟨_,z,rfl,nlr _,((b0.below hb3 si).below hb4 (lt3 _ si)).stored _ _ _ _,(hz.set4 (lt3 _ si)).lower om,hS.kept.below⟩
 case rest=>
  obtain ⟨g,z,rfl,hgw,bZ,hz,hbw⟩:=hcut;rw [Rat.div_def,Rat.one_mul] at hz;have hz1:QCan wc (fun y=>¬ G y) z (D.a r s)⁻¹:=hz.imp fun y _ hy hg=>by have:=h.gin y hg; simp only [New] at hy; omega
  have hD1:=h.call hbw;have hrow1:=hD1.rows r hr;dsimp only at hrow1;obtain ⟨u',⟨q0',q1',q2',q3'⟩,-⟩:=hrow1.elem s (by rw [zAm]; omega);dsimp only at q1' q2' q3';have fz:=hrow1.frozen;clear c0 c1 c2 c3 c4 c5 c6 c7 c8 q0 q1 q2 q3 r0 r1 r2 hu hu1;go_wp2_with fail
  refine (zAN 1 dj dj _).mono ?_; rintro e w1 ⟨⟨y,rfl,hy⟩,hb1⟩
  have hrow2:=hrow1.below hb1;have hgl:g<wc.heap.size:=zAb bZ.1;obtain ⟨hc1,hf1⟩:=bcell hb1;have hrl1:=hrow1.lt;have n1:g ≠ rb r:=om
  have hput:RowAt (put4 w1 (rb r) s y) G (rb r) (rowL V (Lin.turn (D.a r) s 1)):=by
   rw [<-zD1];exact hrow2.put4 (by rw [zAm]; omega) (hy.imp fun y _ hy hg=>by have:=h.gin y hg; have:=hbw.size; simp only [New] at hy; omega)
  have H1:PLoop1 w G ⟨d,⟨bA,M,bc⟩,⟨fA,V,fc⟩,⟨some ⟨gr,0,none⟩,M,rc⟩,⟨cA,K,cc⟩,rb,cb⟩ V M K D pv rw cl r s z g (.int .i64 0) (put4 w1 (rb r) s y):=by
   have hfr:Fr (fun y=>y=rb r) wc (put4 w1 (rb r) s y):=(Fr.of_below (G:=fun y=>y=rb r) hb1).put4 rfl _ _;refine ⟨0,nzl _,rfl,hD1.turnRow (b:=rb r) hrow1 hfr (fun i hi hne=>?_) (fun _ _ _=>rfl) rfl rfl (fun i hi e=>?_) (fun l hl e=>absurd e.symm (h.apart r l hr hl)),(Fr.of_below hbw).trans (hfr.mono fun b e=>by rw [e]; exact hrow.mem),(bZ.below hb1 hgl).heap (zAx _ _ _ _ n1),(hz1.below hb1).put4 hrow.mem s⟩
   ·exact Lin.zBh _ (fun e=>hne (by rw [e])) _
   ·obtain rfl:=h.rinj i r hi hr e;show RowAt _ _ _ (rowL V (Lin.turn D.a i (scaleTo s (D.a i) 0) i));rw [Lin.zBL,zF8]; exact hput
  have HD:=hdq h;obtain ⟨u2,⟨p0,p1,p2,p3⟩,-⟩:=hrow2.elem s (by rw [zAm]; omega);dsimp only at p1 p2 p3;have fz2:=hrow2.frozen;clear q0' q1' q2' q3' fz;clear hput hrow2 hrow1 hD1 hz hz1 bZ hbw hb1 hc1 hf1 hy hgl hrow h hrl hrl1;go_wp2;clear p0 p1 p2 p3 fz2;show Code.wp _ _ _ _ (put4 w1 (rb r) s y);generalize put4 w1 (rb r) s y=W0 at *;go_loopw [37] (fun t W=>PLoop1 w G ⟨d,⟨bA,M,bc⟩,⟨fA,V,fc⟩,⟨some ⟨gr,0,none⟩,M,rc⟩,⟨cA,K,cc⟩,rb,cb⟩ V M K D pv rw cl r s z g t W) (fun t _=>V+1-(intOf t).toNat)
  case atStart=>exact H1
  case round=>
   clear H1;obtain ⟨k,hk,rfl,hD,hF,bZ,hz⟩:=hrel;have hrow:=hD.rows r hr;dsimp only at hrow;rw [Lin.zBL] at hrow;have hrl:=hrow.lt;have hgl:g<wr.heap.size:=zAb bZ.1;by_cases hlt:k<V+1
   ·obtain ⟨u,⟨c0,c1,c2,c3⟩,hu⟩:=hrow.elem k (by rw [zAm]; omega);rw [zAL _ om,zHX] at hu;dsimp only at c1 c2 c3;have hfu:Lin.Fits kb (if k=s then 1 else D.a r k):=by split; exact Lin.Fits.one _; exact HFA.out r k hr om
    have hfz:=(HFA.out r s hr om).inv;have HU:=hdq hu;clear hu;have al:Below wr wr (wr.alloc (.cells #[u.num.ng,u.num,u.den.ng,u.den] 30)):=bal;have bU0:Box4 (wr.alloc (.cells #[u.num.ng,u.num,u.den.ng,u.den] 30)) wr u.num.ng u.num u.den.ng u.den:=bx4;(go_wp2_with fail);refine (zAn ((HU.out.below al).qis (zAv hfu))).mono ?_; rintro e w2 ⟨rfl,hb2⟩
    have h2:Below wr wr w2:=al.trans (hb2.mono al.size);have bU:=bU0.below hb2 si;have bZ2:=bZ.below h2 hgl;clear bU0 al hb2 c0 c1 c2 c3;by_cases h0:(if k=s then 1 else D.a r k)=0
    ·have hq:qsign (if k=s then 1 else D.a r k)=0:=by rw [h0]; rfl
     have Hfin:Hid (PLoop1 w G ⟨d,⟨bA,M,bc⟩,⟨fA,V,fc⟩,⟨some ⟨gr,0,none⟩,M,rc⟩,⟨cA,K,cc⟩,rb,cb⟩ V M K D pv rw cl r s z g (.int .i64 ((k:Int)+1)) w2):=
      ⟨k+1,om,si,by rw [<-zF7 h0]; exact hD.call h2,hF.call h2,bZ2,hz.below h2⟩
     rw [hq];clear hq h0 hD hF bZ bU bZ2 hz h2;go_wp2;go_roundw;case rel=>exact fn_ Hfin.out
     case measure=>simp [intOf]; omega
    ·have hq:(qsign (if k=s then 1 else D.a r k) == 0)=false:=zDd h0;obtain ⟨uk,HUK⟩:∃ uk:Rat,Hid ((if k=s then 1 else D.a r k)=uk):=⟨_,rfl⟩;rw [HUK.out] at hq hfu HU ⊢;clear h0;(go_wp2_with fail);refine (zBb (a:=z) (b:=u) ((hz.below h2).qis (zAv hfz)) ((HU.out.below h2).qis (zAv hfu)) HK1.out HK1.out).mono ?_; rintro e w3 ⟨⟨y,rfl,hy⟩,hb3⟩
     have h3:Below wr wr w3:=h2.trans (hb3.mono h2.size);have hrow3:=hrow.below h3;obtain ⟨u2,⟨p0,p1,p2,p3⟩,-⟩:=hrow3.elem k (by rw [zAm]; omega);dsimp only at p1 p2 p3;have fz2:=hrow3.frozen
     have Hfin:Hid (PLoop1 w G ⟨d,⟨bA,M,bc⟩,⟨fA,V,fc⟩,⟨some ⟨gr,0,none⟩,M,rc⟩,⟨cA,K,cc⟩,rb,cb⟩ V M K D pv rw cl r s z g (.int .i64 ((k:Int)+1)) (put4 w3 (rb r) k y)):=by
      have hfr:Fr (fun y=>y=rb r) wr (put4 w3 (rb r) k y):=(Fr.of_below (G:=fun y=>y=rb r) h3).put4 rfl _ _;refine ⟨k+1,om,si,hD.turnRow (b:=rb r) hrow hfr (fun i hi hne=>?_) (fun _ _ _=>rfl) rfl rfl (fun i hi e=>?_) (fun l hl e=>absurd e.symm (HD.out.apart r l hr hl)),hF.trans (hfr.mono fun b e=>by rw [e]; exact hrow.mem),(bZ.below h3 hgl).heap (zAx _ _ _ _ n1),(hz.below h3).put4 hrow.mem k⟩
      ·show Lin.turn D.a r _ i=Lin.turn D.a r _ i;rw [Lin.zBh _ (fun e=>hne (by rw [e])) _,Lin.zBh _ (fun e=>hne (by rw [e])) _]
      ·obtain rfl:=HD.out.rinj i r hi hr e;show RowAt _ _ _ (rowL V (Lin.turn D.a i (scaleTo s (D.a i) (k+1)) i));rw [Lin.zBL,<-zDO,HUK.out,<-zD1];exact hrow3.put4 (by rw [zAm]; omega) (hy.imp fun y _ hy hg=>by have:=HD.out.gin y hg; have:=hF.size; have:=h2.size; simp only [New] at hy; omega)
     clear hq hD hF bZ bU bZ2 hz h2 h3 hb3 hy hrow hrow3;go_wp2;go_roundw;case rel=>exact fn_ Hfin.out
     case measure=>simp [intOf]; omega
   ·obtain rfl:k=V+1:=om
    have H2:PLoop2 w G ⟨d,⟨bA,M,bc⟩,⟨fA,V,fc⟩,⟨some ⟨gr,0,none⟩,M,rc⟩,⟨cA,K,cc⟩,rb,cb⟩ V M K D pv rw cl r s (.int .i64 0) wr:=by
     refine ⟨0,nzl _,rfl,hD.congr (fun _ _=>rfl) (fun _ _=>rfl) (fun i j hi hj=>?_) (fun i j hi hj=>?_),hF⟩
     ·simp only [pivTo,Lin.turn];by_cases e:i=r
      ·rw [if_pos e,if_pos e]; unfold scaleTo; rw [if_pos om]
      ·rw [if_neg e,if_neg e,if_neg om]
     ·simp [pivTo]
    obtain ⟨c0,c1,c2,c3,c4,c5,c6,c7,c8⟩:=hD.cells;dsimp only [SV.val] at c0 c1 c2 c3 c4 c5 c6 c7 c8;clear hD hF bZ hz hrow hrl hgl hk hlt;go_wp2;clear c0 c1 c2 c3 c4 c5 c6 c7 c8;obtain ⟨w4,hw4⟩:∃ w4:World,w4=wr:=⟨_,rfl⟩;rw [<-hw4] at H2 ⊢;clear hw4;(go_loopw [57] (fun t W=>PLoop2 w G ⟨d,⟨bA,M,bc⟩,⟨fA,V,fc⟩,⟨some ⟨gr,0,none⟩,M,rc⟩,⟨cA,K,cc⟩,rb,cb⟩ V M K D pv rw cl r s t W) (fun t _=>M-(intOf t).toNat));case atStart=>exact H2
    case round=>
     clear H2;obtain ⟨i,hi,rfl,hD,hF⟩:=hrel;by_cases hlt:i<M
     ·obtain ⟨c0,c1,c2,c3,c4,c5,c6,c7,c8⟩:=hD.cells;dsimp only [SV.val] at c0 c1 c2 c3 c4 c5 c6 c7 c8;obtain ⟨gr',e,r0,r1,r2⟩:=hD.row.elem hlt;cases e;dsimp only at r0;have hrr:=hD.rows r hr;rw [zC8] at hrr;dsimp only at hrr;by_cases hir:i=r
      ·have hri:((i:Int) != (r:Int))=false:=by simp [hir]
       have Hfin:Hid (PLoop2 w G ⟨d,⟨bA,M,bc⟩,⟨fA,V,fc⟩,⟨some ⟨gr,0,none⟩,M,rc⟩,⟨cA,K,cc⟩,rb,cb⟩ V M K D pv rw cl r s (.int .i64 ((i:Int)+1)) wr):=
        ⟨i+1,om,si,hD.congr (fun _ _=>rfl) (fun _ _=>rfl) (fun j l hj hl=>by
         by_cases e:j=i
         ·rw [e,hir,zC8,zC8]
         ·rw [zEW e]) (fun _ _ _ _=>rfl),hF⟩
       clear hrr hD hF hir;go_wp2;go_roundw;case rel=>exact fn_ Hfin.out
       case measure=>simp [intOf]; omega
      ·have hni:((i:Int) != (r:Int))=true:=by simp; omega
       have hri:=hD.rows i hlt;rw [(zEV hir).2] at hri;dsimp only at hri;have hne:rb r ≠ rb i:=(fun e=>hir (HD.out.rinj i r hlt hr e.symm));(go_wp2_with fail);refine (zO7 (kb:=kb) hri hrr hne hD.gin om om (fun j hj=>HFA.out i j hlt hj) HFS.out HK.out).mono ?_; rintro e w5 ⟨⟨v,rfl⟩,hr5,hF5⟩
       have Hfin:Hid (PLoop2 w G ⟨d,⟨bA,M,bc⟩,⟨fA,V,fc⟩,⟨some ⟨gr,0,none⟩,M,rc⟩,⟨cA,K,cc⟩,rb,cb⟩ V M K D pv rw cl r s (.int .i64 ((i:Int)+1)) w5):=
        ⟨i+1,om,si,hD.turnRow (b:=rb i) hri hF5 (fun j hj hne=>zEW (fun e=>hne (by rw [e]))) (fun _ _ _=>rfl) rfl rfl (fun j hj e=>by
         obtain rfl:=HD.out.rinj j i hj hlt e;rw [(zEV hir).1]; exact hr5) (fun l hl e=>absurd e.symm (HD.out.apart i l hlt hl)),hF.trans (hF5.mono fun b e=>by rw [e]; exact hri.mem)⟩
       clear hrr hri hD hF hr5 hF5 c0 c1 c2 c3 c4 c5 c6 c7 c8 r0 r1 r2;go_wp2;go_roundw;case rel=>exact fn_ Hfin.out
       case measure=>simp [intOf]; omega
     ·have hiM:i=M:=om;rw [hiM] at hD;have H3:PLoop3 w G ⟨d,⟨bA,M,bc⟩,⟨fA,V,fc⟩,⟨some ⟨gr,0,none⟩,M,rc⟩,⟨cA,K,cc⟩,rb,cb⟩ V M K D pv rw cl r s (.int .i64 0) wr:=⟨0,nzl _,rfl,hD,hF⟩;obtain ⟨c0,c1,c2,c3,c4,c5,c6,c7,c8⟩:=hD.cells;dsimp only [SV.val] at c0 c1 c2 c3 c4 c5 c6 c7 c8;clear hD hF hiM;go_wp2;clear hi hlt;clear c0 c1 c2 c3 c4 c5 c6 c7 c8;obtain ⟨w5,hw5⟩:∃ w5:World,w5=wr:=⟨_,rfl⟩;rw [<-hw5] at H3 ⊢;clear hw5;(go_loopw [75] (fun t W=>PLoop3 w G ⟨d,⟨bA,M,bc⟩,⟨fA,V,fc⟩,⟨some ⟨gr,0,none⟩,M,rc⟩,⟨cA,K,cc⟩,rb,cb⟩ V M K D pv rw cl r s t W) (fun t _=>K-(intOf t).toNat));case atStart=>exact H3
      case round=>
       clear H3;obtain ⟨i,hi,rfl,hD,hF⟩:=hrel;obtain ⟨c0,c1,c2,c3,c4,c5,c6,c7,c8⟩:=hD.cells;dsimp only [SV.val] at c0 c1 c2 c3 c4 c5 c6 c7 c8;by_cases hlt:i<K
       ·obtain ⟨gc',e,r0,r1,r2⟩:=hD.cst.elem hlt;dsimp only at e r0;subst e;have hrr:=hD.rows r hr;rw [zC8] at hrr;dsimp only at hrr;have hri:=hD.csts i hlt;rw [zEX.2] at hri;dsimp only at hri;have hne:rb r ≠ cb i:=HD.out.apart r i hr hlt;(go_wp2_with fail);refine (zO7 (kb:=kb) hri hrr hne hD.gin om om (fun j hj=>HFC.out i j hlt hj) HFS.out HK.out).mono ?_; rintro e w5 ⟨⟨v,rfl⟩,hr5,hF5⟩
        have Hfin:Hid (PLoop3 w G ⟨d,⟨bA,M,bc⟩,⟨fA,V,fc⟩,⟨some ⟨gr,0,none⟩,M,rc⟩,⟨some ⟨gc',0,none⟩,K,cc⟩,rb,cb⟩ V M K D pv rw cl r s (.int .i64 ((i:Int)+1)) w5):=
         ⟨i+1,om,si,hD.turnRow (b:=cb i) hri hF5 (fun j hj hne=>rfl) (fun j hj hne=>zPD (fun e=>hne (by rw [e]))) rfl rfl (fun l hl e=>absurd e (HD.out.apart l i hl hlt)) (fun j hj e=>by
          obtain rfl:=HD.out.cinj j i hj hlt e;rw [zEX.1]; exact hr5),hF.trans (hF5.mono fun b e=>by rw [e]; exact hri.mem)⟩
        clear hrr hri hD hF hr5 hF5 c0 c1 c2 c3 c4 c5 c6 c7 c8 r0 r1 r2;go_wp2;go_roundw;case rel=>exact fn_ Hfin.out
        case measure=>simp [intOf]; omega
       ·have hiK:i=K:=om;rw [hiK] at hD;clear hiK;go_wp2;obtain ⟨gb,e,b0,b1,b2⟩:=hD.bas.elem hr;obtain ⟨gf,e',f0,f1,f2⟩:=hD.fre.elem hs;dsimp only at e b0 e' f0;subst e e';have n1:gf ≠ gb:=(fun e=>HD.out.bf gb rfl (by rw [e]));obtain ⟨csb,xb⟩:=hD.bas.block rfl;obtain ⟨csf,xf⟩:=hD.fre.block rfl;have n2:gb ≠ d:=by rintro e; have:=hD.blk; dsimp only at this; rw [<-e,xb] at this; cases this
        have n3:gf ≠ d:=by rintro e; have:=hD.blk; dsimp only at this; rw [<-e,xf] at this; cases this
        clear hi hlt csb xb csf xf;change wr.cell? ⟨gb,r,none⟩=some (.int .i64 (D.basic r:Int)) at b0;change wr.cell? ⟨gf,s,none⟩=some (.int .i64 (D.free s:Int)) at f0;refine zAp 25 (fun fl w'=>(w'.cell? ⟨d,1,none⟩=some (.slice (some gb) M bc)/\w'.cell? ⟨d,2,none⟩=some (.slice (some gf) V fc))/\(fl=false->w'.cell? ⟨gb,r,none⟩=some (.int .i64 (D.basic r:Int))/\w'.cell? ⟨gf,s,none⟩=some (.int .i64 (D.free s:Int)))) kj ?_;have hS0:(wr.drew.cell? ⟨d,1,none⟩=some (.slice (some gb) M bc)/\wr.drew.cell? ⟨d,2,none⟩=some (.slice (some gf) V fc))/\(false=false->wr.drew.cell? ⟨gb,r,none⟩=some (.int .i64 (D.basic r:Int))/\wr.drew.cell? ⟨gf,s,none⟩=some (.int .i64 (D.free s:Int))):=⟨⟨c1,c2⟩,fun _=>⟨b0,f0⟩⟩;refine tx4 0 1 2 3 hS0 ?_;refine tx4 4 5 6 7 hS0 ?_;refine tx4 8 9 10 11 hS0 ?_;refine tx4 12 13 14 15 hS0 ?_;refine tkW 16 (.int .i64 (D.free s:Int)) (fun w' hSw=>?_) (hS0) ?_
        ·obtain ⟨a1,a2⟩:=hSw.2 rfl; go_simp
        simp only [zz];refine tx4 17 18 19 20 hS0 ?_;refine tx1 21 hS0 ?_;refine tx1 22 hS0 ?_;refine tkW 23 (.int .i64 (D.basic r:Int)) (fun w' hSw=>?_) (hS0) ?_
        ·obtain ⟨a1,a2⟩:=hSw.2 rfl; go_simp
        simp only [zz];refine tk1 24 ?_;intro K hK;go_simp;refine hK.out _ _ hS0 ?_;clear hK K;refine tk1 25 ?_;intro K hK;go_simp;refine hK.out _ _ ⟨⟨(World.cell?_setCell_far _ _ _ _ n2).trans c1,(World.cell?_setCell_far _ _ _ _ n2).trans c2⟩,fun h=>absurd h dj⟩ ?_;clear hK K;refine tk1 26 ?_;intro K hK;go_simp;refine hK.out _ _ ⟨⟨(World.cell?_setCell_far _ _ _ _ n2).trans c1,(World.cell?_setCell_far _ _ _ _ n2).trans c2⟩,fun h=>absurd h dj⟩ ?_;clear hK K;refine tk1 27 ?_;intro K hK;go_simp;refine hK.out _ _ ⟨⟨(World.cell?_setCell_far _ _ _ _ n3).trans ((World.cell?_setCell_far _ _ _ _ n2).trans c1),(World.cell?_setCell_far _ _ _ _ n3).trans ((World.cell?_setCell_far _ _ _ _ n2).trans c2)⟩,fun h=>absurd h dj⟩ ?_;clear hK K;refine zAf kj ?_ _;have hD6:=((hD.setB (g:=gb) rfl r (D.free s)).setF (g:=gf) rfl s (D.basic r)).call (brf _ _).drew;have hF6:=((hF.set (p:=⟨gb,r,none⟩) (HD.out.gb gb rfl) (.int .i64 (D.free s:Int))).set (p:=⟨gf,s,none⟩) (HD.out.gf gf rfl) (.int .i64 (D.basic r:Int))).drew;generalize ((wr.setCell ⟨gb,r,none⟩ (.int .i64 (D.free s:Int))).setCell ⟨gf,s,none⟩ (.int .i64 (D.basic r:Int))).drew=W6 at *;clear c0 c1 c2 c3 c4 c5 c6 c7 c8 b0 b1 b2 f0 f1 f2 hS0 hD hF;obtain ⟨-,-,-,-,-,c5,-,-,c8⟩:=hD6.cells;dsimp only at c5 c8;go_wp2
        have hD7:=(hD6.setD (o:=5) (v:=.int .i64 (wrap64 (pv+1))) (pv':=wrap64 (pv+1)) (rw':=rw) (cl':=cl) rfl).congr (D':=D.pivot r s) (fun _ _=>rfl) (fun _ _=>rfl) (fun i j hi hj=>by
         simp only [pivTo,Lin.Dict.pivot];by_cases e:i=r
         ·rw [if_pos e,if_pos e]
         ·rw [if_neg e,if_neg e,if_pos hi]) (fun i j hi hj=>by
         simp only [pivTo,Lin.Dict.pivot];rw [if_pos hi])
        exact bodyPost_end (results_none rfl _ _ _) rfl ⟨⟨_,rfl⟩,_,hD7,hF6.set (p:=⟨d,5,none⟩) HD.out.gd _⟩
def LastRet (_w:World) (G:Nat->Prop) (q:Rat) (e:Ending) (w':World):Prop:=∃ v:QV,e = .returned v.val/\QCan w' (fun y=>¬ G y) v q
theorem zO2 {x:DV} (h:DA w G x V M K D pv rw cl) (hi:i<M) (_hV:V<=1000) (_hM:M<=1000) :
  Calls Tryz.prog 159 #[.pointer (some x.d),.int .i64 (i:Int)] w fun e w'=>LastRet w G (D.a i V) e w'/\Below w w w':=by
 obtain ⟨d,⟨bA,bn,bc⟩,⟨fA,fn,fc⟩,⟨rA,rn,rc⟩,⟨cA,cn,cc⟩,rb,cb⟩:=x;obtain ⟨hdl,rfl,rfl,rfl,rfl,l1,l1',l2,l2',l3,l3',l4,l4'⟩:=h.opn;obtain ⟨c0,c1,c2,c3,c4,c5,c6,c7,c8⟩:=h.cells;dsimp only [SV.val] at c0 c1 c2 c3 c4 c5 c6 c7 c8;obtain ⟨gr,e,r0,r1,r2⟩:=h.row.elem hi;dsimp only at e r0;subst e;have hrow:=h.rows i hi;dsimp only at hrow;have hrl:=hrow.lt;obtain ⟨u,⟨q0,q1,q2,q3⟩,hu⟩:=hrow.elem V (by rw [zAm]; omega);rw [zAL _ om] at hu;dsimp only at q1 q2 q3;have hn1:w.heap.size ≠ d:=om
 have hii:(i:Int)<(M:Int):=om
 have hvi:(V:Int)<(V:Int)+1:=om
 go_enter Tryz.func159,Tryz.ntmps159
 go_wp2;refine zAo (fun W=>Below w w W/\Box4 W w false () false ()/\w.heap.size<W.heap.size) ⟨(az (brf _ _)),bx4,by simp <;> omega⟩ ?_;rintro W ⟨hbW,bR,s0⟩;have hBW:=hbW.size;have h':=h.call hbW;obtain ⟨hc,hf⟩:=bcell hbW;rw [<-hc _ _ hdl] at c0 c3;rw [<-hc _ _ r2] at r0;rw [<-hc _ _ hrl] at q0 q1 q2 q3;have t1:d<W.heap.size:=om
 have t2:gr<W.heap.size:=om
 have t3:rb i<W.heap.size:=om
 have m1:¬ (d=w.heap.size):=om
 have m2:¬ (gr=w.heap.size):=om
 have m3:¬ (rb i=w.heap.size):=om
 clear hc hf c1 c2 c4 c5 c6 c7 c8
 go_region_held3 (Sees w [w.heap.size] W) (exact kp)
  (fail)
 rename_i hS;have hbf:=hbW.trans hS.kept.below;obtain ⟨v0,v1,v2,v3,-⟩:=bR.stored u.num.ng u.num u.den.ng u.den;clear hS;go_wp2;exact bodyPost_ret (v:=u.val) (by simp [results,Tryz.results159,go_sem,v0,v1,v2,v3]) rfl ⟨⟨u,rfl,hu.below hbf⟩,hbf⟩
def ptTo (V:Nat) (D:Lin.Dict) (i v:Nat):Rat:=if Lin.find D.basic v i<i then D.a (Lin.find D.basic v i) V else 0
theorem zPx (inj:∀ j,j<i->D.basic j ≠ D.basic i):ptTo V D (i+1)=Lin.turn (ptTo V D i) (D.basic i) (D.a i V):=by
 funext v;unfold ptTo Lin.turn;by_cases hv:v=D.basic i
 ·subst hv;have h1:¬ Lin.find D.basic (D.basic i) i<i:=Lin.zCQ inj;have h2:Lin.find D.basic (D.basic i) (i+1)=i:=by simp [Lin.find,h1]
  rw [h2,if_pos om,if_pos rfl]
 ·rw [if_neg hv];by_cases h1:Lin.find D.basic v i<i
  ·have h2:Lin.find D.basic v (i+1)=Lin.find D.basic v i:=(by simp [Lin.find,h1]);rw [h2,if_pos om]; dsimp only; rw [if_pos h1]
  ·have h2:Lin.find D.basic v (i+1)=i+1:=(by simp [Lin.find,h1,Ne.symm hv]);rw [h2,if_neg om]; dsimp only; rw [if_neg h1]
theorem zOd (f:Nat->Rat) (q:Rat):((List.range V).map f).set k q=(List.range V).map (Lin.turn f k q):=by
 apply List.ext_getElem
 ·simp
 ·intro i h1 h2;simp only [List.getElem_set,List.getElem_map,List.getElem_range,Lin.turn];by_cases e:k=i
  ·subst e; simp
  ·rw [if_neg e,if_neg (Ne.symm e)]
theorem zMY (f:Nat->Rat) (q:Rat) (h:V<=k):(List.range V).map (Lin.turn f k q)=(List.range V).map f:=by
 apply List.map_congr_left;intro i hi;rw [List.mem_range] at hi;exact Lin.zBh _ om _
def PtLoop (w:World) (V M:Nat) (D:Lin.Dict) (t:Value) (W:World):Prop:=
 ∃ i:Nat,i<=M/\t = .int .i64 i/\RowAt W (fun y=>y<w.heap.size\/y=w.heap.size) w ((List.range V).map (ptTo V D i))/\Below w w W
theorem zPg {x:DV} (h:DA w G x V M K D pv rw cl) (inj:∀ i j,i<M->j<M->D.basic i=D.basic j->i=j) (hB:∀ i,i<M->D.basic i<=1000000) (hV:V<=1000) (hM:M<=1000)
  (hfa:∀ i j,i<M->j<=V->Lin.Fits kb (D.a i j)) (hk:2*kb+1<=LM) :
  Calls Tryz.prog 158 #[.pointer (some x.d)] w fun e w'=>VRet w ((List.range V).map (ptTo V D M)) e w'/\Below w w w':=by
 have HK1:Hid (kb+1<=LM):=by show kb+1<=LM; omega
 have HFA:=hdq hfa;have HI:=hdq inj;have HB:=hdq hB;clear hfa hk inj hB;obtain ⟨d,⟨bA,bn,bc⟩,⟨fA,fn,fc⟩,⟨rA,rn,rc⟩,⟨cA,cn,cc⟩,rb,cb⟩:=x;obtain ⟨hdl,rfl,rfl,rfl,rfl,l1,l1',l2,l2',l3,l3',l4,l4'⟩:=h.opn;obtain ⟨c0,c1,c2,c3,c4,c5,c6,c7,c8⟩:=h.cells;dsimp only [SV.val] at c0 c1 c2 c3 c4 c5 c6 c7 c8;have hmk:=zBZ V om;go_enter Tryz.func158,Tryz.ntmps158
 go_wp2
 have H1:PtLoop w V M D (.int .i64 0) (w.alloc (.cells (zeroQ V) 30)):=
  ⟨0,nzl _,rfl,by
   have e:(List.range V).map (ptTo V D 0)=List.replicate V 0:=by
    apply List.ext_getElem
    ·simp
    ·intro i h1 h2; simp [ptTo]
   rw [e]; exact RowAt.made w V _ (.inr rfl),bal⟩
 clear hmk c0 c1 c2 c3 c4 c5 c6 c7 c8;generalize w.alloc (.cells (zeroQ V) 30)=W0 at *;go_loopw [16] (fun t W=>PtLoop w V M D t W) (fun t _=>M-(intOf t).toNat)
 case atStart=>exact H1
 case round=>
  clear H1;obtain ⟨i,hi,rfl,hR,hBl⟩:=hrel;have hD:=hdq (h.call hBl);by_cases hlt:i<M
  ·obtain ⟨gb,e,b0,b1,b2⟩:=hD.out.bas.elem hlt;dsimp only at e b0;subst e;have hbi:=HB.out i hlt;obtain ⟨c0,-⟩:=hD.out.cells;dsimp only at c0;by_cases hv:D.basic i<V
   ·(go_wp2_with fail);refine (zO2 hD.out hlt om om).mono ?_; rintro e w1 ⟨⟨v,rfl,hv1⟩,hb1⟩
    (go_wp2_with fail);refine (zAT (hv1.qis (zAv (HFA.out i V hlt (nlr _)))) HK1.out).mono ?_; rintro e w2 ⟨⟨z,rfl,hz⟩,hb2⟩
    have h2:=hb1.trans (hb2.mono hb1.size);have hR2:=hR.below h2;obtain ⟨u2,⟨p0,p1,p2,p3⟩,-⟩:=hR2.elem (D.basic i) (by simpa using hv);dsimp only at p1 p2 p3;have fz2:=hR2.frozen
    have Hfin:Hid (PtLoop w V M D (.int .i64 ((i:Int)+1)) (put4 w2 w (D.basic i) z)):=
     ⟨i+1,om,si,by
      rw [zPx fun j hj e=>by have:=HI.out j i om hlt e; omega,<-zOd];refine hR2.put4 (by simpa using hv) (hz.imp fun y _ hy hg=>?_);have:=hb1.size; have:=hBl.size; have:=hR.lt
      simp only [New] at hy;rcases hg with h | h <;> omega,zBq (hBl.trans (h2.mono hBl.size)) (nlr _) _ _⟩
    clear hR hR2 hv1 hz hb1 hb2 h2 b0 b1 b2 c0 hD hBl;go_wp2;go_roundw;case rel=>exact fn_ Hfin.out
    case measure=>simp [intOf]; omega
   ·have Hfin:Hid (PtLoop w V M D (.int .i64 ((i:Int)+1)) wr):=
     ⟨i+1,om,si,by
      rw [zPx fun j hj e=>by have:=HI.out j i om hlt e; omega,zMY _ _ om]; exact hR,hBl⟩
    clear hR hBl hD;go_wp2;go_roundw;case rel=>exact fn_ Hfin.out
    case measure=>simp [intOf]; omega
  ·have hiM:i=M:=om;rw [hiM] at hR;clear hiM;have HR:=hdq hR;clear hR;go_wp2;go_ret;exact ⟨VRet.of si om (nlr _) HR.out,hBl⟩
def CRet (q:Rat) (e:Ending) (w':World):Prop:=∃ v:QV,e = .returned v.val/\QCan w' (fun _=>True) v q
theorem zPd {x:DV} {l:Nat} (h:DA w G x V M K D pv rw cl) (hl:l<K) (hc:col<V) (_hV:V<=1000) (hb:w.cell? b=some (rowVal (V+1) (x.cb l))) :
  Calls Tryz.prog 207 #[.int .i64 (col:Int),.pointer (some b)] w fun e w'=>CRet (D.c l col) e w'/\Below w w w':=by
 have hrow:=h.csts l hl;have hrl:=hrow.lt;have hbl:b<w.heap.size:=zAb hb;obtain ⟨u,⟨q0,q1,q2,q3⟩,hu⟩:=hrow.elem col (by rw [zAm]; omega);rw [zAL _ om] at hu;dsimp only at q1 q2 q3;have hc2:col<V+1:=om
 obtain ⟨cb,hcb⟩:∃ cb,cb=x.cb l:=⟨_,rfl⟩;rw [<-hcb] at hb q0 q1 q2 q3 hrl;clear hcb;have HU:=hdq hu;clear hu hrow h;go_enter Tryz.func207,Tryz.ntmps207
 go_wp2;have al:Below w w (w.alloc (.cells #[u.num.ng,u.num,u.den.ng,u.den] 30)):=bal;exact bodyPost_ret (v:=u.val) (by simp [results,Tryz.results207,go_sem]) rfl ⟨⟨u,rfl,(HU.out.below al).any⟩,al⟩
def rowOf (D:Lin.Dict) (M k:Nat):Nat:=if Lin.find D.basic k M<M then Lin.find D.basic k M+1 else 0
def vcost (D:Lin.Dict) (M k col:Nat):Rat:=if D.free col=k then 1 else if Lin.find D.basic k M<M then-D.a (Lin.find D.basic k M) col else 0
theorem zPM {P:Lin.Prob} (g:Lin.Good P D) (_hk:k<P.n) (hc:col<P.n):D.cost P (P.K+k) col=vcost D P.m k col:=by
 unfold Lin.Dict.cost vcost;rw [if_neg om,show P.K+k-P.K=k by omega];by_cases h1:D.free col=k
 ·rw [if_pos h1,if_neg (Lin.zCQ fun i hi e=>g.apart i col hi hc (by rw [e,h1])),if_pos ⟨hc,h1⟩]
 ·rw [if_neg h1,if_neg (c:=col<P.n/\D.free col=k) (fun h=>h1 h.2)]
theorem zPe {x:DV} {bd bk br ro cr:Nat} (h:DA w G x V M K D pv rw cl) (hk:k<V) (hc:col<V) (_hV:V<=1000) (hM:M<=1000) (hF:∀ j,j<V->D.free j<=1000000)
  (hbd:w.cell? bd=some (.pointer (some x.d))) (hbk:w.cell? bk=some (.int .i64 (k:Int))) (hbr:w.cell? br=some (.slice (some ro) (V+M) cr)) (hcr:V+M<=cr) (hcr2:cr<=9223372036854775807) (hro:w.cell? ⟨ro,k,none⟩=some (.int .i64 (rowOf D M k:Nat)))
  (hfa:∀ i j,i<M->j<=V->Lin.Fits kb (D.a i j)) (hkb:2*kb+1<=LM) :
  Calls Tryz.prog 208 #[.int .i64 (col:Int),.pointer (some bd),.pointer (some bk),.pointer (some br)] w fun e w'=>CRet (vcost D M k col) e w'/\Below w w w':=by
 have HK1:Hid (kb+1<=LM):=by show kb+1<=LM; omega
 have HFA:=hdq hfa;clear hfa hkb;obtain ⟨d,⟨bA,bn,bc⟩,⟨fA,fn,fc⟩,⟨rA,rn,rc⟩,⟨cA,cn,cc⟩,rb,cb⟩:=x;obtain ⟨hdl,rfl,rfl,rfl,rfl,l1,l1',l2,l2',l3,l3',l4,l4'⟩:=h.opn;obtain ⟨c0,c1,c2,c3,c4,c5,c6,c7,c8⟩:=h.cells;dsimp only [SV.val] at c0 c1 c2 c3 c4 c5 c6 c7 c8;obtain ⟨gf,e,f0,f1,f2⟩:=h.fre.elem hc;dsimp only at e f0;subst e;have hfc:=hF col hc;have l5:bd<w.heap.size:=zAb hbd;have l6:bk<w.heap.size:=zAb hbk;have l7:br<w.heap.size:=zAb hbr;have l8:ro<w.heap.size:=zAb hro;have hci:(col:Int)<(V:Int):=om
 have hki:(k:Int)<(V:Int)+(M:Int):=om
 have hki2:k<V+M:=om
 go_enter Tryz.func208,Tryz.ntmps208
 go_wp2;refine zAo (fun W=>Below w w W/\Box4 W w false () false ()/\w.heap.size<W.heap.size) ⟨(az (brf _ _)),bx4,by simp <;> omega⟩ ?_;rintro W ⟨hbW,bR,s0⟩;have hBW:=hbW.size;have h':=h.call hbW;obtain ⟨hcc,-⟩:=bcell hbW;rw [<-hcc _ _ hdl] at c2 c3;rw [<-hcc _ _ f2] at f0;rw [<-hcc _ _ l5] at hbd;rw [<-hcc _ _ l6] at hbk;rw [<-hcc _ _ l7] at hbr;rw [<-hcc _ _ l8] at hro;clear hcc c0 c1 c4 c5 c6 c7 c8;have t1:d<W.heap.size:=om
 have t2:gf<W.heap.size:=om
 have t3:bd<W.heap.size:=om
 have t4:bk<W.heap.size:=om
 have t5:br<W.heap.size:=om
 have t6:ro<W.heap.size:=om
 by_cases hfk:D.free col=k
 ·have hE:Hid (vcost D M k col=1):=by show _=_; unfold vcost; rw [if_pos hfk]
  rw [hfk] at f0
  go_region_held3 (Sees w [] W) (exact kp)
   (fail)
  rename_i hS;obtain ⟨hbS,cS⟩:Below W W W.drew/\True:=⟨(brf _ _).drew,trivial⟩;clear hS;go_wp2_with fail
  refine (zAN 1 dj dj _).mono ?_; rintro e w1 ⟨⟨y,rfl,hy⟩,hb1⟩
  have b1:=(bR.below hbS s0).below hb1 s0;obtain ⟨v0,v1,v2,v3,-⟩:=b1.stored (.bool y.num.ng) (.slice y.num.A y.num.n y.num.c) (.bool y.den.ng) (.slice y.den.A y.den.n y.den.c);go_wp2;have hbf:=zAl (x0:=.bool y.num.ng) (x1:=.slice y.num.A y.num.n y.num.c) (x2:=.bool y.den.ng) (x3:=.slice y.den.A y.den.n y.den.c) (hbW.trans (hbS.trans hb1 |>.mono hBW)) (nlr w);exact bodyPost_ret (v:=y.val) (by simp [results,Tryz.results208,go_sem,v0,v1,v2,v3]) rfl ⟨⟨y,rfl,by rw [hE.out]; exact (hy.set4 s0).any⟩,hbf⟩
 ·have hne:¬ ((D.free col:Int)=(k:Int)):=om
  have hneb:((D.free col:Int) == (k:Int))=false:=by simp; omega
  go_region_held3 (Sees w [] W) (exact kp)
   (fail)
  rename_i hS;have hbS:Below W W W.drew:=(brf _ _).drew;clear hS;by_cases hfn:Lin.find D.basic k M<M
  ·have hE:Hid (vcost D M k col=- D.a (Lin.find D.basic k M) col):=by show _=_; unfold vcost; rw [if_neg hfk,if_pos hfn]
   have hro2:rowOf D M k=Lin.find D.basic k M+1:=by unfold rowOf; rw [if_pos hfn]
   rw [hro2] at hro;generalize Lin.find D.basic k M=i at *;clear hro2;obtain ⟨gr,e,r0,r1,r2⟩:=h'.row.elem hfn;dsimp only at e r0;subst e;have hrow:=h'.rows i hfn;dsimp only at hrow;have hrl:=hrow.lt;have hrow0:=h.rows i hfn;dsimp only at hrow0;obtain ⟨u,⟨q0,q1,q2,q3⟩,hu⟩:=hrow0.elem col (by rw [zAm]; omega);rw [zAL _ om] at hu;dsimp only at q1 q2 q3;rw [<-hbW.cell (p:=⟨rb i,_,none⟩) hrow0.lt] at q0 q1 q2 q3;have hu2:=(((hu.imp (Y:=fun y=>y<w.heap.size) (fun _ hb _=>hb)).below hbW).qis (zAv (HFA.out i col hfn om))).imp (Y:=Off [w.heap.size]) (fun b _ hb hg=>by simp only [List.mem_singleton] at hg; omega);clear hu;have hii:(i:Int)<(M:Int):=om;have hcv:(col:Int)<(V:Int)+1:=om;have hcv2:col<V+1:=om;have hw4:IntKind.i64.wrap (i:Int)=(i:Int):=IntWalk.i64_in (i:Int) om;have m1:¬ (d=w.heap.size):=om;have m2:¬ (gr=w.heap.size):=by have:=h.row.elem hfn; obtain ⟨g',e',_,_,hl⟩:=this; cases e'; omega
   have m3:¬ (rb i=w.heap.size):=by have:=(h.rows i hfn).lt; dsimp only at this; omega
   have m4:¬ (bk=w.heap.size):=om;have m5:¬ (br=w.heap.size):=om;have m6:¬ (ro=w.heap.size):=om;have m7:¬ (bd=w.heap.size):=om;go_wp2;have hS:Sees w [w.heap.size] W W.drew:=Sees.st si hBW
   go_region_held3 (Sees w [w.heap.size] W) (exact kp)
    (first
     | (go_at_call 116; ((with_reducible refine (zHK (a:=u) (hu2.keptOff sk) HK1.out).mono ?_); rintro e w3 ⟨⟨z,rfl,hz⟩,hb3⟩))
     | fail)
   rename_i hS2;obtain ⟨v0,v1,v2,v3,-⟩:=((show Box4 W.drew.drew w false () false () from bR).below hb3 (by simpa using s0)).stored z.num.ng z.num z.den.ng z.den;have hbf:=hbW.trans hS2.kept.below;clear hS2 hS;go_wp2;exact bodyPost_ret (v:=z.val) (by simp [results,Tryz.results208,go_sem,v0,v1,v2,v3]) rfl ⟨⟨z,rfl,by rw [hE.out]; exact (hz.set4 (by simpa using s0)).any⟩,hbf⟩
  ·have hE:Hid (vcost D M k col=0):=by show _=_; unfold vcost; rw [if_neg hfk,if_neg hfn]
   have hro2:rowOf D M k=0:=by unfold rowOf; rw [if_neg hfn]
   rw [hro2] at hro;clear hro2;have hii:¬ ((0:Int)<0):=om;obtain ⟨v0,v1,v2,v3,-⟩:=bR.stored false () false ();go_wp2;have hbf:=zAl (x0:=.bool false) (x1:=.slice none 0 0) (x2:=.bool false) (x3:=.slice none 0 0) (hbW.trans (hbS.mono hBW)) (nlr w);exact bodyPost_ret (v:=.agg #[false,(),false,()]) (by simp [results,Tryz.results208,go_sem,v0,v1,v2,v3]) rfl ⟨⟨⟨⟨false,none,0,0⟩,⟨false,none,0,0⟩⟩,rfl,by rw [hE.out]; exact QCan.zero _ _⟩,hbf⟩
structure RV where
 kind:Nat
 X:SV
 Y:SV
 R:SV
 F:SV
 pv:Int
abbrev RV.val (r:RV):Value:=.agg #[.int .u8 (r.kind:Int),.slice r.X.A r.X.n r.X.c,.slice r.Y.A r.Y.n r.Y.c,.slice r.R.A r.R.n r.R.c,.slice r.F.A r.F.n r.F.c,.int .i64 r.pv]
abbrev zeroR:Array Value:=#[.int .u8 0,.slice none 0 0,.slice none 0 0,.slice none 0 0,.slice none 0 0,.int .i64 0]
abbrev Box6 (W:World) (b:Nat) (v0 v1 v2 v3 v4 v5:Value):Prop:=W.heap[b]?=some (.cells #[v0,v1,v2,v3,v4,v5] 60 (0,0))
theorem zO1 {v5:Value} (h:Box6 W b v0 v1 v2 v3 v4 v5):W.cell? b=some v0/\W.cell? ⟨b,1,none⟩=some v1/\W.cell? ⟨b,2,none⟩=some v2/\W.cell? ⟨b,3,none⟩=some v3/\W.cell? ⟨b,4,none⟩=some v4/\W.cell? ⟨b,5,none⟩=some v5/\∀ o,W.frozen? ⟨b,o,none⟩=false:=by
 have h':W.heap[b]?=_:=h;simp [World.cell?,World.frozen?,h']
def put6 (W:World) (b:Nat) (v0 v1 v2 v3 v4 v5:Value):World:=(((((W.setCell b v0).setCell ⟨b,1,none⟩ v1).setCell ⟨b,2,none⟩ v2).setCell ⟨b,3,none⟩ v3).setCell ⟨b,4,none⟩ v4).setCell ⟨b,5,none⟩ v5
theorem zO9 {u0 u1 u2 u3 u4 u5:Value} (h:Box6 W b u0 u1 u2 u3 u4 u5) (v0 v1 v2 v3 v4 v5:Value):Box6 (put6 W b v0 v1 v2 v3 v4 v5) b v0 v1 v2 v3 v4 v5:=
 zAe _ (zAe _ (zAe _ (zAe _ (zAe _ (zAe _ h)))))
theorem zO4 (W:World) (b:Nat) (v0 v1 v2 v3 v4 v5:Value) {x:Nat} (hx:x ≠ b):(put6 W b v0 v1 v2 v3 v4 v5).heap[x]?=W.heap[x]?:=by
 unfold put6;rw [bhs _ _ _ _ hx,bhs _ _ _ _ hx,bhs _ _ _ _ hx,bhs _ _ _ _ hx,bhs _ _ _ _ hx,bhs _ _ _ _ hx]
theorem zO3 {a:World} (h:Below B a W) (hb:B<=b) (v0 v1 v2 v3 v4 v5:Value):Below B a (put6 W b v0 v1 v2 v3 v4 v5):=
 (((((h.setCell (p:=b) hb _).setCell (p:=⟨b,1,none⟩) hb _).setCell (p:=⟨b,2,none⟩) hb _).setCell (p:=⟨b,3,none⟩) hb _).setCell (p:=⟨b,4,none⟩) hb _).setCell (p:=⟨b,5,none⟩) hb _
theorem RowAt.put6 (h:RowAt W G g l) (hne:g ≠ b) (hb:G b) (v0 v1 v2 v3 v4 v5:Value):RowAt (put6 W b v0 v1 v2 v3 v4 v5) G g l:=
 h.keep (zO4 _ _ _ _ _ _ _ _ hne) fun p hp _=>cob (zO4 _ _ _ _ _ _ _ _ (fun e=>hp (by rw [e]; exact hb)))
def farkasOf (D:Lin.Dict) (V r:Nat) (i:Nat):Rat:=if D.basic r=V+i then 1 else if Lin.find D.free (V+i) V<V then D.a r (Lin.find D.free (V+i) V) else 0
def farkasTo (D:Lin.Dict) (V r c:Nat) (i:Nat):Rat:=if D.basic r=V+i then 1 else if Lin.find D.free (V+i) c<c then D.a r (Lin.find D.free (V+i) c) else 0
theorem zPn (inj:∀ j,j<c->D.free j ≠ D.free c) (hb:D.basic r ≠ D.free c) (hk:D.free c=V+k):farkasTo D V r (c+1)=Lin.turn (farkasTo D V r c) k (D.a r c):=by
 funext i;unfold farkasTo Lin.turn;by_cases hi:i=k
 ·subst hi;have h1:¬ Lin.find D.free (V+i) c<c:=Lin.zCQ fun j hj e=>inj j hj (by rw [e,hk])
  have h2:Lin.find D.free (V+i) (c+1)=c:=by simp [Lin.find,h1,hk]
  rw [h2,if_neg (by rw [<-hk]; exact hb),if_pos om,if_pos rfl]
 ·rw [if_neg hi];have hne:D.free c ≠ V+i:=om
  by_cases h0:D.basic r=V+i
  ·rw [if_pos h0]; dsimp only; rw [if_pos h0]
  ·rw [if_neg h0]; dsimp only; rw [if_neg h0]
   by_cases h1:Lin.find D.free (V+i) c<c
   ·have h2:Lin.find D.free (V+i) (c+1)=Lin.find D.free (V+i) c:=(by simp [Lin.find,h1]);rw [h2,if_pos om,if_pos h1]
   ·have h2:Lin.find D.free (V+i) (c+1)=c+1:=(by simp [Lin.find,h1,hne]);rw [h2,if_neg om,if_neg h1]
theorem zPm (hk:D.free c<V):farkasTo D V r (c+1)=farkasTo D V r c:=by
 funext i;unfold farkasTo;by_cases h0:D.basic r=V+i
 ·rw [if_pos h0,if_pos h0]
 ·rw [if_neg h0,if_neg h0];by_cases h1:Lin.find D.free (V+i) c<c
  ·have h2:Lin.find D.free (V+i) (c+1)=Lin.find D.free (V+i) c:=(by simp [Lin.find,h1]);rw [h2,if_pos om,if_pos h1]
  ·have h2:Lin.find D.free (V+i) (c+1)=c+1:=by simp [Lin.find,h1]; omega
   rw [h2,if_neg om,if_neg h1]
def FLoop (w:World) (V M:Nat) (D:Lin.Dict) (r:Nat) (t:Value) (W:World):Prop:=
 ∃ c:Nat,c<=V/\t = .int .i64 c/\RowAt W (fun y=>y<w.heap.size+1\/y=w.heap.size+1) (w+1) ((List.range M).map (farkasTo D V r c))/\Below w w W/\Box6 W w (.int .u8 0) (.slice none 0 0) (.slice none 0 0) (.slice none 0 0) (.slice none 0 0) (.int .i64 0)
def InfRet (w:World) (l:List Rat) (e:Ending) (w':World):Prop:=∃ (s:SV) (pv:Int),e = .returned (RV.val ⟨2,⟨none,0,0⟩,⟨none,0,0⟩,⟨none,0,0⟩,s,pv⟩)/\VecCan w' (New w) (New w) s l
theorem zPc {x:DV} (h:DA w G x V M K D pv (r:Int) cl) (hr:r<M) (inj:∀ i j,i<V->j<V->D.free i=D.free j->i=j) (hB:∀ i,i<M->D.basic i<V+M) (hFr:∀ j,j<V->D.free j<V+M) (hap:∀ j,j<V->D.basic r ≠ D.free j) (hV:V<=1000) (hM:M<=1000)
  (hfa:∀ i j,i<M->j<=V->Lin.Fits kb (D.a i j)) (hk:2*kb+1<=LM) :
  Calls Tryz.prog 83 #[.pointer (some x.d)] w fun e w'=>InfRet w ((List.range M).map (farkasOf D V r)) e w'/\Below w w w':=by
 have HK1:Hid (kb+1<=LM):=by show kb+1<=LM; omega
 have HFA:=hdq hfa;have HI:=hdq inj;have HFr:=hdq hFr;have Hap:=hdq hap;have hbr:=hB r hr;clear hfa hk inj hB hFr hap;obtain ⟨d,⟨bA,bn,bc⟩,⟨fA,fn,fc⟩,⟨rA,rn,rc⟩,⟨cA,cn,cc⟩,rb,cb⟩:=x;obtain ⟨hdl,rfl,rfl,rfl,rfl,l1,l1',l2,l2',l3,l3',l4,l4'⟩:=h.opn;obtain ⟨c0,c1,c2,c3,c4,c5,c6,c7,c8⟩:=h.cells;dsimp only [SV.val] at c0 c1 c2 c3 c4 c5 c6 c7 c8;have hmk:=zBZ M om;obtain ⟨gb,e,b0,b1,b2⟩:=h.bas.elem hr;dsimp only at e b0;subst e;have hri:(r:Int)<(M:Int):=om
 go_enter Tryz.func83,Tryz.ntmps83
 go_wp2;have HG:Hid (∃ W1,W1=(w.alloc (.cells zeroR 60)).alloc (.cells (zeroQ M) 30)):=⟨_,rfl⟩;obtain ⟨W1,hW1⟩:=HG.out;rw [<-hW1];have hbW:Below w w W1:=by rw [hW1]; exact (bal).alloc si _
 have hR1:RowAt W1 (fun y=>y<w.heap.size+1\/y=w.heap.size+1) (w+1) (List.replicate M 0):=by
  have:=RowAt.made (w.alloc (.cells zeroR 60)) M (fun y=>y<w.heap.size+1\/y=w.heap.size+1) (.inr si);rw [hW1]; simpa using this
 have hX1:Box6 W1 w (.int .u8 0) () () () () (.int .i64 0):=by
  rw [hW1]; exact (Below.heap_alloc _ _ _ si).trans (zAd _ _ rfl)
 clear HG hW1 hmk;have hBW1:w.heap.size<=W1.heap.size:=hbW.size;obtain ⟨hcc,-⟩:=bcell hbW;rw [<-hcc _ _ hdl] at c0 c1 c2 c3 c4 c5 c6 c7;rw [<-hcc _ _ b2] at b0;have t1:d<W1.heap.size:=om
 have t2:gb<W1.heap.size:=om
 clear hcc
 go_region_held3 (Sees w [] W1) (exact kp)
  (fail)
 rename_i hS;clear hS;obtain ⟨W2,hW2⟩:∃ W2:World,W2=W1.drew:=⟨_,rfl⟩;rw [<-hW2];have hbW2:Below w w W2:=by rw [hW2]; exact hbW.drew
 have hR2:RowAt W2 (fun y=>y<w.heap.size+1\/y=w.heap.size+1) (w+1) (List.replicate M 0):=by rw [hW2]; exact hR1.below (brf _ _).drew
 have hX2:Box6 W2 w (.int .u8 0) () () () () (.int .i64 0):=by rw [hW2]; exact hX1
 clear hW2 hbW hR1 hX1 c0 c1 c2 c3 c4 c5 c6 c7 c8 b0 b1 t1 t2 hBW1;have hD2:=h.call hbW2;obtain ⟨c0,c1,c2,c3,c4,c5,c6,c7,c8⟩:=hD2.cells;dsimp only [SV.val] at c0 c1 c2 c3 c4 c5 c6 c7 c8;have hBW2:w.heap.size<=W2.heap.size:=hbW2.size;have hgl:=hR2.lt;have t1:d<W2.heap.size:=om
 have m1:¬ (d=w.heap.size+1):=om
 go_upto_if 28 with fail
 go_cut [4] from 7 (fun _ W=>FLoop w V M D r (.int .i64 0) W)
 case first=>
  by_cases hv:V<=D.basic r
  ·obtain ⟨k,hk⟩:∃ k,D.basic r=V+k:=⟨D.basic r-V,om⟩;have hkM:k<M:=om;rw [hk];have hvi:((V:Int)<=((V+k:Nat):Int)):=om;obtain ⟨u2,⟨p0,p1,p2,p3⟩,-⟩:=hR2.elem k (by simpa using hkM);dsimp only at p1 p2 p3;have fz:=hR2.frozen;have hkMi:(k:Int)<(M:Int):=om;have hw4:IntKind.i64.wrap (k:Int)=(k:Int):=IntWalk.i64_in (k:Int) om;have hw5:IntKind.i64.wrap ((V:Int)+(k:Int)-(V:Int))=(k:Int):=by rw [show (V:Int)+(k:Int)-(V:Int)=(k:Int) by omega]; exact hw4
   go_wp2
   go_region_held3 (Sees w [w.heap.size+1] W2) (exact kp)
    (first
     | (go_at_call 44; ((with_reducible refine (zAN 1 dj dj _).mono ?_); rintro e w3 ⟨⟨y,rfl,hy⟩,hb3⟩))
     | fail)
   rename_i hS;have h23:Below W2 W2 w3:=(brf _ W2).drew.trans hb3;have hR3:=(hR2.below h23).put4 (k:=k) (v:=y) (q:=1) (by simpa using hkM) (hy.imp fun b _ hb hg=>by simp only [New,World.size_drew] at hb; rcases hg with h | h <;> omega)
   have Hfin:Hid (FLoop w V M D r (.int .i64 0) (put4 w3 (w+1) k y)):=by
    refine ⟨0,nzl _,rfl,?_,zBq (hbW2.trans (h23.mono hBW2)) om _ _,(zAx _ _ _ _ om).trans ((h23.block _ om).trans hX2)⟩
    have e:(List.replicate M (0:Rat)).set k 1=(List.range M).map (farkasTo D V r 0):=by
     apply List.ext_getElem
     ·simp
     ·intro i h1 h2;simp only [List.getElem_set,List.getElem_replicate,List.getElem_map,List.getElem_range,farkasTo,hk];by_cases ei:k=i
      ·subst ei; simp
      ·rw [if_neg ei,if_neg om,if_neg om]
    rw [<-e]; exact hR3
   clear hS hR3 hy hb3 h23 p0 p1 p2 p3 fz;(go_wp2_with fail);go_meet;case rel=>exact Hfin.out
  ·have hvi:¬ ((V:Int)<=(D.basic r:Int)):=om
   have Hfin:Hid (FLoop w V M D r (.int .i64 0) W2):=by
    refine ⟨0,nzl _,rfl,?_,hbW2,hX2⟩
    have e:List.replicate M (0:Rat)=(List.range M).map (farkasTo D V r 0):=by
     apply List.ext_getElem
     ·simp
     ·intro i h1 h2;simp only [List.getElem_replicate,List.getElem_map,List.getElem_range,farkasTo];rw [if_neg om,if_neg om]
    rw [<-e]; exact hR2
   (go_wp2_with fail);go_meet;case rel=>exact Hfin.out
 case rest=>
  clear c0 c1 c2 c3 c4 c5 c6 c7 c8 hR2 hX2 hbW2 hD2 hBW2 hgl t1;have hbc:Below w w wc:=by obtain ⟨_,_,_,_,hb,_⟩:=hcut; exact hb
  have hDc:=h.call hbc;obtain ⟨c0,c1,c2,c3,c4,c5,c6,c7,c8⟩:=hDc.cells;dsimp only [SV.val] at c0 c1 c2 c3 c4 c5 c6 c7 c8;clear hDc hbc;go_wp2;clear c0 c1 c2 c3 c4 c5 c6 c7 c8;go_loopw [43] (fun t W=>FLoop w V M D r t W) (fun t _=>V-(intOf t).toNat)
  case atStart=>exact hcut
  case round=>
   clear hcut;obtain ⟨c,hc,rfl,hR,hBl,hX⟩:=hrel;have hD:=hdq (h.call hBl);obtain ⟨c0,-,-,c3,-,c5,c6,-⟩:=hD.out.cells;dsimp only [SV.val] at c0 c3 c5 c6;have hBwr:w.heap.size<=wr.heap.size:=hBl.size;have t1:d<wr.heap.size:=om;have hgl:=hR.lt;by_cases hlt:c<V
   ·obtain ⟨gf,e,f0,f1,f2⟩:=hD.out.fre.elem hlt;dsimp only at e f0;subst e;by_cases hv:V<=D.free c
    ·obtain ⟨k,hk⟩:∃ k,D.free c=V+k:=⟨D.free c-V,om⟩;have hkM:k<M:=by have:=HFr.out c hlt; omega
     have Hst:=hdq (zPn (D:=D) (r:=r) (c:=c) (fun j hj e=>by have:=HI.out j c om hlt e; omega) (Hap.out c hlt) hk);rw [hk] at f0;have hvi:((V:Int)<=((V+k:Nat):Int)):=om;obtain ⟨gr,e,r0,r1,r2⟩:=h.row.elem hr;dsimp only at e r0;subst e;have hrow:=h.rows r hr;dsimp only at hrow;have hrl:=hrow.lt;obtain ⟨u,⟨q0,q1,q2,q3⟩,hu⟩:=hrow.elem c (by rw [zAm]; omega);rw [zAL _ om] at hu;dsimp only at q1 q2 q3;obtain ⟨hcc,-⟩:=bcell hBl;rw [<-hcc _ _ r2] at r0;rw [<-hcc _ _ hrl] at q0 q1 q2 q3;clear hcc;have Hu:=hdq (((hu.old.below hBl)).qis (zAv (HFA.out r c hr om)));obtain ⟨u2,⟨p0,p1,p2,p3⟩,-⟩:=hR.elem k (by simpa using hkM);dsimp only at p1 p2 p3;have fz:=hR.frozen;have hkMi:(k:Int)<(M:Int):=om;have hw4:IntKind.i64.wrap (k:Int)=(k:Int):=IntWalk.i64_in (k:Int) om;have hw5:IntKind.i64.wrap ((V:Int)+(k:Int)-(V:Int))=(k:Int):=by rw [show (V:Int)+(k:Int)-(V:Int)=(k:Int) by omega]; exact hw4
     have hcv:c<V+1:=om;have hcvi:(c:Int)<(V:Int)+1:=om;have t2:gr<wr.heap.size:=om;have t3:rb r<wr.heap.size:=om;have m2:¬ (gr=w.heap.size+1):=om;have m3:¬ (rb r=w.heap.size+1):=om;clear hu hrow;go_wp2
     go_region_held3 (Sees w [w.heap.size+1] wr) (exact kp)
      (first
       | (go_at_call 99; ((with_reducible refine (zAT (a:=u) (Hu.out.keptOld sk) HK1.out).mono ?_); rintro e w3 ⟨⟨y,rfl,hy⟩,hb3⟩))
       | fail)
     rename_i hS;have h23:Below wr wr w3:=(brf _ wr).drew.trans hb3
     have Hfin:Hid (FLoop w V M D r (.int .i64 ((c:Int)+1)) (put4 w3 (w+1) k y)):=by
      refine ⟨c+1,om,si,?_,zBq (hBl.trans (h23.mono hBwr)) om _ _,(zAx _ _ _ _ om).trans ((h23.block _ om).trans hX)⟩;rw [Hst.out,<-zOd];exact (hR.below h23).put4 (by simpa using hkM) (hy.imp fun b _ hb hg=>by simp only [New,World.size_drew] at hb; rcases hg with h | h <;> omega)
     clear hS hy hb3 h23 p0 p1 p2 p3 fz hR hX hBl;go_wp2;go_roundw;case rel=>exact fn_ Hfin.out
     case measure=>simp [intOf]; omega
    ·have hvi:¬ ((V:Int)<=(D.free c:Int)):=om;have Hfin:Hid (FLoop w V M D r (.int .i64 ((c:Int)+1)) wr):=⟨c+1,om,si,by rw [zPm om]; exact hR,hBl,hX⟩;clear hR hBl hX;go_wp2;go_roundw;case rel=>exact fn_ Hfin.out
     case measure=>simp [intOf]; omega
   ·have hcV:c=V:=om;rw [hcV] at hR;obtain ⟨s0,s1,s2,s3,s4,s5,s6⟩:=zO1 hX;clear hcV;have HR:Hid (RowAt wr (fun y=>y<w.heap.size+1\/y=w.heap.size+1) (w+1) ((List.range M).map (farkasOf D V r))):=hR;have HX:=hdq hX;clear hR hX;go_wp2;obtain ⟨v0,v1,v2,v3,v4,v5,-⟩:=zO1 (zO9 HX.out (.int .u8 2) () () () (.slice (some ⟨w+1,0,none⟩) M M) pv);simp only [put6] at v0 v1 v2 v3 v4 v5;refine bodyPost_ret (v:=RV.val ⟨2,⟨none,0,0⟩,⟨none,0,0⟩,⟨none,0,0⟩,⟨some ⟨w+1,0,none⟩,M,M⟩,pv⟩) (by simp [results,Tryz.results83,go_sem,v0,v1,v2,v3,v4,v5]) rfl ⟨⟨⟨some ⟨w+1,0,none⟩,M,M⟩,pv,rfl,?_⟩,zO3 hBl (nlr _) (.int .u8 2) () () () (.slice (some ⟨w+1,0,none⟩) M M) pv⟩;have hfin:=HR.out.put6 (b:=w) om (.inl om) (.int .u8 2) () () () (.slice (some ⟨w+1,0,none⟩) M M) pv;have hvec:=hfin.vec (by simp; omega) M si om;rw [List.length_map,List.length_range] at hvec
    exact hvec.imp (fun b _ hb=>by subst hb; show w.heap.size<=_; omega) fun v q hq=>hq.imp fun b _ hb=>by
     simp only [New];rcases Nat.lt_or_ge b w with h1 | h1
     ·exact absurd (.inl om) hb
     ·exact h1
theorem zK6 (n:Nat) (h1:1<=n) (hn:n<=1000) :
  Calls Tryz.prog 35 #[.slice none 0 0,.int .i64 (n:Int)] w fun e w'=>(e = .returned (.slice (some w) n n)/\RowAt w' (fun x=>x<w.heap.size\/x=w.heap.size) w (List.replicate n 0))/\Below w w w':=by
 have hmk:=zBZ n om;have e1:¬ ((n:Int)<1):=om
 have e2:min (n:Int) 65536=(n:Int):=om
 have e3:min (0:Int) (n:Int)=0:=om
 go_enter Tryz.func35,Tryz.ntmps35
 go_wp2;go_loopw [17] (fun t W=>t = .int .i64 0/\W=w.alloc (.cells (zeroQ n) 30)) (fun _ _=>0)
 case atStart=>exact ⟨rfl,rfl⟩
 case round=>
  obtain ⟨rfl,rfl⟩:=hrel;go_wp2;go_ret;exact ⟨⟨rfl,RowAt.made w n _ (.inr rfl)⟩,bal⟩
theorem zLf (n k:Nat) (h1:1<=n) (hn:n<=1000) (hk:k<=1000000) :
  Calls Tryz.prog 79 #[.int .i64 (n:Int),.int .i64 (k:Int)] w fun e w'=>(e = .returned (.slice (some w) n n)/\RowAt w' (fun x=>x<w.heap.size\/x=w.heap.size) w ((List.range n).map fun i=>if i=k then 1 else 0))/\Below w w w':=by
 have k0:(0:Int)<=(k:Int):=om
 go_enter Tryz.func79,Tryz.ntmps79
 go_wp2_with fail
 refine (zK6 n h1 hn).mono ?_; rintro e w1 ⟨⟨rfl,hR⟩,hb1⟩
 by_cases hkn:k<n
 ·have hki:(k:Int)<(n:Int):=om
  have hgl:=hR.lt;go_wp2_with fail
  refine (zAN 1 dj dj _).mono ?_; rintro e w2 ⟨⟨y,rfl,hy⟩,hb2⟩
  have hR2:=hR.below hb2;obtain ⟨u2,⟨p0,p1,p2,p3⟩,-⟩:=hR2.elem k (by simpa using hkn);dsimp only at p1 p2 p3;have fz:=hR2.frozen;have hR3:=hR2.put4 (k:=k) (v:=y) (q:=1) (by simpa using hkn) (hy.imp fun b _ hb hg=>by simp only [New] at hb; have:=hb1.size; rcases hg with h | h <;> omega)
  have e:(List.replicate n (0:Rat)).set k 1=(List.range n).map fun i=>if i=k then 1 else 0:=by
   apply List.ext_getElem
   ·simp
   ·intro i h1 h2;simp only [List.getElem_set,List.getElem_replicate,List.getElem_map,List.getElem_range];by_cases ei:k=i
    ·subst ei; simp
    ·rw [if_neg ei,if_neg (Ne.symm ei)]
  rw [e] at hR3;have HR3:=hdq hR3;have Hb:=hdq (zBq (b:=w) (hb1.trans (hb2.mono hb1.size)) (nlr _) k y);clear hR3 hR2 hR hy hb1 hb2 e;go_wp2;go_ret;exact ⟨⟨rfl,HR3.out⟩,Hb.out⟩
 ·have hki:¬ (k:Int)<(n:Int):=om
  have e:List.replicate n (0:Rat)=(List.range n).map fun i=>if i=k then 1 else 0:=by
   apply List.ext_getElem
   ·simp
   ·intro i h1 h2;simp only [List.getElem_replicate,List.getElem_map,List.getElem_range];simp at h1;rw [if_neg om]
  rw [e] at hR;have HR:=hdq hR;clear hR e;go_wp2;go_ret;exact ⟨⟨rfl,HR.out⟩,hb1⟩
def rayTo (D:Lin.Dict) (s i v:Nat):Rat:=if Lin.find D.basic v i<i then-D.a (Lin.find D.basic v i) s else if v=D.free s then 1 else 0
theorem zPG {s:Nat} (inj:∀ j,j<i->D.basic j ≠ D.basic i):rayTo D s (i+1)=Lin.turn (rayTo D s i) (D.basic i) (- D.a i s):=by
 funext v;unfold rayTo Lin.turn;by_cases hv:v=D.basic i
 ·subst hv;have h1:¬ Lin.find D.basic (D.basic i) i<i:=Lin.zCQ inj;have h2:Lin.find D.basic (D.basic i) (i+1)=i:=by simp [Lin.find,h1]
  rw [h2,if_pos om,if_pos rfl]
 ·rw [if_neg hv];by_cases h1:Lin.find D.basic v i<i
  ·have h2:Lin.find D.basic v (i+1)=Lin.find D.basic v i:=(by simp [Lin.find,h1]);rw [h2,if_pos om]; dsimp only; rw [if_pos h1]
  ·have h2:Lin.find D.basic v (i+1)=i+1:=(by simp [Lin.find,h1,Ne.symm hv]);rw [h2,if_neg om]; dsimp only; rw [if_neg h1]
def ULoop (w:World) (V M:Nat) (D:Lin.Dict) (s:Nat) (t:Value) (W:World):Prop:=
 ∃ i:Nat,i<=M/\t = .int .i64 i/\RowAt W (fun y=>y<w.heap.size+1\/y=w.heap.size+1) (w+1) ((List.range V).map (rayTo D s i))/\Below w w W/\Box6 W w (.int .u8 0) (.slice none 0 0) (.slice none 0 0) (.slice none 0 0) (.slice none 0 0) (.int .i64 0)
def UnbRet (w:World) (l l':List Rat) (e:Ending) (w':World):Prop:=∃ (s r:SV) (pv:Int),e = .returned (RV.val ⟨3,s,⟨none,0,0⟩,r,⟨none,0,0⟩,pv⟩)/\VecCan w' (New w) (New w) s l/\VecCan w' (New w) (New w) r l'
theorem zPh {x:DV} {s:Nat} (h:DA w G x V M K D pv rw (s:Int)) (hs:s<V) (inj:∀ i j,i<M->j<M->D.basic i=D.basic j->i=j) (hB:∀ i,i<M->D.basic i<V+M) (hFr:∀ j,j<V->D.free j<V+M) (hV:V<=1000) (hM:M<=1000)
  (hfa:∀ i j,i<M->j<=V->Lin.Fits kb (D.a i j)) (hk:2*kb+1<=LM) :
  Calls Tryz.prog 85 #[.pointer (some x.d)] w fun e w'=>UnbRet w ((List.range V).map (ptTo V D M)) ((List.range V).map (rayTo D s M)) e w'/\Below w w w':=by
 have HK1:Hid (kb+1<=LM):=by show kb+1<=LM; omega
 have HK:=hdq hk;have HFA:=hdq hfa;have HI:=hdq inj;have HB:=hdq hB;have hfs:=hFr s hs;clear hfa hk inj hB hFr;obtain ⟨d,⟨bA,bn,bc⟩,⟨fA,fn,fc⟩,⟨rA,rn,rc⟩,⟨cA,cn,cc⟩,rb,cb⟩:=x;obtain ⟨hdl,rfl,rfl,rfl,rfl,l1,l1',l2,l2',l3,l3',l4,l4'⟩:=h.opn;obtain ⟨c0,c1,c2,c3,c4,c5,c6,c7,c8⟩:=h.cells;dsimp only [SV.val] at c0 c1 c2 c3 c4 c5 c6 c7 c8;obtain ⟨gf,e,b0,b1,b2⟩:=h.fre.elem hs;dsimp only at e b0;subst e;have hsi:(s:Int)<(V:Int):=om
 go_enter Tryz.func85,Tryz.ntmps85
 go_wp2;obtain ⟨W1,hW1⟩:∃ W1,W1=w.alloc (.cells zeroR 60):=⟨_,rfl⟩;rw [<-hW1];have hbW:Below w w W1:=by rw [hW1]; exact bal
 have hX1:Box6 W1 w (.int .u8 0) () () () () (.int .i64 0):=by rw [hW1]; exact zAd _ _ rfl
 have hs1:Hid (W1.heap.size=w.heap.size+1):=by show _=_; rw [hW1]; simp
 clear hW1;have hBW1:w.heap.size<=W1.heap.size:=hbW.size;obtain ⟨hcc,-⟩:=bcell hbW;rw [<-hcc _ _ hdl] at c0 c1 c2 c3 c4 c5 c6 c7;rw [<-hcc _ _ b2] at b0;have t1:d<W1.heap.size:=om
 have t2:gf<W1.heap.size:=om
 clear hcc
 go_region_held3 (Sees w [] W1) (exact kp)
  (first
   | (go_at_call 79; ((with_reducible refine (zLf V (D.free s) om om om).mono ?_); rintro e w2 ⟨⟨rfl,hR⟩,hb2⟩))
   | fail)
 rename_i hS;rw [World.size_drew,hs1.out] at hR;rw [hs1.out];have h12:Below W1 W1 w2:=(brf _ W1).drew.trans hb2
 have H0:ULoop w V M D s (.int .i64 0) w2:=by
  refine ⟨0,nzl _,rfl,?_,hbW.trans (h12.mono hBW1),(h12.block _ (by have:=hs1.out; omega)).trans hX1⟩
  have e:(List.range V).map (fun i=>if i=D.free s then (1:Rat) else 0)=(List.range V).map (rayTo D s 0):=by
   apply List.map_congr_left; intro i _; simp [rayTo]
  rw [<-e]; exact hR
 clear hS hR hb2 h12 hX1 c0 c1 c2 c3 c4 c5 c6 c7 c8 b0 b1 t1 t2 hBW1 hbW hs1;have hbc:Below w w w2:=by obtain ⟨_,_,_,_,hb,_⟩:=H0; exact hb
 have hDc:=h.call hbc;obtain ⟨c0,c1,c2,c3,c4,c5,c6,c7,c8⟩:=hDc.cells;dsimp only [SV.val] at c0 c1 c2 c3 c4 c5 c6 c7 c8;clear hDc hbc;go_wp2;clear c0 c1 c2 c3 c4 c5 c6 c7 c8;go_loopw [26] (fun t W=>ULoop w V M D s t W) (fun t _=>M-(intOf t).toNat)
 case atStart=>exact H0
 case round=>
  clear H0;obtain ⟨i,hi,rfl,hR,hBl,hX⟩:=hrel;have hD:=hdq (h.call hBl);obtain ⟨c0,-,-,c3,-,c5,-,c7,-⟩:=hD.out.cells;dsimp only [SV.val] at c0 c3 c5 c7;have hBwr:w.heap.size<=wr.heap.size:=hBl.size;have t1:d<wr.heap.size:=om
  have hgl:=hR.lt;have m1:¬ (d=w.heap.size+1):=om
  by_cases hlt:i<M
  ·obtain ⟨gb,e,f0,f1,f2⟩:=hD.out.bas.elem hlt;dsimp only at e f0;subst e;have Hst:=hdq (zPG (D:=D) (s:=s) (i:=i) (fun j hj e=>by have:=HI.out j i om hlt e; omega));by_cases hv:D.basic i<V
   ·have hvi:(D.basic i:Int)<(V:Int):=om;obtain ⟨gr,e,r0,r1,r2⟩:=h.row.elem hlt;dsimp only at e r0;subst e;have hrow:=h.rows i hlt;dsimp only at hrow;have hrl:=hrow.lt;obtain ⟨u,⟨q0,q1,q2,q3⟩,hu⟩:=hrow.elem s (by rw [zAm]; omega);rw [zAL _ om] at hu;dsimp only at q1 q2 q3;obtain ⟨hcc,-⟩:=bcell hBl;rw [<-hcc _ _ r2] at r0;rw [<-hcc _ _ hrl] at q0 q1 q2 q3;clear hcc;have Hu:=hdq (((hu.old.below hBl)).qis (zAv (HFA.out i s hlt om)));obtain ⟨u2,⟨p0,p1,p2,p3⟩,-⟩:=hR.elem (D.basic i) (by simpa using hv);dsimp only at p1 p2 p3;have fz:=hR.frozen;have hcv:s<V+1:=om;have hcvi:(s:Int)<(V:Int)+1:=om;have hii:(i:Int)<(M:Int):=om;have t2:gr<wr.heap.size:=om;have t3:rb i<wr.heap.size:=om;have m2:¬ (gr=w.heap.size+1):=om;have m3:¬ (rb i=w.heap.size+1):=om;clear hu hrow;go_wp2
    go_region_held3 (Sees w [w.heap.size+1] wr) (exact kp)
     (first
      | (go_at_call 116; ((with_reducible refine (zHK (a:=u) (Hu.out.keptOld sk) HK1.out).mono ?_); rintro e w3 ⟨⟨y,rfl,hy⟩,hb3⟩))
      | fail)
    rename_i hS;have h23:Below wr wr w3:=(brf _ wr).drew.trans hb3
    have Hfin:Hid (ULoop w V M D s (.int .i64 ((i:Int)+1)) (put4 w3 (w+1) (D.basic i) y)):=by
     refine ⟨i+1,om,si,?_,zBq (hBl.trans (h23.mono hBwr)) om _ _,(zAx _ _ _ _ om).trans ((h23.block _ om).trans hX)⟩;rw [Hst.out,<-zOd];exact (hR.below h23).put4 (by simpa using hv) (hy.imp fun b _ hb hg=>by simp only [New,World.size_drew] at hb; rcases hg with h | h <;> omega)
    clear hS hy hb3 h23 p0 p1 p2 p3 fz hR hX hBl;go_wp2;go_roundw;case rel=>exact fn_ Hfin.out
    case measure=>simp [intOf]; omega
   ·have hvi:¬ ((D.basic i:Int)<(V:Int)):=om;have Hfin:Hid (ULoop w V M D s (.int .i64 ((i:Int)+1)) wr):=⟨i+1,om,si,by rw [Hst.out,zMY _ _ om]; exact hR,hBl,hX⟩;clear hR hBl hX;go_wp2;go_roundw;case rel=>exact fn_ Hfin.out
    case measure=>simp [intOf]; omega
  ·have hiM:i=M:=om;rw [hiM] at hR;obtain ⟨s0,s1,s2,s3,s4,s5,s6⟩:=zO1 hX;clear hiM;have m0:¬ (d=w.heap.size):=om;have sl:w.heap.size<wr.heap.size:=om;have HR:=hdq hR;have HX:=hdq hX;clear hR hX;go_wp2
   go_region_held3 (Sees w [w.heap.size] wr) (exact kp)
    (first
     | (go_at_call 158; ((with_reducible refine (zPg (kb:=kb) (h.call (hBl.trans (Sees.kept (by assumption):Kept w _ wr _).below)) HI.out (fun i hi=>by have:=HB.out i hi; omega) hV hM HFA.out HK.out).mono ?_); rintro e w3 ⟨⟨sx,rfl,hx⟩,hb3⟩))
     | fail)
   rename_i hS;obtain ⟨xA,xn,xc⟩:=sx;have h23:Below wr wr w3:=(brf _ wr).drew.trans hb3;have hX3:Box6 w3 w (.int .u8 0) () () () () (.int .i64 0):=(h23.block _ sl).trans HX.out;have HR3:=hdq (HR.out.below h23);have hbf:=hBl.trans (h23.mono hBwr);have Hx:=hdq hx;clear hS hx hb3 h23;go_wp2;obtain ⟨v0,v1,v2,v3,v4,v5,-⟩:=zO1 (zO9 hX3 (.int .u8 3) (.slice xA xn xc) () (.slice (some ⟨w+1,0,none⟩) V V) () pv);simp only [put6] at v0 v1 v2 v3 v4 v5;refine bodyPost_ret (v:=RV.val ⟨3,⟨xA,xn,xc⟩,⟨none,0,0⟩,⟨some ⟨w+1,0,none⟩,V,V⟩,⟨none,0,0⟩,pv⟩) (by simp [results,Tryz.results85,go_sem,v0,v1,v2,v3,v4,v5]) rfl ⟨⟨⟨xA,xn,xc⟩,⟨some ⟨w+1,0,none⟩,V,V⟩,pv,rfl,?_,?_⟩,zO3 hbf (nlr _) (.int .u8 3) (.slice xA xn xc) () (.slice (some ⟨w+1,0,none⟩) V V) () pv⟩
   ·have hk:∀ p:Addr,New wr p.block->(put6 w3 w (.int .u8 3) (.slice xA xn xc) () (.slice (some ⟨w+1,0,none⟩) V V) () pv).cell? p=w3.cell? p:=(fun p hp=>cob (zO4 _ _ _ _ _ _ _ _ (by simp only [New] at hp; omega)));refine (Hx.out.keep (X:=New wr.drew.heap.size) (R':=QCan (put6 w3 w (.int .u8 3) (.slice xA xn xc) () (.slice (some ⟨w+1,0,none⟩) V V) () pv) (New wr.drew.heap.size)) (fun a ha _=>hk a ha) fun v q hq=>hq.keep fun p hp _=>hk p hp).imp (fun b _ hb=>?_) fun v q hq=>hq.imp fun b _ hb=>?_
    ·simp only [New,World.size_drew] at hb ⊢; omega
    ·simp only [New,World.size_drew] at hb ⊢; omega
   ·have hfin:=HR3.out.put6 (b:=w) om (.inl om) (.int .u8 3) (.slice xA xn xc) () (.slice (some ⟨w+1,0,none⟩) V V) () pv;have hvec:=hfin.vec (by simp; omega) V si om;rw [List.length_map,List.length_range] at hvec
    exact hvec.imp (fun b _ hb=>by subst hb; show w.heap.size<=_; omega) fun v q hq=>hq.imp fun b _ hb=>by
     simp only [New];rcases Nat.lt_or_ge b w with h1 | h1
     ·exact absurd (.inl om) hb
     ·exact h1
end Go.Proofs.YtbpngececjihlaaGreat
