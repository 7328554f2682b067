/- Texts Pr4 of this claim. -/
import Derived.Test.YtbpngececjihlaaGreatY16
set_option maxHeartbeats 4000000
set_option maxRecDepth 40000
namespace Go.Proofs.YtbpngececjihlaaGreat
open Go.RowKit Go.Shelf
variable {T:TypeId} {cs:Array Value} {v:Value} {b g o V M E kb r:Nat} {G:Nat->Prop} {w:World}
section
variable {W:World} {G:Nat->Prop} {x:PV} {V M E:Nat} {D D':Lin.Dict}
theorem PDA.congr (h:PDA W G x V M E D) (hb:∀ i,i<M->D.basic i=D'.basic i) (hf:∀ j,j<V->D.free j=D'.free j) (ha:∀ i j,i<M->j<=E->D.a i j=D'.a i j) (hc:∀ j,j<=E->D.c 0 j=D'.c 0 j):PDA W G x V M E D':=
 ⟨h.blk,h.bas.congr fun i hi=>by rw [hb i hi],h.fre.congr fun j hj=>by rw [hf j hj],h.row,fun i hi=>by rw [<-zBs fun j hj=>ha i j hi hj]; exact h.rows i hi,h.caps,by rw [<-zBs fun j hj=>hc j hj]; exact h.cst,h.ccap,h.rinj,h.apart,h.bf,h.gin,h.gd,h.gb,h.gf,h.gr⟩
theorem RowP.setOther {l:List Rat} {f:Nat × Nat} (h:RowP W G b l) (hg:G g) (hb:W.heap[g]?=some (.cells cs T f)) (hT:T ≠ 30):RowP (W.setCell ⟨g,o,none⟩ v) G b l:=by
 have hne:b ≠ g:=by
  rintro rfl;obtain ⟨cs',e,_⟩:=h.blk;rw [hb] at e;simp only [Option.some.injEq,Obj.cells.injEq] at e;exact hT e.2.1
 exact h.keep (bhs _ _ _ _ hne) fun p hp _=>cob (bhs _ _ _ _ (fun e=>hp (by rw [e]; exact hg)))
theorem PDA.setB (h:PDA W G x V M E D) (e:x.bas.A=some ⟨g,0,none⟩) (r v:Nat):PDA (W.setCell ⟨g,r,none⟩ (.int .i64 v)) G x V M E {D with basic:=Lin.turn D.basic r v}:=by
 obtain ⟨cs,hb⟩:=h.bas.block e;have hd:x.d ≠ g:=by rintro e'; have:=h.blk; rw [e',hb] at this; cases this
 have k:∀ g',g' ≠ g->(W.setCell ⟨g,r,none⟩ (.int .i64 v)).heap[g']?=W.heap[g']?:=fun g' hg=>bhs _ _ _ _ hg
 exact ⟨(k _ hd).trans h.blk,(h.bas.set e (.int .i64 v)).congr fun i _=>by by_cases hir:i=r <;> simp [hir,Lin.turn],h.fre.keep fun g' e' _=>k g' (fun e2=>h.bf g e (by rw [<-e2]; exact e')),h.row.keep fun g' e' _=>k g' (zDD h.row hb (by decide) e'),
  fun i hi=>(h.rows i hi).setOther (h.gb g e) hb (by decide),h.caps,h.cst.setOther (h.gb g e) hb (by decide),h.ccap,h.rinj,h.apart,h.bf,fun b hb=>by simpa [World.setCell] using h.gin b hb,h.gd,h.gb,h.gf,h.gr⟩
theorem PDA.setF (h:PDA W G x V M E D) (e:x.fre.A=some ⟨g,0,none⟩) (r v:Nat):PDA (W.setCell ⟨g,r,none⟩ (.int .i64 v)) G x V M E {D with free:=Lin.turn D.free r v}:=by
 obtain ⟨cs,hb⟩:=h.fre.block e;have hd:x.d ≠ g:=by rintro e'; have:=h.blk; rw [e',hb] at this; cases this
 have k:∀ g',g' ≠ g->(W.setCell ⟨g,r,none⟩ (.int .i64 v)).heap[g']?=W.heap[g']?:=fun g' hg=>bhs _ _ _ _ hg
 exact ⟨(k _ hd).trans h.blk,h.bas.keep fun g' e' _=>k g' (fun e2=>h.bf g' e' (by rw [e2]; exact e)),(h.fre.set e (.int .i64 v)).congr fun i _=>by by_cases hir:i=r <;> simp [hir,Lin.turn],h.row.keep fun g' e' _=>k g' (zDD h.row hb (by decide) e'),
  fun i hi=>(h.rows i hi).setOther (h.gf g e) hb (by decide),h.caps,h.cst.setOther (h.gf g e) hb (by decide),h.ccap,h.rinj,h.apart,h.bf,fun b hb=>by simpa [World.setCell] using h.gin b hb,h.gd,h.gb,h.gf,h.gr⟩
end
def PPLoop1 (w:World) (G:Nat->Prop) (x:PV) (V M E:Nat) (D:Lin.Dict) (r s:Nat) (v:QV) (g:Nat) (t:Value) (W:World):Prop:=
 ∃ k:Nat,k<=E+1/\t = .int .i64 k/\PDA W G x V M E {D with a:=Lin.turn D.a r (scaleTo s (D.a r) k)}/\Fr G w W/\Box4 W g (.bool v.num.ng) (.slice v.num.A v.num.n v.num.c) (.bool v.den.ng) (.slice v.den.A v.den.n v.den.c)/\QCan W (fun y=>¬ G y) v (D.a r s)⁻¹
def PPLoop2 (w:World) (G:Nat->Prop) (x:PV) (V M E:Nat) (D:Lin.Dict) (r s:Nat) (t:Value) (W:World):Prop:=
 ∃ i:Nat,i<=M/\t = .int .i64 i/\PDA W G x V M E (pivTo D r s i 0)/\Fr G w W
def PPivRet (w:World) (G:Nat->Prop) (x:PV) (V M E:Nat) (D:Lin.Dict) (r s:Nat) (w':World):Prop:=
 PDA w' G x V M E (D.pivot r s)/\Fr G w w'
theorem zDK {x:PV} {s:Nat} {D:Lin.Dict} (h:PDA w G x V M E D) (hr:r<M) (hs:s<V) (hVE:V<=E) (hV:E<=1000) (_hM:M<=1000) (h0:D.a r s ≠ 0)
  (hfa:∀ i j,i<M->j<=E->Lin.Fits kb (D.a i j)) (hfc:∀ j,j<=E->Lin.Fits kb (D.c 0 j)) (hfs:∀ j,j<=E->Lin.Fits kb (Lin.scaled s (D.a r) j)) (hk:2*kb+1<=LM) :
  Calls Tryz.prog 123 #[.pointer (some x.d),.int .i64 (r:Int),.int .i64 (s:Int)] w fun e w'=>(∃ v,e = .returned v)/\PPivRet w G x V M E D r s w':=by
 have HK:=hdq hk;have HK1:Hid (kb+1<=LM):=by show kb+1<=LM; omega
 have HFA:=hdq hfa;have HFC:=hdq hfc;have HFS:=hdq hfs;have H0:=hdq h0;clear hk hfa hfc hfs h0;obtain ⟨d,⟨bA,bn,bc⟩,⟨fA,fn,fc⟩,⟨rA,rn,rc⟩,rb,rs,cb,cc⟩:=x;obtain ⟨hdl,rfl,rfl,rfl,l1,l1',l2,l2',l3,l3',l4,l4'⟩:=h.opn;obtain ⟨c0,c1,c2,c3,c4,c8⟩:=h.cells;dsimp only [SV.val] at c0 c1 c2 c3 c4 c8;obtain ⟨gr,e,r0,r1,r2⟩:=h.row.elem hr;dsimp only at e r0;subst e;have hrow:=h.rows r hr;have hcap:=h.caps r hr;dsimp only at hrow hcap;obtain ⟨hcap1,hcap2⟩:=hcap;obtain ⟨u,⟨q0,q1,q2,q3⟩,hu⟩:=hrow.elem s (by rw [zAm]; omega);rw [zAL _ (by omega)] at hu;dsimp only at q1 q2 q3;have hrl:=hrow.lt;have hsl:s<E+1:=by omega
 have hsi:(s:Int)<(E:Int)+1:=by omega
 go_enter Tryz.func123,Tryz.ntmps123
 go_wp2;have hu1:=hu.qis (zAv (HFA.out r s hr (by omega)));go_cut [7] from 13 (fun p W=>∃ (g:Nat) (z:QV),p = .pointer (some g)/\w.heap.size<=g/\Box4 W g (.bool z.num.ng) (.slice z.num.A z.num.n z.num.c) (.bool z.den.ng) (.slice z.den.A z.den.n z.den.c)/\QCan W (New w) z (1 / D.a r s)/\Below w w W)
 case first=>
  go_region_held3 (Sees w [] w) (exact kp)
   (first
    | (go_at_call 44; ((with_reducible refine (zAN 1 (by decide) (by decide) _).mono ?_); rintro e w3 ⟨⟨y,rfl,hy⟩,hb3⟩; (have sz3:w.heap.size<=w3.heap.size:=by exact nlt (Sees.kept (by assumption):Kept w [] w _).size hb3.size); (obtain ⟨hc3,hf3⟩:=bcell hb3); (have lt3:=fun (b:Nat) h=>ltl (n:=b) h hb3.size)))
    | (go_at_call 109; ((with_reducible refine (zEY (a:=y) (b:=u) (hy.qis (zAv (Lin.Fits.one _))) (hu1.keptNil (Sees.kept (by assumption))) HK1.out HK1.out H0.out).mono ?_); rintro e w4 ⟨⟨z,rfl,hz⟩,hb4⟩; (have sz4:w.heap.size<=w4.heap.size:=by exact nlt (Sees.kept (by assumption):Kept w [] w _).size hb4.size); (obtain ⟨hc4,hf4⟩:=bcell hb4); (have lt4:=fun (b:Nat) h=>ltl (n:=b) h hb4.size)))
    | (go_at_call 109; ((with_reducible refine (zEY (a:=y) (b:=u) ((hy.below (bal)).qis (zAv (Lin.Fits.one _))) (hu1.keptNil (Sees.kept (by assumption))) HK1.out HK1.out H0.out).mono ?_); rintro e w4 ⟨⟨z,rfl,hz⟩,hb4⟩; (have sz4:w.heap.size<=w4.heap.size:=by exact nlt (Sees.kept (by assumption):Kept w [] w _).size hb4.size); (obtain ⟨hc4,hf4⟩:=bcell hb4); (have lt4:=fun (b:Nat) h=>ltl (n:=b) h hb4.size)))
    | fail)
  ·rename_i hS;(go_wp2_with fail);go_meet;case rel=>exact ⟨_,z,rfl,sz4,bx4,(hz.below (bal)).lower sz3,hS.kept.below⟩
  ·rename_i hS;(go_wp2_with fail);go_meet;case rel=>exact ⟨_,z,rfl,sz3,bx4,(hz.set4 (by simp)).lower (by simp; omega),hS.kept.below⟩
  ·rename_i hS;(go_wp2_with fail);go_meet
   case rel=>
    have b0:Box4 (w.alloc (.cells #[.bool false,.slice none 0 0,.bool false,.slice none 0 0] 30)).drew w (.bool false) (.slice none 0 0) (.bool false) (.slice none 0 0):=bx4;exact ⟨_,z,rfl,nlr _,((b0.below hb3 (by simp)).below hb4 (lt3 _ (by simp))).stored _ _ _ _,(hz.set4 (lt3 _ (by simp))).lower (by omega),hS.kept.below⟩
 case rest=>
  obtain ⟨g,z,rfl,hgw,bZ,hz,hbw⟩:=hcut;rw [Rat.div_def,Rat.one_mul] at hz;have hz1:QCan wc (fun y=>¬ G y) z (D.a r s)⁻¹:=hz.imp fun y _ hy hg=>by have:=h.gin y hg; simp only [New] at hy; omega
  have hD1:=h.call hbw;have hrow1:=hD1.rows r hr;dsimp only at hrow1;obtain ⟨u',⟨q0',q1',q2',q3'⟩,-⟩:=hrow1.elem s (by rw [zAm]; omega);dsimp only at q1' q2' q3';have fz:=hrow1.frozen;clear c0 c1 c2 c3 c4 c8 q0 q1 q2 q3 r0 r1 r2 hu hu1;go_wp2_with fail
  refine (zAN 1 (by decide) (by decide) _).mono ?_; rintro e w1 ⟨⟨y,rfl,hy⟩,hb1⟩
  have hrow2:=hrow1.below hb1;have hgl:g<wc.heap.size:=zAb bZ.1;obtain ⟨hc1,hf1⟩:=bcell hb1;have hrl1:=hrow1.lt;have n1:g ≠ rb r:=by omega
  have hput:RowP (put4 w1 (rb r) s y) G (rb r) (rowL E (Lin.turn (D.a r) s 1)):=by
   rw [<-zD1];exact hrow2.put4 (by rw [zAm]; omega) (hy.imp fun y _ hy hg=>by have:=h.gin y hg; have:=hbw.size; simp only [New] at hy; omega)
  have H1:PPLoop1 w G ⟨d,⟨bA,M,bc⟩,⟨fA,V,fc⟩,⟨some ⟨gr,0,none⟩,M,rc⟩,rb,rs,cb,cc⟩ V M E D r s z g (.int .i64 0) (put4 w1 (rb r) s y):=by
   have hfr:Fr (fun y=>y=rb r) wc (put4 w1 (rb r) s y):=(Fr.of_below (G:=fun y=>y=rb r) hb1).put4 rfl _ _;refine ⟨0,nzl _,rfl,hD1.turnRow (b:=rb r) hrow1 hfr (fun i hi hne=>?_) (fun _=>rfl) rfl rfl (fun i hi e=>?_) (fun e=>absurd e.symm (h.apart r hr)),(Fr.of_below hbw).trans (hfr.mono fun b e=>by rw [e]; exact hrow.mem),(bZ.below hb1 hgl).heap (zAx _ _ _ _ n1),(hz1.below hb1).put4 hrow.mem s⟩
   ·exact Lin.zBh _ (fun e=>hne (by rw [e])) _
   ·obtain rfl:=h.rinj i r hi hr e;show RowP _ _ _ (rowL E (Lin.turn D.a i (scaleTo s (D.a i) 0) i));rw [Lin.zBL,zF8]; exact hput
  have HD:=hdq h;obtain ⟨u2,⟨p0,p1,p2,p3⟩,-⟩:=hrow2.elem s (by rw [zAm]; omega);dsimp only at p1 p2 p3;have fz2:=hrow2.frozen;clear q0' q1' q2' q3' fz;clear hput hrow2 hrow1 hD1 hz hz1 bZ hbw hb1 hc1 hf1 hy hgl hrow h hrl hrl1;go_wp2;clear p0 p1 p2 p3 fz2;show Code.wp _ _ _ _ (put4 w1 (rb r) s y);generalize put4 w1 (rb r) s y=W0 at *;go_loopw [35] (fun t W=>PPLoop1 w G ⟨d,⟨bA,M,bc⟩,⟨fA,V,fc⟩,⟨some ⟨gr,0,none⟩,M,rc⟩,rb,rs,cb,cc⟩ V M E D r s z g t W) (fun t _=>E+1-(intOf t).toNat)
  case atStart=>exact H1
  case round=>
   clear H1;obtain ⟨k,hk,rfl,hD,hF,bZ,hz⟩:=hrel;have hrow:=hD.rows r hr;dsimp only at hrow;rw [Lin.zBL] at hrow;have hrl:=hrow.lt;have hgl:g<wr.heap.size:=zAb bZ.1;by_cases hlt:k<E+1
   ·obtain ⟨u,⟨c0,c1,c2,c3⟩,hu⟩:=hrow.elem k (by rw [zAm]; omega);rw [zAL _ (by omega),zHX] at hu;dsimp only at c1 c2 c3;have hfu:Lin.Fits kb (if k=s then 1 else D.a r k):=by split; exact Lin.Fits.one _; exact HFA.out r k hr (by omega)
    have hfz:=(HFA.out r s hr (by omega)).inv;have HU:=hdq hu;clear hu;have al:Below wr wr (wr.alloc (.cells #[.bool u.num.ng,.slice u.num.A u.num.n u.num.c,.bool u.den.ng,.slice u.den.A u.den.n u.den.c] 30)):=bal;have bU0:Box4 (wr.alloc (.cells #[.bool u.num.ng,.slice u.num.A u.num.n u.num.c,.bool u.den.ng,.slice u.den.A u.den.n u.den.c] 30)) wr (.bool u.num.ng) (.slice u.num.A u.num.n u.num.c) (.bool u.den.ng) (.slice u.den.A u.den.n u.den.c):=bx4;(go_wp2_with fail);refine (zAn ((HU.out.below al).qis (zAv hfu))).mono ?_; rintro e w2 ⟨rfl,hb2⟩
    have h2:Below wr wr w2:=al.trans (hb2.mono al.size);have bU:=bU0.below hb2 (by simp);have bZ2:=bZ.below h2 hgl;clear bU0 al hb2 c0 c1 c2 c3;by_cases h0:(if k=s then 1 else D.a r k)=0
    ·have hq:qsign (if k=s then 1 else D.a r k)=0:=by rw [h0]; rfl
     have Hfin:Hid (PPLoop1 w G ⟨d,⟨bA,M,bc⟩,⟨fA,V,fc⟩,⟨some ⟨gr,0,none⟩,M,rc⟩,rb,rs,cb,cc⟩ V M E D r s z g (.int .i64 ((k:Int)+1)) w2):=
      ⟨k+1,by omega,by simp,by rw [<-zF7 h0]; exact hD.call h2,hF.call h2,bZ2,hz.below h2⟩
     rw [hq];clear hq h0 hD hF bZ bU bZ2 hz h2;go_wp2;go_roundw;case rel=>exact fn_ Hfin.out
     case measure=>simp [intOf]; omega
    ·have hq:(qsign (if k=s then 1 else D.a r k) == 0)=false:=zDd h0;obtain ⟨uk,HUK⟩:∃ uk:Rat,Hid ((if k=s then 1 else D.a r k)=uk):=⟨_,rfl⟩;rw [HUK.out] at hq hfu HU ⊢;clear h0;(go_wp2_with fail);refine (zBb (a:=z) (b:=u) ((hz.below h2).qis (zAv hfz)) ((HU.out.below h2).qis (zAv hfu)) HK1.out HK1.out).mono ?_; rintro e w3 ⟨⟨y,rfl,hy⟩,hb3⟩
     have h3:Below wr wr w3:=h2.trans (hb3.mono h2.size);have hrow3:=hrow.below h3;obtain ⟨u2,⟨p0,p1,p2,p3⟩,-⟩:=hrow3.elem k (by rw [zAm]; omega);dsimp only at p1 p2 p3;have fz2:=hrow3.frozen
     have Hfin:Hid (PPLoop1 w G ⟨d,⟨bA,M,bc⟩,⟨fA,V,fc⟩,⟨some ⟨gr,0,none⟩,M,rc⟩,rb,rs,cb,cc⟩ V M E D r s z g (.int .i64 ((k:Int)+1)) (put4 w3 (rb r) k y)):=by
      have hfr:Fr (fun y=>y=rb r) wr (put4 w3 (rb r) k y):=(Fr.of_below (G:=fun y=>y=rb r) h3).put4 rfl _ _;refine ⟨k+1,by omega,by simp,hD.turnRow (b:=rb r) hrow hfr (fun i hi hne=>?_) (fun _=>rfl) rfl rfl (fun i hi e=>?_) (fun e=>absurd e.symm (HD.out.apart r hr)),hF.trans (hfr.mono fun b e=>by rw [e]; exact hrow.mem),(bZ.below h3 hgl).heap (zAx _ _ _ _ n1),(hz.below h3).put4 hrow.mem k⟩
      ·show Lin.turn D.a r _ i=Lin.turn D.a r _ i;rw [Lin.zBh _ (fun e=>hne (by rw [e])) _,Lin.zBh _ (fun e=>hne (by rw [e])) _]
      ·obtain rfl:=HD.out.rinj i r hi hr e;show RowP _ _ _ (rowL E (Lin.turn D.a i (scaleTo s (D.a i) (k+1)) i));rw [Lin.zBL,<-zDO,HUK.out,<-zD1];exact hrow3.put4 (by rw [zAm]; omega) (hy.imp fun y _ hy hg=>by have:=HD.out.gin y hg; have:=hF.size; have:=h2.size; simp only [New] at hy; omega)
     clear hq hD hF bZ bU bZ2 hz h2 h3 hb3 hy hrow hrow3;go_wp2;go_roundw;case rel=>exact fn_ Hfin.out
     case measure=>simp [intOf]; omega
   ·obtain rfl:k=E+1:=by omega
    have H2:PPLoop2 w G ⟨d,⟨bA,M,bc⟩,⟨fA,V,fc⟩,⟨some ⟨gr,0,none⟩,M,rc⟩,rb,rs,cb,cc⟩ V M E D r s (.int .i64 0) wr:=by
     refine ⟨0,nzl _,rfl,hD.congr (fun _ _=>rfl) (fun _ _=>rfl) (fun i j hi hj=>?_) (fun j hj=>?_),hF⟩
     ·simp only [pivTo,Lin.turn];by_cases e:i=r
      ·rw [if_pos e,if_pos e]; unfold scaleTo; rw [if_pos (by omega)]
      ·rw [if_neg e,if_neg e,if_neg (by omega)]
     ·simp [pivTo]
    obtain ⟨c0,c1,c2,c3,c4,c8⟩:=hD.cells;dsimp only [SV.val] at c0 c1 c2 c3 c4 c8;clear hD hF bZ hz hrow hrl hgl hk hlt;go_wp2;clear c0 c1 c2 c3 c4 c8;obtain ⟨w4,hw4⟩:∃ w4:World,w4=wr:=⟨_,rfl⟩;rw [<-hw4] at H2 ⊢;clear hw4;(go_loopw [55] (fun t W=>PPLoop2 w G ⟨d,⟨bA,M,bc⟩,⟨fA,V,fc⟩,⟨some ⟨gr,0,none⟩,M,rc⟩,rb,rs,cb,cc⟩ V M E D r s t W) (fun t _=>M-(intOf t).toNat));case atStart=>exact H2
    case round=>
     clear H2;obtain ⟨i,hi,rfl,hD,hF⟩:=hrel;by_cases hlt:i<M
     ·obtain ⟨c0,c1,c2,c3,c4,c8⟩:=hD.cells;dsimp only [SV.val] at c0 c1 c2 c3 c4 c8;obtain ⟨gr',e,r0,r1,r2⟩:=hD.row.elem hlt;cases e;dsimp only at r0;have hrr:=hD.rows r hr;rw [zC8] at hrr;dsimp only at hrr;by_cases hir:i=r
      ·have hri:((i:Int) != (r:Int))=false:=by simp [hir]
       have Hfin:Hid (PPLoop2 w G ⟨d,⟨bA,M,bc⟩,⟨fA,V,fc⟩,⟨some ⟨gr,0,none⟩,M,rc⟩,rb,rs,cb,cc⟩ V M E D r s (.int .i64 ((i:Int)+1)) wr):=
        ⟨i+1,by omega,by simp,hD.congr (fun _ _=>rfl) (fun _ _=>rfl) (fun j l hj hl=>by
         by_cases e:j=i
         ·rw [e,hir,zC8,zC8]
         ·rw [zEW e]) (fun _ _=>rfl),hF⟩
       clear hrr hD hF hir;go_wp2;go_roundw;case rel=>exact fn_ Hfin.out
       case measure=>simp [intOf]; omega
      ·have hni:((i:Int) != (r:Int))=true:=by simp; omega
       have hri:=hD.rows i hlt;rw [(zEV hir).2] at hri;dsimp only at hri;have hne:rb r ≠ rb i:=(fun e=>hir (HD.out.rinj i r hlt hr e.symm));(go_wp2_with fail);refine (zCe (kb:=kb) hri hrr hne hD.gin (by omega) (by omega) (fun j hj=>HFA.out i j hlt hj) HFS.out HK.out (HD.out.caps i hlt).1 (HD.out.caps i hlt).2 hcap1 hcap2).mono ?_; rintro e w5 ⟨⟨v,rfl⟩,hr5,hF5⟩
       have Hfin:Hid (PPLoop2 w G ⟨d,⟨bA,M,bc⟩,⟨fA,V,fc⟩,⟨some ⟨gr,0,none⟩,M,rc⟩,rb,rs,cb,cc⟩ V M E D r s (.int .i64 ((i:Int)+1)) w5):=
        ⟨i+1,by omega,by simp,hD.turnRow (b:=rb i) hri hF5 (fun j hj hne=>zEW (fun e=>hne (by rw [e]))) (fun _=>rfl) rfl rfl (fun j hj e=>by
         obtain rfl:=HD.out.rinj j i hj hlt e;rw [(zEV hir).1]; exact hr5) (fun e=>absurd e.symm (HD.out.apart i hlt)),hF.trans (hF5.mono fun b e=>by rw [e]; exact hri.mem)⟩
       clear hrr hri hD hF hr5 hF5 c0 c1 c2 c3 c4 c8 r0 r1 r2;go_wp2;go_roundw;case rel=>exact fn_ Hfin.out
       case measure=>simp [intOf]; omega
     ·have hiM:i=M:=(by omega);rw [hiM] at hD;obtain ⟨c0,c1,c2,c3,c4,c8⟩:=hD.cells;dsimp only [SV.val] at c0 c1 c2 c3 c4 c8;clear hiM;have hrr:=hD.rows r hr;rw [zC8] at hrr;have hri:=hD.cst;rw [zEX.2] at hri;dsimp only at hrr hri;have hne:rb r ≠ cb:=HD.out.apart r hr;(go_wp2_with fail);refine (zCe (kb:=kb) hri hrr hne hD.gin (by omega) (by omega) (fun j hj=>HFC.out j hj) HFS.out HK.out l4 l4' hcap1 hcap2).mono ?_; rintro e w5 ⟨⟨v,rfl⟩,hr5,hF5⟩
      have hD5:PDA w5 G ⟨d,⟨bA,M,bc⟩,⟨fA,V,fc⟩,⟨some ⟨gr,0,none⟩,M,rc⟩,rb,rs,cb,cc⟩ V M E (pivTo D r s M 1):=hD.turnRow (b:=cb) hri hF5 (fun j hj hne=>rfl) (fun hne=>absurd rfl hne) rfl rfl (fun l hl e=>absurd e (HD.out.apart l hl)) (fun _=>by rw [zEX.1]; exact hr5);have hF5':=hF.trans (hF5.mono fun b e=>by rw [e]; exact hri.mem);clear hrr hri hD hF hr5 hF5 c0 c1 c2 c3 c4 c8 hi hlt;have hD:=hD5;have hF:=hF5';clear hD5 hF5';obtain ⟨c0,c1,c2,c3,c4,c8⟩:=hD.cells;dsimp only [SV.val] at c0 c1 c2 c3 c4 c8;go_wp2;obtain ⟨gb,e,b0,b1,b2⟩:=hD.bas.elem hr;obtain ⟨gf,e',f0,f1,f2⟩:=hD.fre.elem hs;dsimp only at e b0 e' f0;subst e e';have n1:gf ≠ gb:=(fun e=>HD.out.bf gb rfl (by rw [e]));obtain ⟨csb,xb⟩:=hD.bas.block rfl;obtain ⟨csf,xf⟩:=hD.fre.block rfl;have n2:gb ≠ d:=by rintro e; have:=hD.blk; dsimp only at this; rw [<-e,xb] at this; cases this
      have n3:gf ≠ d:=by rintro e; have:=hD.blk; dsimp only at this; rw [<-e,xf] at this; cases this
      clear csb xb csf xf;change w5.cell? ⟨gb,r,none⟩=some (.int .i64 (D.basic r:Int)) at b0;change w5.cell? ⟨gf,s,none⟩=some (.int .i64 (D.free s:Int)) at f0;refine zAp 25 (fun fl w'=>(w'.cell? ⟨d,1,none⟩=some (.slice (some gb) M bc)/\w'.cell? ⟨d,2,none⟩=some (.slice (some gf) V fc))/\(fl=false->w'.cell? ⟨gb,r,none⟩=some (.int .i64 (D.basic r:Int))/\w'.cell? ⟨gf,s,none⟩=some (.int .i64 (D.free s:Int)))) (by kernel_rfl) ?_;have hS0:(w5.drew.cell? ⟨d,1,none⟩=some (.slice (some gb) M bc)/\w5.drew.cell? ⟨d,2,none⟩=some (.slice (some gf) V fc))/\(false=false->w5.drew.cell? ⟨gb,r,none⟩=some (.int .i64 (D.basic r:Int))/\w5.drew.cell? ⟨gf,s,none⟩=some (.int .i64 (D.free s:Int))):=⟨⟨c1,c2⟩,fun _=>⟨b0,f0⟩⟩;refine tx4 0 1 2 3 hS0 ?_;refine tx4 4 5 6 7 hS0 ?_;refine tx4 8 9 10 11 hS0 ?_;refine tx4 12 13 14 15 hS0 ?_;refine tkW 16 (.int .i64 (D.free s:Int)) (fun w' hSw=>?_) (hS0) ?_
      ·obtain ⟨a1,a2⟩:=hSw.2 rfl; go_simp
      simp only [zz];refine tx4 17 18 19 20 hS0 ?_;refine tx1 21 hS0 ?_;refine tx1 22 hS0 ?_;refine tkW 23 (.int .i64 (D.basic r:Int)) (fun w' hSw=>?_) (hS0) ?_
      ·obtain ⟨a1,a2⟩:=hSw.2 rfl; go_simp
      simp only [zz];refine tk1 24 ?_;intro K hK;go_simp;refine hK.out _ _ hS0 ?_;clear hK K;refine tk1 25 ?_;intro K hK;go_simp;refine hK.out _ _ ⟨⟨(World.cell?_setCell_far _ _ _ _ n2).trans c1,(World.cell?_setCell_far _ _ _ _ n2).trans c2⟩,fun h=>absurd h (by decide)⟩ ?_;clear hK K;refine tk1 26 ?_;intro K hK;go_simp;refine hK.out _ _ ⟨⟨(World.cell?_setCell_far _ _ _ _ n2).trans c1,(World.cell?_setCell_far _ _ _ _ n2).trans c2⟩,fun h=>absurd h (by decide)⟩ ?_;clear hK K;refine tk1 27 ?_;intro K hK;go_simp;refine hK.out _ _ ⟨⟨(World.cell?_setCell_far _ _ _ _ n3).trans ((World.cell?_setCell_far _ _ _ _ n2).trans c1),(World.cell?_setCell_far _ _ _ _ n3).trans ((World.cell?_setCell_far _ _ _ _ n2).trans c2)⟩,fun h=>absurd h (by decide)⟩ ?_;clear hK K;refine zAf (by kernel_rfl) ?_ _;have hD6:=((hD.setB (g:=gb) rfl r (D.free s)).setF (g:=gf) rfl s (D.basic r)).call (brf _ _).drew;have hF6:=((hF.set (p:=⟨gb,r,none⟩) (HD.out.gb gb rfl) (.int .i64 (D.free s:Int))).set (p:=⟨gf,s,none⟩) (HD.out.gf gf rfl) (.int .i64 (D.basic r:Int))).drew;generalize ((w5.setCell ⟨gb,r,none⟩ (.int .i64 (D.free s:Int))).setCell ⟨gf,s,none⟩ (.int .i64 (D.basic r:Int))).drew=W6 at *;clear c0 c1 c2 c3 c4 c8 b0 b1 b2 f0 f1 f2 hS0 hD hF;go_wp2
      have hD7:=hD6.congr (D':=D.pivot r s) (fun _ _=>rfl) (fun _ _=>rfl) (fun i j hi hj=>by
       simp only [pivTo,Lin.Dict.pivot];by_cases e:i=r
       ·rw [if_pos e,if_pos e]
       ·rw [if_neg e,if_neg e,if_pos hi]) (fun j hj=>by
       simp only [pivTo,Lin.Dict.pivot];rw [if_pos (by omega)])
      exact bodyPost_end (results_none rfl _ _ _) rfl ⟨⟨_,rfl⟩,hD7,hF6⟩
end Go.Proofs.YtbpngececjihlaaGreat
