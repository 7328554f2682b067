/- Texts BnJ of this claim. -/
import Derived.Test.YtbpngececjihlaaGreatB24
set_option maxHeartbeats 4000000
set_option maxRecDepth 40000
namespace Go.Proofs.YtbpngececjihlaaGreat
open Go.RowKit Go.Shelf
variable {f:Nat->Rat} {c L M n V m kb r:Nat} {A:Option Addr} {q:Rat} {X Y Z G:Nat->Prop} {w:World} {lv:Nat->Bool} {bn cn:Nat->Nat} {base:List Rat}
theorem zLP (n s:Nat) (f:Nat->Rat):((rowL n f).map ((f s)⁻¹*·)).set s (f s)⁻¹=rowL n (Lin.scaled s f):=by
 apply List.ext_getElem
 ·simp [rowL]
 ·intro i h1 h2;simp only [rowL,List.getElem_set,List.getElem_map,List.getElem_range,Lin.scaled];by_cases e:s=i
  ·subst e; simp
  ·rw [if_neg e,if_neg (Ne.symm e)]
def ScRet (w:World) (n:Nat) (l:List Rat) (e:Ending) (w':World):Prop:=∃ b,e = .returned (.slice (some ⟨b,0,none⟩) (n+1) (n+1))/\w.heap.size<=b/\RowAt w' (fun x=>x<w.heap.size\/x=b) b l
theorem zLp {k:QV} (hk:QIs w Z M k q) (h:VecIs w X Y L ⟨A,n+1,c⟩ (rowL n f)) (hn:n+1<=1000000) (hL:L<=LM) (hM:M<=LM) :
  Calls Tryz.prog 110 #[k.val,.slice A (n+1) c] w fun e w'=>ScRet w n ((rowL n f).map (q*·)) e w'/\Below w w w':=by
 refine (zKV (s:=⟨A,n+1,c⟩) hk h hn hL hM).mono ?_;rintro e w' ⟨⟨b,rfl,h1,h2⟩,hb⟩;exact ⟨⟨b,by rw [List.length_map,zAm],h1,h2⟩,hb⟩
theorem zKY {x:TV} {s:Nat} {a:Nat->Nat->Rat} {g:Option (Nat->Rat)} (h:TB w G x V n m L base bn cn a lv g) (hr:r<m) (hs:s<n) (hn:n<=1000) (hm:m<=1000)
  (hL:L<=LM) (h0:a r s ≠ 0) (hfa:∀ i j,i<m->j<=n->Lin.Fits kb (a i j)) (hfs:∀ j,j<=n->Lin.Fits kb (Lin.scaled s (a r) j)) (hres:∀ i j,i<m->i ≠ r->j<=n->QFit L (Lin.elim s (Lin.scaled s (a r)) (a i) j)) (hsf:∀ j,j<=n->QFit L (Lin.scaled s (a r) j))
  (hfg:∀ f,g=some f->∀ j,j<=n->Lin.Fits kb (f j)/\QFit L (Lin.elim s (Lin.scaled s (a r)) f j)) (hk:2*kb+1<=LM) :
  Calls Tryz.prog 152 #[.pointer (some x.d),.int .i64 (r:Int),.int .i64 (s:Int)] w fun e w'=>(∃ v,e = .returned v)/\
   BPvRet w G x V n m L base (Lin.turn bn r (cn s)) (Lin.turn cn s (bn r)) (fun i=>if i=r then Lin.scaled s (a r) else Lin.elim s (Lin.scaled s (a r)) (a i)) lv (pvG a r s g) w':=by
 have HK:=hdq hk;have HK1:Hid (kb+1<=LM):=by show kb+1<=LM; omega
 have HL:=hdq hL;have HFA:=hdq hfa;have HFS:=hdq hfs;have HRS:=hdq hres;have HSF:=hdq hsf;have HFG:=hdq hfg;have H0:=hdq h0;clear hk hL hfa hfs hres hsf hfg h0;have er:x.row.n=m:=h.row.len;have hr2:x.row.n<=x.row.c:=h.row.le;have hr3:x.row.c<=9223372036854775807:=h.row.cap;obtain ⟨d,bs,⟨rA,rn,rcc⟩,bas,cols,lvs,rb,rc,gb,gc⟩:=x;dsimp only at er hr2 hr3;subst er;obtain ⟨HO,hHO⟩:∃ HO,Hid (HO=Ow ⟨d,bs,⟨rA,rn,rcc⟩,bas,cols,lvs,rb,rc,gb,gc⟩ rn g.isSome):=⟨_,hdq rfl⟩;obtain ⟨hca,hcb⟩:=h.caps r hr;dsimp only at hca hcb;have hdl:=h.dlt;dsimp only at hdl;have hsv:s<n+1:=by omega
 have hsvi:(s:Int)<(n:Int)+1:=by omega
 have hs0:(0:Int)<=(s:Int):=by omega
 have hri:(r:Int)<(rn:Int):=by omega
 have hr0:(0:Int)<=(r:Int):=by omega
 go_enter Tryz.func152,Tryz.ntmps152
 go_upto_region 1 with fail
 have al:Below w w (w.alloc (.cells #[.int .i64 (s:Int)] 3)):=bal;have hbx:(w.alloc (.cells #[.int .i64 (s:Int)] 3)).cell? w=some (.int .i64 (s:Int)):=by go_simp
 have hsl:w.heap.size<(w.alloc (.cells #[.int .i64 (s:Int)] 3)).heap.size:=by simp
 generalize w.alloc (.cells #[.int .i64 (s:Int)] 3)=W0 at *;have hD:=h.below al;obtain ⟨k0,k1,k2,k3,k4,k5,k6,kf⟩:=hD.cells;dsimp only [SV.val] at k0 k1 k2 k3 k4 k5 k6;obtain ⟨gr,eR,hrc,-,tr⟩:=hD.row.elem hr;dsimp only at eR hrc;subst eR;obtain ⟨u,⟨q0,q1,q2,q3⟩,hu⟩:=(hD.rows r hr).elem s (by rw [zAm]; omega);rw [zAL _ (by omega)] at hu;dsimp only at q1 q2 q3;have hrl:=(hD.rows r hr).lt;dsimp only at hrl;have hdl0:d<W0.heap.size:=hD.dlt;have Hu:=hdq hu;have HD:=hdq hD;clear hu hD;go_cut [6] from 27 (fun p W=>∃ (g:Nat) (z:QV),p = .pointer (some g)/\W0.heap.size<=g/\Box4 W g (.bool z.num.ng) (.slice z.num.A z.num.n z.num.c) (.bool z.den.ng) (.slice z.den.A z.den.n z.den.c)/\QCan W (New W0) z (1 / a r s)/\Below W0 W0 W)
 case first=>
  go_region_held3 (Sees W0 [] W0) (exact kp)
   (first
    | (go_at_call 44; ((with_reducible refine (zAN 1 (by decide) (by decide) _).mono ?_); rintro e w3 ⟨⟨y,rfl,hy⟩,hb3⟩; (have sz3:W0.heap.size<=w3.heap.size:=by exact nlt (Sees.kept (by assumption):Kept W0 [] W0 _).size hb3.size); (obtain ⟨hc3,hf3⟩:=bcell hb3); (have lt3:=fun (b:Nat) h=>ltl (n:=b) h hb3.size)))
    | (go_at_call 109; ((with_reducible refine (zEY (a:=y) (b:=u) (hy.qis (zAv (Lin.Fits.one _))) (Hu.out.keptNil (Sees.kept (by assumption))) HK1.out HL.out H0.out).mono ?_); rintro e w4 ⟨⟨z,rfl,hz⟩,hb4⟩; (have sz4:W0.heap.size<=w4.heap.size:=by exact nlt (Sees.kept (by assumption):Kept W0 [] W0 _).size hb4.size); (obtain ⟨hc4,hf4⟩:=bcell hb4); (have lt4:=fun (b:Nat) h=>ltl (n:=b) h hb4.size)))
    | (go_at_call 109; ((with_reducible refine (zEY (a:=y) (b:=u) ((hy.below (bal)).qis (zAv (Lin.Fits.one _))) (Hu.out.keptNil (Sees.kept (by assumption))) HK1.out HL.out H0.out).mono ?_); rintro e w4 ⟨⟨z,rfl,hz⟩,hb4⟩; (have sz4:W0.heap.size<=w4.heap.size:=by exact nlt (Sees.kept (by assumption):Kept W0 [] W0 _).size hb4.size); (obtain ⟨hc4,hf4⟩:=bcell hb4); (have lt4:=fun (b:Nat) h=>ltl (n:=b) h hb4.size)))
    | fail)
  ·rename_i hS;(go_wp2_with fail);go_meet;case rel=>exact ⟨_,z,rfl,sz4,bx4,(hz.below (bal)).lower sz3,hS.kept.below⟩
  ·rename_i hS;(go_wp2_with fail);go_meet;case rel=>exact ⟨_,z,rfl,sz3,bx4,(hz.set4 (by simp)).lower (by simp; omega),hS.kept.below⟩
  ·rename_i hS;(go_wp2_with fail);go_meet
   case rel=>
    have b0:Box4 (W0.alloc (.cells #[.bool false,.slice none 0 0,.bool false,.slice none 0 0] 30)).drew W0 (.bool false) (.slice none 0 0) (.bool false) (.slice none 0 0):=bx4;exact ⟨_,z,rfl,nlr _,((b0.below hb3 (by simp)).below hb4 (lt3 _ (by simp))).stored _ _ _ _,(hz.set4 (lt3 _ (by simp))).lower (by omega),hS.kept.below⟩
 case rest=>
  obtain ⟨gi,z,rfl,hgw,bZ,hz,hbw⟩:=hcut
  rename World=>W1
  rw [Rat.div_def,Rat.one_mul] at hz;have hD1:=HD.out.below hbw;have hx1:W1.cell? w=some (.int .i64 (s:Int)):=(hbw.cell hsl).trans hbx;have h01:=al.trans (hbw.mono al.size);have hbwx:=hbw;clear k0 k1 k2 k3 k4 k5 k6 kf q0 q1 q2 q3 hrc tr hbx HD Hu;obtain ⟨k0,k1,k2,k3,k4,k5,k6,kf⟩:=hD1.cells;dsimp only [SV.val] at k0 k1 k2 k3 k4 k5 k6;obtain ⟨gr',eR,hrc,-,tr⟩:=hD1.row.elem hr;cases eR;dsimp only at hrc tr;have HR1:=hdq (hD1.rows r hr);have hrl1:=HR1.out.lt;dsimp only at hrl1;have hgil:gi<W1.heap.size:=zAb bZ.1;have hxl:w.heap.size<W1.heap.size:=by have:=hbw.size; omega
  have hdl1:d<W1.heap.size:=hD1.dlt;have HD1:=hdq hD1;have HZ:Hid (QIs W1 (New W0) (kb+1) z (a r s)⁻¹):=hdq (hz.qis (zAv (HFA.out r s hr (by omega)).inv));obtain ⟨z0,z1,z2,z3,z4⟩:=id bZ;clear hD1;go_upto_region 2 with fail
  go_cut [8] from 36 (fun p W=>∃ (gp pb:Nat),p = .pointer (some gp)/\W1.heap.size<=gp/\W1.heap.size<=pb/\pb ≠ gp/\W.cell? gp=some (.slice (some pb) (n+1) (n+1))/\RowAt W (fun y=>y<W1.heap.size\/y=pb) pb ((rowL n (a r)).map ((a r s)⁻¹*·))/\Below W1 W1 W)
  case first=>
   go_region_held3 (Sees W1 [] W1) (first | exact (Kept.setN (by simp) (Sees.kept (by assumption))).sees | exact kp)
    (first
     | (go_at_call 110; ((with_reducible refine (zLp (k:=z) (A:=some ⟨rb r,0,none⟩) (c:=rc r) (HZ.out.keptNil (Sees.kept (by assumption))) ((HR1.out.below (Sees.kept (by assumption)).whole).vecN (zAm _ _) hca hcb) (show n+1<=1000000 by omega) HL.out HK1.out).mono ?_); rintro e w3 ⟨⟨pb,rfl,hpb,hP⟩,hb3⟩; (have sz3:W1.heap.size<=w3.heap.size:=by exact nlt (Sees.kept (by assumption):Kept W1 [] W1 _).size hb3.size); (obtain ⟨hc3,hf3⟩:=bcell hb3); (have lt3:=fun (b:Nat) h=>ltl (n:=b) h hb3.size)))
     | fail)
   ·rename_i hS;have hpl:=hP.lt;have hP':RowAt w3 (fun y=>y<W1.heap.size\/y=pb) pb ((rowL n (a r)).map ((a r s)⁻¹*·)):=hP;(go_wp2_with fail);go_meet;case rel=>exact ⟨_,pb,rfl,sz3,hpb,by omega,by go_simp,hP'.below (bal),hS.kept.whole⟩
   ·rename_i hS;rw [show (W1.alloc (.cells #[.slice none 0 0] 23)).drew.heap.size=W1.heap.size+1 by simp] at hP hpb;(go_wp2_with fail);go_meet;case rel=>exact ⟨_,pb,rfl,nlr _,by omega,by omega,by go_simp,hP.lowB (by omega) _,hS.kept.whole⟩
  case rest=>
   obtain ⟨gp,pb,rfl,hgp,hpb,hne,hpc,hP,hbw2⟩:=hcut;have hx2:wc.cell? w=some (.int .i64 (s:Int)):=(hbw2.cell hxl).trans hx1;obtain ⟨z0,z1,z2,z3,z4⟩:=bZ.below hbw2 hgil;have hw2:W1.heap.size<=wc.heap.size:=hbw2.size;have hpl:=hP.lt;have hgpl:gp<wc.heap.size:=zAb hpc;obtain ⟨zv,⟨d0,d1,d2,d3⟩,-⟩:=hP.elem s (by rw [List.length_map,zAm]; omega);have fz:=hP.frozen;dsimp only at d1 d2 d3;have hGl:=h.gin;have hbw3:Below W1 W1 (put4 wc pb s z):=zBq hbw2 hpb s z;have hMo:More w G (fun y=>G y\/y=pb):=⟨fun y hy=>.inl hy,fun y hy=>hy.elim .inl fun e=>.inr (by have:=al.size; have:=hbw.size; omega)⟩;have hD3:=HD1.out.call hbw3 (G':=fun y=>G y\/y=pb) (fun y hy=>.inl hy) (fun y hy=>hy.elim .inl fun e=>.inr (by omega)) fun y hy=>by rw [zBI]; rcases hy with hy | hy; have:=hGl y hy; have:=al.size; have:=hbw.size; omega; omega
   have hR0:RowAt (put4 wc pb s z) (fun y=>G y\/y=pb) pb (rowL n (Lin.scaled s (a r))):=by
    have hg:RowAt wc (fun y=>G y\/y=pb) pb ((rowL n (a r)).map ((a r s)⁻¹*·)):=⟨.inr rfl,hP.blk,fun k hk=>by
     obtain ⟨v,h1,h2⟩:=hP.elem k hk;exact ⟨v,h1,h2.imp fun y _ hy hg=>hy (hg.elim (fun hg=>.inl (by have:=hGl y hg; have:=al.size; have:=hbw.size; omega)) .inr)⟩⟩
    rw [<-zLP]
    exact hg.put4 (by rw [List.length_map,zAm]; omega) (((hz.imp (Y:=fun y=>W0.heap.size<=y/\y<W1.heap.size) fun y hl hy=>⟨hy,hl⟩).below hbw2).imp fun y hy1 hy hg=>by
     have:=al.size;rcases hg with hg | hg
     ·have:=hGl y hg; omega
     ·omega)
   have hR1:RowB (put4 wc pb s z) (fun y=>G y\/y=pb) L pb (rowL n (Lin.scaled s (a r))):=hR0.room.rowB fun k=>by
    by_cases hk:k<=n
    ·rw [zAL _ hk]; exact HSF.out k hk
    ·rw [show (rowL n (Lin.scaled s (a r))).getD k 0=0 by rw [gdd,List.getElem?_eq_none (by rw [zAm]; omega)]; rfl];exact QFit.of_zero (HSF.out 0 (nzl _))
   have hp3:∀ p:Addr,p.block ≠ pb->(put4 wc pb s z).cell? p=wc.cell? p:=fun p hp=>zCq _ _ _ _ hp
   have Hst:Hid (BPvLoop w G HO ⟨d,bs,⟨some ⟨gr,0,none⟩,rn,rcc⟩,bas,cols,lvs,rb,rc,gb,gc⟩ V n rn L base bn cn a lv g r s gp pb (n+1) (.int .i64 0) (put4 wc pb s z)):=
    hdq ⟨0,rfl,nzl _,⟨_,rb,rc,hMo,by rw [hHO.out]; exact Less.refl _ _,hD3.congr (fun _ _=>rfl) (fun _ _=>rfl) (fun i j _ _=>by unfold pvA; rw [if_neg (by omega)]) (fun _ _=>rfl),hR1,fun j hj e=>by have:=(h.rows j hj).lt; have:=al.size; have:=hbw.size; dsimp only at *; omega,fun f e e'=>by have:=(h.aim f e).1.lt; have:=al.size; have:=hbw.size; dsimp only at *; omega,
     fun hg=>hg.elim (fun hg=>by have:=hGl _ hg; omega) fun e=>by have:=hbw.size; omega,fun hg=>hg.elim (fun hg=>by have:=hGl _ hg; have:=al.size; have:=hbw.size; omega) fun e=>hne e.symm⟩,
     (Fr.of_below (G:=HO) (h01.trans (hbw3.mono h01.size))),(hp3 _ (by dsimp only; omega)).trans hx2,(hp3 _ (by dsimp only; omega)).trans hpc⟩
   have hD4:=HD1.out.below hbw3;have HDc:=hdq (HD1.out.below hbw2);clear hp3 hR1 hR0 hD3 hMo hP hz bZ k0 k1 k2 k3 k4 k5 k6 kf hrc tr HZ HD1 HR1 hbwx;have hDc:=HDc.out;obtain ⟨k0,k1,k2,k3,k4,k5,k6,kf⟩:=hDc.cells;dsimp only [SV.val] at k0 k1 k2 k3 k4 k5 k6;have hdp:d ≠ pb:=(by omega);have hpd:¬ (pb=d):=(by omega);clear z4 hw2 hgpl hDc;have hwl:w.heap.size<W1.heap.size:=hxl;go_wp2;clear d0 d1 d2 d3 fz z0 z1 z2 z3 hpc hx2 k0 k1 k2 k3 k4 k5 k6 kf;show Code.wp _ _ _ _ (put4 wc pb s z);generalize put4 wc pb s z=Wp at *;(go_loopw [46] (fun t W=>BPvLoop w G HO ⟨d,bs,⟨some ⟨gr,0,none⟩,rn,rcc⟩,bas,cols,lvs,rb,rc,gb,gc⟩ V n rn L base bn cn a lv g r s gp pb (n+1) t W) (fun t _=>rn-(intOf t).toNat));case atStart=>exact Hst.out
   case round=>
    clear Hst;obtain ⟨k,rfl,hk,⟨G',rb',rc',hMo,hOw,hT,hP,hrb,hgb,nx,np⟩,hfr,hcol,hpiv⟩:=hrel;dsimp only at hT;by_cases hlt:k<rn
    ·have hki:(k:Int)<(rn:Int):=(by omega);have hk0:(0:Int)<=(k:Int):=(by omega);obtain ⟨gr',eR,hrc,hfz,tr⟩:=hT.row.elem hlt;cases eR;dsimp only at hrc tr;by_cases hkr:k=r
     ·subst hkr
      have Hfin:Hid (BPvLoop w G HO ⟨d,bs,⟨some ⟨gr,0,none⟩,rn,rcc⟩,bas,cols,lvs,rb,rc,gb,gc⟩ V n rn L base bn cn a lv g k s gp pb (n+1) (.int .i64 ((k:Int)+1)) wr):=
       hdq ⟨k+1,by simp,by omega,⟨G',rb',rc',hMo,hOw,hT.congr (fun _ _=>rfl) (fun _ _=>rfl) (fun i j _ _=>by
        unfold pvA;by_cases e:i=k
        ·rw [if_neg (by omega),if_neg (by omega)]
        ·by_cases h:i<k
         ·rw [if_pos ⟨h,e⟩,if_pos ⟨by omega,e⟩]
         ·rw [if_neg (by omega),if_neg (by omega)]) (fun _ _=>rfl),hP,hrb,hgb,nx,np⟩,hfr,hcol,hpiv⟩
      clear hT hP hrb hgb nx np hfr hcol hpiv hMo hOw;go_wp2;go_roundw;case rel=>exact fn_ Hfin.out
      case measure=>simp [intOf]; omega
     ·have hkri:¬ (k:Int)=(r:Int):=(by omega);obtain ⟨k0,k1,k2,k3,k4,k5,k6,kf⟩:=hT.cells;dsimp only [SV.val] at k0 k1 k2 k3 k4 k5 k6;have hdl2:=hT.dlt;dsimp only at hdl2;have hxl2:=zAb hcol;have hgl2:=zAb hpiv;dsimp only at hxl2 hgl2;obtain ⟨hca2,hcb2⟩:=hT.caps k hlt;dsimp only at hca2 hcb2;have hrw:=hT.rows k hlt;dsimp only at hrw;have HT:=hdq hT;have HP:=hdq hP;have HM:=hdq (And.intro hMo (And.intro hrb (And.intro hgb (And.intro nx (And.intro np (And.intro hfr (And.intro hcol hpiv)))))));have HOw:=hdq hOw;clear hT hP hMo hrb hgb nx np hfr hrw hOw;(go_upto_region 9 with fail);refine zAp 1000 (fun _ w'=>w'.cell? ⟨d,2,none⟩=some (.slice (some gr) rn rcc)) (by kernel_rfl) ?_;have hS0:wr.drew.cell? ⟨d,2,none⟩=some (.slice (some gr) rn rcc):=k2;refine tx4 0 1 2 3 hS0 ?_;refine tx1 4 hS0 ?_;refine tx1 5 hS0 ?_;refine tx1 6 hS0 ?_;refine tk1 7 ?_;intro K hK;go_simp;have hdr:Below wr wr wr.drew:=(brf _ _).drew;have hTd:=HT.out.below hdr;have hPd:=HP.out.below hdr;have hfa:pvA a r s k k=a k:=by unfold pvA; rw [if_neg (by omega)]
      have hrk:=hTd.rows k hlt;dsimp only at hrk;rw [hfa] at hrk;have HRk:=hdq hrk;clear hrk;refine (zKS (kb:=kb) HRk.out hPd (fun e=>HM.out.2.1 k hlt e.symm) hTd.gin (show s<=n by omega) hn HL.out (fun j hj=>HFA.out k j hlt hj) HFS.out HK.out (fun j hj=>HRS.out k j hlt hkr hj) hcol hpiv HM.out.2.2.2.1 HM.out.2.2.2.2.1 hca2 hcb2 (nlr _) (by omega)).mono ?_;rintro e w7 ⟨b,c,rfl,hc1,hc2,hbn,hR,hKp⟩;obtain ⟨h1,h2,h3,h4,h5,h6,h7,h8⟩:=HM.out
      have hnd:d ≠ rb' k:=by
       obtain ⟨cs,e,-⟩:=(hTd.rows k hlt).blk;exact zKG hTd.blk e (by decide)
      have hnr:d ≠ gr:=by
       obtain ⟨cs,e⟩:=hTd.row.block rfl;exact zKG hTd.blk e (by decide)
      have hng:gr ≠ rb' k:=by
       obtain ⟨cs,e,-⟩:=(hTd.rows k hlt).blk;obtain ⟨cs',e'⟩:=hTd.row.block rfl;exact zKG e' e (by decide)
      have hrc7:=(hKp.fr.cell (p:=⟨gr,k,none⟩) tr hng).trans hrc;have hfz7:=(World.frozen?_of_block (a:=⟨gr,k,none⟩) (hKp.fr.block gr tr hng)).trans (hfz k);have hS7:w7.cell? ⟨d,2,none⟩=some (.slice (some gr) rn rcc):=(hKp.fr.cell (p:=⟨d,2,none⟩) hdl2 hnd).trans hS0;have Hst2:=BPv.step (W:=wr.drew) h1 HOw.out hTd hPd h2 h3 h4 h5 h6.drew h7 h8 hlt hkr rfl hbn hR hKp.fr hc1 hc2;have Hfin:Hid (BPvLoop w G HO ⟨d,bs,⟨some ⟨gr,0,none⟩,rn,rcc⟩,bas,cols,lvs,rb,rc,gb,gc⟩ V n rn L base bn cn a lv g r s gp pb (n+1) (.int .i64 ((k:Int)+1)) (w7.setCell ⟨gr,k,none⟩ (.slice (some b) (n+1) c))):=hdq ⟨k+1,by simp,Hst2⟩;clear h1 h2 h3 h4 h5 h6 h7 h8 Hst2 hR hKp hTd hPd HRk HT HP hdr;refine hK.out _ _ hS7 ?_;clear hK K;refine tk1 8 ?_;intro K hK;go_simp;refine hK.out _ _ hS7 ?_;clear hK K;refine tk1 9 ?_;intro K hK;go_simp;refine hK.out _ _ ((World.cell?_setCell_far _ _ _ _ (Ne.symm hnr)).trans hS7) ?_;clear hK K;refine zAf (by kernel_rfl) ?_ _;clear hS0 hS7 hrc7 hfz7 k0 k1 k2 k3 k4 k5 k6 kf;go_wp2;go_roundw;case rel=>exact fn_ Hfin.out
      case measure=>simp [intOf]; omega
    ·(obtain rfl:k=rn:=by omega);obtain ⟨k0,k1,k2,k3,k4,k5,k6,kf⟩:=hT.cells;dsimp only [SV.val] at k0 k1 k2 k3 k4 k5 k6;have hdl2:=hT.dlt;dsimp only at hdl2;have hxl2:=zAb hcol;have hgl2:=zAb hpiv;dsimp only at hxl2 hgl2;rcases g with _ | f
     focus
      have HF:Hid (BPv w G HO ⟨d,bs,⟨some ⟨gr,0,none⟩,k,rcc⟩,bas,cols,lvs,rb,rc,gb,gc⟩ V n k L base bn cn a lv (pvG a r s none) r s gp pb (n+1) k wr):=hdq ⟨hk,⟨G',rb',rc',hMo,hOw,hT,hP,hrb,hgb,nx,np⟩,hfr,hcol,hpiv⟩;have hnil:=(fun (w:World) (A:Option Addr) (n c:Nat)=>run_neq_slice_nil (P:=Tryz.prog) w 23 30 A n c Tryz.underlying23);dsimp only [TV.goal] at k6;clear hT hP hrb hgb nx np hMo hfr hOw;(go_upto_region 13 with fail);obtain ⟨W7,rfl⟩:∃ W:World,W=wr:=⟨wr,rfl⟩
     rotate_left
     focus
      obtain ⟨a1,a2,a3,a4⟩:=hT.aim f rfl;have hal:=a1.lt
      have hnd:d ≠ gb:=by
       obtain ⟨cs,e,-⟩:=a1.blk;exact zKG hT.blk e (by decide)
      have hgp2:=hgb f rfl;dsimp only at a1 a2 a3 a4 hal hgp2;have hnil:=(fun (w:World) (A:Option Addr) (n c:Nat)=>run_neq_slice_nil (P:=Tryz.prog) w 23 30 A n c Tryz.underlying23);dsimp only [TV.goal] at k6;have HT:=hdq hT;have HP:=hdq hP;have HA1:=hdq a1;have HM:=hdq (And.intro hMo (And.intro hrb (And.intro nx (And.intro np hfr))));have HOw:=hdq hOw;clear hT hP hMo hrb hgb nx np hfr a1 a4 hOw;(go_wp2_with fail);refine (zKS (kb:=kb) HA1.out HP.out (Ne.symm hgp2) HT.out.gin (show s<=n by omega) hn HL.out (fun j hj=>(HFG.out f rfl j hj).1) HFS.out HK.out (fun j hj=>(HFG.out f rfl j hj).2) hcol hpiv HM.out.2.2.1 HM.out.2.2.2.1 a2 a3 (nlr _) (by omega)).mono ?_;rintro e w7 ⟨b,c,rfl,hc1,hc2,hbn,hR,hKp⟩;obtain ⟨m1,m2,m3,m4,m5⟩:=HM.out;have HF:=hdq (BPv.goal (x:=⟨d,bs,⟨some ⟨gr,0,none⟩,k,rcc⟩,bas,cols,lvs,rb,rc,gb,gc⟩) m1 HOw.out HT.out HP.out m2 hgp2 m3 m4 m5 hcol hpiv hbn hR hKp.fr hc1 hc2);have d6:=(hKp.fr.cell (p:=⟨d,6,none⟩) hdl2 hnd).trans k6;have df:=(fun o=>(World.frozen?_of_block (a:=⟨d,o,none⟩) (hKp.fr.block d hdl2 hnd)).trans (kf o));clear m1 m2 m3 m4 m5 hR hKp k0 k1 k2 k3 k4 k5 k6 kf HT HP HA1 HM hcol hpiv hdl2 hxl2 hgl2;dsimp only at HF;(go_upto_region 13 with fail);generalize w7.setCell ⟨d,6,none⟩ (.slice (some b) (n+1) c)=W7 at *;have hdl2:True:=trivial;have hxl2:True:=trivial;have hgl2:True:=trivial
     all_goals
      have HF0:=HF;obtain ⟨-,⟨G2,rb2,rc2,-,-,t2,-,-,-,-,t7⟩,-,t9,t10⟩:=HF0.out;obtain ⟨k0,k1,k2,k3,k4,k5,k6,kf⟩:=t2.cells;dsimp only [SV.val] at k0 k1 k2 k3 k4 k5 k6;obtain ⟨gr',eR,r0,r1,r2⟩:=t2.row.elem hr;cases eR;have hd2:=t2.dlt;dsimp only at r0 r2 hd2
      have hnr:d ≠ gr:=by
       obtain ⟨cs,e⟩:=t2.row.block rfl;exact zKG t2.blk e (by decide)
      have hng:gp ≠ gr:=(fun e=>t7 (by rw [e]; exact t2.gr gr rfl));clear t2 t7 t9 k0 k1 k3 k4 k5 k6 HF0;refine zAp 1000 (fun _ w'=>w'.cell? ⟨d,2,none⟩=some (.slice (some gr) k rcc)/\w'.cell? gp=some (.slice (some pb) (n+1) (n+1))) (by kernel_rfl) ?_;have hS0:W7.drew.cell? ⟨d,2,none⟩=some (.slice (some gr) k rcc)/\W7.drew.cell? gp=some (.slice (some pb) (n+1) (n+1)):=⟨k2,t10⟩;refine tx4 0 1 2 3 hS0 ?_;refine tx1 4 hS0 ?_;refine tx1 5 hS0 ?_;refine tx1 6 hS0 ?_;refine tk1 7 ?_;intro K hK;go_simp;refine hK.out _ _ ⟨(World.cell?_setCell_far _ _ _ _ (Ne.symm hnr)).trans hS0.1,(World.cell?_setCell_far _ _ _ _ (Ne.symm hng)).trans hS0.2⟩ ?_;clear hK K;refine zAf (by kernel_rfl) ?_ _;obtain ⟨G3,⟨d3,bs3,row3,bas3,cols3,lv3,rb3,rc3,gb3,gc3⟩,e1,e2,e3,M3,L3,F3,nx3,x3,T3⟩:=HF.out.fin rfl hr (by have:=al.size; have:=hbw.size; omega) (nlr _) (by omega);dsimp only at e1 e2 e3;replace e1:=e1.symm;replace e2:=e2.symm;replace e3:=e3.symm;subst e1 e2 e3;replace T3:=T3.below (brf _ _).drew;replace F3:=F3.drew;replace x3:(World.setCell W7 ⟨gr,r,none⟩ (.slice (some pb) (n+1) (n+1))).drew.cell? w=some (.int .i64 (s:Int)):=x3;clear HF k2 kf r0 r1 r2 hS0 t10;generalize (World.setCell W7 ⟨gr,r,none⟩ (.slice (some pb) (n+1) (n+1))).drew=W5 at *;obtain ⟨k0,k1,k2,k3,k4,k5,k6,kf⟩:=T3.cells;dsimp only [SV.val] at k0 k1 k2 k3 k4 k5 k6;obtain ⟨gbA,eB,b0,b1,b2⟩:=T3.bas.elem hr;obtain ⟨gfA,eF,f0,f1,f2⟩:=T3.cols.elem hs;have q1:bas.n=k:=T3.bas.len;have q2:bas.n<=bas.c:=T3.bas.le;have q3:bas.c<=9223372036854775807:=T3.bas.cap;have q4:cols.n=n:=T3.cols.len;have q5:cols.n<=cols.c:=T3.cols.le;have q6:cols.c<=9223372036854775807:=T3.cols.cap;have hd5:=T3.dlt;obtain ⟨bA,bbn,bbc⟩:=bas;obtain ⟨cA,ccn,ccc⟩:=cols;dsimp only at eB eF q1 q2 q3 q4 q5 q6 b0 f0 hd5 k3 k4;subst eB eF q1 q4;have n1:gfA ≠ gbA:=fun e=>T3.bf gbA rfl (by rw [e])
      have n2:gbA ≠ d:=by
       obtain ⟨cs,e⟩:=T3.bas.block rfl;exact (zKG T3.blk e (by decide)).symm
      have n3:gfA ≠ d:=by
       obtain ⟨cs,e⟩:=T3.cols.block rfl;exact (zKG T3.blk e (by decide)).symm
      have n4:gbA ≠ w.heap.size:=(fun e=>nx3 (by rw [<-e]; exact T3.gb gbA rfl));have n5:gfA ≠ w.heap.size:=(fun e=>nx3 (by rw [<-e]; exact T3.gc gfA rfl));clear k0 k1 k2 k5 k6 hdl2 hxl2 hgl2;have hx5:=zAb x3;dsimp only at hx5;(go_upto_region 14 with fail);refine zAp 25 (fun fl w'=>(w'.cell? ⟨d,3,none⟩=some (.slice (some gbA) bbn bbc)/\w'.cell? ⟨d,4,none⟩=some (.slice (some gfA) ccn ccc)/\w'.cell? w=some (.int .i64 (s:Int)))/\(fl=false->w'.cell? ⟨gbA,r,none⟩=some (.int .i64 (bn r:Int))/\w'.cell? ⟨gfA,s,none⟩=some (.int .i64 (cn s:Int)))) (by kernel_rfl) ?_;have hS0:(W5.drew.cell? ⟨d,3,none⟩=some (.slice (some gbA) bbn bbc)/\W5.drew.cell? ⟨d,4,none⟩=some (.slice (some gfA) ccn ccc)/\W5.drew.cell? w=some (.int .i64 (s:Int)))/\(false=false->W5.drew.cell? ⟨gbA,r,none⟩=some (.int .i64 (bn r:Int))/\W5.drew.cell? ⟨gfA,s,none⟩=some (.int .i64 (cn s:Int))):=⟨⟨k3,k4,x3⟩,fun _=>⟨b0,f0⟩⟩;refine tx4 0 1 2 3 hS0 ?_;refine tx4 4 5 6 7 hS0 ?_;refine tx4 8 9 10 11 hS0 ?_;refine tx4 12 13 14 15 hS0 ?_;refine tkW 16 (.int .i64 (cn s:Int)) (fun w' hSw=>?_) (hS0) ?_
      ·obtain ⟨a1,a2⟩:=hSw.2 rfl; go_simp
      simp only [zz];refine tx4 17 18 19 20 hS0 ?_;refine tx1 21 hS0 ?_;refine tx1 22 hS0 ?_;refine tkW 23 (.int .i64 (bn r:Int)) (fun w' hSw=>?_) (hS0) ?_
      ·obtain ⟨a1,a2⟩:=hSw.2 rfl; go_simp
      simp only [zz];refine tk1 24 ?_;intro K hK;go_simp;refine hK.out _ _ hS0 ?_;clear hK K;refine tk1 25 ?_;intro K hK;go_simp;refine hK.out _ _ ⟨⟨(World.cell?_setCell_far _ _ _ _ n2).trans k3,(World.cell?_setCell_far _ _ _ _ n2).trans k4,(World.cell?_setCell_far _ _ _ _ n4).trans x3⟩,fun h=>absurd h (by decide)⟩ ?_;clear hK K;refine tk1 26 ?_;intro K hK;go_simp;refine hK.out _ _ ⟨⟨(World.cell?_setCell_far _ _ _ _ n2).trans k3,(World.cell?_setCell_far _ _ _ _ n2).trans k4,(World.cell?_setCell_far _ _ _ _ n4).trans x3⟩,fun h=>absurd h (by decide)⟩ ?_;clear hK K;refine tk1 27 ?_;intro K hK;go_simp;refine hK.out _ _ ⟨⟨(World.cell?_setCell_far _ _ _ _ n3).trans ((World.cell?_setCell_far _ _ _ _ n2).trans k3),(World.cell?_setCell_far _ _ _ _ n3).trans ((World.cell?_setCell_far _ _ _ _ n2).trans k4),(World.cell?_setCell_far _ _ _ _ n5).trans ((World.cell?_setCell_far _ _ _ _ n4).trans x3)⟩,fun h=>absurd h (by decide)⟩ ?_;clear hK K;refine zAf (by kernel_rfl) ?_ _;have T6:=((T3.setB (y:=gbA) (r:=r) (v:=cn s) rfl).setC (y:=gfA) (s:=s) (v:=bn r) rfl).below (brf _ _).drew;have F6:=F3.more (((Fr.refl _ W5).set (p:=⟨gbA,r,none⟩) (.inr (.inl (.inr (.inl rfl)))) (.int .i64 (cn s:Int))).set (p:=⟨gfA,s,none⟩) (.inr (.inl (.inr (.inr (.inl rfl))))) (.int .i64 (bn r:Int))).drew L3;have hH:=hHO.out;subst hH;go_wp2;exact bodyPost_end (results_none rfl _ _ _) rfl ⟨⟨_,rfl⟩,G3,⟨d,bs3,row3,⟨some ⟨gbA,0,none⟩,bbn,bbc⟩,⟨some ⟨gfA,0,none⟩,ccn,ccc⟩,lv3,rb3,rc3,gb3,gc3⟩,rfl,M3,L3,F6,T6⟩
end Go.Proofs.YtbpngececjihlaaGreat
