/- Texts NegL BpD of this claim. -/
import Derived.Test.YtbpngececjihlaaGreatB21
set_option maxHeartbeats 4000000
set_option maxRecDepth 40000
namespace Go.Proofs.YtbpngececjihlaaGreat
open Go.RowKit Go.Shelf
variable {q:Rat} {L M N B g b V:Nat} {l bs:List Rat} {s:SV} {X Y Z X' Y':Nat->Prop} {w W w1:World} {v1 v2 v3 v4 v0:Value} {gs:List Nat} {os rs:List (List Rat)} {p:LPV}
theorem zRT (h:QFit L q):QFit L (-q):=⟨by show (-q.num).natAbs<_; rw [Int.natAbs_neg]; exact h.1,h.2⟩
theorem zSs (l:List Rat) (i:Nat):(l.map ((-1:Rat)*·)).getD i 0=-(l.getD i 0):=by
 by_cases h:i<l.length
 ·simp [List.getD,h]; grind
 ·rw [zAw _ _ _ (by simpa using h),zAw _ _ _ om]; rfl
theorem zRd (h:∀ i,QFit L (l.getD i 0)) (i:Nat):QFit L ((l.map ((-1:Rat)*·)).getD i 0):=by
 rw [zSs]; exact zRT (h i)
theorem zQ1 {k:QV} (hk:QIs w Z M k q) (h:VecIs w X Y L s l) (hn:s.n<=1000000) (hL:L<=LM) (hM:M<=LM) (hf:∀ i,QFit N ((l.map (q*·)).getD i 0)) :
  Calls Tryz.prog 110 #[k.val,s.val] w fun e w'=>(∃ r:SV,e = .returned r.val/\VecIs w' (New w) (New w) N r (l.map (q*·)))/\Below w w w':=by
 refine (zLH hk h hn hL hM).mono ?_;rintro e w' ⟨⟨r,rfl,hr⟩,hb⟩;exact ⟨⟨r,rfl,hr.loose hf⟩,hb⟩
abbrev Bx5 (W:World) (b:Nat) (v0 v1 v2 v3 v4:Value):Prop:=
 W.cell? b=some v0/\W.cell? ⟨b,1,none⟩=some v1/\W.cell? ⟨b,2,none⟩=some v2/\W.cell? ⟨b,3,none⟩=some v3/\W.cell? ⟨b,4,none⟩=some v4/\(∀ o,W.frozen? ⟨b,o,none⟩=false)
section
variable {w w':World} {b:Nat} {v0 v1 v2 v3 v4:Value}
theorem Bx5.below (h:Bx5 w b v0 v1 v2 v3 v4) (hb:Below B w w') (hlt:b<B):Bx5 w' b v0 v1 v2 v3 v4:=
 ⟨by rw [hb.cell hlt]; exact h.1,by rw [hb.cell hlt]; exact h.2.1,by rw [hb.cell hlt]; exact h.2.2.1,by rw [hb.cell hlt]; exact h.2.2.2.1,by rw [hb.cell hlt]; exact h.2.2.2.2.1,fun o=>by rw [hb.frozen hlt]; exact h.2.2.2.2.2 o⟩
abbrev put5 (w:World) (b:Nat) (x0 x1 x2 x3 x4:Value):World:=((((w.setCell b x0).setCell ⟨b,1,none⟩ x1).setCell ⟨b,2,none⟩ x2).setCell ⟨b,3,none⟩ x3).setCell ⟨b,4,none⟩ x4
theorem Bx5.stored (h:Bx5 w b v0 v1 v2 v3 v4) (x0 x1 x2 x3 x4:Value):Bx5 (put5 w b x0 x1 x2 x3 x4) b x0 x1 x2 x3 x4:=by
 have s:∀ (w:World) (o o':Nat) (x:Value),o ≠ o'->(w.setCell ⟨b,o,none⟩ x).cell? ⟨b,o',none⟩=w.cell? ⟨b,o',none⟩:=fun w o o' x h=>World.cell?_setCell_other _ _ _ _ si
 obtain ⟨a0,a1,a2,a3,-⟩:=Box4.stored (w:=w) ⟨h.1,h.2.1,h.2.2.1,h.2.2.2.1,h.2.2.2.2.2⟩ x0 x1 x2 x3;refine ⟨by rw [s _ _ _ _ dj]; exact a0,by rw [s _ _ _ _ dj]; exact a1,by rw [s _ _ _ _ dj]; exact a2,by rw [s _ _ _ _ dj]; exact a3,?_,fun o=>by simp only [World.frozen?_setCell]; exact h.2.2.2.2.2 o⟩;exact World.cell?_setCell_same' _ _ _ (by rw [s _ _ _ _ dj,s _ _ _ _ dj,s _ _ _ _ dj,s _ _ _ _ dj,h.2.2.2.2.1]; rfl)
theorem zTM (W:World):Bx5 (W.alloc (.cells #[(),false,(),false,()] 147)) W () false () false ():=⟨by go_simp,by go_simp,by go_simp,by go_simp,by go_simp,by intro o; go_simp⟩
theorem zTP (W:World):Bx5 (W.alloc (.cells #[(),false,(),false,()] 147)).drew W () false () false ():=⟨by go_simp,by go_simp,by go_simp,by go_simp,by go_simp,by intro o; go_simp⟩
end
def two {α:Type} (a b:α) (i:Nat):α:=if i=0 then a else b
theorem zTW {α:Type} {P:α->Prop} {a b:α} (ha:P a) (hb:P b) (i:Nat):P (two a b i):=by
 unfold two; split
 ·exact ha
 ·exact hb
theorem Sees.n5 {o1 o2 o3 o4 o5:Nat} {v5:Value} (h:Sees B gs W w1) (hg:W.heap.size<=g):Sees B gs W (((((w1.setCell ⟨g,o1,none⟩ v1).setCell ⟨g,o2,none⟩ v2).setCell ⟨g,o3,none⟩ v3).setCell ⟨g,o4,none⟩ v4).setCell ⟨g,o5,none⟩ v5):=
 ((h.n4 hg).kept.set v5 (.inr hg)).sees
theorem zTX {r r2:SV} {v v2:QV} (h:w.heap[b]?=some (.cells #[r,v.num.ng,v.num,v.den.ng,v.den,r2,v2.num.ng,v2.num,v2.den.ng,v2.den] 147 (0,0))) (i:Nat) (hi:i<2):CoAt w b i (two r r2 i) (two v v2 i):=by
 rcases (show i=0\/i=1 by omega) with rfl | rfl <;> exact ⟨by simp [World.cell?,h,two],by simp [World.cell?,h,two],by simp [World.cell?,h,two],by simp [World.cell?,h,two],by simp [World.cell?,h,two]⟩
def EqAt (B L:Nat) (row:List Rat) (q:Rat) (p:Value) (W:World):Prop:=
 ∃ (g:Nat) (r:SV) (v:QV),p = .pointer (some g)/\B<=g/\Bx5 W g (.slice r.A r.n r.c) (.bool v.num.ng) (.slice v.num.A v.num.n v.num.c) (.bool v.den.ng) (.slice v.den.A v.den.n v.den.c)/\VecIs W AllB AllB L r row/\QIs W AllB L v q
section
variable {y:World} {B L g:Nat} {row:List Rat} {q:Rat} {r:SV} {v:QV} {X:Nat->Prop}
theorem zT2 (hB:B<=y.heap.size) (hr:VecIs y X X L r row) (hv:QCan y X v q) (hq:QFit L q):EqAt B L row q (.pointer (some y)) (y.alloc (.cells #[r,v.num.ng,v.num,v.den.ng,v.den] 147)):=
 have al:Below y y (y.alloc (.cells #[r,v.num.ng,v.num,v.den.ng,v.den] 147)):=bal
 ⟨_,r,v,rfl,hB,⟨by go_simp,by go_simp,by go_simp,by go_simp,by go_simp,by intro o; go_simp⟩,VecAt.below (hr.imp (fun _ _ _=>trivial) fun _ _ h=>h.imp fun _ _ _=>trivial) al,((hv.qis hq).imp fun _ _ _=>trivial).below al⟩
theorem zTI (hB:B<=g) (bx:Bx5 y g v0 v1 v2 v3 v4) (hr:VecIs y (fun x=>x ≠ g) (fun x=>x ≠ g) L r row) (hv:QCan y (fun x=>x ≠ g) v q) (hq:QFit L q):EqAt B L row q (.pointer (some g)) (put5 y g r v.num.ng v.num v.den.ng v.den):=by
 have P5:=(Put.four (W:=y) g r v.num.ng v.num v.den.ng).trans (Put.one g 4 v.den);have kx:∀ a:Addr,a.block ≠ g->a.block<y->(put5 y g r v.num.ng v.num v.den.ng v.den).cell? a=y.cell? a:=fun a ha _=>cob (P5.keep _ ha)
 exact ⟨g,r,v,rfl,hB,bx.stored _ _ _ _ _,(hr.keep (R':=QIs (put5 y g r v.num.ng v.num v.den.ng v.den) (fun x=>x ≠ g) L) kx fun _ _ h=>h.keep kx).imp (fun _ _ _=>trivial) fun _ _ h=>h.imp fun _ _ _=>trivial,((hv.qis hq).keep kx).imp fun _ _ _=>trivial⟩
end
theorem zTG :Calls Tryz.prog 44 #[.int .i64 (-1)] w fun e w'=>(∃ u:QV,e = .returned u.val/\QIs w' AllB 1 u (-1))/\Below w w w':=by
 refine (zAN (-1) dj dj _).mono ?_;rintro e w' ⟨⟨u,rfl,hu⟩,hb⟩;exact ⟨⟨u,rfl,(hu.qis (L:=1) ⟨by decide +kernel,by decide +kernel⟩).imp fun _ _ _=>trivial⟩,hb⟩
theorem zTm {Z':Nat->Prop} {r:SV} {mv:QV} {row:List Rat} {most:Rat} (h:LPIs w X Y L p os rs bs) (hV:p.n=V) (hV2:V<=64) (ho1:1<=p.O.n) (ho2:p.O.n<=4) (hr:p.R.n<=126) (hb:p.B.n=p.R.n) (hco:colsOf os<=V) (hcr:colsOf rs<=V) (hL:L+1<=LM)
  (hrow:VecIs w X' Y' L r row) (hmost:QIs w Z' L mv most) (hrn:r.n<=V) (hmf:QFit L most) (hrf:∀ k,QFit L (row.getD k 0)) :
  Calls Tryz.prog 78 #[p.val,r.val,mv.val] w fun e w'=>LPRet w p.n (L+1) os (rs++[row,row.map ((-1:Rat)*·)]) (bs++[most,-most]) e w'/\Below w w w':=by
 obtain ⟨z,⟨oA,on,oc⟩,⟨rA,rn,rc⟩,⟨bA,bn,bc⟩⟩:=p;obtain ⟨qA,qn,qc⟩:=r;dsimp only at hV hr hb ho1 ho2 hrn;subst hV;obtain rfl:rn=bn:=hb.symm;have H:=hdq h;have HRow:=hdq hrow;have HMost:=hdq hmost;have HCo:=hdq hco;have HCr:=hdq hcr;have HL:=hdq hL;have HL0:Hid (L<=LM):=hdq (by omega);have H1:Hid (1<=LM):=hdq (by rw [zAZ]; decide);have HN:Hid (qn<=1000000):=hdq (by omega);have HF:Hid (∀ i,QFit L ((row.map ((-1:Rat)*·)).getD i 0)):=hdq (zRd hrf);have HMf:Hid (QFit L (-most)):=hdq (zRT hmf);clear h hrow hmost hco hcr hL hmf;dsimp only [LPV.val,SV.val] at *;go_enter Tryz.func78,Tryz.ntmps78
 go_upto_region 1 with fail
 refine zAo (fun W=>Below w w W/\Box4 W w (.int .i64 V) (.slice oA on oc) (.slice rA rn rc) (.slice bA rn bc)/\Box4 W (w+1) (.bool mv.num.ng) (.slice mv.num.A mv.num.n mv.num.c) (.bool mv.den.ng) (.slice mv.den.A mv.den.n mv.den.c)/\Box4 W (w+1+1) (.int .i64 0) (.slice none 0 0) (.slice none 0 0) (.slice none 0 0)/\w.heap.size<W.heap.size/\w.heap.size+1<W.heap.size/\w.heap.size+1+1<W.heap.size) ⟨(az (az (az (brf _ _)))),bx4,bx4,bx4,by simp <;> omega,by simp <;> omega,by simp <;> omega⟩ ?_;rintro W ⟨hbW,bP,bM,bR,s0,s1,s2⟩;have hBW:=hbW.size;have ne02:¬ (w.heap.size=w.heap.size+1+1):=by omega
 obtain ⟨m0,m1,m2,m3,-⟩:=id bM;go_cut [8] from 9 to 14 (fun p W'=>EqAt W L (row.map ((-1:Rat)*·)) (-most) p W'/\Below W W W')
 case first=>
  go_region_held3 (Sees w [] W) (first | exact kp | ((with_reducible apply Sees.n5) <;> (first | (with_reducible assumption) | (simp <;> omega))))
   (first
    | (go_at_call 44; ((with_reducible refine (zTG).mono ?_); rintro e y1 ⟨⟨u,rfl,hu⟩,hc1⟩; (have sz1:W.heap.size<=y1.heap.size:=by exact nlt (Sees.kept (by assumption):Kept w [] W _).size hc1.size); (obtain ⟨hcc1,hf1⟩:=bcell hc1); (have lt1:=fun (b:Nat) h=>ltl (n:=b) h hc1.size)))
    | (go_at_call 110; ((with_reducible refine (zQ1 (N:=L) (k:=u) (s:=⟨qA,qn,qc⟩) hu (HRow.out.below (hbW.trans ((Sees.kept (by assumption)).whole.mono hBW))) HN.out HL0.out H1.out HF.out).mono ?_); rintro e y2 ⟨⟨⟨sA,sn,sc⟩,rfl,hs⟩,hc2⟩; (have sz2:W.heap.size<=y2.heap.size:=by exact nlt (Sees.kept (by assumption):Kept w [] W _).size hc2.size); (obtain ⟨hcc2,hf2⟩:=bcell hc2); (have lt2:=fun (b:Nat) h=>ltl (n:=b) h hc2.size); (obtain ⟨hcc12,hf12⟩:=bcell (hc1.trans (hc2.mono hc1.size)))))
    | (go_at_call 110; ((with_reducible refine (zQ1 (N:=L) (k:=u) (s:=⟨qA,qn,qc⟩) (hu.below (bal)) (HRow.out.below (hbW.trans ((Sees.kept (by assumption)).whole.mono hBW))) HN.out HL0.out H1.out HF.out).mono ?_); rintro e y2 ⟨⟨⟨sA,sn,sc⟩,rfl,hs⟩,hc2⟩; (have sz2:W.heap.size<=y2.heap.size:=by exact nlt (Sees.kept (by assumption):Kept w [] W _).size hc2.size); (obtain ⟨hcc2,hf2⟩:=bcell hc2); (have lt2:=fun (b:Nat) h=>ltl (n:=b) h hc2.size)))
    | (go_at_call 116; ((with_reducible refine ((fun (_:Below W.drew.heap.size W.drew y1) (_:Below y1 y1 y2)=>zHK (a:=mv) (HMost.out.below (hbW.trans ((Sees.kept (by assumption)).whole.mono hBW))) HL0.out) hc1 hc2).mono ?_); rintro e y3 ⟨⟨v,rfl,hv⟩,hc3⟩; (have sz3:W.heap.size<=y3.heap.size:=by exact nlt (Sees.kept (by assumption):Kept w [] W _).size hc3.size); (obtain ⟨hcc3,hf3⟩:=bcell hc3); (have lt3:=fun (b:Nat) h=>ltl (n:=b) h hc3.size)))
    | (go_at_call 116; ((with_reducible refine ((fun (_:Below _ _ y1) (_:Below y1 y1 y2)=>zHK (a:=mv) (HMost.out.below (hbW.trans ((Sees.kept (by assumption)).whole.mono hBW))) HL0.out) hc1 hc2).mono ?_); rintro e y3 ⟨⟨v,rfl,hv⟩,hc3⟩; (have sz3:W.heap.size<=y3.heap.size:=by exact nlt (Sees.kept (by assumption):Kept w [] W _).size hc3.size); (obtain ⟨hcc3,hf3⟩:=bcell hc3); (have lt3:=fun (b:Nat) h=>ltl (n:=b) h hc3.size); (obtain ⟨hcc13,hf13⟩:=bcell ((hc1.trans (hc2.mono hc1.size)).trans (hc3.mono (nlt hc1.size hc2.size))))))
    | (go_at_call 116; ((with_reducible refine (zHK (a:=mv) (HMost.out.below (hbW.trans ((Sees.kept (by assumption)).whole.mono hBW))) HL0.out).mono ?_); rintro e y3 ⟨⟨v,rfl,hv⟩,hc3⟩; (have sz3:W.heap.size<=y3.heap.size:=by exact nlt (Sees.kept (by assumption):Kept w [] W _).size hc3.size); (obtain ⟨hcc3,hf3⟩:=bcell hc3); (have lt3:=fun (b:Nat) h=>ltl (n:=b) h hc3.size); (obtain ⟨hcc23,hf23⟩:=bcell (hc2.trans (hc3.mono hc2.size)))))
    | fail)
  focus
   rename_i hS;(go_wp2_with fail);go_meet;case rel=>exact ⟨zT2 (X:=AllB) (r:=⟨sA,sn,sc⟩) sz3 ((VecAt.below hs hc3).imp (fun _ _ _=>trivial) fun _ _ hq=>hq.imp fun _ _ _=>trivial) (hv.imp fun _ _ _=>trivial) HMf.out,hS.kept.whole⟩
  focus
   rename_i hS;(go_wp2_with fail);go_meet;case rel=>exact ⟨zTI (r:=⟨sA,sn,sc⟩) sz2 ((zTM y2).below hc3 (by simp)) (VecAt.below (VecAt.below (hs.imp (fun b hb _=>Nat.ne_of_lt hb) fun _ _ hq=>hq.imp fun b hb _=>Nat.ne_of_lt hb) (bal)) hc3) (hv.imp fun b _ hb=>by simp [New] at hb; omega) HMf.out,hS.kept.whole⟩
  focus
   rename_i hS;(go_wp2_with fail);go_meet;case rel=>exact ⟨zTI (r:=⟨sA,sn,sc⟩) sz1 (((zTM y1).below hc2 (by simp)).below hc3 (lt2 _ (by simp))) (VecAt.below (hs.imp (fun b _ hb=>by simp [New] at hb; omega) fun _ _ hq=>hq.imp fun b _ hb=>by simp [New] at hb; omega) hc3) (hv.imp fun b _ hb=>by have:=lt2 y1 (by simp); simp only [New] at hb; omega) HMf.out,hS.kept.whole⟩
  focus
   rename_i hS;(go_wp2_with fail);go_meet
   case rel=>
    have lw:W.heap.size<y1.heap.size:=lt1 _ (by simp);have lw2:=lt2 _ lw;exact ⟨zTI (r:=⟨sA,sn,sc⟩) (nlr _) ((((zTP W).below hc1 (by simp)).below hc2 lw).below hc3 lw2) (VecAt.below (hs.imp (fun b _ hb=>by simp only [New] at hb; omega) fun _ _ hq=>hq.imp fun b _ hb=>by simp only [New] at hb; omega) hc3) (hv.imp fun b _ hb=>by simp only [New] at hb; omega) HMf.out,hS.kept.whole⟩
 case rest=>
  obtain ⟨⟨g,⟨sA,sn,sc⟩,v,rfl,hg,⟨g0,g1,g2,g3,g4,-⟩,hs,hv⟩,hbc⟩:=hcut;replace bP:=bP.below hbc s0;replace bM:=bM.below hbc s1;replace bR:=bR.below hbc s2;replace hbW:=hbW.trans (hbc.mono hBW);have hbs:=hbc.size;clear m0 m1 m2 m3;obtain ⟨p0,p1,p2,p3,-⟩:=id bP;obtain ⟨m0,m1,m2,m3,-⟩:=id bM;dsimp only [SV.val] at g0;have HS:=hdq hs;have HVv:=hdq hv
  have HSn:Hid (sn=qn):=hdq (by
   have h1:=hs.len;have h2:=HRow.out.len;dsimp only at h1 h2;rw [List.length_map] at h1;omega)
  clear hs hv hbc;go_wp2_with fail
  have al:Below wc wc (wc.alloc (.cells #[.slice qA qn qc,.bool mv.num.ng,.slice mv.num.A mv.num.n mv.num.c,.bool mv.den.ng,.slice mv.den.A mv.den.n mv.den.c,.slice sA sn sc,.bool v.num.ng,.slice v.num.A v.num.n v.num.c,.bool v.den.ng,.slice v.den.A v.den.n v.den.c] 147)):=bal;have hbW2:=hbW.trans (al.mono hbW.size);have hh:(wc.alloc (.cells #[.slice qA qn qc,.bool mv.num.ng,.slice mv.num.A mv.num.n mv.num.c,.bool mv.den.ng,.slice mv.den.A mv.den.n mv.den.c,.slice sA sn sc,.bool v.num.ng,.slice v.num.A v.num.n v.num.c,.bool v.den.ng,.slice v.den.A v.den.n v.den.c] 147)).heap[wc.heap.size]?=some (.cells #[.slice qA qn qc,.bool mv.num.ng,.slice mv.num.A mv.num.n mv.num.c,.bool mv.den.ng,.slice mv.den.A mv.den.n mv.den.c,.slice sA sn sc,.bool v.num.ng,.slice v.num.A v.num.n v.num.c,.bool v.den.ng,.slice v.den.A v.den.n v.den.c] 147 (0,0)):=zAd _ _ rfl
  refine (zTt (m:=2) (p:=⟨V,⟨oA,on,oc⟩,⟨rA,rn,rc⟩,⟨bA,rn,bc⟩⟩) (b:=wc) (r:=two ⟨qA,qn,qc⟩ ⟨sA,sn,sc⟩) (v:=two mv v) (row:=two row (row.map ((-1:Rat)*·))) (most:=two most (-most)) (X':=AllB) (Y':=AllB) (Z':=AllB) (H.out.below hbW2) rfl hV2 ho1 ho2 (by show rn+2<=_; omega) (by decide) rfl HCo.out HCr.out HL.out
   (fun i _=>by
    unfold two; split
    ·exact (HRow.out.below hbW2).imp (fun _ _ _=>trivial) fun _ _ hq=>hq.imp fun _ _ _=>trivial
    ·exact VecAt.below HS.out al)
   (fun i _=>by
    unfold two; split
    ·exact (HMost.out.below hbW2).imp fun _ _ _=>trivial
    ·exact HVv.out.below al)
   (fun i _=>zTW (P:=fun s:SV=>s.n<=V) hrn (by have:=HSn.out; show sn<=V; omega) i)
   (zTX (r:=⟨qA,qn,qc⟩) (r2:=⟨sA,sn,sc⟩) hh)).mono ?_
  rintro e w1 ⟨⟨⟨z,⟨xA,xn,xc⟩,⟨yA,yn,yc⟩,⟨uA,un,uc⟩⟩,rfl,hz,hq⟩,hb1⟩;dsimp only at hz;subst hz;have hb1':=al.trans (hb1.mono al.size);replace bR:=bR.below hb1' (by omega);have hbw1:=hbW.trans (hb1'.mono hbW.size);obtain ⟨r0,r1,r2,r3,rf⟩:=id bR;have sR:w.heap.size+1+1<w1.heap.size:=zAb r0;have P8:=Put.four (W:=w1) (w+1+1) (.int .i64 V) (.slice xA xn xc) (.slice yA yn yc) (.slice uA un uc);have bR8:=bR.stored (.int .i64 V) (.slice xA xn xc) (.slice yA yn yc) (.slice uA un uc);have HQ:=hdq hq;clear hq m0 m1 m2 m3 p0 p1 p2 p3 hh;go_wp2;generalize (((w1.setCell ⟨w+1+1,0,none⟩ (.int .i64 V)).setCell ⟨w.heap.size+1+1,1,none⟩ (.slice xA xn xc)).setCell ⟨w.heap.size+1+1,2,none⟩ (.slice yA yn yc)).setCell ⟨w.heap.size+1+1,3,none⟩ (.slice uA un uc)=y8 at *;clear r0 r1 r2 r3 rf;obtain ⟨r0,r1,r2,r3,-⟩:=id bR8;refine bodyPost_ret (v:=.tuple #[.agg #[.int .i64 V,.slice xA xn xc,.slice yA yn yc,.slice uA un uc],.int .i64 0]) (by simp [results,Tryz.results78,go_sem,r0,r1,r2,r3]) rfl ⟨⟨⟨V,⟨xA,xn,xc⟩,⟨yA,yn,yc⟩,⟨uA,un,uc⟩⟩,rfl,rfl,?_⟩,hbw1.trans (P8.below _ (by omega))⟩;have hals:=al.size;have h1:=HQ.out.put P8 (by omega);exact ⟨h1.obj.imp (fun b _ hb=>by omega) fun _ _ hq=>hq.imp fun b _ hb=>by omega,h1.rows.imp (fun b _ hb=>by omega) fun _ _ hq=>hq.imp fun b _ hb=>by omega,h1.bounds.imp (fun b _ hb=>by omega) fun _ _ hq=>hq.imp fun b _ hb=>by omega⟩
end Go.Proofs.YtbpngececjihlaaGreat
