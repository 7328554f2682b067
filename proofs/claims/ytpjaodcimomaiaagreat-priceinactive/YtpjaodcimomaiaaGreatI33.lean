/- Texts Acc PrP of this claim. -/
import Derived.Test.YtpjaodcimomaiaaGreatI29
set_option maxHeartbeats 4000000
set_option maxRecDepth 100000
namespace Go.Proofs.YtpjaodcimomaiaaGreat
open Go.RowKit Go.Shelf
variable {b e n B L M V kb:Nat} {w W W1 W2:World} {G X Y X' Y':Nat->Prop} {v v':Value} {f:Nat->Rat} {s:SV} {bs:List Rat} {os rs:List (List Rat)} {p:LPV}
structure AccS (w:World) (b e:Nat) (g:Nat->Rat) (n:Nat) (v:Value) (G:Nat->Prop) (s:List QV) (W:World):Prop where
 len:s.length=n
 box:Boxed W e 24 v
 own:W.ownsRow b 37 4 v n (s.flatMap cells4q)
 row:∀ j,v.ownBlock=some j->G j
 gb:G e
 gin:∀ x,G x->(x=e\/b<=x)/\x<W.heap.size
 elem:∀ k,k<n->QCan W (fun b=>¬ G b/\w.heap.size<=b) (s.getD k QV.zero) (g k)
def AccI (w:World) (b e:Nat) (g:Nat->Rat) (n:Nat) (W:World):Prop:=∃ v G s,AccS w b e g n v G s W
theorem AccI.own {g:Nat->Rat}:Own (AccI w b e g):=fun _ W W' _ hs hg hr=>by
 obtain ⟨v,G,s,h⟩:=hs;exact ⟨v,G,s,h.len,zAi hg hr h.box,zEp hg hr h.own,h.row,h.gb,fun x hx=>⟨(h.gin x hx).1,ltl (h.gin x hx).2 hg.size⟩,fun k hk=>(h.elem k hk).carry (Carry.grown hg hr)⟩
theorem AccI.start {g:Nat->Rat} (h:Boxed W e 24 (.slice none 0 0)):AccI w b e g 0 W:=
 ⟨.slice none 0 0,fun x=>x=e,[],rfl,h,⟨rfl,.inl ⟨rfl,rfl⟩⟩,fun j hj=>by simp [Value.ownBlock] at hj,rfl,fun x hx=>⟨.inl hx,by rw [hx]; exact zAa h⟩,fun k hk=>absurd hk (Nat.not_lt_zero k)⟩
theorem AccS.step {g:Nat->Rat} {s:List QV} {zq:QV} {o:Obj} (h:AccS w b e g n v G s W) (he:e<b) (hwe:w<=e) (_hbW:b<=W) (hb:Below W W W1) (hz:QCan W1 (New W) zq (g n))
  (hown:W2.ownsRow b 37 4 v' (n+1) (s.flatMap cells4q++cells4q zq)) (hg:(W1.alloc o).grownBy W2 v.ownBlock) (hat:v'.ownBlock=v.ownBlock\/v'.ownBlock=some (W1.alloc o).heap.size) :
  AccI w b e g (n+1) (W2.setCell e v')/\Carry (fun y=>y<b/\y ≠ e) W (W2.setCell e v')/\
   (∀ (k:Nat) (o:Obj),W.heap[k]?=some o->o.isCells=false->(W2.setCell e v').heap[k]?=some o)/\W.heap.size<=(W2.setCell e v').heap.size/\Below w W (W2.setCell e v'):=by
 have hbl:=zAa h.box;have hsz:W1+1<=(W2:Nat):=by have:=hg.size; simpa using this
 have hs1:=hb.size;have hss:(W2.setCell e v').heap.size=W2.heap.size:=by simp [World.setCell]
 have hvl:∀ j,v.ownBlock=some j->b<=j/\j<W.heap.size/\j ≠ e/\G j:=fun j hj=>by
  obtain ⟨h1,cs,hh⟩:=zAc h.own hj;exact ⟨h1,zAa hh,zAy hh h.box (by decide),h.row j hj⟩
 have k1:∀ k,k<W1.heap.size->k ≠ e->some k ≠ v.ownBlock->(W2.setCell e v').heap[k]?=W1.heap[k]?:=fun k hk h1 h2=>
  (bhs _ _ _ _ h1).trans ((hg.block k (by simp; omega) h2).trans (Below.heap_alloc _ _ _ hk))
 have keep:∀ k,k<W.heap.size->k ≠ e->some k ≠ v.ownBlock->(W2.setCell e v').heap[k]?=W.heap[k]?:=fun k hk h1 h2=>(k1 k (by omega) h1 h2).trans (hb.block k hk)
 have keepG:∀ k,k<W.heap.size->¬ G k->(W2.setCell e v').heap[k]?=W.heap[k]?:=fun k hk hn=>keep k hk (fun e'=>hn (by rw [e']; exact h.gb)) fun e'=>hn (h.row k e'.symm)
 have hv':∀ j,v'.ownBlock=some j->b<=j/\j<W2.heap.size/\j ≠ e/\(G j\/j=W1.heap.size+1):=fun j hj=>by
  obtain ⟨h1,cs,hh⟩:=zAc hown hj;refine ⟨h1,zAa hh,?_⟩;rcases hat with e' | e'
  ·have:=hvl j (e'.symm.trans hj); exact ⟨this.2.2.1,.inl this.2.2.2⟩
  ·rw [e'] at hj; cases hj; exact ⟨by simp; omega,.inr (by simp)⟩
 have carX:Carry (fun y=>y<b/\y ≠ e) W (W2.setCell e v'):=⟨by omega,fun k cs t f hx hk=>(keepG k (zAa hk) fun hgk=>by have:=(h.gin k hgk).1; omega).trans hk⟩;refine ⟨⟨v',fun y=>G y\/v'.ownBlock=some y,s++[zq],?_,?_,?_,fun j hj=>.inr hj,.inl h.gb,?_,?_⟩,carX,fun k o hk ho=>?_,by omega,?_⟩
 ·rw [List.length_append,h.len]; rfl
 ·have hB:Boxed W2 e 24 v:=(hg.block _ (by simp; omega) (fun e'=>(hvl _ e'.symm).2.2.1 rfl)).trans ((Below.heap_alloc _ _ _ (by omega)).trans ((hb.block _ hbl).trans h.box));exact Boxed.set v' hB
 ·rw [List.flatMap_append];refine zAr (v:=v') (n:=n+1) ?_ fun j hj=>bhs _ _ _ _ (hv' j hj).2.2.1
  simpa using hown
 ·intro y hy;rcases hy with hy | hy
  ·have:=h.gin y hy; omega
  ·have:=hv' y hy; omega
 ·intro k hk
  have e2:(s++[zq]).getD k QV.zero=if k<n then s.getD k QV.zero else zq:=by
   rw [<-h.len];by_cases hkl:k<s.length
   ·rw [if_pos hkl,zAE _ _ _ hkl]
   ·rw [if_neg hkl,show k=s.length by rw [h.len]; rw [h.len] at hkl; omega]; simp
  rw [e2];by_cases hkl:k<n
  ·rw [if_pos hkl];have q1:=(h.elem k hkl).imp (Y:=fun b=>(¬ G b/\¬ v'.ownBlock=some b)/\w.heap.size<=b) fun b hb' hx=>⟨⟨hx.1,fun e'=>(hv' b e').2.2.2.elim hx.1 fun h'=>by omega⟩,hx.2⟩
   exact (q1.keep fun a hx hl=>cob (keepG _ hl hx.1.1)).imp fun b _ hx=>⟨fun hg'=>hg'.elim hx.1.1 hx.1.2,hx.2⟩
  ·rw [if_neg hkl];(obtain rfl:k=n:=by omega);have q1:=hz.imp (Y:=fun b=>W.heap.size<=b/\b<W1.heap.size) fun b hb' hx=>⟨hx,hb'⟩
   (refine (q1.keep fun a hx hl=>cob (k1 _ hx.2 (by omega) fun e'=>by have:=(hvl _ e'.symm).2.1; omega)).imp fun b _ hx=>⟨fun hg'=>?_,by omega⟩);rcases hg' with hg' | hg'
   ·have:=(h.gin b hg').2; omega
   ·rcases (hv' b hg').2.2.2 with h' | h'
    ·have:=(h.gin b h').2; omega
    ·omega
 ·refine (keep k (zAa hk) (fun e'=>?_) fun e'=>?_).trans hk
  ·rw [e',show W.heap[e]?=_ from h.box] at hk; cases hk; cases ho
  ·obtain ⟨_,cs,hh⟩:=zAc h.own e'.symm;rw [hh] at hk; cases hk; cases ho
 ·have hG1:Below w W W1:=hb.mono (by omega);have h3:Below w (W1.alloc o) W2:=(brf _ _).grown hg (by simp; omega) (fun j hj=>by have:=(hvl j hj).1; omega);exact ((hG1.alloc (by omega) _).trans h3).setCell (p:=e) (by show w<=e; omega) _
theorem AccI.vec {g:Nat->Rat} (h:AccI w b e g n W) (hwb:w<=b):∃ s:SV,s.n=n/\Boxed W e 24 s.val/\VecCan W (New w) (New w) s ((List.range n).map g):=by
 obtain ⟨v,G,s,h⟩:=h
 obtain ⟨sv,e1,e2,e3⟩:=zFr (X:=fun b=>¬ G b/\w.heap.size<=b) (l:=(List.range n).map g) h.own h.len (by simp) (fun k hk=>by
  rw [zA6 _ _ _ _ hk];exact h.elem k hk)
 subst e1;exact ⟨sv,e2,h.box,e3.imp (fun b' _ hb=>nlt hwb hb) fun v q hq=>hq.imp fun b _ hb=>hb.2⟩
attribute [local go_sem] Oper.semAt_some
def SlI (w W0:World) (b e:Nat) (f:Nat->Rat) (pre:List Nat) (W:World):Prop:=
 AccI w b e (fun k=>f (pre.getD k 0)) pre.length W/\Below w w W/\Carry (fun y=>y<b/\y ≠ e) W0 W
theorem SlI.own {W0:World} (hB:w<=B):OwnFrom B (SlI w W0 b e f):=fun s W W' row hs hg hr=>
 ⟨AccI.own _ W W' row hs.1 hg (fun r e=>(hr r e).2),ownFrom_below (nlr _) hB s W W' row hs.2.1 hg hr,hs.2.2.trans (Carry.grown hg (fun r e=>(hr r e).2))⟩
theorem AccI.congr {g g':Nat->Rat} (h:AccI w b e g n W) (hg:∀ k,k<n->g k=g' k):AccI w b e g' n W:=by
 obtain ⟨v,G,s,h⟩:=h;exact ⟨v,G,s,h.len,h.box,h.own,h.row,h.gb,h.gin,fun k hk=>by rw [<-hg k hk]; exact h.elem k hk⟩
theorem zGL {x:List Rat} (h:LPIs w X Y L p os rs bs) (hV:p.n=V) (hr:p.R.n<=128) (hb:p.B.n=p.R.n) (hcr:colsOf rs<=1000000)
  (hx:VecIs w X' Y' M s x) (hL:L<=LM) (hM:M<=LM) (hkb:1000000*(kb+1)<32*LM) (hf:∀ i k,Lin.Fits kb ((rs.getD i []).getD k 0*x.getD k 0)) :
  Calls Tryz.prog 113 #[p.val,s.val] w fun e w'=>VRet w ((List.range rs.length).map fun i=>bs.getD i 0-dotL (rs.getD i []) x) e w'/\Below w w w':=by
 obtain ⟨f,hfe⟩:∃ f:Nat->Rat,f=fun i=>bs.getD i 0-dotL (rs.getD i []) x:=⟨_,rfl⟩
 rw [<-hfe];have HFe:=hdq hfe;clear hfe;refine (callsIn_wide (n:=6)).1 ?_;obtain ⟨iq0,hiq,hzq0,hzq1,hzq2⟩:=info_parts zEv;obtain ⟨z,⟨oA,on,oc⟩,⟨A,la,ca⟩,⟨B,lb,cb⟩⟩:=p;obtain ⟨xA,xn,xc⟩:=s;dsimp only [LPV.val,SV.val] at *;subst hV;subst hb;have HP:=hdq h;have HX:=hdq hx;have HL:=hdq hL;have HM:=hdq hM;have HK:=hdq hkb;have HF:=hdq hf;have HXL:Hid (x.length=xn):=hx.len;have HRL:Hid (rs.length=lb):=h.rows.len;have HCr:=hdq hcr;clear h hx hL hM hkb hf hcr;refine callsIn_of_wp_marks Tryz.func113 rfl trivial ?_ rfl;simp only [Tryz.ntmps113,List.size_toArray,List.length_cons,List.length_nil,Nat.reduceAdd,Nat.reduceSub,Array.replicate_succ,Array.replicate_zero,List.push_toArray,List.append_toArray,List.nil_append,List.cons_append];gi_wp2;refine ⟨trivial,?_⟩;refine (zIg V oA A B on oc lb ca lb cb).mono ?_;rintro e w2 ⟨rfl,rfl⟩;gi_wp2;obtain ⟨W0,hW0⟩:∃ W0,(((w.alloc (.cells #[.int .i64 V,.slice oA on oc,.slice A lb ca,.slice B lb cb] 28)).alloc (.cells #[.slice xA xn xc] 24)).alloc (.cells #[.slice none 0 0] 24)).alloc (.cells #[.int .i64 V,.slice oA on oc,.slice A lb ca,.slice B lb cb] 28)=W0:=⟨_,rfl⟩;rw [hW0];have hk0:Below w w W0:=by rw [<-hW0]; exact ((((brf _ w).alloc (nlr _) _).alloc (by simp) _).alloc (by simp; omega) _).alloc (by simp; omega) _
 have hs0:W0=(w+4:Nat):=by rw [<-hW0]; simp
 have x1:Boxed W0 (w+1) 24 (.slice xA xn xc):=by rw [<-hW0]; exact alk (alk (zAd _ _ (by simp)))
 have x2:Boxed W0 (w+1+1) 24 (.slice none 0 0):=by rw [<-hW0]; exact alk (zAd _ _ (by simp))
 have x3:W0.heap[w.heap.size+1+1+1]?=some (.cells #[.int .i64 V,.slice oA on oc,.slice A lb ca,.slice B lb cb] 28 (0,0)):=by rw [<-hW0]; exact zAd _ _ (by simp)
 clear hW0;obtain ⟨rv,hrE,hrV⟩:=(HP.out.rows.imp (X':=fun y=>y<w.heap.size) (R':=QIs w (fun y=>y<w.heap.size) L) (fun b hb _=>hb) (fun _ _ h=>h.imp fun b hb _=>hb)).rowsE;obtain ⟨vb,hbE,hbV⟩:=(HP.out.bounds.imp (X':=fun y=>y<w.heap.size) (R':=QIs w (fun _=>True) L) (fun b hb _=>hb) (fun _ _ h=>h.any)).elems (zHi w L);have HRE:=hdq hrE;have HRV:=hdq hrV;have HBE:=hdq hbE;have HBV:Hid (∀ i,QIs w (fun y=>y<w.heap.size) L (vb i) (bs.getD i 0)):=fun i=>(hbV i).imp fun b hb _=>hb
 have HK0:=hdq hk0;have Hs:=hdq hs0;have HX1:=hdq x1;have HX2:=hdq x2;have HX3:=hdq x3;clear hrE hrV hbE hbV hk0 hs0 x1 x2 x3
 refine wpIn_rangeFunc_ownH (F:=Fence.wide) rfl (by omega) (gf:=175) (lb:=#[.pointer (some ⟨w+1+1+1,0,none⟩)]) rfl trivial (enters_of Tryz.func175 (by kernel_rfl) rfl)
  (zEQ (X:=fun y=>y<w.heap.size+4/\y ≠ w.heap.size+1+1) (p:=⟨V,⟨oA,on,oc⟩,⟨A,lb,ca⟩,⟨B,lb,cb⟩⟩) (rv:=rv) (vb:=vb) (N:=lb) (by omega) HX3.out (by omega)
   ((HRE.out.carry (Carry.of_below HK0.out)).imp fun b hb=>by omega) ((HBE.out.carry (Carry.of_below HK0.out)).imp fun b hb=>by omega) rfl rfl (by omega))
  (fun h k=>h.trans k) (fun W l o o' _ hl ho _=>Carry.putObj o' hl ho) (brf _ _) (fun _=>rfl)
  (fun pre W=>SlI w W0 (w+4) (w+1+1) f pre W)
  (fun _ _ _=>False)
  (SlI.own (by rw [Hs.out]; omega))
  (fun _ _ _ _ _ hs _ _=>hs)
  ⟨AccI.start HX2.out,HK0.out,Carry.refl _ _⟩
  (fun x1 a' W=>∃ d,a'={tmps:=#[.agg #[.int .i64 V,.slice oA on oc,.slice A lb ca,.slice B lb cb],.slice xA xn xc,.pointer (some w),.pointer (some ⟨w+1,0,none⟩),.slice none 0 0,.pointer (some ⟨w+1+1,0,none⟩),(rv x1).val,.pointer (some ⟨d,0,none⟩),.agg #[.int .i64 V,.slice oA on oc,.slice A lb ca,.slice B lb cb],.func (.func 175) #[] #[.pointer (some ⟨w+1+1+1,0,none⟩)],(rv x1).val,(vb x1).val,undef,undef,undef,undef,undef,undef,undef,undef,undef],defers:=[]}/\QBlk W d (vb x1))
  (fun x a' _ W W' row hs hg hr=>?hAx) ?assign ?body ?done ?stop
 case hAx=>
  obtain ⟨d,e,g1⟩:=hs;exact ⟨d,e,zAi hg (fun r e=>(hr r e).2) g1⟩
 case stop=>
  rintro D c pre W _ _ h _;exact h.elim
 case assign=>
  intro l pre x1 W K hI hK;gi_wp2;have al:Below W W (W.alloc (.cells #[.bool (vb x1).num.ng,.slice (vb x1).num.A (vb x1).num.n (vb x1).num.c,.bool (vb x1).den.ng,.slice (vb x1).den.A (vb x1).den.n (vb x1).den.c] 37)):=bal;have hgb:W.grownBy (W.alloc (.cells #[.bool (vb x1).num.ng,.slice (vb x1).num.A (vb x1).num.n (vb x1).num.c,.bool (vb x1).den.ng,.slice (vb x1).den.A (vb x1).den.n (vb x1).den.c] 37)) none:=⟨al.os,al.tape,al.output,al.size,fun k hk _=>al.block k hk⟩;exact hK _ _ ⟨al.size,fun k o _ hk _=>(al.block k (zAa hk)).trans hk⟩ (Carry.of_below al) (SlI.own (B:=w) (nlr _) _ _ _ _ hI hgb (fun r e=>by cases e)) ⟨W.heap.size,rfl,zAd _ _ rfl⟩
 case body=>
  rintro l pre x1 a' W _ _ ⟨⟨v,G,s,h⟩,hB,hcar⟩ ⟨d,rfl,g1⟩ hlt;have b2:Boxed W (w+1) 24 (.slice xA xn xc):=hcar.blk _ _ _ _ (by omega) HX1.out;have cr:Carry (fun y=>y<w.heap.size) w W:=(Carry.of_below HK0.out).trans (hcar.mono fun y hy=>by omega);have HRow:=hdq ((HRV.out x1).carryI cr);have HBnd:=hdq ((HBV.out x1).carry cr);have HXv:Hid (VecIs W (fun y=>y<w.heap.size) (fun y=>y<w.heap.size) M ⟨xA,xn,xc⟩ x):=((HX.out.imp (X':=fun y=>y<w.heap.size) (R':=QIs w (fun y=>y<w.heap.size) M) (fun b hb _=>hb) (fun _ _ h=>h.imp fun b hb _=>hb))).carryI cr;obtain ⟨ρ,hρ⟩:∃ ρ,rv x1=ρ:=⟨_,rfl⟩;obtain ⟨β,hβ⟩:∃ β,vb x1=β:=⟨_,rfl⟩;rw [hρ] at HRow;rw [hβ] at HBnd g1;rw [hρ,hβ];clear hρ hβ;obtain ⟨rA,rn,rc⟩:=ρ;dsimp only [SV.val] at *;obtain ⟨y0,y1,y2,y3,-⟩:=zAA g1;have c1:=b2.cell;have c2:=h.box.cell;have t1:=zAa g1;have t2:=zAa b2;have t3:=zAa h.box;have hBs:=hB.size;have HRn:Hid ((rs.getD x1 []).length=rn):=HRow.out.len;have hrn6:rn<=1000000:=by have:=zBT HCr.out x1; rw [HRn.out] at this; omega
  have hb4:w+4<=(W:Nat):=by rw [<-Hs.out]; exact hcar.size
  have e1:(Lin.sum (min rn xn) fun i=>(rs.getD x1 []).getD i 0*x.getD i 0)=dotL (rs.getD x1 []) x:=by unfold dotL; rw [HRn.out,HXL.out]
  have HE1:=hdq e1;have HFit:=hdq (zEa (by rw [HRn.out]; exact hrn6) HK.out (HF.out x1));have HH:=hdq h;have HCar:=hdq hcar;have hdr:Below W W W.drew:=(brf _ _).drew;clear h hcar cr e1 g1 b2;gi_wp2;refine zBi 7 (fun f w'=>(f=false->Sees w [] W w')/\w'.cell? ⟨w+1,0,none⟩=some (.slice xA xn xc)) (by kernel_rfl) (by kernel_rfl) (by rintro ⟨_,_,h⟩; exact h) ?_;have hS0:Sees w [] W W.drew:=Sees.st (by simp) hBs;refine tkW 0 (v) (fun w' hSw=>?_) (⟨fun _=>hS0,c1⟩) ?_
  ·(replace hSw:=hSw.1 rfl; go_simp; try with_reducible rfl)
  simp only [zz];refine tkV 1 5 (β.val) (fun w' hSw=>?_) (⟨fun _=>hS0,c1⟩) ?_
  ·(replace hSw:=hSw.1 rfl; go_simp; try with_reducible rfl)
  simp only [zz];refine tx1 2 (⟨fun _=>hS0,c1⟩) ?_;refine tkE 3 (.slice xA xn xc) (fun w' hSw=>?_) (⟨fun _=>hS0,c1⟩) ?_
  ·(obtain ⟨_,-,hSw⟩:=hSw; go_simp; try with_reducible rfl)
  simp only [zz];refine tk1 4 ?_;intro K hK;go_simp;refine (zEb (kb:=kb) (sa:=⟨rA,rn,rc⟩) (sb:=⟨xA,xn,xc⟩) (HRow.out.below hdr) (HXv.out.below hdr) HL.out HM.out hrn6 HK.out (HF.out x1)).mono ?_;rintro e w3 ⟨⟨u,rfl,hu⟩,hb3⟩;dsimp only at hu;rw [HE1.out] at hu;have hS1:=Kept.call2 hb3 hS0;have d1:w3.cell? ⟨w+1,0,none⟩=some (.slice xA xn xc):=(hb3.cell (p:=⟨w+1,0,none⟩) t2).trans c1;refine hK.out _ _ ⟨fun _=>hS1,d1⟩ ?_;have HU:=hdq (hu.qis HFit.out);clear hK K hb3 hu;refine tk1 5 ?_;intro K hK;go_simp;refine (zDx (a:=β) (b:=u) (HBnd.out.below hS1.kept.whole) HU.out HL.out (nlr _)).mono ?_;rintro e w4 ⟨⟨zq,rfl,hz⟩,hb4'⟩;have hS2:=Kept.call2 hb4' hS1;have hb1':Below W W w4:=hS2.kept.whole;have d2:w4.cell? ⟨w+1,0,none⟩=some (.slice xA xn xc):=(hb1'.cell (p:=⟨w+1,0,none⟩) t2).trans c1;refine hK.out _ _ ⟨fun _=>hS2,d2⟩ ?_;have HZ:Hid (QCan w4 (New W) zq (f x1)):=by rw [HFe.out]; exact hz.imp fun b _ hx=>nlt hS1.kept.size hx
  clear hK K hb4' hz y0 y1 y2 y3;refine tk1 6 ?_;intro K hK;go_simp;refine hK.out _ _ ⟨fun _=>Sees.al hS2,by rw [<-d2]; exact cob (Below.heap_alloc _ _ _ (zAb d2))⟩ ?_;clear hK K;have hown:=zAr HH.out.own fun j hj=>hb1'.block j (by obtain ⟨_,cs,hh⟩:=zAc HH.out.own hj; exact zAa hh)
  refine tk1 7 ?_;intro K hK;refine zAq _ _ 24 rfl (w+4) 37 iq0 (.agg #[.bool false,.slice none 0 0,.bool false,.slice none 0 0]) 4 64 Tryz.underlying24 hiq hzq0 hzq1 hzq2 rfl (by decide) v pre.length (s.flatMap cells4q) rfl (hown.alloc _) ⟨w4,0,none⟩ 1 1 (cells4q zq) rfl rfl (zA1 _ _) (by intro u hu; simp [cells4q] at hu; rcases hu with rfl | rfl | rfl | rfl <;> rfl) (by simp [maxLen]; omega) (by omega) (by have:=hb1'.size; simp; omega) ?_;intro v' W5 hown5 hg5 hnil5 hat5
  have HAcc:AccS w (w+4) (w+1+1) (fun k=>f ((pre++[x1]).getD k 0)) pre.length v G s W:=
   ⟨HH.out.len,HH.out.box,HH.out.own,HH.out.row,HH.out.gb,HH.out.gin,fun k hk=>by rw [zAE _ _ _ hk]; exact HH.out.elem k hk⟩
  have Hst:=hdq (HAcc.step (by omega) (by omega) hb4 hb1' (by rw [show (pre++[x1]).getD pre.length 0=x1 by simp]; exact HZ.out) hown5 hg5 hat5)
  have hlv:∀ j,v.ownBlock=some j->j ≠ w.heap.size+1+1/\j ≠ w.heap.size+1:=fun j hj=>by
   obtain ⟨h4,cs,hh⟩:=zAc HH.out.own hj;omega
  have d3:Boxed W5 (w+1+1) 24 v:=(hg5.block _ (by have:=hb1'.size; simp; omega) (fun e=>(hlv _ e.symm).1 rfl)).trans ((Below.heap_alloc _ _ _ (by have:=hb1'.size; omega)).trans ((hb1'.block _ t3).trans HH.out.box));have d4:=d3.cell;have d5:=d3.frozen
  have d6:W5.cell? ⟨w+1,0,none⟩=some (.slice xA xn xc):=by
   rw [<-d2];exact cob ((hg5.block _ (by have:=hb1'.size; simp; omega) (fun e=>(hlv _ e.symm).2 rfl)).trans (Below.heap_alloc _ _ _ (by have:=hb1'.size; omega)))
  obtain ⟨g5,c5,rfl⟩:=ownsRow_succ hown5;simp only [Act.put,zz];refine hK.out _ _ ⟨fun h=>absurd h (by decide),d6⟩ ?_;clear hK K hown hown5 hg5 hat5 hnil5 hS0 hS1 hS2 hb1' hlv d3 HAcc d1 d2;refine tk1 8 ?_;intro K hK;go_simp;refine hK.out _ _ ⟨fun h=>absurd h (by decide),by rw [<-d6]; exact cob (bhs _ _ _ _ (by dsimp only; omega))⟩ ?_;clear hK K d4 d5 d6;refine zAf (by kernel_rfl) ?_ _;gi_wp2;obtain ⟨s1,s2,s3,s4,s5⟩:=Hst.out;refine ⟨⟨s4,fun k o _ hk ho=>s3 k o hk ho⟩,s2,?_,hB.trans s5,HCar.out.trans s2⟩;rw [List.length_append];exact s1
 case done=>
  rintro Dd ys W hDd rfl ⟨hA,hB,hcar⟩ hK0;rw [List.length_range] at hA;replace hA:=hA.congr (g':=f) fun k hk=>by rw [show (List.range lb).getD k 0=k by simp [hk]]
  obtain ⟨sv,e1,e2,e3⟩:=hA.vec (by omega);have c1:=e2.cell;have HE3:=hdq e3;clear e2 e3 hA hcar;gi_wp2;refine ⟨by simp,.inl ⟨_,_,rfl,run_takeDeferred hK0,?_⟩⟩;have hcr:Carry (fun _=>True) W (W.putObj Dd (.deferred none)):=Carry.grown (grownBy_putObj' W Dd (.deferred none)) (fun r e=>by cases e; exact ⟨_,hK0,rfl⟩);refine ⟨_,results_tmp rfl _ _ _,⟨sv,rfl,?_⟩,?_⟩
  ·rw [HRL.out]; exact HE3.out.keep' hcr
  ·exact hB.trans (belowK_b (w:=w) (nlr _) W Dd _ _ (by have:=Hs.out; omega) hK0 rfl rfl)
end Go.Proofs.YtpjaodcimomaiaaGreat
