/- Texts BnX BnY BnZ BnZ2 BnZ3 BnZ4 BnZ5 PsD PsF of this claim. -/
import Derived.Test.YtpjaodcimomaiaaGreatS44
import Derived.Laws.CopyOwn
set_option maxHeartbeats 4000000
set_option maxRecDepth 40000
namespace Go.Proofs.YtpjaodcimomaiaaGreat
open Go.RowKit Go.Shelf
variable {xs:List Value} {n base j L V M:Nat} {v:Value} {e:TypeId} {W w:World} {s:SV} {q:Rat} {bs:List Rat} {os rs:List (List Rat)} {p:LPV} {X Y:Nat->Prop} {D:Lin.Dict}
section
variable {w w':World} {b:Nat} {F X Y:Nat->Prop} {L:Nat}
end
theorem zKU {size:Nat} (h:W.ownsRow base e size v n xs):∃ A c,v = .slice A n c/\n<=c/\c<=9223372036854775807:=by
 rcases h.2 with ⟨rfl,rfl⟩ | ⟨g,cap,cur,rfl,hg,hh,hn,hc,_⟩
 ·exact ⟨none,0,rfl,nlr _,by omega⟩
 ·exact ⟨_,cap,rfl,hn,nlt hc (by decide)⟩
section
variable {w W W':World} {bb:Nat} {bc:Array Value} {clo:Value} {B:Lin.BP} {L:Nat} {vo:Value} {ps:List ((Nat->Int) × Nat)} {st:Option (Option (Nat->Rat))}
end
structure MatS (W:World) (B:Nat) (G:Nat->Prop) (v:Value) (k:Nat) (ss:List SV) (m:List (List Rat)):Prop where
 own:W.ownsRow B 24 1 v k (ss.map SV.val)
 row:∀ j,v.ownBlock=some j->G j
 len:ss.length=k
 llen:m.length=k
 elem:∀ j,j<k->VecCan W (fun b=>¬ G b) (fun b=>¬ G b) (ss.getD j ⟨none,0,0⟩) (m.getD j [])
section
variable {W W' W2:World} {B k L:Nat} {G G' H:Nat->Prop} {v v':Value} {ss:List SV} {m:List (List Rat)}
theorem vecG {l:List Rat} (h:VecCan W (fun b=>¬ G b) (fun b=>¬ G b) s l) (hF:Fr H W W') (hHG:∀ y,H y->G y) (hG:More W G G'):VecCan W' (fun b=>¬ G' b) (fun b=>¬ G' b) s l:=
 ((h.imp (X':=fun b=>¬ G b/\b<W.heap.size) (R':=QCan W fun b=>¬ G b/\b<W.heap.size) (fun b hl hb=>⟨hb,hl⟩) fun _ _ hq=>hq.imp fun b hl hb=>⟨hb,hl⟩).keep (R':=QCan W' fun b=>¬ G b/\b<W.heap.size) (fun p hp hl=>hF.cell hl fun z=>hp.1 (hHG _ z)) fun v q hq=>hq.keep fun p hp hl=>hF.cell hl fun z=>hp.1 (hHG _ z)).imp
  (fun b _ hb hg=>hb.1 ((hG.new b hg).resolve_right (by omega))) fun _ _ hq=>hq.imp fun b _ hb hg=>hb.1 ((hG.new b hg).resolve_right (by omega))
theorem matG {m:List (List Rat)} (h:MatIs W (fun b=>¬ G b) (fun b=>¬ G b) L s m) (hF:Fr H W W') (hHG:∀ y,H y->G y) (hG:More W G G'):MatIs W' (fun b=>¬ G' b) (fun b=>¬ G' b) L s m:=
 ((h.imp (X':=fun b=>¬ G b/\b<W.heap.size) (R':=QIs W (fun b=>¬ G b/\b<W.heap.size) L) (fun b hl hb=>⟨hb,hl⟩) fun _ _ hq=>hq.imp fun b hl hb=>⟨hb,hl⟩).keep (R':=QIs W' (fun b=>¬ G b/\b<W.heap.size) L) (fun p hp hl=>hF.cell hl fun z=>hp.1 (hHG _ z)) fun v q hq=>hq.keep fun p hp hl=>hF.cell hl fun z=>hp.1 (hHG _ z)).imp
  (fun b _ hb hg=>hb.1 ((hG.new b hg).resolve_right (by omega))) fun _ _ hq=>hq.imp fun b _ hb hg=>hb.1 ((hG.new b hg).resolve_right (by omega))
theorem MatS.nil (W:World) (B:Nat) (G:Nat->Prop):MatS W B G (.slice none 0 0) 0 [] []:=⟨World.ownsRow_nil _ _ _ _,fun j h=>by simp [Value.ownBlock] at h,rfl,rfl,fun j h=>absurd h (Nat.not_lt_zero j)⟩
theorem MatS.lt (h:MatS W B G v k ss m) (e:v.ownBlock=some j):B<=j/\j<W:=by
 obtain ⟨h1,cs,hh⟩:=zAc h.own e;exact ⟨h1,zAa hh⟩
theorem MatS.keep (h:MatS W B G v k ss m) (hF:Fr H W W') (hH:∀ j,v.ownBlock=some j->¬ H j) (hHG:∀ y,H y->G y) (hG:More W G G'):MatS W' B G' v k ss m:=
 ⟨zAr h.own fun j hj=>hF.block j (h.lt hj).2 (hH j hj),fun j hj=>hG.old j (h.row j hj),h.len,h.llen,fun j hj=>vecG (h.elem j hj) hF hHG hG⟩
theorem MatS.step (h:MatS W B G v k ss m) {o:Obj} {l:List Rat} (hz:VecCan W (fun b=>¬ G b) (fun b=>¬ G b) s l) (hown:W2.ownsRow B 24 1 v' (k+1) (ss.map SV.val++[s.val])) (hg:(W.alloc o).grownBy W2 v.ownBlock) (hat:v'.ownBlock=v.ownBlock\/v'.ownBlock=some (W.alloc o).heap.size) :
  MatS W2 B (fun y=>G y\/v'.ownBlock=some y) v' (k+1) (ss++[s]) (m++[l])/\Fr (fun y=>v.ownBlock=some y) W W2/\More W G (fun y=>G y\/v'.ownBlock=some y):=by
 have hsz:W+1<=(W2:Nat):=by have:=hg.size; simpa using this
 have key:∀ y,y<W.heap.size->¬ v.ownBlock=some y->W2.heap[y]?=W.heap[y]?:=fun y hy h2=>(hg.block y (by simp; omega) fun e=>h2 e.symm).trans (Below.heap_alloc _ _ _ hy)
 have hv':∀ j,v'.ownBlock=some j->v.ownBlock=some j\/W.heap.size<=j:=fun j hj=>by
  rcases hat with e | e
  ·exact .inl (e.symm.trans hj)
  ·rw [e] at hj; cases hj; right; simp
 have hF:Fr (fun y=>v.ownBlock=some y) W W2:=⟨hg.os,hg.tape,hg.output,by omega,fun b hb hn=>key b hb hn⟩;have hM:More W G (fun y=>G y\/v'.ownBlock=some y):=⟨fun y hy=>.inl hy,fun y hy=>hy.elim .inl fun e=>(hv' y e).imp (h.row y) id⟩;refine ⟨⟨by rw [List.map_append]; simpa using hown,fun j hj=>.inr hj,by rw [List.length_append,h.len]; rfl,by rw [List.length_append,h.llen]; rfl,fun j hj=>?_⟩,hF,hM⟩;by_cases hjk:j<k
 ·rw [zAE _ _ _ (by rw [h.len]; exact hjk),zAE _ _ _ (by rw [h.llen]; exact hjk)];exact vecG (h.elem j hjk) hF (fun y e=>h.row y e) hM
 ·obtain rfl:j=k:=by omega
  have e1:(ss++[s]).getD j ⟨none,0,0⟩=s:=by rw [<-h.len]; simp [gdd]
  have e2:(m++[l]).getD j []=l:=by rw [<-h.llen]; simp [gdd]
  rw [e1,e2];exact vecG hz hF (fun y e=>h.row y e) hM
theorem MatS.mat (h:MatS W B G v k ss m) (hf:∀ i j,QFit L ((m.getD i []).getD j 0)):∃ s:SV,v=s.val/\s.n=k/\MatIs W AllB AllB L s m:=by
 rcases h.own.2 with ⟨rfl,rfl⟩ | ⟨g,cap,cur,rfl,hbg,hh,hnc,hcap,hcur,ht⟩
 ·exact ⟨⟨none,0,0⟩,rfl,rfl,h.llen,nlr _,nzl _,fun k hk=>absurd hk (by simp)⟩
 ·refine ⟨⟨some ⟨g,0,none⟩,k,cap⟩,rfl,rfl,h.llen,hnc,(by show cap<=_; exact nlt ‹_› (show maxLen<=9223372036854775807 by decide)),fun j hj=>⟨⟨g,0,none⟩,ss.getD j ⟨none,0,0⟩,rfl,trivial,?_,(((h.elem j hj).loose fun i=>hf j i).imp (fun _ _ _=>trivial) fun _ _ hq=>hq.imp fun _ _ _=>trivial)⟩⟩;have hj':j<k:=hj;have hl:=h.len;have e2:(cur.toList.take (k*1))[j]?=(ss.map SV.val)[j]?:=by rw [ht]
  rw [List.getElem?_take_of_lt (by omega),List.getElem?_map] at e2;rw [zA4,Nat.zero_add];simp only [World.cell?,hh];rw [gdd];rw [gge (show j<ss.length by omega)] at e2 ⊢;simpa using e2
end
structure DuI (w:World) (p:LPV) (pb M L:Nat) (o:SV) (mo:List (List Rat)) (G:Nat->Prop) (kr kb:Nat) (vr vb:Value) (ss:List SV) (qs:List QV) (m:List (List Rat)) (l:List Rat) (W:World):Prop where
 bel:Below w w W
 bp:LPBox W w p
 br:Box4 W (w+1) (.int .i64 0) (.slice none 0 0) (.slice none 0 0) (.slice none 0 0)
 hp:w+1<pb
 blk:W.heap[pb]?=some (.cells #[.int .i64 (M:Int),o.val,vr,vb] 28 (0,0))
 gp:G pb
 gr:G (w+1)
 gin:∀ y,G y->w.heap.size<y/\y<W.heap.size
 mo:MatIs W (fun b=>¬ G b) (fun b=>¬ G b) L o mo
 rows:MatS W (pb+1) G vr kr ss m
 bnd:ValS W (pb+1) L G vb kb qs l
section
variable {w W W' W2:World} {p:LPV} {pb M L kr kb kr' kb':Nat} {o:SV} {mo:List (List Rat)} {G G' H:Nat->Prop} {vr vb vr' vb' v':Value} {ss ss':List SV} {qs qs':List QV} {m m':List (List Rat)} {l l':List Rat}
theorem DuI.frame (h:DuI w p pb M L o mo G kr kb vr vb ss qs m l W) (hF:Fr H W W') (hHG:∀ y,H y->G y) (hHp:∀ y,H y->pb<=y) (hG:More W G G') (hgin:∀ y,G' y->w.heap.size<y/\y<W'.heap.size) (hb:W'.heap[pb]?=some (.cells #[.int .i64 (M:Int),o.val,vr',vb'] 28 (0,0)))
  (hr:MatS W' (pb+1) G' vr' kr' ss' m') (hv:ValS W' (pb+1) L G' vb' kb' qs' l'):DuI w p pb M L o mo G' kr' kb' vr' vb' ss' qs' m' l' W':=by
 have hpl:=zAa h.blk;have hp:=h.hp;have no:∀ y,y<pb->¬ H y:=fun y hy e=>by have:=hHp y e; omega
 exact ⟨h.bel.trans (hF.below h.bel.size fun y e=>by have:=hHp y e; omega),h.bp.heap (hF.block _ (by omega) (no _ (by omega))),h.br.heap (hF.block _ (by omega) (no _ (by omega))),hp,hb,hG.old _ h.gp,hG.old _ h.gr,hgin,matG h.mo hF hHG hG,hr,hv⟩
theorem DuI.call (h:DuI w p pb M L o mo G kr kb vr vb ss qs m l W) (hb:Below W W W'):DuI w p pb M L o mo G kr kb vr vb ss qs m l W':=
 h.frame (H:=fun _=>False) (Fr.of_below hb) (fun _ e=>e.elim) (fun _ e=>e.elim) (More.refl _ _) (fun y e=>⟨(h.gin y e).1,ltl (h.gin y e).2 hb.size⟩) ((hb.block _ (zAa h.blk)).trans h.blk)
  (h.rows.keep (H:=fun _=>False) (Fr.of_below hb) (fun _ _ e=>e) (fun _ e=>e.elim) (More.refl _ _)) (h.bnd.keep (H:=fun _=>False) (Fr.of_below hb) (fun _ _ e=>e) (fun _ e=>e.elim) (More.refl _ _))
theorem DuI.apart (h:DuI w p pb M L o mo G kr kb vr vb ss qs m l W) (e1:vb.ownBlock=some j) (e2:vr.ownBlock=some j):False:=by
 obtain ⟨_,c1,h1⟩:=zAc h.bnd.own e1;obtain ⟨_,c2,h2⟩:=zAc h.rows.own e2;exact zAy h1 h2 (by decide) rfl
theorem DuI.addR (h:DuI w p pb M L o mo G kr kb vr vb ss qs m l W) {ob:Obj} {r:List Rat} (hs:VecCan W (fun b=>¬ G b) (fun b=>¬ G b) s r) (hown:W2.ownsRow (pb+1) 24 1 v' (kr+1) (ss.map SV.val++[s.val])) (hg:(W.alloc ob).grownBy W2 vr.ownBlock) (hat:v'.ownBlock=vr.ownBlock\/v'.ownBlock=some (W.alloc ob).heap.size) :
  DuI w p pb M L o mo (fun y=>G y\/v'.ownBlock=some y) (kr+1) kb v' vb (ss++[s]) qs (m++[r]) l (W2.setCell ⟨pb,2,none⟩ v'):=by
 obtain ⟨hr2,hF,hM⟩:=h.rows.step hs hown hg hat;have hpl:=zAa h.blk;have nv:¬ vr.ownBlock=some pb:=fun e=>by have:=(h.rows.lt e).1; omega
 have nv':∀ j,v'.ownBlock=some j->¬ j=pb:=fun j e=>by have:=(hr2.lt e).1; omega
 have nb:∀ j,vb.ownBlock=some j->¬ j=pb:=fun j e=>by have:=(h.bnd.lt e).1; omega
 have hv2:=h.bnd.keep hF (fun j e1 e2=>h.apart e1 e2) (fun y e=>h.rows.row y e) hM;have hFs:Fr (fun y=>y=pb) W2 (W2.setCell ⟨pb,2,none⟩ v'):=(Fr.refl (fun y=>y=pb) W2).set (p:=⟨pb,2,none⟩) rfl v';have hFF:Fr (fun y=>vr.ownBlock=some y\/y=pb) W (W2.setCell ⟨pb,2,none⟩ v'):=(hF.mono fun y hy=>.inl hy).trans (hFs.mono fun y hy=>.inr hy);refine h.frame hFF (fun y hy=>hy.elim (h.rows.row y) fun e=>e ▸ h.gp) (fun y hy=>hy.elim (fun e=>by have:=(h.rows.lt e).1; omega) fun e=>by omega) hM (fun y hy=>?_) (by rw [zAe _ ((hF.block pb hpl nv).trans h.blk)]; simp) (hr2.keep hFs nv' (fun y hy=>by rw [hy]; exact .inl h.gp) (More.refl _ _)) (hv2.keep hFs nb (fun y hy=>by rw [hy]; exact .inl h.gp) (More.refl _ _));rcases hy with hy | hy
 ·exact ⟨(h.gin y hy).1,ltl (h.gin y hy).2 hFF.size⟩
 ·have h2:=hr2.lt hy;have:=h.hp;exact ⟨by omega,ltl h2.2 hFs.size⟩
theorem DuI.addB (h:DuI w p pb M L o mo G kr kb vr vb ss qs m l W) {ob:Obj} {z:QV} (hz:QIs W (fun b=>¬ G b) L z q) (hown:W2.ownsRow (pb+1) 37 4 v' (kb+1) (qs.flatMap cells4q++cells4q z)) (hg:(W.alloc ob).grownBy W2 vb.ownBlock) (hat:v'.ownBlock=vb.ownBlock\/v'.ownBlock=some (W.alloc ob).heap.size) :
  DuI w p pb M L o mo (fun y=>G y\/v'.ownBlock=some y) kr (kb+1) vr v' ss (qs++[z]) m (l++[q]) (W2.setCell ⟨pb,3,none⟩ v'):=by
 obtain ⟨hr2,hF,hM⟩:=h.bnd.step hz hown hg hat;have hpl:=zAa h.blk;have nv:¬ vb.ownBlock=some pb:=fun e=>by have:=(h.bnd.lt e).1; omega
 have nv':∀ j,v'.ownBlock=some j->¬ j=pb:=fun j e=>by have:=(hr2.lt e).1; omega
 have nb:∀ j,vr.ownBlock=some j->¬ j=pb:=fun j e=>by have:=(h.rows.lt e).1; omega
 have hv2:=h.rows.keep hF (fun j e1 e2=>h.apart e2 e1) (fun y e=>h.bnd.row y e) hM;have hFs:Fr (fun y=>y=pb) W2 (W2.setCell ⟨pb,3,none⟩ v'):=(Fr.refl (fun y=>y=pb) W2).set (p:=⟨pb,3,none⟩) rfl v';have hFF:Fr (fun y=>vb.ownBlock=some y\/y=pb) W (W2.setCell ⟨pb,3,none⟩ v'):=(hF.mono fun y hy=>.inl hy).trans (hFs.mono fun y hy=>.inr hy);refine h.frame hFF (fun y hy=>hy.elim (h.bnd.row y) fun e=>e ▸ h.gp) (fun y hy=>hy.elim (fun e=>by have:=(h.bnd.lt e).1; omega) fun e=>by omega) hM (fun y hy=>?_) (by rw [zAe _ ((hF.block pb hpl nv).trans h.blk)]; simp) (hv2.keep hFs nb (fun y hy=>by rw [hy]; exact .inl h.gp) (More.refl _ _)) (hr2.keep hFs nv' (fun y hy=>by rw [hy]; exact .inl h.gp) (More.refl _ _));rcases hy with hy | hy
 ·exact ⟨(h.gin y hy).1,ltl (h.gin y hy).2 hFF.size⟩
 ·have h2:=hr2.lt hy;have:=h.hp;exact ⟨by omega,ltl h2.2 hFs.size⟩
end
def dRows (M:Nat) (rs:List (List Rat)) (k:Nat):List (List Rat):=(List.range k).map fun j=>(List.range M).map fun i=>- ((rs.getD i []).getD j 0)
def dBnd (os:List (List Rat)) (k:Nat):List Rat:=(List.range k).map fun j=>- ((os.getD 0 []).getD j 0)
def DuL (w:World) (p:LPV) (pb M V L:Nat) (o:SV) (mo os rs:List (List Rat)) (t:Value) (W:World):Prop:=
 ∃ (k:Nat) (G:Nat->Prop) (vr vb:Value) (ss:List SV) (qs:List QV),k<=V/\t = .int .i64 (k:Int)/\DuI w p pb M L o mo G k k vr vb ss qs (dRows M rs k) (dBnd os k) W
def DualRet (w:World) (M V L:Nat) (os rs:List (List Rat)) (bs:List Rat) (e:Ending) (w':World):Prop:=
 ∃ p:LPV,e = .returned (.tuple #[p.val,.int .i64 0])/\p.n=M/\LPIs w' AllB AllB (L+1) p [bs.map fun q=>- q] (dRows M rs V) (dBnd os V)
theorem zQM (h:LPIs w X Y L p os rs bs) (hV:p.n=V) (hV2:V<=64) (ho1:1<=p.O.n) (ho2:p.O.n<=4) (hM:p.R.n=M) (hr:M<=64) (hb:p.B.n=M) (hco:colsOf os<=V) (hcr:colsOf rs<=V) (hL:L+1<=LM) :
  Calls Tryz.prog 46 #[p.val] w fun e w'=>DualRet w M V L os rs bs e w'/\Below w w w':=by
 obtain ⟨z,⟨oA,on,oc⟩,⟨rA,rn,rc⟩,⟨bA,bn,bc⟩⟩:=p;dsimp only at hV ho1 ho2 hM hb;subst hV hM;obtain rfl:rn=bn:=hb.symm;have H:=hdq h;have HCo:=hdq hco;have HCr:=hdq hcr;have HL1:=hdq hL;have HL:Hid (L<=LM):=by show L<=LM; omega
 obtain ⟨j0,hjI,hy0,hy1,hy2⟩:=info_parts zFA;obtain ⟨k0,hk0,hx0,hx1,hx2⟩:=info_parts zEv;have hmk:=zBZ rn (by omega);clear h hco hcr hL hb;dsimp only [LPV.val,SV.val];go_enter Tryz.func46,Tryz.ntmps46
 go_upto_region 1 with fail
 refine zAo (fun W=>Below w w W/\Box4 W w (.int .i64 V) (.slice oA on oc) (.slice rA rn rc) (.slice bA rn bc)/\Box4 W (w+1) (.int .i64 0) (.slice none 0 0) (.slice none 0 0) (.slice none 0 0)/\w<(W:Nat)/\w+1<(W:Nat)) ⟨(az (az (brf _ _))),bx4,bx4,by simp <;> omega,by simp <;> omega⟩ ?_;rintro W ⟨hbW,bP,bR,s0,s1⟩;have hBW:=hbW.size;obtain ⟨p0,p1,p2,p3,-⟩:=id bP;go_wp2_with fail
 refine (zBv (p:=⟨V,⟨oA,on,oc⟩,⟨rA,rn,rc⟩,⟨bA,rn,bc⟩⟩) (H.out.below hbW) rfl hV2 ho1 ho2 (by show rn<=128; omega) rfl HCo.out HCr.out).mono ?_;rintro e w1 ⟨rfl,hb1⟩;replace bP:=bP.below hb1 s0;replace bR:=bR.below hb1 s1;replace s0:=ltl s0 hb1.size;replace s1:=ltl s1 hb1.size;replace hbW:=hbW.trans (hb1.mono hbW.size);clear hb1 hBW p0 p1 p2 p3;obtain ⟨p0,p1,p2,p3,pf⟩:=id bP;have hg1:¬ ((64:Int)<(rn:Int)):=by omega
 have hg2:¬ ((128:Int)<(V:Int)):=by omega
 go_wp2_with fail
 refine (zAN (-1) (by decide) (by decide) _).mono ?_;rintro e w2 ⟨⟨z,rfl,hz⟩,hb2⟩;replace bP:=bP.below hb2 s0;replace bR:=bR.below hb2 s1;replace s0:=ltl s0 hb2.size;replace s1:=ltl s1 hb2.size;replace hbW:=hbW.trans (hb2.mono hbW.size);clear hb2 p0 p1 p2 p3 pf hg1 hg2;go_upto_region 5 with fail
 have al3:Below w2 w2 (w2.alloc (.cells #[.bool z.num.ng,.slice z.num.A z.num.n z.num.c,.bool z.den.ng,.slice z.den.A z.den.n z.den.c] 37)):=bal;have Pz:QBlk (w2.alloc (.cells #[.bool z.num.ng,.slice z.num.A z.num.n z.num.c,.bool z.den.ng,.slice z.den.A z.den.n z.den.c] 37)) w2 z:=zAd _ _ rfl;have HZ:=hdq (hz.below al3);replace bP:=bP.below al3 s0;replace bR:=bR.below al3 s1;replace s0:=ltl s0 al3.size;replace s1:=ltl s1 al3.size;replace hbW:=hbW.trans (al3.mono hbW.size);clear al3 hz;generalize w2.alloc (.cells #[.bool z.num.ng,.slice z.num.A z.num.n z.num.c,.bool z.den.ng,.slice z.den.A z.den.n z.den.c] 37)=W3 at *;generalize w2.heap.size=zb at *;have sz:=zAa Pz;obtain ⟨z0,z1,z2,z3,-⟩:=zAA Pz;obtain ⟨p0,p1,p2,p3,pf⟩:=id bP;go_wp2_with fail
 refine (zLH (k:=z) (s:=⟨bA,rn,bc⟩) (HZ.out.qis (L:=1) ⟨by decide +kernel,by decide +kernel⟩) (H.out.below hbW).bounds (by show rn<=1000000; omega) HL.out (by rw [zAZ]; omega)).mono ?_;rintro e w4 ⟨⟨⟨sA,sn,sc⟩,rfl,hs⟩,hb4⟩;obtain rfl:rn=sn:=by rw [<-show bs.length=rn from H.out.bounds.len]; have:=hs.len; rw [List.length_map] at this; exact this
 have hs2:VecCan w4 (New W3) (New W3) ⟨sA,rn,sc⟩ (bs.map fun q=>- q):=by
  have e1:((-1:Int):Rat)=-1:=by decide +kernel
  have e:(fun q:Rat=>((-1:Int):Rat)*q)=fun q=>- q:=by
   funext q;rw [e1]; grind
  rw [<-e]; exact hs
 have s13:=s1;replace bP:=bP.below hb4 s0;replace bR:=bR.below hb4 s1;replace s0:=ltl s0 hb4.size;replace s1:=ltl s1 hb4.size;replace hbW:=hbW.trans (hb4.mono hbW.size);have hb4z:=hb4.size;clear hb4 hs p0 p1 p2 p3 pf z0 z1 z2 z3 Pz HZ sz;go_upto_region 6 with fail
 dsimp only [SV.val]
 have hfb:∀ i,QFit (L+1) ((bs.map fun q=>- q).getD i 0):=fun i=>by
  have e:(bs.map fun q:Rat=>- q).getD i 0=- bs.getD i 0:=by
   simp only [gdd,List.getElem?_map];cases bs[i]? <;> simp
  rw [e];have h1:=H.out.bounds.fit i;unfold QFit at *;simpa using h1
 have hs6:VecIs w4 (fun b=>b ≠ w4.heap.size+1/\W3.heap.size<=b) (fun b=>b ≠ w4.heap.size+1/\W3.heap.size<=b) (L+1) ⟨sA,rn,sc⟩ (bs.map fun q=>- q):=(hs2.loose hfb).imp (fun b hl hb=>⟨by omega,hb⟩) fun _ _ hq=>hq.imp fun b hl hb=>⟨by omega,hb⟩
 have b1:Below w4 w4 (w4.alloc (.cells #[.slice sA rn sc] 24)):=bal;have m1:(w4.alloc (.cells #[.slice sA rn sc] 24)).heap[w4.heap.size]?=some (.cells #[.slice sA rn sc] 24 (0,0)):=zAd _ _ rfl;have z5:(w4.alloc (.cells #[.slice sA rn sc] 24)).heap.size=w4.heap.size+1:=by simp
 replace hs6:=hs6.below b1;replace bP:=bP.below b1 s0;replace bR:=bR.below b1 s1;replace s0:=ltl s0 b1.size;replace s1:=ltl s1 b1.size;replace hbW:=hbW.trans (b1.mono hbW.size);generalize w4.alloc (.cells #[.slice sA rn sc] 24)=W5 at *;rw [<-z5] at hs6 ⊢;have b2:Below W5 W5 (W5.alloc (.cells #[.int .i64 rn,.slice (some w4) 1 1,.slice none 0 0,.slice none 0 0] 28)):=bal
 have H0:DuL w ⟨V,⟨oA,on,oc⟩,⟨rA,rn,rc⟩,⟨bA,rn,bc⟩⟩ W5 rn V (L+1) ⟨some ⟨w4,0,none⟩,1,1⟩ [bs.map fun q=>- q] os rs (.int .i64 0) (W5.alloc (.cells #[.int .i64 rn,.slice (some w4) 1 1,.slice none 0 0,.slice none 0 0] 28)):=
  ⟨0,fun y=>y=W5.heap.size\/y=w.heap.size+1,.slice none 0 0,.slice none 0 0,[],[],nzl _,rfl,hbW.trans (b2.mono hbW.size),bP.below b2 s0,bR.below b2 s1,by omega,zAd _ _ rfl,.inl rfl,.inr rfl,fun y hy=>by have:=b2.size; simp at this ⊢; omega,
   ⟨rfl,nlr _,by show 1<=_; omega,fun i hi=>by
    obtain rfl:i=0:=by have hi':i<1:=hi; omega
    refine ⟨⟨w4,0,none⟩,⟨sA,rn,sc⟩,rfl,by show ¬ (w4=(W5:Nat)\/w4=(w+1:Nat)); omega,?_,(hs6.below b2).imp (fun b _ hb=>by have:=hb.1; have:=hb.2; omega) fun _ _ hq=>hq.imp fun b _ hb=>by have:=hb.1; have:=hb.2; omega⟩;rw [b2.cell (by show w4.heap.size<_; omega)];simp [World.cell?,m1,Addr.add]⟩,MatS.nil _ _ _,ValS.nil _ _ _ _⟩
 clear hs2 hs6 b1 m1 z5 hfb;have bP6:=bP.below b2 s0;clear bP bR s0 s1 hbW b2;generalize W5.alloc (.cells #[.int .i64 rn,.slice (some w4) 1 1,.slice none 0 0,.slice none 0 0] 28)=W6 at *;generalize W5.heap.size=pb at *;generalize w4.heap.size=sb at *;obtain ⟨p0,p1,p2,p3,-⟩:=id bP6;go_wp2;clear p0 p1 p2 p3 bP6;go_loopw [38] (fun t W=>DuL w ⟨V,⟨oA,on,oc⟩,⟨rA,rn,rc⟩,⟨bA,rn,bc⟩⟩ pb rn V (L+1) ⟨some ⟨sb,0,none⟩,1,1⟩ [bs.map fun q=>- q] os rs t W) (fun t _=>V-(intOf t).toNat)
 case atStart=>exact H0
 case round=>
  clear H0;obtain ⟨k,G,vr,vb,ss,qs,hk,rfl,hI⟩:=hrel;obtain ⟨vA,vc,rfl,-,-⟩:=zKU hI.rows.own;obtain ⟨uA,uc,rfl,-,-⟩:=zKU hI.bnd.own;have hpl:=zAa hI.blk;have hp:=hI.hp;have HI:=hdq hI;by_cases e:k<V
  ·have e1:(k:Int)<(V:Int):=(by omega);obtain ⟨p0,p1,p2,p3,-⟩:=id hI.bp;dsimp only at p0 p1 p2 p3;clear hI;go_wp2;obtain ⟨wA,hwA⟩:∃ wA:World,wA=wr:=⟨_,rfl⟩;subst hwA;have hb0:Below wA wA (wA.alloc (.cells (zeroQ rn) 37)):=bal
   have H2:FillLoop wA wA (fun i=>- ((rs.getD i []).getD k 0)) rn rn (fun _=>True) (.int .i64 0) (wA.alloc (.cells (zeroQ rn) 37)):=
    ⟨0,nzl _,rfl,by rw [zEe]; exact RowAt.made wA rn _ (.inr rfl),hb0,trivial⟩
   clear hb0 p0 p1 p2 p3;generalize wA.alloc (.cells (zeroQ rn) 37)=WB at *;(go_loopw [45] (fun t W=>FillLoop wA wA (fun i=>- ((rs.getD i []).getD k 0)) rn rn (fun _=>True) t W) (fun t _=>rn-(intOf t).toNat));case atStart=>exact H2
   case round=>
    clear H2;obtain ⟨i,hi,rfl,hR,hB,-⟩:=hrel;have hRl:=hR.lt;have hb8:Below w w wr:=HI.out.bel.trans (hB.mono HI.out.bel.size);by_cases hlt:i<rn
    ·have hii:(i:Int)<(rn:Int):=(by omega);obtain ⟨p0,p1,p2,p3,-⟩:=id (HI.out.bp.below hB (by omega));dsimp only at p0 p1 p2 p3;(go_wp2_with fail);refine (zFd (s:=⟨rA,rn,rc⟩) (H.out.below hb8).rows i k hlt (by omega) HL.out).mono ?_; rintro e w1 ⟨⟨z,rfl,hz⟩,h1⟩
     (go_wp2_with fail);refine (zHK (hz.qis (MatAt.fit H.out.rows i k)) HL1.out).mono ?_; rintro e w2 ⟨⟨y,rfl,hy⟩,h2⟩
     have h12:=h1.trans (h2.mono h1.size);have hR1:=hR.below h12;obtain ⟨zv,⟨d0,d1,d2,d3⟩,-⟩:=hR1.elem i (by rw [zBj _ (by omega)]; omega);have fz:=hR1.frozen;have hy2:QCan w2 (New wr) y (- ((rs.getD i []).getD k 0)):=hy.imp fun b _ hb=>nlt h1.size hb
     dsimp only at d1 d2 d3;clear hz hy p0 p1 p2 p3;go_wp2;go_roundw;case rel=>exact FillLoop.step (B:=wr) hlt (nlr _) hR hB h12 hB.size hRl (nlr _) hy2 trivial
     case measure=>simp [intOf]; omega
    ·(obtain rfl:i=rn:=by omega);rw [zGv] at hR
     have hrow:VecCan wr (New wA) (New wA) ⟨some ⟨wA,0,none⟩,i,i⟩ ((List.range i).map fun j=>- ((rs.getD j []).getD k 0)):=by
      obtain ⟨⟨a,n,c⟩,e3,hv⟩:=VRet.of (n:=i) (by simp) (by omega) (nlr _) hR;simp only [Ending.returned.injEq,SV.val,Value.slice.injEq] at e3;obtain ⟨rfl,rfl,rfl⟩:=e3;exact hv
     have hI5:=HI.out.call hB;have hsG:VecCan wr (fun b=>¬ G b) (fun b=>¬ G b) ⟨some ⟨wA,0,none⟩,i,i⟩ ((List.range i).map fun j=>- ((rs.getD j []).getD k 0)):=hrow.imp (fun b _ hb hg=>by have:=(HI.out.gin b hg).2; simp only [New] at hb; omega) fun _ _ hq=>hq.imp fun b _ hb hg=>by have:=(HI.out.gin b hg).2; simp only [New] at hb; omega
     have hpl5:=zAa hI5.blk;have x2:wr.cell? ⟨pb,2,none⟩=some (.slice vA k vc):=(by simp [World.cell?,hI5.blk]);obtain ⟨p0,p1,p2,p3,-⟩:=id hI5.bp;dsimp only at p0 p1 p2 p3;have hown5:=hI5.rows.own;have HRow:=hdq hsG;have HI5:=hdq hI5;clear hrow hsG hI5 hR hmk;(go_wp2_with (at_builtin; refine wpList_append_own_at _ rfl _ _ 26 rfl (pb+1) 24 j0 (.slice none 0 0) 1 24 Tryz.underlying26 hjI hy0 hy1 hy2 rfl (by decide) (.slice vA k vc) k (ss.map SV.val) rfl (hown5.alloc _) ⟨wr,0,none⟩ 1 1 [.slice (some wA) i i] rfl rfl (cell_one_new _ _ _) (by intro u hu; simp at hu; subst hu; rfl) (by simp [maxLen]; omega) (by omega) (by simp; omega) ?_));intro v3 W3 hown3 hg3 hnil3 hat3;obtain ⟨g3,c3',rfl⟩:=ownsRow_succ hown3;have hat3':=hat3.imp (id) fun (e:_=_)=>show (Value.slice (some g3) (k+1) c3').ownBlock=some (wr.alloc (.cells #[.slice (some wA) i i] 24)).heap.size by rw [e]; simp
     have hD3:=HI5.out.addR (s:=⟨some ⟨wA,0,none⟩,i,i⟩) HRow.out hown3 hg3 hat3';have hst:=(HI5.out.rows.step HRow.out hown3 hg3 hat3').2.1;have hb3:=hst.block pb hpl5 fun e=>by have:=(HI5.out.rows.lt e).1; omega
     have d2:W3.cell? ⟨pb,2,none⟩=some (.slice vA k vc):=(cob (a:=⟨pb,2,none⟩) hb3).trans x2;have df:∀ o,W3.frozen? ⟨pb,o,none⟩=false:=(fun o=>(World.frozen?_of_block (a:=⟨pb,o,none⟩) hb3).trans (by simp [World.frozen?,HI5.out.blk]));have HD3:=hdq hD3;clear hown5 hown3 hg3 hnil3 hat3 hat3' hst hb3 hD3 HI5 x2 p0 p1 p2 p3;(go_upto_region 16 with fail);obtain ⟨G5,hG5⟩:∃ G5:Nat->Prop,Hid (G5=fun y=>G y\/(Value.slice (some g3) (k+1) c3').ownBlock=some y):=⟨_,rfl⟩;rw [<-hG5.out] at HD3;clear hG5 d2 df;generalize W3.setCell ⟨pb,2,none⟩ (.slice (some g3) (k+1) c3')=W4 at *;generalize Value.slice (some g3) (k+1) c3'=vr at *;generalize ss++[⟨some ⟨wA,0,none⟩,i,i⟩]=ss2 at *;have hD:=HD3.out;have hpl4:=zAa hD.blk;obtain ⟨p0,p1,p2,p3,-⟩:=id hD.bp;dsimp only at p0 p1 p2 p3;have y3:W4.cell? ⟨pb,3,none⟩=some (.slice uA k uc):=(by simp [World.cell?,hD.blk]);have hdr:Below W4 W4 W4.drew:=(brf _ _).drew;refine zAp 8 (fun f w'=>w'.cell? ⟨w,1,none⟩=some (.slice oA on oc)/\(f=false->w'.cell? ⟨pb,3,none⟩=some (.slice uA k uc))) (by kernel_rfl) ?_;have hS0:W4.drew.cell? ⟨w,1,none⟩=some (.slice oA on oc)/\(false=false->W4.drew.cell? ⟨pb,3,none⟩=some (.slice uA k uc)):=⟨p1,fun _=>y3⟩;refine tx1 0 hS0 ?_;refine tkW 1 (.slice uA k uc) (fun w' hSw=>?_) (hS0) ?_
     ·have:=hSw.2 rfl; go_simp
     simp only [zz];refine tx1 2 hS0 ?_;refine tx1 3 hS0 ?_;refine tx1 4 hS0 ?_;refine tk1 5 ?_;intro K hK;go_simp;refine (zFd (s:=⟨oA,on,oc⟩) ((H.out.below hD.bel).obj.below hdr) 0 k (by show 0<on; omega) (by omega) HL.out).mono ?_; rintro e w3 ⟨⟨z,rfl,hz⟩,hb3⟩
     dsimp only;have h3:=hdr.trans hb3;refine hK.out _ _ ⟨(h3.cell (p:=⟨w,1,none⟩) (by show w.heap.size<_; omega)).trans p1,fun _=>(h3.cell (p:=⟨pb,3,none⟩) hpl4).trans y3⟩ ?_;clear hK K;refine tk1 6 ?_;intro K hK;go_simp;refine (zHK (hz.qis (MatAt.fit H.out.obj 0 k)) HL1.out).mono ?_; rintro e w5 ⟨⟨y,rfl,hy⟩,hb4⟩
     dsimp only;have h4:Below W4 W4 w5:=h3.trans (hb4.mono h3.size);have hs4:=h4.size;refine hK.out _ _ ⟨(h4.cell (p:=⟨w,1,none⟩) (by show w.heap.size<_; omega)).trans p1,fun _=>(h4.cell (p:=⟨pb,3,none⟩) hpl4).trans y3⟩ ?_;clear hK K;have hD4:=hD.call h4
     have hyG:QIs w5 (fun b=>¬ G5 b) (L+1) y (-((os.getD 0 []).getD k 0)):=(hy.imp (Y:=fun b=>¬ G5 b) fun b _ hb hg=>by have:=(hD.gin b hg).2; have:=h3.size; simp only [New] at hb; omega).qis (by
      have h1:=MatAt.fit H.out.obj 0 k;unfold QFit at *;simpa using h1)
     have hown4:=hD4.bnd.own;refine tk1 7 ?_;intro K hK;go_simp;have al:Below w5 w5 (w5.alloc (.cells #[.bool y.num.ng,.slice y.num.A y.num.n y.num.c,.bool y.den.ng,.slice y.den.A y.den.n y.den.c] 37)):=bal;have h5:=h4.trans (al.mono hs4);refine hK.out _ _ ⟨(h5.cell (p:=⟨w,1,none⟩) (by show w.heap.size<_; omega)).trans p1,fun _=>(h5.cell (p:=⟨pb,3,none⟩) hpl4).trans y3⟩ ?_;clear hK K;refine tk1 8 ?_;intro K hK;refine zAq _ _ 24 rfl (pb+1) 37 k0 (.agg #[.bool false,.slice none 0 0,.bool false,.slice none 0 0]) 4 64 Tryz.underlying24 hk0 hx0 hx1 hx2 rfl (by decide) (.slice uA k uc) k (qs.flatMap cells4q) rfl (hown4.alloc _) ⟨w5,0,none⟩ 1 1 (cells4q y) rfl rfl (zA1 _ _) (by intro u hu; simp [cells4q] at hu; rcases hu with rfl | rfl | rfl | rfl <;> rfl) (by simp [maxLen]; omega) (by omega) (by simp; omega) ?_;intro v' W5 hown5 hg5 hnil5 hat5;obtain ⟨g5,c5,rfl⟩:=ownsRow_succ hown5;have hg:(w5.alloc (.cells #[.bool y.num.ng,.slice y.num.A y.num.n y.num.c,.bool y.den.ng,.slice y.den.A y.den.n y.den.c] 37)).grownBy W5 (Value.slice uA k uc).ownBlock:=⟨hg5.1,hg5.2,hg5.3,hg5.size,hg5.block⟩;have hst:=(hD4.bnd.step hyG hown5 hg hat5).2.1;have hD5:=hD4.addB hyG hown5 hg hat5;have hpl5:=zAa hD4.blk;have nb:∀ j,j<=pb->¬ (Value.slice uA k uc).ownBlock=some j:=fun j hj e=>by have:=(hD4.bnd.lt e).1; omega
     have hb5:=hst.block pb hpl5 (nb _ (nlr _));have d3:W5.cell? ⟨pb,3,none⟩=some (.slice uA k uc):=((cob (a:=⟨pb,3,none⟩) hb5).trans (h4.cell (p:=⟨pb,3,none⟩) hpl4)).trans y3;have df:∀ o,W5.frozen? ⟨pb,o,none⟩=false:=(fun o=>(World.frozen?_of_block (a:=⟨pb,o,none⟩) hb5).trans (by simp [World.frozen?,hD4.blk]));have p5:W5.cell? ⟨w,1,none⟩=some (.slice oA on oc):=((cob (a:=⟨w,1,none⟩) (hst.block w (by omega) (nb w (by omega)))).trans (h4.cell (p:=⟨w,1,none⟩) (by show w.heap.size<_; omega))).trans p1
     have Hfin:Hid (DuL w ⟨V,⟨oA,on,oc⟩,⟨rA,i,rc⟩,⟨bA,i,bc⟩⟩ pb i V (L+1) ⟨some ⟨sb,0,none⟩,1,1⟩ [bs.map fun q=>- q] os rs (.int .i64 ((k:Int)+1)) (W5.setCell ⟨pb,3,none⟩ (.slice (some g5) (k+1) c5))):=by
      have e1:dRows i rs (k+1)=dRows i rs k++[(List.range i).map fun j=>- ((rs.getD j []).getD k 0)]:=by unfold dRows; rw [List.range_succ,List.map_append]; rfl
      have e2:dBnd os (k+1)=dBnd os k++[- ((os.getD 0 []).getD k 0)]:=by unfold dBnd; rw [List.range_succ,List.map_append]; rfl
      rw [<-e1,<-e2] at hD5;exact ⟨k+1,_,vr,_,ss2,qs++[y],by omega,by simp,hD5⟩
     simp only [Act.put,zz];refine hK.out _ _ ⟨p5,fun h=>absurd h (by decide)⟩ ?_;clear hK K;refine tk1 9 ?_;intro K hK;go_simp;refine hK.out _ _ ⟨p5,fun h=>absurd h (by decide)⟩ ?_;clear hK K;refine tk1 10 ?_;intro K hK;go_simp;refine hK.out _ _ ⟨(World.cell?_setCell_far _ _ _ _ (by show pb ≠ w.heap.size; omega)).trans p5,fun h=>absurd h (by decide)⟩ ?_;clear hK K;refine zAf (by kernel_rfl) ?_ _;clear hD HD3 hD4 hD5 hown4 hown5 hg hg5 hnil5 hat5 d3 df p5 hb5 hst nb p0 p1 p2 p3 y3 al h3 h4 h5 hb3 hb4 hz hy hyG hS0 hdr HRow;go_wp2;go_roundw;case rel=>exact fn_ Hfin.out
     case measure=>simp [intOf]; omega
  ·(obtain rfl:k=V:=by omega);have x0:wr.cell? pb=some (.int .i64 rn):=(by simp [World.cell?,hI.blk]);have x1:wr.cell? ⟨pb,1,none⟩=some (.slice (some sb) 1 1):=(by simp [World.cell?,hI.blk]);have x2:wr.cell? ⟨pb,2,none⟩=some (.slice vA k vc):=(by simp [World.cell?,hI.blk]);have x3:wr.cell? ⟨pb,3,none⟩=some (.slice uA k uc):=(by simp [World.cell?,hI.blk]);obtain ⟨r0,r1,r2,r3,rf⟩:=id hI.br;clear hI;go_wp2
   have hF:Fr (fun y=>y=w.heap.size+1) wr ((((wr.setCell ⟨w+1,0,none⟩ (.int .i64 rn)).setCell ⟨w+1,1,none⟩ (.slice (some sb) 1 1)).setCell ⟨w+1,2,none⟩ (.slice vA k vc)).setCell ⟨w+1,3,none⟩ (.slice uA k uc)):=
    ((((Fr.refl (fun y=>y=w.heap.size+1) wr).set (p:=⟨w+1,0,none⟩) rfl _).set (p:=⟨w+1,1,none⟩) rfl _).set (p:=⟨w+1,2,none⟩) rfl _).set (p:=⟨w+1,3,none⟩) rfl _
   have bR8:=HI.out.br.stored (.int .i64 rn) (.slice (some sb) 1 1) (.slice vA k vc) (.slice uA k uc);generalize (((wr.setCell ⟨w+1,0,none⟩ (.int .i64 rn)).setCell ⟨w+1,1,none⟩ (.slice (some sb) 1 1)).setCell ⟨w+1,2,none⟩ (.slice vA k vc)).setCell ⟨w+1,3,none⟩ (.slice uA k uc)=y8 at *;obtain ⟨v0,v1,v2,v3,-⟩:=id bR8;have hHG:∀ y,y=w.heap.size+1->G y:=(fun y hy=>hy ▸ HI.out.gr);have hmo:=matG HI.out.mo hF hHG (More.refl _ _);have hrw:=HI.out.rows.keep hF (fun j hj e=>by have:=(HI.out.rows.lt hj).1; omega) hHG (More.refl _ _);have hbn:=HI.out.bnd.keep hF (fun j hj e=>by have:=(HI.out.bnd.lt hj).1; omega) hHG (More.refl _ _)
   have hfr:∀ i j,QFit (L+1) (((dRows rn rs k).getD i []).getD j 0):=fun i j=>by
    unfold dRows;by_cases hi:i<k
    ·rw [zA6 _ _ _ _ hi];by_cases hj:j<rn
     ·rw [zA6 _ _ _ _ hj];have h1:=MatAt.fit H.out.rows j i;unfold QFit at *;simpa using h1
     ·rw [zAw _ _ _ (by simp; omega)]; exact QFit.zero L
    ·have e:((List.range k).map fun j=>(List.range rn).map fun i=>- ((rs.getD i []).getD j 0)).getD i []=[]:=zAw _ _ _ (by simp; omega);rw [e]; exact QFit.zero L
   obtain ⟨⟨a1,a2,a3⟩,eR,-,mR⟩:=hrw.mat (L:=L+1) hfr;obtain ⟨⟨b1,b2,b3⟩,eB,-,mB⟩:=hbn.vec;simp only [SV.val,Value.slice.injEq] at eR eB;obtain ⟨rfl,rfl,rfl⟩:=eR;obtain ⟨rfl,rfl,rfl⟩:=eB
   exact bodyPost_ret (v:=.tuple #[.agg #[.int .i64 rn,.slice (some sb) 1 1,.slice vA k vc,.slice uA k uc],.int .i64 0]) (by simp [results,Tryz.results46,go_sem,v0,v1,v2,v3]) rfl
    ⟨⟨⟨rn,⟨some ⟨sb,0,none⟩,1,1⟩,⟨vA,k,vc⟩,⟨uA,k,uc⟩⟩,rfl,rfl,hmo.imp (fun _ _ _=>trivial) fun _ _ hq=>hq.imp fun _ _ _=>trivial,mR,mB.imp (fun _ _ _=>trivial) fun _ _ hq=>hq.imp fun _ _ _=>trivial⟩,HI.out.bel.trans (hF.below HI.out.bel.size fun y e=>by omega)⟩
theorem zQQ {P:Lin.Prob} {y z:Nat->Rat} (h:PValid P y) (e:∀ i,i<P.m->y i=z i):PValid P z:=by
 obtain ⟨⟨h1,h2⟩,x,hx,hv⟩:=h;refine ⟨⟨fun i hi=>by rw [<-e i hi]; exact h1 i hi,fun k hk=>?_⟩,x,hx,?_⟩
 ·have:=h2 k hk;rw [Lin.zAh (g:=fun i=>z i*P.A i k) fun i hi=>by rw [e i hi]] at this;exact this
 ·rw [hv]; exact Lin.zAh fun i hi=>by rw [e i hi]
theorem dsizes {y:List Rat} (fy:∀ i,Lin.Fits 140000 (y.getD i 0)) (fr:∀ i j,QFit 7 ((rs.getD i []).getD j 0)) (fb:∀ i,QFit 7 (bs.getD i 0)) (hy:y.length<=4) :
  (∀ i j,QFit LM (y.getD i 0*(rs.getD i []).getD j 0))/\(∀ k j,Lin.Fits 570000 (Lin.sum k fun i=>y.getD i 0*(rs.getD i []).getD j 0))/\∀ i,Lin.Fits 142000 (y.getD i 0*bs.getD i 0):=by
 have f1:∀ i j,Lin.Fits 142000 (y.getD i 0*(rs.getD i []).getD j 0):=fun i j=>((fy i).mul (zAR (fr i j))).mono (by omega)
 refine ⟨fun i j=>zBn (f1 i j) (by rw [zAZ]; omega),fun k j=>(zIV (N:=y.length) (fun i=>f1 i j) (fun i hi=>?_) k).mono (by have:=Nat.mul_le_mul_right 142001 hy; omega),fun i=>((fy i).mul (zAR (fb i))).mono (by omega)⟩;rw [zAw _ _ _ hi]; grind
theorem zQS {l y:List Rat} (hl:l.length=V) (hco:colsOf os<=V) (hcr:colsOf rs<=V) (hf:(prob1 V os rs bs).Feasible fun k=>l.getD k 0)
  (hm:∀ z,(prob1 V os rs bs).Feasible z->(Lin.sum V fun k=>(os.getD 0 []).getD k 0*z k)<=Lin.sum V fun k=>(os.getD 0 []).getD k 0*l.getD k 0) (hI:PInv (prob1 V os rs bs) none D) (hE:Ends (prob1 V os rs bs) none D 1) (hy:y=(List.range rs.length).map (D.dual (prob1 V os rs bs))) :
  dotL (os.getD 0 []) l=D.c 0 V/\((∀ k,k<y.length->0<=y.getD k 0)/\∀ i,i<(dRows rs.length rs V).length->dotL ((dRows rs.length rs V).getD i []) y<=(dBnd os V).getD i 0)/\(Lin.sum rs.length fun i=>y.getD i 0*bs.getD i 0)=D.c 0 V/\
  (y.length=rs.length/\PValid (prob1 V os rs bs) fun i=>y.getD i 0)/\((∀ k,k<l.length->0<=l.getD k 0)/\∀ i,i<rs.length->dotL (rs.getD i []) l<=bs.getD i 0)/\dualOk y os rs V/\
  (∀ i,i<rs.length->¬ (0<y.getD i 0/\0<bs.getD i 0-dotL (rs.getD i []) l))/\∀ k,k<V->¬ (0<l.getD k 0/\0<psum y rs k-(os.getD 0 []).getD k 0):=by
 have yl:y.length=rs.length:=by rw [hy]; simp
 have ye:∀ i,i<(prob1 V os rs bs).m->D.dual (prob1 V os rs bs) i=y.getD i 0:=fun i hi=>by rw [hy]; exact (zA6 _ _ _ _ hi).symm
 have hv:=zQQ (zA5 hI hE Nat.one_pos) ye;have e1:(Lin.sum V fun k=>(os.getD 0 []).getD k 0*l.getD k 0)=D.c 0 V:=zQG rfl hI hE hf hm
 have e2:D.c 0 V=Lin.sum rs.length fun i=>y.getD i 0*bs.getD i 0:=by
  refine (ends1 hI hE Nat.one_pos).2.2.1.trans (Lin.zAh fun i hi=>?_);rw [ye i hi]; rfl
 have sl:=slackness hf hv.1 (show (Lin.sum V fun k=>(os.getD 0 []).getD k 0*l.getD k 0)=Lin.sum rs.length fun i=>y.getD i 0*bs.getD i 0 from e1.trans e2);have ps:∀ k,psum y rs k=Lin.sum rs.length fun i=>y.getD i 0*(rs.getD i []).getD k 0:=fun k=>by unfold psum; rw [yl,Nat.min_self]
 refine ⟨(zGW (zBT hco 0) hl).trans e1,⟨fun k hk=>hv.1.1 k (by rw [<-show y.length=(prob1 V os rs bs).m from yl]; exact hk),fun k hk=>?_⟩,e2.symm,⟨yl,hv⟩,(zJd (os:=os) hcr hl).2 hf,zDm.2 ⟨yl,hv.1⟩,fun i hi h=>?_,fun k hk h=>?_⟩
 ·have hk':k<V:=by simpa [dRows] using hk
  rw [dRows,zA6 _ _ _ _ hk',dBnd,zA6 _ _ _ _ hk',zGW (V:=rs.length) (by simp) yl,
   Lin.zAh (g:=fun i=>- (y.getD i 0*(rs.getD i []).getD k 0)) (fun i hi=>by rw [zA6 _ _ _ _ hi]; grind),Lin.zFC]
  have h2:(os.getD 0 []).getD k 0<=Lin.sum rs.length fun i=>y.getD i 0*(rs.getD i []).getD k 0:=hv.1.2 k hk'
  grind
 ·refine sl.1 i hi ⟨h.1,?_⟩;have h2:=h.2;rw [zGW (zBT hcr i) hl] at h2;exact h2
 ·refine sl.2 k hk ⟨h.1,?_⟩;have h2:=h.2;rw [ps] at h2;exact h2
end Go.Proofs.YtpjaodcimomaiaaGreat
