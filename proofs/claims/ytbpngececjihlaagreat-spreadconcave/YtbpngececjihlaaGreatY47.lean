/- Texts BnX BnY BnZ BnZ2 BnZ3 BnZ4 BnZ5 PsD SpP SpQ SpT SpU of this claim. -/
import Derived.Test.YtbpngececjihlaaGreatY46
import Derived.Laws.CopyOwn
import Derived.Test.YtbpngececjihlaaGreatY45
set_option maxHeartbeats 4000000
set_option maxRecDepth 40000
namespace Go.Proofs.YtbpngececjihlaaGreat
open Go.RowKit Go.Shelf
variable {xs:List Value} {n base j L V M k b B c0 c1 g:Nat} {v:Value} {e:TypeId} {W w w':World} {s R:SV} {q:Rat} {z pl:QV} {bs cl:List Rat} {os rs:List (List Rat)} {p:LPV} {X Y G:Nat->Prop} {f':Bool} {ad:Addr} {D:Lin.Dict}
section
variable {w w':World} {b:Nat} {F X Y:Nat->Prop} {L:Nat}
end
theorem zKU {size:Nat} (h:W.ownsRow base e size v n xs):∃ A c,v = .slice A n c/\n<=c/\c<=9223372036854775807:=by
 rcases h.2 with ⟨rfl,rfl⟩ | ⟨g,cap,cur,rfl,hg,hh,hn,hc,_⟩
 ·exact ⟨none,0,rfl,nlr _,by omega⟩
 ·exact ⟨_,cap,rfl,hn,nlt hc (by decide)⟩
section
variable {w W W':World} {bb:Nat} {bc:Array Value} {clo:Value} {B:Lin.BP} {L:Nat} {vo:Value} {ps:List ((Nat->Int) × Nat)} {st:Option (Option (Nat->Rat))}
end
structure MatS (W:World) (B:Nat) (G:Nat->Prop) (v:Value) (k:Nat) (ss:List SV) (m:List (List Rat)):Prop where
 own:W.ownsRow B 23 1 v k (ss.map SV.val)
 row:∀ j,v.ownBlock=some j->G j
 len:ss.length=k
 llen:m.length=k
 elem:∀ j,j<k->VecCan W (fun b=>¬ G b) (fun b=>¬ G b) (ss.getD j ⟨none,0,0⟩) (m.getD j [])
section
variable {W W' W2:World} {B k L:Nat} {G G' H:Nat->Prop} {v v':Value} {ss:List SV} {m:List (List Rat)}
theorem vecG {l:List Rat} (h:VecCan W (fun b=>¬ G b) (fun b=>¬ G b) s l) (hF:Fr H W W') (hHG:∀ y,H y->G y) (hG:More W G G'):VecCan W' (fun b=>¬ G' b) (fun b=>¬ G' b) s l:=
 ((h.imp (X':=fun b=>¬ G b/\b<W.heap.size) (R':=QCan W fun b=>¬ G b/\b<W.heap.size) (fun b hl hb=>⟨hb,hl⟩) fun _ _ hq=>hq.imp fun b hl hb=>⟨hb,hl⟩).keep (R':=QCan W' fun b=>¬ G b/\b<W.heap.size) (fun p hp hl=>hF.cell hl fun z=>hp.1 (hHG _ z)) fun v q hq=>hq.keep fun p hp hl=>hF.cell hl fun z=>hp.1 (hHG _ z)).imp
  (fun b _ hb hg=>hb.1 ((hG.new b hg).resolve_right (by omega))) fun _ _ hq=>hq.imp fun b _ hb hg=>hb.1 ((hG.new b hg).resolve_right (by omega))
theorem matG {m:List (List Rat)} (h:MatIs W (fun b=>¬ G b) (fun b=>¬ G b) L s m) (hF:Fr H W W') (hHG:∀ y,H y->G y) (hG:More W G G'):MatIs W' (fun b=>¬ G' b) (fun b=>¬ G' b) L s m:=
 ((h.imp (X':=fun b=>¬ G b/\b<W.heap.size) (R':=QIs W (fun b=>¬ G b/\b<W.heap.size) L) (fun b hl hb=>⟨hb,hl⟩) fun _ _ hq=>hq.imp fun b hl hb=>⟨hb,hl⟩).keep (R':=QIs W' (fun b=>¬ G b/\b<W.heap.size) L) (fun p hp hl=>hF.cell hl fun z=>hp.1 (hHG _ z)) fun v q hq=>hq.keep fun p hp hl=>hF.cell hl fun z=>hp.1 (hHG _ z)).imp
  (fun b _ hb hg=>hb.1 ((hG.new b hg).resolve_right (by omega))) fun _ _ hq=>hq.imp fun b _ hb hg=>hb.1 ((hG.new b hg).resolve_right (by omega))
theorem MatS.nil (W:World) (B:Nat) (G:Nat->Prop):MatS W B G (.slice none 0 0) 0 [] []:=⟨World.ownsRow_nil _ _ _ _,fun j h=>by simp [Value.ownBlock] at h,rfl,rfl,fun j h=>absurd h (Nat.not_lt_zero j)⟩
theorem MatS.lt (h:MatS W B G v k ss m) (e:v.ownBlock=some j):B<=j/\j<W.heap.size:=by
 obtain ⟨h1,cs,hh⟩:=zAc h.own e;exact ⟨h1,zAa hh⟩
theorem MatS.keep (h:MatS W B G v k ss m) (hF:Fr H W W') (hH:∀ j,v.ownBlock=some j->¬ H j) (hHG:∀ y,H y->G y) (hG:More W G G'):MatS W' B G' v k ss m:=
 ⟨zAr h.own fun j hj=>hF.block j (h.lt hj).2 (hH j hj),fun j hj=>hG.old j (h.row j hj),h.len,h.llen,fun j hj=>vecG (h.elem j hj) hF hHG hG⟩
theorem MatS.step (h:MatS W B G v k ss m) {o:Obj} {l:List Rat} (hz:VecCan W (fun b=>¬ G b) (fun b=>¬ G b) s l) (hown:W2.ownsRow B 23 1 v' (k+1) (ss.map SV.val++[s.val])) (hg:(W.alloc o).grownBy W2 v.ownBlock) (hat:v'.ownBlock=v.ownBlock\/v'.ownBlock=some (W.alloc o).heap.size) :
  MatS W2 B (fun y=>G y\/v'.ownBlock=some y) v' (k+1) (ss++[s]) (m++[l])/\Fr (fun y=>v.ownBlock=some y) W W2/\More W G (fun y=>G y\/v'.ownBlock=some y):=by
 have hsz:W.heap.size+1<=W2.heap.size:=by have:=hg.size; simpa using this
 have key:∀ y,y<W.heap.size->¬ v.ownBlock=some y->W2.heap[y]?=W.heap[y]?:=fun y hy h2=>(hg.block y (by simp; omega) fun e=>h2 e.symm).trans (Below.heap_alloc _ _ _ hy)
 have hv':∀ j,v'.ownBlock=some j->v.ownBlock=some j\/W.heap.size<=j:=fun j hj=>by
  rcases hat with e | e
  ·exact .inl (e.symm.trans hj)
  ·rw [e] at hj; cases hj; right; simp
 have hF:Fr (fun y=>v.ownBlock=some y) W W2:=⟨hg.os,hg.tape,hg.output,by omega,fun b hb hn=>key b hb hn⟩;have hM:More W G (fun y=>G y\/v'.ownBlock=some y):=⟨fun y hy=>.inl hy,fun y hy=>hy.elim .inl fun e=>(hv' y e).imp (h.row y) id⟩;refine ⟨⟨by rw [List.map_append]; simpa using hown,fun j hj=>.inr hj,by rw [List.length_append,h.len]; rfl,by rw [List.length_append,h.llen]; rfl,fun j hj=>?_⟩,hF,hM⟩;by_cases hjk:j<k
 ·rw [zAE _ _ _ (by rw [h.len]; exact hjk),zAE _ _ _ (by rw [h.llen]; exact hjk)];exact vecG (h.elem j hjk) hF (fun y e=>h.row y e) hM
 ·obtain rfl:j=k:=by omega
  have e1:(ss++[s]).getD j ⟨none,0,0⟩=s:=by rw [<-h.len]; simp
  have e2:(m++[l]).getD j []=l:=by rw [<-h.llen]; simp
  rw [e1,e2];exact vecG hz hF (fun y e=>h.row y e) hM
theorem MatS.mat (h:MatS W B G v k ss m) (hf:∀ i j,QFit L ((m.getD i []).getD j 0)):∃ s:SV,v=s.val/\s.n=k/\MatIs W AllB AllB L s m:=by
 rcases h.own.2 with ⟨rfl,rfl⟩ | ⟨g,cap,cur,rfl,hbg,hh,hnc,hcap,hcur,ht⟩
 ·exact ⟨⟨none,0,0⟩,rfl,rfl,h.llen,nlr _,nzl _,fun k hk=>absurd hk (by simp)⟩
 ·refine ⟨⟨some ⟨g,0,none⟩,k,cap⟩,rfl,rfl,h.llen,hnc,(by show cap<=_; exact nlt ‹_› (show maxLen<=9223372036854775807 by decide)),fun j hj=>⟨⟨g,0,none⟩,ss.getD j ⟨none,0,0⟩,rfl,trivial,?_,(((h.elem j hj).loose fun i=>hf j i).imp (fun _ _ _=>trivial) fun _ _ hq=>hq.imp fun _ _ _=>trivial)⟩⟩;have hj':j<k:=hj;have hl:=h.len;have e2:(cur.toList.take (k*1))[j]?=(ss.map SV.val)[j]?:=by rw [ht]
  rw [List.getElem?_take_of_lt (by omega),List.getElem?_map] at e2;rw [zA4,Nat.zero_add];simp only [World.cell?,hh];rw [gdd];rw [gge (show j<ss.length by omega)] at e2 ⊢;simpa using e2
end
structure DuI (w:World) (p:LPV) (pb M L:Nat) (o:SV) (mo:List (List Rat)) (G:Nat->Prop) (kr kb:Nat) (vr vb:Value) (ss:List SV) (qs:List QV) (m:List (List Rat)) (l:List Rat) (W:World):Prop where
 bel:Below w w W
 bp:LPBox W w p
 br:Box4 W (w+1) (.int .i64 0) (.slice none 0 0) (.slice none 0 0) (.slice none 0 0)
 hp:w.heap.size+1<pb
 blk:W.heap[pb]?=some (.cells #[.int .i64 (M:Int),o.val,vr,vb] 25 (0,0))
 gp:G pb
 gr:G (w+1)
 gin:∀ y,G y->w.heap.size<y/\y<W.heap.size
 mo:MatIs W (fun b=>¬ G b) (fun b=>¬ G b) L o mo
 rows:MatS W (pb+1) G vr kr ss m
 bnd:ValS W (pb+1) L G vb kb qs l
section
variable {w W W' W2:World} {p:LPV} {pb M L kr kb kr' kb':Nat} {o:SV} {mo:List (List Rat)} {G G' H:Nat->Prop} {vr vb vr' vb' v':Value} {ss ss':List SV} {qs qs':List QV} {m m':List (List Rat)} {l l':List Rat}
theorem DuI.frame (h:DuI w p pb M L o mo G kr kb vr vb ss qs m l W) (hF:Fr H W W') (hHG:∀ y,H y->G y) (hHp:∀ y,H y->pb<=y) (hG:More W G G') (hgin:∀ y,G' y->w.heap.size<y/\y<W'.heap.size) (hb:W'.heap[pb]?=some (.cells #[.int .i64 (M:Int),o.val,vr',vb'] 25 (0,0)))
  (hr:MatS W' (pb+1) G' vr' kr' ss' m') (hv:ValS W' (pb+1) L G' vb' kb' qs' l'):DuI w p pb M L o mo G' kr' kb' vr' vb' ss' qs' m' l' W':=by
 have hpl:=zAa h.blk;have hp:=h.hp;have no:∀ y,y<pb->¬ H y:=fun y hy e=>by have:=hHp y e; omega
 exact ⟨h.bel.trans (hF.below h.bel.size fun y e=>by have:=hHp y e; omega),h.bp.heap (hF.block _ (by omega) (no _ (by omega))),h.br.heap (hF.block _ (by omega) (no _ (by omega))),hp,hb,hG.old _ h.gp,hG.old _ h.gr,hgin,matG h.mo hF hHG hG,hr,hv⟩
theorem DuI.call (h:DuI w p pb M L o mo G kr kb vr vb ss qs m l W) (hb:Below W W W'):DuI w p pb M L o mo G kr kb vr vb ss qs m l W':=
 h.frame (H:=fun _=>False) (Fr.of_below hb) (fun _ e=>e.elim) (fun _ e=>e.elim) (More.refl _ _) (fun y e=>⟨(h.gin y e).1,ltl (h.gin y e).2 hb.size⟩) ((hb.block _ (zAa h.blk)).trans h.blk)
  (h.rows.keep (H:=fun _=>False) (Fr.of_below hb) (fun _ _ e=>e) (fun _ e=>e.elim) (More.refl _ _)) (h.bnd.keep (H:=fun _=>False) (Fr.of_below hb) (fun _ _ e=>e) (fun _ e=>e.elim) (More.refl _ _))
theorem DuI.apart (h:DuI w p pb M L o mo G kr kb vr vb ss qs m l W) (e1:vb.ownBlock=some j) (e2:vr.ownBlock=some j):False:=by
 obtain ⟨_,c1,h1⟩:=zAc h.bnd.own e1;obtain ⟨_,c2,h2⟩:=zAc h.rows.own e2;exact zAy h1 h2 (by decide) rfl
theorem DuI.addR (h:DuI w p pb M L o mo G kr kb vr vb ss qs m l W) {ob:Obj} {r:List Rat} (hs:VecCan W (fun b=>¬ G b) (fun b=>¬ G b) s r) (hown:W2.ownsRow (pb+1) 23 1 v' (kr+1) (ss.map SV.val++[s.val])) (hg:(W.alloc ob).grownBy W2 vr.ownBlock) (hat:v'.ownBlock=vr.ownBlock\/v'.ownBlock=some (W.alloc ob).heap.size) :
  DuI w p pb M L o mo (fun y=>G y\/v'.ownBlock=some y) (kr+1) kb v' vb (ss++[s]) qs (m++[r]) l (W2.setCell ⟨pb,2,none⟩ v'):=by
 obtain ⟨hr2,hF,hM⟩:=h.rows.step hs hown hg hat;have hpl:=zAa h.blk;have nv:¬ vr.ownBlock=some pb:=fun e=>by have:=(h.rows.lt e).1; omega
 have nv':∀ j,v'.ownBlock=some j->¬ j=pb:=fun j e=>by have:=(hr2.lt e).1; omega
 have nb:∀ j,vb.ownBlock=some j->¬ j=pb:=fun j e=>by have:=(h.bnd.lt e).1; omega
 have hv2:=h.bnd.keep hF (fun j e1 e2=>h.apart e1 e2) (fun y e=>h.rows.row y e) hM;have hFs:Fr (fun y=>y=pb) W2 (W2.setCell ⟨pb,2,none⟩ v'):=(Fr.refl (fun y=>y=pb) W2).set (p:=⟨pb,2,none⟩) rfl v';have hFF:Fr (fun y=>vr.ownBlock=some y\/y=pb) W (W2.setCell ⟨pb,2,none⟩ v'):=(hF.mono fun y hy=>.inl hy).trans (hFs.mono fun y hy=>.inr hy);refine h.frame hFF (fun y hy=>hy.elim (h.rows.row y) fun e=>e ▸ h.gp) (fun y hy=>hy.elim (fun e=>by have:=(h.rows.lt e).1; omega) fun e=>by omega) hM (fun y hy=>?_) (by rw [zAe _ ((hF.block pb hpl nv).trans h.blk)]; simp) (hr2.keep hFs nv' (fun y hy=>by rw [hy]; exact .inl h.gp) (More.refl _ _)) (hv2.keep hFs nb (fun y hy=>by rw [hy]; exact .inl h.gp) (More.refl _ _));rcases hy with hy | hy
 ·exact ⟨(h.gin y hy).1,ltl (h.gin y hy).2 hFF.size⟩
 ·have h2:=hr2.lt hy;have:=h.hp;exact ⟨by omega,ltl h2.2 hFs.size⟩
theorem DuI.addB (h:DuI w p pb M L o mo G kr kb vr vb ss qs m l W) {ob:Obj} (hz:QIs W (fun b=>¬ G b) L z q) (hown:W2.ownsRow (pb+1) 30 4 v' (kb+1) (qs.flatMap cells4q++cells4q z)) (hg:(W.alloc ob).grownBy W2 vb.ownBlock) (hat:v'.ownBlock=vb.ownBlock\/v'.ownBlock=some (W.alloc ob).heap.size) :
  DuI w p pb M L o mo (fun y=>G y\/v'.ownBlock=some y) kr (kb+1) vr v' ss (qs++[z]) m (l++[q]) (W2.setCell ⟨pb,3,none⟩ v'):=by
 obtain ⟨hr2,hF,hM⟩:=h.bnd.step hz hown hg hat;have hpl:=zAa h.blk;have nv:¬ vb.ownBlock=some pb:=fun e=>by have:=(h.bnd.lt e).1; omega
 have nv':∀ j,v'.ownBlock=some j->¬ j=pb:=fun j e=>by have:=(hr2.lt e).1; omega
 have nb:∀ j,vr.ownBlock=some j->¬ j=pb:=fun j e=>by have:=(h.rows.lt e).1; omega
 have hv2:=h.rows.keep hF (fun j e1 e2=>h.apart e2 e1) (fun y e=>h.bnd.row y e) hM;have hFs:Fr (fun y=>y=pb) W2 (W2.setCell ⟨pb,3,none⟩ v'):=(Fr.refl (fun y=>y=pb) W2).set (p:=⟨pb,3,none⟩) rfl v';have hFF:Fr (fun y=>vb.ownBlock=some y\/y=pb) W (W2.setCell ⟨pb,3,none⟩ v'):=(hF.mono fun y hy=>.inl hy).trans (hFs.mono fun y hy=>.inr hy);refine h.frame hFF (fun y hy=>hy.elim (h.bnd.row y) fun e=>e ▸ h.gp) (fun y hy=>hy.elim (fun e=>by have:=(h.bnd.lt e).1; omega) fun e=>by omega) hM (fun y hy=>?_) (by rw [zAe _ ((hF.block pb hpl nv).trans h.blk)]; simp) (hv2.keep hFs nb (fun y hy=>by rw [hy]; exact .inl h.gp) (More.refl _ _)) (hr2.keep hFs nv' (fun y hy=>by rw [hy]; exact .inl h.gp) (More.refl _ _));rcases hy with hy | hy
 ·exact ⟨(h.gin y hy).1,ltl (h.gin y hy).2 hFF.size⟩
 ·have h2:=hr2.lt hy;have:=h.hp;exact ⟨by omega,ltl h2.2 hFs.size⟩
end
def dRows (M:Nat) (rs:List (List Rat)) (k:Nat):List (List Rat):=(List.range k).map fun j=>(List.range M).map fun i=>- ((rs.getD i []).getD j 0)
def dBnd (os:List (List Rat)) (k:Nat):List Rat:=(List.range k).map fun j=>- ((os.getD 0 []).getD j 0)
def DuL (w:World) (p:LPV) (pb M V L:Nat) (o:SV) (mo os rs:List (List Rat)) (t:Value) (W:World):Prop:=
 ∃ (k:Nat) (G:Nat->Prop) (vr vb:Value) (ss:List SV) (qs:List QV),k<=V/\t = .int .i64 (k:Int)/\DuI w p pb M L o mo G k k vr vb ss qs (dRows M rs k) (dBnd os k) W
def DualRet (_w:World) (M V L:Nat) (os rs:List (List Rat)) (bs:List Rat) (e:Ending) (w':World):Prop:=
 ∃ p:LPV,e = .returned (.tuple #[p.val,.int .i64 0])/\p.n=M/\LPIs w' AllB AllB (L+1) p [bs.map fun q=>- q] (dRows M rs V) (dBnd os V)
theorem zQM (h:LPIs w X Y L p os rs bs) (hV:p.n=V) (hV2:V<=64) (ho1:1<=p.O.n) (ho2:p.O.n<=4) (hM:p.R.n=M) (hr:M<=64) (hb:p.B.n=M) (hco:colsOf os<=V) (hcr:colsOf rs<=V) (hL:L+1<=LM) :
  Calls Tryz.prog 175 #[p.val] w fun e w'=>DualRet w M V L os rs bs e w'/\Below w w w':=by
 obtain ⟨z,⟨oA,on,oc⟩,⟨rA,rn,rc⟩,⟨bA,bn,bc⟩⟩:=p;dsimp only at hV ho1 ho2 hM hb;subst hV hM;obtain rfl:rn=bn:=hb.symm;have H:=hdq h;have HCo:=hdq hco;have HCr:=hdq hcr;have HL1:=hdq hL;have HL:Hid (L<=LM):=by show L<=LM; omega
 obtain ⟨j0,hjI,hy0,hy1,hy2⟩:=info_parts zFA;obtain ⟨k0,hk0,hx0,hx1,hx2⟩:=info_parts zEv;have hmk:=zBZ rn (by omega);clear h hco hcr hL hb;dsimp only [LPV.val,SV.val];go_enter Tryz.func175,Tryz.ntmps175
 go_upto_region 1 with fail
 refine zAo (fun W=>Below w w W/\Box4 W w (.int .i64 V) (.slice oA on oc) (.slice rA rn rc) (.slice bA rn bc)/\Box4 W (w+1) (.int .i64 0) (.slice none 0 0) (.slice none 0 0) (.slice none 0 0)/\w.heap.size<W.heap.size/\w.heap.size+1<W.heap.size) ⟨(az (az (brf _ _))),bx4,bx4,by simp <;> omega,by simp <;> omega⟩ ?_;rintro W ⟨hbW,bP,bR,s0,s1⟩;have hBW:=hbW.size;obtain ⟨p0,p1,p2,p3,-⟩:=id bP;go_wp2_with fail
 refine (zBv (p:=⟨V,⟨oA,on,oc⟩,⟨rA,rn,rc⟩,⟨bA,rn,bc⟩⟩) (H.out.below hbW) rfl hV2 ho1 ho2 (by show rn<=128; omega) rfl HCo.out HCr.out).mono ?_;rintro e w1 ⟨rfl,hb1⟩;replace bP:=bP.below hb1 s0;replace bR:=bR.below hb1 s1;replace s0:=ltl s0 hb1.size;replace s1:=ltl s1 hb1.size;replace hbW:=hbW.trans (hb1.mono hbW.size);clear hb1 hBW p0 p1 p2 p3;obtain ⟨p0,p1,p2,p3,pf⟩:=id bP;have hg1:¬ ((64:Int)<(rn:Int)):=by omega
 have hg2:¬ ((128:Int)<(V:Int)):=by omega
 go_wp2_with fail
 refine (zAN (-1) (by decide) (by decide) _).mono ?_;rintro e w2 ⟨⟨z,rfl,hz⟩,hb2⟩;replace bP:=bP.below hb2 s0;replace bR:=bR.below hb2 s1;replace s0:=ltl s0 hb2.size;replace s1:=ltl s1 hb2.size;replace hbW:=hbW.trans (hb2.mono hbW.size);clear hb2 p0 p1 p2 p3 pf hg1 hg2;go_upto_region 5 with fail
 have al3:Below w2 w2 (w2.alloc (.cells #[.bool z.num.ng,.slice z.num.A z.num.n z.num.c,.bool z.den.ng,.slice z.den.A z.den.n z.den.c] 30)):=bal;have Pz:QBlk (w2.alloc (.cells #[.bool z.num.ng,.slice z.num.A z.num.n z.num.c,.bool z.den.ng,.slice z.den.A z.den.n z.den.c] 30)) w2 z:=zAd _ _ rfl;have HZ:=hdq (hz.below al3);replace bP:=bP.below al3 s0;replace bR:=bR.below al3 s1;replace s0:=ltl s0 al3.size;replace s1:=ltl s1 al3.size;replace hbW:=hbW.trans (al3.mono hbW.size);clear al3 hz;generalize w2.alloc (.cells #[.bool z.num.ng,.slice z.num.A z.num.n z.num.c,.bool z.den.ng,.slice z.den.A z.den.n z.den.c] 30)=W3 at *;generalize w2.heap.size=zb at *;have sz:=zAa Pz;obtain ⟨z0,z1,z2,z3,-⟩:=zAA Pz;obtain ⟨p0,p1,p2,p3,pf⟩:=id bP;go_wp2_with fail
 refine (zLH (k:=z) (s:=⟨bA,rn,bc⟩) (HZ.out.qis (L:=1) ⟨by decide +kernel,by decide +kernel⟩) (H.out.below hbW).bounds (by show rn<=1000000; omega) HL.out (by rw [zAZ]; omega)).mono ?_;rintro e w4 ⟨⟨⟨sA,sn,sc⟩,rfl,hs⟩,hb4⟩;obtain rfl:rn=sn:=by rw [<-show bs.length=rn from H.out.bounds.len]; have:=hs.len; rw [List.length_map] at this; exact this
 have hs2:VecCan w4 (New W3) (New W3) ⟨sA,rn,sc⟩ (bs.map fun q=>- q):=by
  have e1:((-1:Int):Rat)=-1:=by decide +kernel
  have e:(fun q:Rat=>((-1:Int):Rat)*q)=fun q=>- q:=by
   funext q;rw [e1]; grind
  rw [<-e]; exact hs
 have s13:=s1;replace bP:=bP.below hb4 s0;replace bR:=bR.below hb4 s1;replace s0:=ltl s0 hb4.size;replace s1:=ltl s1 hb4.size;replace hbW:=hbW.trans (hb4.mono hbW.size);have hb4z:=hb4.size;clear hb4 hs p0 p1 p2 p3 pf z0 z1 z2 z3 Pz HZ sz;go_upto_region 6 with fail
 dsimp only [SV.val]
 have hfb:∀ i,QFit (L+1) ((bs.map fun q=>- q).getD i 0):=fun i=>by
  have e:(bs.map fun q:Rat=>- q).getD i 0=- bs.getD i 0:=by
   simp only [gdd,List.getElem?_map];cases bs[i]? <;> simp
  rw [e];have h1:=H.out.bounds.fit i;unfold QFit at *;simpa using h1
 have hs6:VecIs w4 (fun b=>b ≠ w4.heap.size+1/\W3.heap.size<=b) (fun b=>b ≠ w4.heap.size+1/\W3.heap.size<=b) (L+1) ⟨sA,rn,sc⟩ (bs.map fun q=>- q):=(hs2.loose hfb).imp (fun b hl hb=>⟨by omega,hb⟩) fun _ _ hq=>hq.imp fun b hl hb=>⟨by omega,hb⟩
 have b1:Below w4 w4 (w4.alloc (.cells #[.slice sA rn sc] 23)):=bal;have m1:(w4.alloc (.cells #[.slice sA rn sc] 23)).heap[w4.heap.size]?=some (.cells #[.slice sA rn sc] 23 (0,0)):=zAd _ _ rfl;have z5:(w4.alloc (.cells #[.slice sA rn sc] 23)).heap.size=w4.heap.size+1:=by simp
 replace hs6:=hs6.below b1;replace bP:=bP.below b1 s0;replace bR:=bR.below b1 s1;replace s0:=ltl s0 b1.size;replace s1:=ltl s1 b1.size;replace hbW:=hbW.trans (b1.mono hbW.size);generalize w4.alloc (.cells #[.slice sA rn sc] 23)=W5 at *;rw [<-z5] at hs6 ⊢;have b2:Below W5 W5 (W5.alloc (.cells #[.int .i64 rn,.slice (some w4) 1 1,.slice none 0 0,.slice none 0 0] 25)):=bal
 have H0:DuL w ⟨V,⟨oA,on,oc⟩,⟨rA,rn,rc⟩,⟨bA,rn,bc⟩⟩ W5 rn V (L+1) ⟨some ⟨w4,0,none⟩,1,1⟩ [bs.map fun q=>- q] os rs (.int .i64 0) (W5.alloc (.cells #[.int .i64 rn,.slice (some w4) 1 1,.slice none 0 0,.slice none 0 0] 25)):=
  ⟨0,fun y=>y=W5.heap.size\/y=w.heap.size+1,.slice none 0 0,.slice none 0 0,[],[],nzl _,rfl,hbW.trans (b2.mono hbW.size),bP.below b2 s0,bR.below b2 s1,by omega,zAd _ _ rfl,.inl rfl,.inr rfl,fun y hy=>by have:=b2.size; simp at this ⊢; omega,
   ⟨rfl,nlr _,by show 1<=_; omega,fun i hi=>by
    obtain rfl:i=0:=by have hi':i<1:=hi; omega
    refine ⟨⟨w4,0,none⟩,⟨sA,rn,sc⟩,rfl,by show ¬ (w4.heap.size=W5.heap.size\/w4.heap.size=w.heap.size+1); omega,?_,(hs6.below b2).imp (fun b _ hb=>by have:=hb.1; have:=hb.2; omega) fun _ _ hq=>hq.imp fun b _ hb=>by have:=hb.1; have:=hb.2; omega⟩;rw [b2.cell (by show w4.heap.size<_; omega)];simp [World.cell?,m1,Addr.add]⟩,MatS.nil _ _ _,ValS.nil _ _ _ _⟩
 clear hs2 hs6 b1 m1 z5 hfb;have bP6:=bP.below b2 s0;clear bP bR s0 s1 hbW b2;generalize W5.alloc (.cells #[.int .i64 rn,.slice (some w4) 1 1,.slice none 0 0,.slice none 0 0] 25)=W6 at *;generalize W5.heap.size=pb at *;generalize w4.heap.size=sb at *;obtain ⟨p0,p1,p2,p3,-⟩:=id bP6;go_wp2;clear p0 p1 p2 p3 bP6;go_loopw [38] (fun t W=>DuL w ⟨V,⟨oA,on,oc⟩,⟨rA,rn,rc⟩,⟨bA,rn,bc⟩⟩ pb rn V (L+1) ⟨some ⟨sb,0,none⟩,1,1⟩ [bs.map fun q=>- q] os rs t W) (fun t _=>V-(intOf t).toNat)
 case atStart=>exact H0
 case round=>
  clear H0;obtain ⟨k,G,vr,vb,ss,qs,hk,rfl,hI⟩:=hrel;obtain ⟨vA,vc,rfl,-,-⟩:=zKU hI.rows.own;obtain ⟨uA,uc,rfl,-,-⟩:=zKU hI.bnd.own;have hpl:=zAa hI.blk;have hp:=hI.hp;have HI:=hdq hI;by_cases e:k<V
  ·have e1:(k:Int)<(V:Int):=(by omega);obtain ⟨p0,p1,p2,p3,-⟩:=id hI.bp;dsimp only at p0 p1 p2 p3;clear hI;go_wp2;obtain ⟨wA,hwA⟩:∃ wA:World,wA=wr:=⟨_,rfl⟩;subst hwA;have hb0:Below wA wA (wA.alloc (.cells (zeroQ rn) 30)):=bal
   have H2:FillLoop wA wA (fun i=>- ((rs.getD i []).getD k 0)) rn rn (fun _=>True) (.int .i64 0) (wA.alloc (.cells (zeroQ rn) 30)):=
    ⟨0,nzl _,rfl,by rw [zEe]; exact RowAt.made wA rn _ (.inr rfl),hb0,trivial⟩
   clear hb0 p0 p1 p2 p3;generalize wA.alloc (.cells (zeroQ rn) 30)=WB at *;(go_loopw [45] (fun t W=>FillLoop wA wA (fun i=>- ((rs.getD i []).getD k 0)) rn rn (fun _=>True) t W) (fun t _=>rn-(intOf t).toNat));case atStart=>exact H2
   case round=>
    clear H2;obtain ⟨i,hi,rfl,hR,hB,-⟩:=hrel;have hRl:=hR.lt;have hb8:Below w w wr:=HI.out.bel.trans (hB.mono HI.out.bel.size);by_cases hlt:i<rn
    ·have hii:(i:Int)<(rn:Int):=(by omega);obtain ⟨p0,p1,p2,p3,-⟩:=id (HI.out.bp.below hB (by omega));dsimp only at p0 p1 p2 p3;(go_wp2_with fail);refine (zFd (s:=⟨rA,rn,rc⟩) (H.out.below hb8).rows i k hlt (by omega) HL.out).mono ?_; rintro e w1 ⟨⟨z,rfl,hz⟩,h1⟩
     (go_wp2_with fail);refine (zHK (hz.qis (MatAt.fit H.out.rows i k)) HL1.out).mono ?_; rintro e w2 ⟨⟨y,rfl,hy⟩,h2⟩
     have h12:=h1.trans (h2.mono h1.size);have hR1:=hR.below h12;obtain ⟨zv,⟨d0,d1,d2,d3⟩,-⟩:=hR1.elem i (by rw [zBj _ (by omega)]; omega);have fz:=hR1.frozen;have hy2:QCan w2 (New wr) y (- ((rs.getD i []).getD k 0)):=hy.imp fun b _ hb=>nlt h1.size hb
     dsimp only at d1 d2 d3;clear hz hy p0 p1 p2 p3;go_wp2;go_roundw;case rel=>exact FillLoop.step (B:=wr) hlt (nlr _) hR hB h12 hB.size hRl (nlr _) hy2 trivial
     case measure=>simp [intOf]; omega
    ·(obtain rfl:i=rn:=by omega);rw [zGv] at hR
     have hrow:VecCan wr (New wA) (New wA) ⟨some ⟨wA,0,none⟩,i,i⟩ ((List.range i).map fun j=>- ((rs.getD j []).getD k 0)):=by
      obtain ⟨⟨a,n,c⟩,e3,hv⟩:=VRet.of (n:=i) (by simp) (by omega) (nlr _) hR;simp only [Ending.returned.injEq,SV.val,Value.slice.injEq] at e3;obtain ⟨rfl,rfl,rfl⟩:=e3;exact hv
     have hI5:=HI.out.call hB;have hsG:VecCan wr (fun b=>¬ G b) (fun b=>¬ G b) ⟨some ⟨wA,0,none⟩,i,i⟩ ((List.range i).map fun j=>- ((rs.getD j []).getD k 0)):=hrow.imp (fun b _ hb hg=>by have:=(HI.out.gin b hg).2; simp only [New] at hb; omega) fun _ _ hq=>hq.imp fun b _ hb hg=>by have:=(HI.out.gin b hg).2; simp only [New] at hb; omega
     have hpl5:=zAa hI5.blk;have x2:wr.cell? ⟨pb,2,none⟩=some (.slice vA k vc):=(by simp [World.cell?,hI5.blk]);obtain ⟨p0,p1,p2,p3,-⟩:=id hI5.bp;dsimp only at p0 p1 p2 p3;have hown5:=hI5.rows.own;have HRow:=hdq hsG;have HI5:=hdq hI5;clear hrow hsG hI5 hR hmk;(go_wp2_with (at_builtin; refine wpList_append_own_at _ rfl _ _ 22 rfl (pb+1) 23 j0 (.slice none 0 0) 1 24 Tryz.underlying22 hjI hy0 hy1 hy2 rfl (by decide) (.slice vA k vc) k (ss.map SV.val) rfl (hown5.alloc _) ⟨wr,0,none⟩ 1 1 [.slice (some wA) i i] rfl rfl (cell_one_new _ _ _) (by intro u hu; simp at hu; subst hu; rfl) (by simp [maxLen]; omega) (by omega) (by simp; omega) ?_));intro v3 W3 hown3 hg3 hnil3 hat3;obtain ⟨g3,c3',rfl⟩:=ownsRow_succ hown3;have hat3':=hat3.imp (id) fun (e:_=_)=>show (Value.slice (some g3) (k+1) c3').ownBlock=some (wr.alloc (.cells #[.slice (some wA) i i] 23)).heap.size by rw [e]; simp
     have hD3:=HI5.out.addR (s:=⟨some ⟨wA,0,none⟩,i,i⟩) HRow.out hown3 hg3 hat3';have hst:=(HI5.out.rows.step HRow.out hown3 hg3 hat3').2.1;have hb3:=hst.block pb hpl5 fun e=>by have:=(HI5.out.rows.lt e).1; omega
     have d2:W3.cell? ⟨pb,2,none⟩=some (.slice vA k vc):=(cob (a:=⟨pb,2,none⟩) hb3).trans x2;have df:∀ o,W3.frozen? ⟨pb,o,none⟩=false:=(fun o=>(World.frozen?_of_block (a:=⟨pb,o,none⟩) hb3).trans (by simp [World.frozen?,HI5.out.blk]));have HD3:=hdq hD3;clear hown5 hown3 hg3 hnil3 hat3 hat3' hst hb3 hD3 HI5 x2 p0 p1 p2 p3;(go_upto_region 16 with fail);obtain ⟨G5,hG5⟩:∃ G5:Nat->Prop,Hid (G5=fun y=>G y\/(Value.slice (some g3) (k+1) c3').ownBlock=some y):=⟨_,rfl⟩;rw [<-hG5.out] at HD3;clear hG5 d2 df;generalize W3.setCell ⟨pb,2,none⟩ (.slice (some g3) (k+1) c3')=W4 at *;generalize Value.slice (some g3) (k+1) c3'=vr at *;generalize ss++[⟨some ⟨wA,0,none⟩,i,i⟩]=ss2 at *;have hD:=HD3.out;have hpl4:=zAa hD.blk;obtain ⟨p0,p1,p2,p3,-⟩:=id hD.bp;dsimp only at p0 p1 p2 p3;have y3:W4.cell? ⟨pb,3,none⟩=some (.slice uA k uc):=(by simp [World.cell?,hD.blk]);have hdr:Below W4 W4 W4.drew:=(brf _ _).drew;refine zAp 8 (fun f w'=>w'.cell? ⟨w.heap.size,1,none⟩=some (.slice oA on oc)/\(f=false->w'.cell? ⟨pb,3,none⟩=some (.slice uA k uc))) (by kernel_rfl) ?_;have hS0:W4.drew.cell? ⟨w.heap.size,1,none⟩=some (.slice oA on oc)/\(false=false->W4.drew.cell? ⟨pb,3,none⟩=some (.slice uA k uc)):=⟨p1,fun _=>y3⟩;refine tx1 0 hS0 ?_;refine tkW 1 (.slice uA k uc) (fun w' hSw=>?_) (hS0) ?_
     ·have:=hSw.2 rfl; go_simp
     simp only [zz];refine tx1 2 hS0 ?_;refine tx1 3 hS0 ?_;refine tx1 4 hS0 ?_;refine tk1 5 ?_;intro K hK;go_simp;refine (zFd (s:=⟨oA,on,oc⟩) ((H.out.below hD.bel).obj.below hdr) 0 k (by show 0<on; omega) (by omega) HL.out).mono ?_; rintro e w3 ⟨⟨z,rfl,hz⟩,hb3⟩
     dsimp only;have h3:=hdr.trans hb3;refine hK.out _ _ ⟨(h3.cell (p:=⟨w.heap.size,1,none⟩) (by show w.heap.size<_; omega)).trans p1,fun _=>(h3.cell (p:=⟨pb,3,none⟩) hpl4).trans y3⟩ ?_;clear hK K;refine tk1 6 ?_;intro K hK;go_simp;refine (zHK (hz.qis (MatAt.fit H.out.obj 0 k)) HL1.out).mono ?_; rintro e w5 ⟨⟨y,rfl,hy⟩,hb4⟩
     dsimp only;have h4:Below W4 W4 w5:=h3.trans (hb4.mono h3.size);have hs4:=h4.size;refine hK.out _ _ ⟨(h4.cell (p:=⟨w.heap.size,1,none⟩) (by show w.heap.size<_; omega)).trans p1,fun _=>(h4.cell (p:=⟨pb,3,none⟩) hpl4).trans y3⟩ ?_;clear hK K;have hD4:=hD.call h4
     have hyG:QIs w5 (fun b=>¬ G5 b) (L+1) y (-((os.getD 0 []).getD k 0)):=(hy.imp (Y:=fun b=>¬ G5 b) fun b _ hb hg=>by have:=(hD.gin b hg).2; have:=h3.size; simp only [New] at hb; omega).qis (by
      have h1:=MatAt.fit H.out.obj 0 k;unfold QFit at *;simpa using h1)
     have hown4:=hD4.bnd.own;refine tk1 7 ?_;intro K hK;go_simp;have al:Below w5 w5 (w5.alloc (.cells #[.bool y.num.ng,.slice y.num.A y.num.n y.num.c,.bool y.den.ng,.slice y.den.A y.den.n y.den.c] 30)):=bal;have h5:=h4.trans (al.mono hs4);refine hK.out _ _ ⟨(h5.cell (p:=⟨w.heap.size,1,none⟩) (by show w.heap.size<_; omega)).trans p1,fun _=>(h5.cell (p:=⟨pb,3,none⟩) hpl4).trans y3⟩ ?_;clear hK K;refine tk1 8 ?_;intro K hK;refine zAq _ _ 23 rfl (pb+1) 30 k0 (.agg #[.bool false,.slice none 0 0,.bool false,.slice none 0 0]) 4 64 Tryz.underlying23 hk0 hx0 hx1 hx2 rfl (by decide) (.slice uA k uc) k (qs.flatMap cells4q) rfl (hown4.alloc _) ⟨w5,0,none⟩ 1 1 (cells4q y) rfl rfl (zA1 _ _) (by intro u hu; simp [cells4q] at hu; rcases hu with rfl | rfl | rfl | rfl <;> rfl) (by simp [maxLen]; omega) (by omega) (by simp; omega) ?_;intro v' W5 hown5 hg5 hnil5 hat5;obtain ⟨g5,c5,rfl⟩:=ownsRow_succ hown5;have hg:(w5.alloc (.cells #[.bool y.num.ng,.slice y.num.A y.num.n y.num.c,.bool y.den.ng,.slice y.den.A y.den.n y.den.c] 30)).grownBy W5 (Value.slice uA k uc).ownBlock:=⟨hg5.1,hg5.2,hg5.3,hg5.size,hg5.block⟩;have hst:=(hD4.bnd.step hyG hown5 hg hat5).2.1;have hD5:=hD4.addB hyG hown5 hg hat5;have hpl5:=zAa hD4.blk;have nb:∀ j,j<=pb->¬ (Value.slice uA k uc).ownBlock=some j:=fun j hj e=>by have:=(hD4.bnd.lt e).1; omega
     have hb5:=hst.block pb hpl5 (nb _ (nlr _));have d3:W5.cell? ⟨pb,3,none⟩=some (.slice uA k uc):=((cob (a:=⟨pb,3,none⟩) hb5).trans (h4.cell (p:=⟨pb,3,none⟩) hpl4)).trans y3;have df:∀ o,W5.frozen? ⟨pb,o,none⟩=false:=(fun o=>(World.frozen?_of_block (a:=⟨pb,o,none⟩) hb5).trans (by simp [World.frozen?,hD4.blk]));have p5:W5.cell? ⟨w.heap.size,1,none⟩=some (.slice oA on oc):=((cob (a:=⟨w.heap.size,1,none⟩) (hst.block w (by omega) (nb w (by omega)))).trans (h4.cell (p:=⟨w.heap.size,1,none⟩) (by show w.heap.size<_; omega))).trans p1
     have Hfin:Hid (DuL w ⟨V,⟨oA,on,oc⟩,⟨rA,i,rc⟩,⟨bA,i,bc⟩⟩ pb i V (L+1) ⟨some ⟨sb,0,none⟩,1,1⟩ [bs.map fun q=>- q] os rs (.int .i64 ((k:Int)+1)) (W5.setCell ⟨pb,3,none⟩ (.slice (some g5) (k+1) c5))):=by
      have e1:dRows i rs (k+1)=dRows i rs k++[(List.range i).map fun j=>- ((rs.getD j []).getD k 0)]:=by unfold dRows; rw [List.range_succ,List.map_append]; rfl
      have e2:dBnd os (k+1)=dBnd os k++[- ((os.getD 0 []).getD k 0)]:=by unfold dBnd; rw [List.range_succ,List.map_append]; rfl
      rw [<-e1,<-e2] at hD5;exact ⟨k+1,_,vr,_,ss2,qs++[y],by omega,by simp,hD5⟩
     simp only [Act.put,zz];refine hK.out _ _ ⟨p5,fun h=>absurd h (by decide)⟩ ?_;clear hK K;refine tk1 9 ?_;intro K hK;go_simp;refine hK.out _ _ ⟨p5,fun h=>absurd h (by decide)⟩ ?_;clear hK K;refine tk1 10 ?_;intro K hK;go_simp;refine hK.out _ _ ⟨(World.cell?_setCell_far _ _ _ _ (by show pb ≠ w.heap.size; omega)).trans p5,fun h=>absurd h (by decide)⟩ ?_;clear hK K;refine zAf (by kernel_rfl) ?_ _;clear hD HD3 hD4 hD5 hown4 hown5 hg hg5 hnil5 hat5 d3 df p5 hb5 hst nb p0 p1 p2 p3 y3 al h3 h4 h5 hb3 hb4 hz hy hyG hS0 hdr HRow;go_wp2;go_roundw;case rel=>exact fn_ Hfin.out
     case measure=>simp [intOf]; omega
  ·(obtain rfl:k=V:=by omega);have x0:wr.cell? pb=some (.int .i64 rn):=(by simp [World.cell?,hI.blk]);have x1:wr.cell? ⟨pb,1,none⟩=some (.slice (some sb) 1 1):=(by simp [World.cell?,hI.blk]);have x2:wr.cell? ⟨pb,2,none⟩=some (.slice vA k vc):=(by simp [World.cell?,hI.blk]);have x3:wr.cell? ⟨pb,3,none⟩=some (.slice uA k uc):=(by simp [World.cell?,hI.blk]);obtain ⟨r0,r1,r2,r3,rf⟩:=id hI.br;clear hI;go_wp2
   have hF:Fr (fun y=>y=w.heap.size+1) wr ((((wr.setCell ⟨w+1,0,none⟩ (.int .i64 rn)).setCell ⟨w.heap.size+1,1,none⟩ (.slice (some sb) 1 1)).setCell ⟨w.heap.size+1,2,none⟩ (.slice vA k vc)).setCell ⟨w.heap.size+1,3,none⟩ (.slice uA k uc)):=
    ((((Fr.refl (fun y=>y=w.heap.size+1) wr).set (p:=⟨w+1,0,none⟩) rfl _).set (p:=⟨w.heap.size+1,1,none⟩) rfl _).set (p:=⟨w.heap.size+1,2,none⟩) rfl _).set (p:=⟨w.heap.size+1,3,none⟩) rfl _
   have bR8:=HI.out.br.stored (.int .i64 rn) (.slice (some sb) 1 1) (.slice vA k vc) (.slice uA k uc);generalize (((wr.setCell ⟨w+1,0,none⟩ (.int .i64 rn)).setCell ⟨w.heap.size+1,1,none⟩ (.slice (some sb) 1 1)).setCell ⟨w.heap.size+1,2,none⟩ (.slice vA k vc)).setCell ⟨w.heap.size+1,3,none⟩ (.slice uA k uc)=y8 at *;obtain ⟨v0,v1,v2,v3,-⟩:=id bR8;have hHG:∀ y,y=w.heap.size+1->G y:=(fun y hy=>hy ▸ HI.out.gr);have hmo:=matG HI.out.mo hF hHG (More.refl _ _);have hrw:=HI.out.rows.keep hF (fun j hj e=>by have:=(HI.out.rows.lt hj).1; omega) hHG (More.refl _ _);have hbn:=HI.out.bnd.keep hF (fun j hj e=>by have:=(HI.out.bnd.lt hj).1; omega) hHG (More.refl _ _)
   have hfr:∀ i j,QFit (L+1) (((dRows rn rs k).getD i []).getD j 0):=fun i j=>by
    unfold dRows;by_cases hi:i<k
    ·rw [zA6 _ _ _ _ hi];by_cases hj:j<rn
     ·rw [zA6 _ _ _ _ hj];have h1:=MatAt.fit H.out.rows j i;unfold QFit at *;simpa using h1
     ·rw [zAw _ _ _ (by simp; omega)]; exact QFit.zero L
    ·have e:((List.range k).map fun j=>(List.range rn).map fun i=>- ((rs.getD i []).getD j 0)).getD i []=[]:=zAw _ _ _ (by simp; omega);rw [e]; exact QFit.zero L
   obtain ⟨⟨a1,a2,a3⟩,eR,-,mR⟩:=hrw.mat (L:=L+1) hfr;obtain ⟨⟨b1,b2,b3⟩,eB,-,mB⟩:=hbn.vec;simp only [SV.val,Value.slice.injEq] at eR eB;obtain ⟨rfl,rfl,rfl⟩:=eR;obtain ⟨rfl,rfl,rfl⟩:=eB
   exact bodyPost_ret (v:=.tuple #[.agg #[.int .i64 rn,.slice (some sb) 1 1,.slice vA k vc,.slice uA k uc],.int .i64 0]) (by simp [results,Tryz.results175,go_sem,v0,v1,v2,v3]) rfl
    ⟨⟨⟨rn,⟨some ⟨sb,0,none⟩,1,1⟩,⟨vA,k,vc⟩,⟨uA,k,uc⟩⟩,rfl,rfl,hmo.imp (fun _ _ _=>trivial) fun _ _ hq=>hq.imp fun _ _ _=>trivial,mR,mB.imp (fun _ _ _=>trivial) fun _ _ hq=>hq.imp fun _ _ _=>trivial⟩,HI.out.bel.trans (hF.below HI.out.bel.size fun y e=>by omega)⟩
theorem zQ4 {l:List Rat} (h:VecIs w X Y L s l) (h1:1<=n) (hn:n<=1000) (hL:L<=LM) :
  Calls Tryz.prog 35 #[s.val,.int .i64 (n:Int)] w fun e w'=>(∃ b,e = .returned (.slice (some ⟨b,0,none⟩) n n)/\w.heap.size<=b/\RowAt w' (fun x=>x<w.heap.size\/x=b) b (resize l n))/\Below w w w':=by
 refine (zLn h n hn hL).mono ?_;rintro e w' ⟨h1 | ⟨b,rfl,hb,hR⟩,hB⟩
 ·omega
 ·exact ⟨⟨b,by rw [zMD],hb,hR⟩,hB⟩
theorem zSa (h:LPIs w AllB AllB L p [bs.map fun q=>- q] (dRows M rs V) (dBnd os V)):p.O.n=1/\p.R.n=V/\p.B.n=V:=by
 refine ⟨h.obj.len.symm,?_,?_⟩
 ·rw [<-h.rows.len]; simp [dRows]
 ·rw [<-h.bounds.len]; simp [dBnd]
theorem zRX (M:Nat) (rs:List (List Rat)) (V:Nat):colsOf (dRows M rs V)<=M:=zAU.2 fun r hr=>by
 obtain ⟨j,-,rfl⟩:=List.mem_map.1 hr;simp
def OnlyX (P:Lin.Prob) (xl:List Rat):Prop:=∀ D k,PInv P none D->Ends P none D k->k=1/\(k=1->(List.range P.m).map (D.dual P)=xl)
theorem OnlyX.prices {P:Lin.Prob} {xl:List Rat} (h:OnlyX P xl) {e:Ending} (hp:PricesRet w P e w'):∃ y:SV,e = .returned (.tuple #[y.val,.int .i64 0])/\VecCan w' (New w) (New w) y xl:=by
 rcases hp with ⟨D,y,hI,hE,rfl,hy⟩ | ⟨D,hI,hE,rfl⟩ | ⟨D,hI,hE,rfl⟩
 ·rw [(h D 1 hI hE).2 rfl] at hy;exact ⟨y,rfl,hy⟩
 ·have:=(h D 2 hI hE).1; omega
 ·have:=(h D 3 hI hE).1; omega
theorem zRh {xl:List Rat} (h:LPIs w AllB AllB L p os rs bs) (hV:p.n=V) (hV1:1<=V) (hV2:V<=4) (ho1:1<=p.O.n) (ho2:p.O.n<=4) (hM:p.R.n=M) (hr:M<=4) (hb:p.B.n=M) (hco:colsOf os<=V) (hcr:colsOf rs<=V) (hL:L<=40)
  (hk:k<V) (hx:OnlyX (prob1 M [bs.map fun q=>- q] (dRows M rs V) (dBnd os V)) xl) (hf:∀ i,QFit 1000 (xl.getD i 0)) :
  Calls Tryz.prog 105 #[p.val,z.val,.int .i64 (k:Int)] w fun e w'=>QRet w (xl.getD k 0) e w'/\Below w w w':=by
 obtain ⟨z0,⟨oA,on,oc⟩,⟨rA,rn,rc⟩,⟨bA,bn,bc⟩⟩:=p;dsimp only at hV ho1 ho2 hM hb;subst hV hM;obtain rfl:rn=bn:=hb.symm;have H:=hdq h;have HCo:=hdq hco;have HCr:=hdq hcr;have HX:=hdq hx;have HF:=hdq hf;have HL1:Hid (L+1<=LM):=hdq (by rw [zAZ]; omega);have HLK:Hid (1000<=LM):=hdq (by rw [zAZ]; omega);have HBL:Hid (colsOf [bs.map fun q=>- q]<=rn):=hdq (zQ8 (by rw [List.length_map,h.bounds.len]; exact nlr _));clear h hco hcr hx hf hb;dsimp only [LPV.val,SV.val];go_enter Tryz.func105,Tryz.ntmps105
 go_upto_region 1 with fail
 refine zAo (fun W=>Below w w W/\Box4 W w (.int .i64 V) (.slice oA on oc) (.slice rA rn rc) (.slice bA rn bc)/\Box4 W (w+1) (.bool z.num.ng) (.slice z.num.A z.num.n z.num.c) (.bool z.den.ng) (.slice z.den.A z.den.n z.den.c)/\Box4 W (w+1+1) (.bool false) (.slice none 0 0) (.bool false) (.slice none 0 0)/\w.heap.size<W.heap.size/\w.heap.size+1<W.heap.size/\w.heap.size+1+1<W.heap.size) ⟨(az (az (az (brf _ _)))),bx4,bx4,bx4,by simp <;> omega,by simp <;> omega,by simp <;> omega⟩ ?_;rintro W ⟨hbW,bP,bZ,bR,s0,s1,s2⟩;have hBW:=hbW.size;have ne02:¬ (w.heap.size=w.heap.size+1+1):=by omega
 obtain ⟨p0,p1,p2,p3,-⟩:=id bP;go_wp2_with fail
 refine (zQM (p:=⟨V,⟨oA,on,oc⟩,⟨rA,rn,rc⟩,⟨bA,rn,bc⟩⟩) (V:=V) (M:=rn) (H.out.below hbW) rfl (by omega) ho1 ho2 rfl (by omega) rfl HCo.out HCr.out HL1.out).mono ?_;rintro e w1 ⟨⟨⟨qn,⟨qoA,qon,qoc⟩,⟨qrA,qrn,qrc⟩,⟨qbA,qbn,qbc⟩⟩,rfl,hqn,hq⟩,hb1⟩;obtain ⟨e1,e2,e3⟩:=zSa hq;dsimp only at hqn e1 e2 e3;replace e2:V=qrn:=e2.symm;replace e3:V=qbn:=e3.symm;subst hqn e1 e2 e3;have HQ:=hdq hq;replace bP:=bP.below hb1 s0;replace bR:=bR.below hb1 s2;have hB:=hbW.trans (hb1.mono hBW);have hz1:w.heap.size+1+1<w1.heap.size:=ltl s2 hb1.size;clear p0 p1 p2 p3 hb1 hbW hBW bZ s0 s1 s2 ne02 hq;have hki:(k:Int)<(V:Int):=by omega
 have hk0:¬ ((k:Int)<0):=by omega
 dsimp only [LPV.val,SV.val];go_wp2_with fail
 have al1:Below w1 w1 (w1.alloc (.cells #[.int .i64 rn,.slice qoA 1 qoc,.slice qrA V qrc,.slice qbA V qbc] 25)):=bal;have hQ1:=HQ.out.below al1;refine (zDb (V:=rn) (p:=⟨rn,⟨qoA,1,qoc⟩,⟨qrA,V,qrc⟩,⟨qbA,V,qbc⟩⟩) hQ1 rfl (by omega) (by show 1<=1; omega) (by show 1<=4; omega) (by show V<=128; omega) rfl HBL.out (zRX _ _ _) (by omega)).mono ?_;rintro e w2 ⟨hp,hb2⟩;obtain ⟨⟨yA,yn,yc⟩,rfl,hy⟩:=HX.out.prices hp;have hb12:Below w1 w1 w2:=(bal).trans (hb2.mono (by simp));replace bP:=bP.below hb12 (by omega);replace bR:=bR.below hb12 (by omega);replace hB:=hB.trans (hb12.mono hB.size);have hz2:w.heap.size+1+1<w2.heap.size:=ltl hz1 hb12.size;have HY:=hdq (hy.loose HF.out);clear hp hy hb2 hb12 hz1;obtain ⟨p0,p1,p2,p3,-⟩:=id bP;dsimp only [SV.val];go_wp2_with fail
 refine (zQ4 (s:=⟨yA,yn,yc⟩) (n:=V) HY.out hV1 (by omega) HLK.out).mono ?_;rintro e w3 ⟨⟨b,rfl,hb,hR⟩,hb3⟩;obtain ⟨u,⟨d0,d1,d2,d3⟩,hu⟩:=hR.elem k (by rw [zMD]; exact hk);dsimp only at d1 d2 d3;have bR3:=bR.below hb3 hz2;have hB3:=hB.trans (hb3.mono hB.size);have hz3:=hb3.size;obtain ⟨v0,v1,v2,v3,-⟩:=bR3.stored (.bool u.num.ng) (.slice u.num.A u.num.n u.num.c) (.bool u.den.ng) (.slice u.den.A u.den.n u.den.c);have HB:=hdq (zAl (x0:=.bool u.num.ng) (x1:=.slice u.num.A u.num.n u.num.c) (x2:=.bool u.den.ng) (x3:=.slice u.den.A u.den.n u.den.c) (b:=w+1+1) hB3 (by omega));have HU:=hdq (((hu.imp (Y:=New w2) fun x _ hx=>by simp only [New]; omega).set4 (b:=w+1+1) (x0:=.bool u.num.ng) (x1:=.slice u.num.A u.num.n u.num.c) (x2:=.bool u.den.ng) (x3:=.slice u.den.A u.den.n u.den.c) hz2).lower (show w.heap.size<=_ by omega));have HG:Hid ((resize xl V).getD k 0=xl.getD k 0):=hdq (by unfold resize; rw [zA6 _ _ _ _ hk]);obtain ⟨r0,r1,r2,r3,rf⟩:=id bR3;clear hu hB hB3 hb3 hR bR bR3 p0 p1 p2 p3;go_wp2;exact bodyPost_ret (v:=u.val) (by simp [results,Tryz.results105,go_sem,v0,v1,v2,v3]) rfl ⟨⟨u,rfl,by rw [<-HG.out]; exact HU.out⟩,HB.out⟩
def sdRow (r:List Rat) (V k:Nat) (q b:Rat):List Rat:=(resize r V).set k ((resize r V).getD k 0*q-b)
def sdRows (rs:List (List Rat)) (bs:List Rat) (V k:Nat) (q:Rat) (n:Nat):List (List Rat):=(List.range n).map fun i=>sdRow (rs.getD i []) V k q (bs.getD i 0)
theorem zRJ {r:List Rat} {b:Rat} (hr:∀ j,QFit (L+1) (r.getD j 0)) (hq:QFit 1000 q) (hb:QFit 1000 b) (hL:L<=40) (j:Nat):QFit 3000 ((sdRow r V k q b).getD j 0):=by
 have f:=zNC hr V;unfold sdRow;by_cases e:k<(resize r V).length
 ·rw [show ((resize r V).set k ((resize r V).getD k 0*q-b)).getD j 0=if j=k then (resize r V).getD k 0*q-b else (resize r V).getD j 0 by
   simp only [gdd,List.getElem?_set];by_cases h:k=j
   ·subst h; simp [e]
   ·simp [h,show ¬ j=k from fun x=>h x.symm]]
  split
  ·exact zBn (((zAR (f k)).mul (zAR hq)).sub (zAR hb)) (by omega)
  ·exact (f j).up (by omega)
 ·rw [List.set_eq_of_length_le (by omega)];exact (f j).up (by omega)
abbrev SdS (w0:Nat) (ad:Addr) (pl bv:QV) (bA:Option Addr) (bn bc:Nat) (_:Bool) (w':World):Prop:=
 BoxQ w' (w0+1+1) pl/\w'.cell? ⟨w0,3,none⟩=some (.slice bA bn bc)/\(w'.cell? ad=some (.bool bv.num.ng)/\w'.cell? ⟨ad.block,ad.off+1,none⟩=some (.slice bv.num.A bv.num.n bv.num.c)/\w'.cell? ⟨ad.block,ad.off+2,none⟩=some (.bool bv.den.ng)/\w'.cell? ⟨ad.block,ad.off+3,none⟩=some (.slice bv.den.A bv.den.n bv.den.c))
theorem zSj {a:Addr} {v:QV} (h:QCell w a v) (hb:Below w w w'):QCell w' a v:=by
 obtain ⟨a0,a1,a2,a3⟩:=h;exact ⟨cellK hb a0,cellK hb a1,cellK hb a2,cellK hb a3⟩
theorem zRK {w0:Nat} {bv:QV} {bA:Option Addr} {bn bc:Nat} {f:Bool} (h:SdS w0 ad pl bv bA bn bc f w) (hb:Below w w w'):SdS w0 ad pl bv bA bn bc f' w':=
 ⟨h.1.below hb (zAb h.1.1),cellK hb h.2.1,zSj (v:=bv) h.2.2 hb⟩
theorem zSy {w0:Nat} {bv:QV} {bA:Option Addr} {bn bc:Nat} {f:Bool} (h:SdS w0 ad pl bv bA bn bc f w) (h1:w0+1+1 ≠ b) (h2:w0 ≠ b) (h3:ad.block ≠ b) (k:Nat) (x:QV):SdS w0 ad pl bv bA bn bc f' (put4 w b k x):=by
 obtain ⟨a,e,c0,c1,c2,c3⟩:=h;exact ⟨a.heap (zAx w b k x h1),(zCq w b k x h2).trans e,(zCq w b k x (p:=ad) h3).trans c0,(zCq w b k x (p:=⟨ad.block,ad.off+1,none⟩) h3).trans c1,(zCq w b k x (p:=⟨ad.block,ad.off+2,none⟩) h3).trans c2,(zCq w b k x (p:=⟨ad.block,ad.off+3,none⟩) h3).trans c3⟩
theorem zRe (r:List Rat) (V k:Nat) (q b:Rat):(sdRow r V k q b).length=V:=by simp [sdRow,resize]
structure SdI (w:World) (p:LPV) (z pl:QV) (pb V L:Nat) (o:SV) (ol:List Rat) (G:Nat->Prop) (k:Nat) (vr:Value) (ss:List SV) (m:List (List Rat)) (W:World):Prop where
 bel:Below w w W
 bp:BoxL W w p
 bq:BoxQ W (w+1+1) pl
 br:Box4 W (w+1+1+1) (.int .i64 0) (.slice none 0 0) (.slice none 0 0) (.slice none 0 0)
 hp:w.heap.size+1+1+1<pb
 blk:W.heap[pb]?=some (.cells #[.int .i64 (V:Int),o.val,vr,.slice none 0 0] 25 (0,0))
 gp:G pb
 gr:G (w+1+1+1)
 gin:∀ y,G y->w.heap.size+1+1<y/\y<W.heap.size
 mo:MatIs W (fun b=>¬ G b) (fun b=>¬ G b) L o [ol]
 rows:MatS W (pb+1) G vr k ss m
section
variable {w W W' W2:World} {p:LPV} {z pl:QV} {pb V L k k':Nat} {o:SV} {ol:List Rat} {G G' H:Nat->Prop} {vr vr' v':Value} {ss ss':List SV} {m m':List (List Rat)}
theorem SdI.frame (h:SdI w p z pl pb V L o ol G k vr ss m W) (hF:Fr H W W') (hHG:∀ y,H y->G y) (hHp:∀ y,H y->pb<=y) (hG:More W G G') (hgin:∀ y,G' y->w.heap.size+1+1<y/\y<W'.heap.size) (hb:W'.heap[pb]?=some (.cells #[.int .i64 (V:Int),o.val,vr',.slice none 0 0] 25 (0,0)))
  (hr:MatS W' (pb+1) G' vr' k' ss' m'):SdI w p z pl pb V L o ol G' k' vr' ss' m' W':=by
 have hpl:=zAa h.blk;have hp:=h.hp;have no:∀ y,y<pb->¬ H y:=fun y hy e=>by have:=hHp y e; omega
 exact ⟨h.bel.trans (hF.below h.bel.size fun y e=>by have:=hHp y e; omega),h.bp.heap (hF.block _ (by omega) (no _ (by omega))),h.bq.heap (hF.block _ (by omega) (no _ (by omega))),h.br.heap (hF.block _ (by omega) (no _ (by omega))),hp,hb,hG.old _ h.gp,hG.old _ h.gr,hgin,matG h.mo hF hHG hG,hr⟩
theorem SdI.call (h:SdI w p z pl pb V L o ol G k vr ss m W) (hb:Below W W W'):SdI w p z pl pb V L o ol G k vr ss m W':=
 h.frame (H:=fun _=>False) (Fr.of_below hb) (fun _ e=>e.elim) (fun _ e=>e.elim) (More.refl _ _) (fun y e=>⟨(h.gin y e).1,ltl (h.gin y e).2 hb.size⟩) ((hb.block _ (zAa h.blk)).trans h.blk)
  (h.rows.keep (H:=fun _=>False) (Fr.of_below hb) (fun _ _ e=>e) (fun _ e=>e.elim) (More.refl _ _))
theorem SdI.addR (h:SdI w p z pl pb V L o ol G k vr ss m W) {ob:Obj} {r:List Rat} (hs:VecCan W (fun b=>¬ G b) (fun b=>¬ G b) s r) (hown:W2.ownsRow (pb+1) 23 1 v' (k+1) (ss.map SV.val++[s.val])) (hg:(W.alloc ob).grownBy W2 vr.ownBlock) (hat:v'.ownBlock=vr.ownBlock\/v'.ownBlock=some (W.alloc ob).heap.size) :
  SdI w p z pl pb V L o ol (fun y=>G y\/v'.ownBlock=some y) (k+1) v' (ss++[s]) (m++[r]) (W2.setCell ⟨pb,2,none⟩ v'):=by
 obtain ⟨hr2,hF,hM⟩:=h.rows.step hs hown hg hat;have hpl:=zAa h.blk;have nv:¬ vr.ownBlock=some pb:=fun e=>by have:=(h.rows.lt e).1; omega
 have nv':∀ j,v'.ownBlock=some j->¬ j=pb:=fun j e=>by have:=(hr2.lt e).1; omega
 have hFs:Fr (fun y=>y=pb) W2 (W2.setCell ⟨pb,2,none⟩ v'):=(Fr.refl (fun y=>y=pb) W2).set (p:=⟨pb,2,none⟩) rfl v';have hFF:Fr (fun y=>vr.ownBlock=some y\/y=pb) W (W2.setCell ⟨pb,2,none⟩ v'):=(hF.mono fun y hy=>.inl hy).trans (hFs.mono fun y hy=>.inr hy);refine h.frame hFF (fun y hy=>hy.elim (h.rows.row y) fun e=>e ▸ h.gp) (fun y hy=>hy.elim (fun e=>by have:=(h.rows.lt e).1; omega) fun e=>by omega) hM (fun y hy=>?_) (by rw [zAe _ ((hF.block pb hpl nv).trans h.blk)]; simp) (hr2.keep hFs nv' (fun y hy=>by rw [hy]; exact .inl h.gp) (More.refl _ _));rcases hy with hy | hy
 ·exact ⟨(h.gin y hy).1,ltl (h.gin y hy).2 hFF.size⟩
 ·have h2:=hr2.lt hy;have:=h.hp;exact ⟨by omega,ltl h2.2 hFs.size⟩
end
theorem MatS.shape {ss:List SV} {m:List (List Rat)} (h:MatS W B G v k ss m):∃ A c,v = .slice A k c:=by
 rcases h.own.2 with ⟨rfl,rfl⟩ | ⟨g,cap,cur,rfl,-⟩
 ·exact ⟨none,0,rfl⟩
 ·exact ⟨_,_,rfl⟩
def SdL (w:World) (p:LPV) (z pl:QV) (pb V k L:Nat) (o:SV) (ol:List Rat) (rs:List (List Rat)) (bs:List Rat) (q:Rat) (t:Value) (W:World):Prop:=
 ∃ (i:Nat) (G:Nat->Prop) (vr:Value) (ss:List SV),i<=p.R.n/\t = .int .i64 (i:Int)/\SdI w p z pl pb V L o ol G i vr ss (sdRows rs bs V k q i) W
def SdRet (V k:Nat) (os rs:List (List Rat)) (bs:List Rat) (v q:Rat) (e:Ending) (w':World):Prop:=
 ∃ (O R:SV),e = .returned (LPV.val ⟨(V:Int),O,R,⟨none,0,0⟩⟩)/\MatIs w' AllB AllB 3000 O [sdRow (os.getD 0 []) V k q v]/\MatIs w' AllB AllB 3000 R (sdRows rs bs V k q rs.length)
abbrev SdT (w0:Nat) (pl z:QV) (_:Bool) (w':World):Prop:=BoxQ w' (w0+1+1) pl/\BoxQ w' (w0+1) z
theorem zRI {v:Rat} (h:LPIs w AllB AllB L p os rs bs) (hV:p.n=V) (hV2:V<=4) (ho1:1<=p.O.n) (hr:p.R.n<=4) (hb:p.B.n=p.R.n) (hL:L<=40)
  (hk:k<V) (hz:QIs w AllB 1000 z v) (hq:QIs w AllB 1000 pl q) (hvf:QFit 1000 v) (hqf:QFit 1000 q) :
  Calls Tryz.prog 106 #[p.val,z.val,.int .i64 (k:Int),pl.val] w fun e w'=>SdRet V k os rs bs v q e w'/\Below w w w':=by
 obtain ⟨z0,⟨oA,on,oc⟩,⟨rA,rn,rc⟩,⟨bA,bn,bc⟩⟩:=p;dsimp only at hV ho1 hr hb;subst hV hb;have H:=hdq h;have HZ:=hdq hz;have HQ:=hdq hq;have HVF:=hdq hvf;have HQF:=hdq hqf;have HL0:Hid (L<=LM):=hdq (by rw [zAZ]; omega);have HL1:Hid (L+1<=LM):=hdq (by rw [zAZ]; omega);have HLK:Hid (1000<=LM):=hdq (by rw [zAZ]; omega);have HL3:Hid (3000<=LM):=hdq (by rw [zAZ]; omega);have HRL:Hid (rs.length=bn):=h.rows.len;obtain ⟨oad,⟨rA0,rn0,rc0⟩,eo,-,hoc,hor⟩:=h.obj.row 0 ho1;dsimp only at eo;subst eo;rw [zRj] at hoc;obtain ⟨ob,oo,rfl⟩:=zRk hoc;have HO:=hdq hor;have lob:ob<w.heap.size:=zAb hoc;obtain ⟨j0,hjI,hy0,hy1,hy2⟩:=info_parts zFA;clear h hz hq hvf hqf hor;dsimp only [LPV.val,SV.val];go_enter Tryz.func106,Tryz.ntmps106
 go_upto_region 1 with fail
 refine zAo (fun W=>Below w w W/\Box4 W w (.int .i64 V) (.slice (some ⟨ob,oo,none⟩) on oc) (.slice rA bn rc) (.slice bA bn bc)/\Box4 W (w+1) (.bool z.num.ng) (.slice z.num.A z.num.n z.num.c) (.bool z.den.ng) (.slice z.den.A z.den.n z.den.c)/\Box4 W (w+1+1) (.bool pl.num.ng) (.slice pl.num.A pl.num.n pl.num.c) (.bool pl.den.ng) (.slice pl.den.A pl.den.n pl.den.c)/\Box4 W (w+1+1+1) (.int .i64 0) (.slice none 0 0) (.slice none 0 0) (.slice none 0 0)/\w.heap.size<W.heap.size/\w.heap.size+1<W.heap.size/\w.heap.size+1+1<W.heap.size/\w.heap.size+1+1+1<W.heap.size) ⟨(az (az (az (az (brf _ _))))),bx4,bx4,bx4,bx4,by simp <;> omega,by simp <;> omega,by simp <;> omega,by simp <;> omega⟩ ?_;rintro W ⟨hbW,bP,bZ,bQ,bR,s0,s1,s2,s3⟩;have hBW:=hbW.size;have ne02:¬ (w.heap.size=w.heap.size+1+1):=by omega
 have ne03:¬ (w.heap.size=w.heap.size+1+1+1):=by omega
 have ne13:¬ (w.heap.size+1=w.heap.size+1+1+1):=by omega
 have hoc1:=cellK hbW hoc;obtain ⟨p0,p1,p2,p3,-⟩:=id bP;refine zAp 7 (fun _ w'=>w'.cell? ⟨w.heap.size,1,none⟩=some (.slice (some ⟨ob,oo,none⟩) on oc)/\w'.cell? w=some (.int .i64 V)/\w'.cell? ⟨ob,oo,none⟩=some (.slice rA0 rn0 rc0)) (by kernel_rfl) ?_;have hS0:W.drew.cell? ⟨w.heap.size,1,none⟩=some (.slice (some ⟨ob,oo,none⟩) on oc)/\W.drew.cell? w=some (.int .i64 V)/\W.drew.cell? ⟨ob,oo,none⟩=some (.slice rA0 rn0 rc0):=⟨p1,p0,hoc1⟩;have hon:(0:Int)<(on:Int):=by omega
 have hon2:0<on:=by omega
 refine tx4 0 1 2 3 hS0 ?_;refine tx1 4 hS0 ?_;refine tx1 5 hS0 ?_;refine tk1 6 ?_;intro K hK;go_simp;have hd:Below W W W.drew:=(brf _ _).drew;refine (zQ4 (s:=⟨rA0,rn0,rc0⟩) (n:=V) (HO.out.below (hbW.trans (hd.mono hBW))) (by omega) (by omega) HL0.out).mono ?_;rintro e w1 ⟨⟨b,rfl,hb,hR⟩,hb1⟩;have h1:Below W W w1:=hd.trans hb1;refine hK.out _ _ ⟨cellK h1 p1,cellK h1 p0,cellK h1 hoc1⟩ ?_;clear hK K;refine tk1 7 ?_;intro K hK;go_simp;refine hK.out _ _ ⟨cellK h1 p1,cellK h1 p0,cellK h1 hoc1⟩ ?_;clear hK K;refine zAf (by kernel_rfl) ?_ _;have hs1:=h1.size;have bP1:=bP.below h1 s0;have bZ1:=bZ.below h1 s1;have bQ1:=bQ.below h1 s2;have bR1:=bR.below h1 s3;have hB1:=hbW.trans (h1.mono hBW);have hR1:RowAt w1 (fun x=>x<W.heap.size\/x=b) b (resize (os.getD 0 []) V):=hR;simp only [World.size_drew] at hb;clear hS0 h1 hb1 hd hR p0 p1 p2 p3 hbW hoc1 bP bZ bQ bR;obtain ⟨q0,q1,q2,q3,-⟩:=id bQ1;obtain ⟨z0,z1,z2,z3,-⟩:=id bZ1;have hkl:k<(resize (os.getD 0 []) V).length:=by rw [zMD]; exact hk
 obtain ⟨ev,⟨d0,d1,d2,d3⟩,hev⟩:=hR1.elem k hkl;have fz:=hR1.frozen;dsimp only at d1 d2 d3;have hbl:=hR1.lt;have hki:(k:Int)<(V:Int):=by omega
 have hk0:¬ ((k:Int)<0):=by omega
 have hS0:SdT w pl z false w1.drew:=⟨bQ1.below (brf _ _).drew (zAb bQ1.1),bZ1.below (brf _ _).drew (zAb bZ1.1)⟩;go_upto_region 2 with fail
 refine zAp 11 (SdT w pl z) (by kernel_rfl) ?_;refine tx4 0 1 2 3 hS0 ?_;refine tx1 4 hS0 ?_;refine tx1 6 hS0 ?_;refine tx1 8 hS0 ?_;refine tk1 5 ?_;intro K hK;go_simp;refine hK.out _ _ hS0 ?_;clear hK K;refine tk1 7 ?_;intro K hK;go_simp;have hd:Below w1 w1 w1.drew:=(brf _ _).drew;have fe:=zNC (fun j=>MatAt.fit H.out.obj 0 j) V k;have fm:Lin.Fits (32*(L+1)+32*1000) ((resize (os.getD 0 []) V).getD k 0*q):=(zAR fe).mul (zAR HQF.out);refine (zBb (a:=ev) (b:=pl) ((hev.below hd).qis fe) (HQ.out.below (hB1.trans (hd.mono hB1.size))) HL1.out HLK.out).mono ?_;rintro e w2 ⟨⟨x,rfl,hx⟩,hb2⟩;have h2:Below w1 w1 w2:=hd.trans hb2;have hS2:SdT w pl z true w2:=⟨bQ1.below h2 (zAb bQ1.1),bZ1.below h2 (zAb bZ1.1)⟩;refine hK.out _ _ hS2 ?_;clear hK K;refine tk1 9 ?_;intro K hK;go_simp;refine (zDx (a:=x) (b:=z) (hx.qis (zBn (L:=3000) fm (by omega))) (HZ.out.below (hB1.trans (h2.mono hB1.size))) HL3.out HLK.out).mono ?_;rintro e w3 ⟨⟨y,rfl,hy⟩,hb3⟩;have h3:Below w1 w1 w3:=h2.trans (hb3.mono h2.size);have hS3:SdT w pl z true w3:=⟨bQ1.below h3 (zAb bQ1.1),bZ1.below h3 (zAb bZ1.1)⟩;refine hK.out _ _ hS3 ?_;clear hK K;have hR3:=hR1.below h3;have hs3:=h3.size;have h2s:=h2.size;obtain ⟨ev3,⟨d0,d1,d2,d3⟩,-⟩:=hR3.elem k hkl;have fz:=hR3.frozen;dsimp only at d1 d2 d3;refine tk1 10 ?_;intro K hK;go_simp;refine hK.out _ _ hS3 ?_;clear hK K;refine tk1 11 ?_;intro K hK;go_simp;refine hK.out _ _ ⟨hS3.1.heap (zAx w3 b k y (by omega)),hS3.2.heap (zAx w3 b k y (by omega))⟩ ?_;clear hK K;refine zAf (by kernel_rfl) ?_ _;have hR4:RowAt (put4 w3 b k y) (fun x=>x<W.heap.size\/x=b) b (sdRow (os.getD 0 []) V k q v):=hR3.put4 hkl (hy.imp fun c _ hc hg=>by simp only [New] at hc; omega);have bP4:=(bP1.below h3 (by omega)).heap (zAx w3 b k y (show w.heap.size ≠ b by omega));have bQ4:=(bQ1.below h3 (by omega)).heap (zAx w3 b k y (show w.heap.size+1+1 ≠ b by omega));have bR4:=(bR1.below h3 (by omega)).heap (zAx w3 b k y (show w.heap.size+1+1+1 ≠ b by omega));have hB4:=zBq (hB1.trans (h3.mono hB1.size)) (show w.heap.size<=b by omega) k y;have hsz4:Hid ((put4 w3 b k y).heap.size=w3.heap.size):=zBI _ _ _ _;clear d0 d1 d2 d3 fz hS0 hS2 hS3 hR3 hy hx hev bP1 bQ1 bZ1 bR1 h2 h3 hb2 hb3 hd q0 q1 q2 q3 z0 z1 z2 z3 hB1 hR1 fm;change Exit.then _ _ _ _ (put4 w3 b k y);generalize put4 w3 b k y=w4 at *;have lb4:=hR4.lt;have sz4:w.heap.size+1+1+1<w4.heap.size:=by have:=hsz4.out; omega
 clear hsz4;obtain ⟨p0,p1,p2,p3,-⟩:=id bP4;go_upto_region 4 with fail
 have a1:Below w4 w4 (w4.alloc (.cells #[.slice (some b) V V] 23)):=bal;have m1:(w4.alloc (.cells #[.slice (some b) V V] 23)).heap[w4.heap.size]?=some (.cells #[.slice (some b) V V] 23 (0,0)):=zAd _ _ rfl;have z5:(w4.alloc (.cells #[.slice (some b) V V] 23)).heap.size=w4.heap.size+1:=by simp
 have fr5:∀ j,QFit 3000 ((sdRow (os.getD 0 []) V k q v).getD j 0):=fun j=>zRJ (fun j=>MatAt.fit H.out.obj 0 j) HQF.out HVF.out hL j
 have hv5:VecIs (w4.alloc (.cells #[.slice (some b) V V] 23)) (fun x=>W.heap.size<=x/\x<w4.heap.size) (fun x=>W.heap.size<=x/\x<w4.heap.size) 3000 ⟨some ⟨b,0,none⟩,V,V⟩ (sdRow (os.getD 0 []) V k q v):=
  (((rowN hR4 (zRe _ _ _ _ _) (by omega)).loose fr5).imp (fun x _ hx=>by have hx:x=b:=hx; omega) fun _ _ hq=>hq.imp fun x hl hx=>by omega).below a1
 replace bP4:=bP4.below a1 (by omega);replace bQ4:=bQ4.below a1 (by omega);replace bR4:=bR4.below a1 (by omega);replace hB4:=hB4.trans (a1.mono hB4.size);generalize w4.alloc (.cells #[.slice (some b) V V] 23)=W5 at *;rw [<-z5];have a2:Below W5 W5 (W5.alloc (.cells #[.int .i64 V,.slice (some w4) 1 1,.slice none 0 0,.slice none 0 0] 25)):=bal
 have H0:SdL w ⟨V,⟨some ⟨ob,oo,none⟩,on,oc⟩,⟨rA,bn,rc⟩,⟨bA,bn,bc⟩⟩ z pl W5 V k 3000 ⟨some ⟨w4,0,none⟩,1,1⟩ (sdRow (os.getD 0 []) V k q v) rs bs q (.int .i64 0) (W5.alloc (.cells #[.int .i64 V,.slice (some w4) 1 1,.slice none 0 0,.slice none 0 0] 25)):=
  ⟨0,fun y=>y=W5.heap.size\/y=w.heap.size+1+1+1,.slice none 0 0,[],nzl _,rfl,hB4.trans (a2.mono hB4.size),bP4.below a2 (by omega),bQ4.below a2 (by omega),bR4.below a2 (by omega),by omega,zAd _ _ rfl,.inl rfl,.inr rfl,fun y hy=>by have:=a2.size; simp at this ⊢; omega,
   ⟨rfl,nlr _,by show 1<=_; omega,fun i hi=>by
    obtain rfl:i=0:=by have hi':i<1:=hi; omega
    refine ⟨⟨w4,0,none⟩,⟨some ⟨b,0,none⟩,V,V⟩,rfl,by show ¬ (w4.heap.size=W5.heap.size\/w4.heap.size=w.heap.size+1+1+1); omega,?_,(hv5.below a2).imp (fun c _ hc=>by omega) fun _ _ hq=>hq.imp fun c _ hc=>by omega⟩;rw [a2.cell (by show w4.heap.size<_; omega)];simp [World.cell?,m1,Addr.add]⟩,MatS.nil _ _ _⟩
 have bP6:=bP4.below a2 (by omega);clear hv5 m1 z5 fr5 bP4 bQ4 bR4 a1 a2 hB4 hR4 lb4 sz4 p0 p1 p2 p3 fe hkl hbl hs1 h2s hs3;generalize W5.alloc (.cells #[.int .i64 V,.slice (some w4) 1 1,.slice none 0 0,.slice none 0 0] 25)=W6 at *;generalize W5.heap.size=pb at *;generalize w4.heap.size=sb at *;obtain ⟨p0,p1,p2,p3,-⟩:=id bP6;go_wp2;clear p0 p1 p2 p3 bP6;go_loopw [40] (fun t W=>SdL w ⟨V,⟨some ⟨ob,oo,none⟩,on,oc⟩,⟨rA,bn,rc⟩,⟨bA,bn,bc⟩⟩ z pl pb V k 3000 ⟨some ⟨sb,0,none⟩,1,1⟩ (sdRow (os.getD 0 []) V k q v) rs bs q t W) (fun t _=>bn-(intOf t).toNat)
 case atStart=>exact H0
 case round=>
  clear H0;obtain ⟨i,G,vr,ss,hin,rfl,hI⟩:=hrel;dsimp only at hin;have HI:=hdq hI;by_cases hlt:i<bn
  ·have hii:(i:Int)<(bn:Int):=(by omega);have hin0:¬ ((i:Int)<0):=(by omega);obtain ⟨rad,⟨rA1,rn1,rc1⟩,er,-,hrc,hrr⟩:=H.out.rows.row i hlt;obtain ⟨bad,bv,eb,-,hbc,hbq⟩:=H.out.bounds.elem i hlt;dsimp only at er eb;cases er;cases eb;have hrc1:=cellK hI.bel hrc;have HRow:=hdq hrr;have HBq:=hdq hbq;obtain ⟨p0,p1,p2,p3,-⟩:=id hI.bp;dsimp only at p0 p1 p2 p3;have hbs:=hI.bel.size;have hpg:=hI.gin _ hI.gp;clear hrr hbq;(go_wp2_with fail);refine (zQ4 (s:=⟨rA1,rn1,rc1⟩) (n:=V) (HRow.out.below HI.out.bel) (by omega) (by omega) HL0.out).mono ?_;rintro e w1 ⟨⟨b,rfl,hb,hR1⟩,hb1⟩;have hI1:=HI.out.call hb1;have HI1:=hdq hI1;have hz1:=hb1.size;have hkl:k<(resize (rs.getD i []) V).length:=by rw [zMD]; exact hk
   obtain ⟨ev,⟨d0,d1,d2,d3⟩,hev⟩:=hR1.elem k hkl;have fz:=hR1.frozen;dsimp only at d1 d2 d3;have hbl:=hR1.lt;have hB1:=hI1.bel;have bP1:=hI1.bp;have bQ1:=hI1.bq;have bq00:=hbc;obtain ⟨b0,b1,b2,b3⟩:=hbc;have bq0:QCell w1 (bad.add (i*4)) bv:=⟨cellK hB1 b0,cellK hB1 b1,cellK hB1 b2,cellK hB1 b3⟩;have hS0:SdS w (bad.add (i*4)) pl bv (some bad) bn bc false w1.drew:=⟨bQ1.below (brf _ _).drew (zAb bQ1.1),bP1.2.2.2.1,bq0⟩;clear p0 p1 p2 p3 hI1 b0 b1 b2 b3 hrc1;(go_upto_region 8 with fail);refine zAp 15 (SdS w (bad.add (i*4)) pl bv (some bad) bn bc) (by kernel_rfl) ?_;refine tx4 0 1 2 3 hS0 ?_;refine tx4 4 6 8 9 hS0 ?_;refine tx1 10 hS0 ?_;refine tx1 11 hS0 ?_;refine tx1 12 hS0 ?_;refine tk1 5 ?_;intro K hK;go_simp;refine hK.out _ _ hS0 ?_;clear hK K;refine tk1 7 ?_;intro K hK;go_simp;have hd:Below w1 w1 w1.drew:=(brf _ _).drew;have fe:=zNC (fun j=>MatAt.fit H.out.rows i j) V k;have fm:Lin.Fits (32*(L+1)+32*1000) ((resize (rs.getD i []) V).getD k 0*q):=(zAR fe).mul (zAR HQF.out);refine (zBb (a:=ev) (b:=pl) ((hev.below hd).qis fe) (HQ.out.below (hB1.trans (hd.mono hB1.size))) HL1.out HLK.out).mono ?_;rintro e w2 ⟨⟨x,rfl,hx⟩,hb2⟩;have hS2:=zRK (f':=false) hS0 hb2;have h2:Below w1 w1 w2:=hd.trans (hb2.mono hd.size);refine hK.out _ _ hS2 ?_;clear hK K;refine tk1 13 ?_;intro K hK;go_simp;refine (zDx (a:=x) (b:=bv) (hx.qis (zBn (L:=3000) fm (by omega))) (HBq.out.below (hB1.trans (h2.mono hB1.size))) HL3.out HL0.out).mono ?_;rintro e w3 ⟨⟨y,rfl,hy⟩,hb3⟩;have hS3:=zRK (f':=false) hS2 hb3;have h3:Below w1 w1 w3:=h2.trans (hb3.mono h2.size);refine hK.out _ _ hS3 ?_;clear hK K;have hR3:=hR1.below h3;have h2s:=h2.size;have h3s:=h3.size;obtain ⟨ev3,⟨d0,d1,d2,d3⟩,-⟩:=hR3.elem k hkl;have fz:=hR3.frozen;dsimp only at d1 d2 d3;refine tk1 14 ?_;intro K hK;go_simp;refine hK.out _ _ hS3 ?_;clear hK K
   have nb:(bad.add (i*4)).block ≠ b:=by
    have h1:=zAb bq00.1;have:=hI.bel.size;omega
   refine tk1 15 ?_;intro K hK;go_simp;refine hK.out _ _ (zSy hS3 (by omega) (by omega) nb k y) ?_;clear hK K;refine zAf (by kernel_rfl) ?_ _;have hR4:RowAt (put4 w3 b k y) (fun x=>x<wr.heap.size\/x=b) b (sdRow (rs.getD i []) V k q (bs.getD i 0)):=hR3.put4 hkl (hy.imp fun c _ hc hg=>by simp only [New] at hc; omega);have hb4:Below wr wr (put4 w3 b k y):=zBq (hb1.trans (h3.mono hz1)) (by omega) k y;clear d0 d1 d2 d3 fz hS0 hS2 hS3 hR3 hy hx hev bP1 bQ1 h2 h3 hb2 hb3 hb1 hd hB1 hR1 fm fe nb bq0 bq00 hbl h2s h3s hz1 HI1 hkl;change Exit.then _ _ _ _ (put4 w3 b k y);generalize put4 w3 b k y=w4 at *;have hI4:=HI.out.call hb4;have hsG:VecCan w4 (fun c=>¬ G c) (fun c=>¬ G c) ⟨some ⟨b,0,none⟩,V,V⟩ (sdRow (rs.getD i []) V k q (bs.getD i 0)):=(rowN hR4 (zRe _ _ _ _ _) (by omega)).imp (fun c _ hc hg=>by have:=(HI.out.gin c hg).2; have hc:c=b:=hc; omega) fun _ _ hq=>hq.imp fun c _ hc hg=>by have:=(HI.out.gin c hg).2; omega
   have hpl4:=zAa hI4.blk;have x2:w4.cell? ⟨pb,2,none⟩=some vr:=(by simp [World.cell?,hI4.blk]);have hown4:=hI4.rows.own;have HRow4:=hdq hsG;have HI4:=hdq hI4;have hpb:Hid (w.heap.size+1+1+1<pb):=hI4.hp;clear hsG hI4 hR4 hb4 hb;(go_wp2_with (at_builtin; refine wpList_append_own_at _ rfl _ _ 22 rfl (pb+1) 23 j0 (.slice none 0 0) 1 24 Tryz.underlying22 hjI hy0 hy1 hy2 rfl (by decide) vr i (ss.map SV.val) rfl (hown4.alloc _) ⟨w4,0,none⟩ 1 1 [.slice (some b) V V] rfl rfl (cell_one_new _ _ _) (by intro u hu; simp at hu; subst hu; rfl) (by simp [maxLen]; omega) (by omega) (by simp; omega) ?_));intro v3 W3 hown3 hg3 hnil3 hat3;obtain ⟨g3,c3',rfl⟩:=ownsRow_succ hown3;have hat3':=hat3.imp (id) fun (e:_=_)=>show (Value.slice (some g3) (i+1) c3').ownBlock=some (w4.alloc (.cells #[.slice (some b) V V] 23)).heap.size by rw [e]; simp
   have hD3:=HI4.out.addR (s:=⟨some ⟨b,0,none⟩,V,V⟩) HRow4.out hown3 hg3 hat3';have hst:=(HI4.out.rows.step HRow4.out hown3 hg3 hat3').2.1;have hb3:=hst.block pb hpl4 fun e=>by have:=(HI4.out.rows.lt e).1; omega
   have d2:W3.cell? ⟨pb,2,none⟩=some vr:=(cob (a:=⟨pb,2,none⟩) hb3).trans x2;have df:∀ o,W3.frozen? ⟨pb,o,none⟩=false:=fun o=>(World.frozen?_of_block (a:=⟨pb,o,none⟩) hb3).trans (by simp [World.frozen?,HI4.out.blk])
   have Hfin:Hid (SdL w ⟨V,⟨some ⟨ob,oo,none⟩,on,oc⟩,⟨some rad,bn,rc⟩,⟨some bad,bn,bc⟩⟩ z pl pb V k 3000 ⟨some ⟨sb,0,none⟩,1,1⟩ (sdRow (os.getD 0 []) V k q v) rs bs q (.int .i64 ((i:Int)+1)) (W3.setCell ⟨pb,2,none⟩ (.slice (some g3) (i+1) c3'))):=by
    have e1:sdRows rs bs V k q (i+1)=sdRows rs bs V k q i++[sdRow (rs.getD i []) V k q (bs.getD i 0)]:=by unfold sdRows; rw [List.range_succ,List.map_append]; rfl
    rw [<-e1] at hD3;exact ⟨i+1,_,_,_,by dsimp only; omega,by simp,hD3⟩
   clear hown4 hown3 hg3 hnil3 hat3 hat3' hst hb3 hD3 HI4 x2 HI HRow HBq HRow4;go_wp2;go_roundw;case rel=>exact fn_ Hfin.out
   case measure=>simp [intOf]; omega
  ·(obtain rfl:i=bn:=by omega);have hlt2:¬ ((i:Int)<(i:Int)):=(by omega);obtain ⟨vA,vc,rfl⟩:=hI.rows.shape;have x0:wr.cell? pb=some (.int .i64 V):=(by simp [World.cell?,hI.blk]);have x1:wr.cell? ⟨pb,1,none⟩=some (.slice (some sb) 1 1):=(by simp [World.cell?,hI.blk]);have x2:wr.cell? ⟨pb,2,none⟩=some (.slice vA i vc):=(by simp [World.cell?,hI.blk]);have x3:wr.cell? ⟨pb,3,none⟩=some (.slice none 0 0):=by simp [World.cell?,hI.blk]
   have hF:Fr (fun y=>y=w.heap.size+1+1+1) wr ((((wr.setCell ⟨w+1+1+1,0,none⟩ (.int .i64 V)).setCell ⟨w.heap.size+1+1+1,1,none⟩ (.slice (some sb) 1 1)).setCell ⟨w.heap.size+1+1+1,2,none⟩ (.slice vA i vc)).setCell ⟨w.heap.size+1+1+1,3,none⟩ (.slice none 0 0)):=
    ((((Fr.refl (fun y=>y=w.heap.size+1+1+1) wr).set (p:=⟨w+1+1+1,0,none⟩) rfl _).set (p:=⟨w.heap.size+1+1+1,1,none⟩) rfl _).set (p:=⟨w.heap.size+1+1+1,2,none⟩) rfl _).set (p:=⟨w.heap.size+1+1+1,3,none⟩) rfl _
   obtain ⟨r0,r1,r2,r3,rf⟩:=id hI.br;have bR8:=HI.out.br.stored (.int .i64 V) (.slice (some sb) 1 1) (.slice vA i vc) (.slice none 0 0);have HF8:=hdq hF;have HB8:=hdq bR8;clear hI hF bR8;go_wp2;(try rw [Exit.noGoto_ret]);obtain ⟨v0,v1,v2,v3,-⟩:=HB8.out
   obtain ⟨⟨a1,a2,a3⟩,eR,-,mR⟩:=(HI.out.rows.keep HF8.out (fun j hj e=>by have:=(HI.out.rows.lt hj).1; have:=HI.out.hp; omega) (fun y hy=>by rw [hy]; exact HI.out.gr) (More.refl _ _)).mat (L:=3000) (fun i' j=>by
    by_cases hi':i'<i
    ·rw [sdRows,zA6 _ _ _ _ hi'];exact zRJ (fun j=>MatAt.fit H.out.rows i' j) HQF.out ((VecAt.fit H.out.bounds i').up (by omega)) hL j
    ·rw [zAw (sdRows rs bs V k q i) _ _ (by simp [sdRows]; omega)]; exact QFit.zero _)
   simp only [SV.val,Value.slice.injEq] at eR;obtain ⟨rfl,rfl,rfl⟩:=eR;have mO:=(matG HI.out.mo HF8.out (fun y hy=>by rw [hy]; exact HI.out.gr) (More.refl _ _));refine bodyPost_ret (v:=LPV.val ⟨V,⟨some ⟨sb,0,none⟩,1,1⟩,⟨vA,i,vc⟩,⟨none,0,0⟩⟩) (by simp [results,Tryz.results106,go_sem,v0,v1,v2,v3,LPV.val]) rfl ⟨⟨⟨some ⟨sb,0,none⟩,1,1⟩,⟨vA,i,vc⟩,rfl,mO.imp (fun _ _ _=>trivial) fun _ _ hq=>hq.imp fun _ _ _=>trivial,by rw [HRL.out]; exact mR⟩,HI.out.bel.trans (HF8.out.below HI.out.bel.size fun y hy=>by omega)⟩
theorem zSl {c3 cc ck:Nat} {vv:QV} {O cs:SV} {ol:List Rat} {rows:List (List Rat)} {v:Rat} (h:DirAt W c0 c1 g c3 cc ck V k n L p pl vv O R cs ol cl rows os rs bs q v) (hV:V<=4) (hn:n<=4) (hL:L<=40) (hk:k<=1000) (hg:ol.length<=V) (hcr:colsOf rows<=V) (hcf:∀ i,QFit (L+1) (cl.getD i 0)) (hq0:q ≠ 0) (hqf:QFit 1000 q) (hvf:QFit 1000 v) :
  Sides W g (.func (.func 108) #[] #[.pointer (some c0),.pointer (some c1),.pointer (some g),.pointer (some c3)]) (.func (.func 114) #[] #[.pointer (some cc),.pointer (some g),.pointer (some c1),.pointer (some ck)])
   (Lim (prob1 V [ol] rows (bs.map (q⁻¹*·))) fun t=>t-v*q⁻¹) (Lim (prob1 V [ol] rows (cl.map (-1*·))) fun t=>-(t+(os.getD 0 []).getD k 0)):=by
 refine ⟨_,_,_,_,rfl,rfl,fun _ _=>rfl,fun _ _=>rfl,fun W1 h1=>(zSh (h.below h1) hV hn hL hg hcr hq0 hqf hvf).mono ?_⟩;rintro e W2 ⟨hr,hD,hF⟩;refine ⟨hr,hF,fun W3 h3=>(zSi (hD.below h3) hV hn hL hk hg hcr hcf).mono ?_⟩;rintro e W4 ⟨hr,-,hF⟩;exact ⟨hr,hF⟩
def colOf (rs:List (List Rat)) (k n:Nat):List Rat:=(List.range n).map fun i=>(rs.getD i []).getD k 0
def ObRet (w:World) (V k M:Nat) (os rs:List (List Rat)) (bs:List Rat) (v q:Rat) (e:Ending) (w':World):Prop:=
 ∃ (b1 b2:Bool) (v1 v2:QV) (o1 o2:Option Rat),e = .returned (.tuple #[limV b1 v1,limV b2 v2,.int .i64 0])/\LimIs w' (New w) b1 v1 o1/\LimIs w' (New w) b2 v2 o2/\
  Lim (prob1 V [sdRow (os.getD 0 []) V k q v] (sdRows rs bs V k q M) (bs.map (q⁻¹*·))) (fun t=>t-v*q⁻¹) o1/\Lim (prob1 V [sdRow (os.getD 0 []) V k q v] (sdRows rs bs V k q M) ((colOf rs k M).map (-1*·))) (fun t=>-(t+(os.getD 0 []).getD k 0)) o2
def OnlyV (P:Lin.Prob) (v:Rat):Prop:=∀ D k,PInv P none D->Ends P none D k->k=1/\(k=1->D.c 0 P.n=v)
theorem OnlyV.opt {P:Lin.Prob} {v:Rat} (h:OnlyV P v) {e:Ending} (hp:OptimumRet w P e w'):∃ z:QV,e = .returned (.tuple #[z.val,.int .i64 0])/\QCan w' (New w) z v:=by
 rcases hp with ⟨D,z,hI,hE,rfl,hz⟩ | ⟨D,hI,hE,rfl⟩ | ⟨D,hI,hE,rfl⟩
 ·rw [(h D 1 hI hE).2 rfl] at hz;exact ⟨z,rfl,hz⟩
 ·have:=(h D 2 hI hE).1; omega
 ·have:=(h D 3 hI hE).1; omega
theorem zSx (rs:List (List Rat)) (bs:List Rat) (V k:Nat) (q:Rat) (n:Nat):colsOf (sdRows rs bs V k q n)<=V:=zAU.2 fun r hr=>by
 obtain ⟨j,-,rfl⟩:=List.mem_map.1 hr;rw [zRe]; exact nlr _
abbrev ObS (w0 cb:Nat) (rA:Option Addr) (n rc k b:Nat) (_:Bool) (w':World):Prop:=
 w'.cell? cb=some (.slice (some b) n n)/\w'.cell? ⟨w0,2,none⟩=some (.slice rA n rc)/\w'.cell? ⟨w0+1,0,none⟩=some (.int .i64 (k:Int))
theorem zQ6 {xl:List Rat} {v:Rat} (h:LPIs w AllB AllB L p os rs bs) (hV:p.n=V) (hV2:V<=4) (ho1:1<=p.O.n) (ho2:p.O.n<=4) (hM:p.R.n=M) (hM1:1<=M) (hr:M<=4) (hb:p.B.n=M) (hco:colsOf os<=V) (hcr:colsOf rs<=V) (hL:L<=40)
  (hk:k<V) (hv:OnlyV (prob1 V os rs bs) v) (hx:OnlyX (prob1 M [bs.map fun q=>- q] (dRows M rs V) (dBnd os V)) xl) (hf:∀ i,QFit 1000 (xl.getD i 0)) (hvf:QFit 1000 v) (hq0:xl.getD k 0 ≠ 0) :
  Calls Tryz.prog 43 #[p.val,.int .i64 (k:Int)] w fun e w'=>ObRet w V k M os rs bs v (xl.getD k 0) e w'/\Below w w w':=by
 obtain ⟨z0,⟨oA,on,oc⟩,⟨rA,rn,rc⟩,⟨bA,bn,bc⟩⟩:=p;dsimp only at hV ho1 ho2 hM hb;subst hV hM;obtain rfl:rn=bn:=hb.symm;have H:=hdq h;have HCo:=hdq hco;have HCr:=hdq hcr;have HV:=hdq hv;have HX:=hdq hx;have HF:=hdq hf;have HVF:=hdq hvf;have HQ0:=hdq hq0;have HL0:Hid (L<=LM):=hdq (by rw [zAZ]; omega);have HRL:Hid (rs.length=rn):=h.rows.len;have hmk:=zBZ rn (by omega);clear h hco hcr hv hx hf hvf hq0 hb;dsimp only [LPV.val,SV.val];go_enter Tryz.func43,Tryz.ntmps43
 go_upto_region 1 with fail
 refine zAo (fun W=>Below w w W/\Box4 W w (.int .i64 V) (.slice oA on oc) (.slice rA rn rc) (.slice bA rn bc)/\Box1 W (w+1) (.int .i64 (k:Int))/\Box5 W (w+1+1) (.bool false) (.bool false) (.slice none 0 0) (.bool false) (.slice none 0 0)/\Box5 W (w+1+1+1) (.bool false) (.bool false) (.slice none 0 0) (.bool false) (.slice none 0 0)/\w.heap.size<W.heap.size/\w.heap.size+1<W.heap.size/\w.heap.size+1+1<W.heap.size/\w.heap.size+1+1+1<W.heap.size) ⟨(az (az (az (az (brf _ _))))),bx4,⟨by go_simp,by intro o; go_simp⟩,⟨by go_simp,by go_simp,by go_simp,by go_simp,by go_simp,by intro o; go_simp⟩,⟨by go_simp,by go_simp,by go_simp,by go_simp,by go_simp,by intro o; go_simp⟩,by simp <;> omega,by simp <;> omega,by simp <;> omega,by simp <;> omega⟩ ?_;rintro W ⟨hbW,bP,bK,bL,bU,s0,s1,s2,s3⟩;have hBW:=hbW.size;have ne02:¬ (w.heap.size=w.heap.size+1+1):=by omega
 have ne03:¬ (w.heap.size=w.heap.size+1+1+1):=by omega
 have ne13:¬ (w.heap.size+1=w.heap.size+1+1+1):=by omega
 obtain ⟨p0,p1,p2,p3,-⟩:=id bP;obtain ⟨k0,-⟩:=id bK;have hii:(k:Int)<(V:Int):=by omega
 have hi0:¬ ((k:Int)<0):=by omega
 have hi1:¬ ((V:Int)<=(k:Int)):=by omega
 go_wp2_with fail
 refine (zBv (p:=⟨V,⟨oA,on,oc⟩,⟨rA,rn,rc⟩,⟨bA,rn,bc⟩⟩) (H.out.below hbW) rfl (by omega) ho1 ho2 (by show rn<=_; omega) rfl HCo.out HCr.out).mono ?_;rintro e w1 ⟨rfl,hb1⟩;replace bP:=bP.below hb1 s0;replace bK:=bK.below hb1 s1;replace bL:=bL.below hb1 s2;replace bU:=bU.below hb1 s3;have hB:=hbW.trans (hb1.mono hBW);have hz1:w.heap.size+1+1+1<w1.heap.size:=ltl s3 hb1.size;clear p0 p1 p2 p3 k0 hb1 hbW hBW s0 s1 s2 s3 ne02 ne03 ne13;obtain ⟨p0,p1,p2,p3,-⟩:=id bP;obtain ⟨k0,-⟩:=id bK;go_wp2_with fail
 refine (zBd (V:=V) (p:=⟨V,⟨oA,on,oc⟩,⟨rA,rn,rc⟩,⟨bA,rn,bc⟩⟩) (H.out.below hB) rfl (by omega) ho1 ho2 (by show rn<=_; omega) rfl HCo.out HCr.out (by omega)).mono ?_;rintro e w2 ⟨hO,hb2⟩;obtain ⟨z,rfl,hz⟩:=HV.out.opt hO;replace bP:=bP.below hb2 (by omega);replace bK:=bK.below hb2 (by omega);replace bL:=bL.below hb2 (by omega);replace bU:=bU.below hb2 (by omega);replace hB:=hB.trans (hb2.mono hB.size);have hz2:w.heap.size+1+1+1<w2.heap.size:=ltl hz1 hb2.size;have HZ:=hdq (hz.qis HVF.out);clear p0 p1 p2 p3 k0 hb2 hz1 hO hz;go_upto_region 6 with fail
 have al:Below w2 w2 (w2.alloc (.cells #[.bool z.num.ng,.slice z.num.A z.num.n z.num.c,.bool z.den.ng,.slice z.den.A z.den.n z.den.c] 30)):=bal;have bZ:=zAA (zAd w2 (.cells #[.bool z.num.ng,.slice z.num.A z.num.n z.num.c,.bool z.den.ng,.slice z.den.A z.den.n z.den.c] 30) rfl);replace bP:=bP.below al (by omega);replace bK:=bK.below al (by omega);replace bL:=bL.below al (by omega);replace bU:=bU.below al (by omega);replace HZ:=hdq (HZ.out.below al);replace hB:=hB.trans (al.mono hB.size);have hz3:w2.heap.size<(w2.alloc (.cells #[.bool z.num.ng,.slice z.num.A z.num.n z.num.c,.bool z.den.ng,.slice z.den.A z.den.n z.den.c] 30)).heap.size:=by simp
 clear al;generalize w2.alloc (.cells #[.bool z.num.ng,.slice z.num.A z.num.n z.num.c,.bool z.den.ng,.slice z.den.A z.den.n z.den.c] 30)=W3 at *;generalize w2.heap.size=zb at *;obtain ⟨p0,p1,p2,p3,-⟩:=id bP;obtain ⟨k0,-⟩:=id bK;obtain ⟨z0,z1,z2,z3,-⟩:=id bZ;go_wp2_with fail
 refine (zRh (V:=V) (M:=rn) (k:=k) (p:=⟨V,⟨oA,on,oc⟩,⟨rA,rn,rc⟩,⟨bA,rn,bc⟩⟩) (z:=z) (H.out.below hB) rfl (by omega) hV2 ho1 ho2 rfl hr rfl HCo.out HCr.out hL hk HX.out HF.out).mono ?_;rintro e w4 ⟨⟨pl,rfl,hp⟩,hb4⟩;replace bP:=bP.below hb4 (by omega);replace bK:=bK.below hb4 (by omega);replace bL:=bL.below hb4 (by omega);replace bU:=bU.below hb4 (by omega);replace bZ:=bZ.below hb4 (by omega);replace HZ:=hdq (HZ.out.below hb4);replace hB:=hB.trans (hb4.mono hB.size);have hz4:zb<w4.heap.size:=ltl hz3 hb4.size;have HPq:=hdq (hp.qis (HF.out k));clear p0 p1 p2 p3 k0 z0 z1 z2 z3 hb4 hz3 hp;go_upto_region 7 with fail
 have al:Below w4 w4 (w4.alloc (.cells #[.bool pl.num.ng,.slice pl.num.A pl.num.n pl.num.c,.bool pl.den.ng,.slice pl.den.A pl.den.n pl.den.c] 30)):=bal;have bQ:=zAA (zAd w4 (.cells #[.bool pl.num.ng,.slice pl.num.A pl.num.n pl.num.c,.bool pl.den.ng,.slice pl.den.A pl.den.n pl.den.c] 30) rfl);replace bP:=bP.below al (by omega);replace bK:=bK.below al (by omega);replace bL:=bL.below al (by omega);replace bU:=bU.below al (by omega);replace bZ:=bZ.below al (by omega);replace HZ:=hdq (HZ.out.below al);replace HPq:=hdq (HPq.out.below al);replace hB:=hB.trans (al.mono hB.size);have hz5:w4.heap.size<(w4.alloc (.cells #[.bool pl.num.ng,.slice pl.num.A pl.num.n pl.num.c,.bool pl.den.ng,.slice pl.den.A pl.den.n pl.den.c] 30)).heap.size:=by simp
 clear al;generalize w4.alloc (.cells #[.bool pl.num.ng,.slice pl.num.A pl.num.n pl.num.c,.bool pl.den.ng,.slice pl.den.A pl.den.n pl.den.c] 30)=W5 at *;generalize w4.heap.size=pb at *;obtain ⟨p0,p1,p2,p3,-⟩:=id bP;obtain ⟨k0,-⟩:=id bK;obtain ⟨z0,z1,z2,z3,-⟩:=id bZ;obtain ⟨q0,q1,q2,q3,-⟩:=id bQ;go_wp2_with fail
 refine (zRI (V:=V) (k:=k) (p:=⟨V,⟨oA,on,oc⟩,⟨rA,rn,rc⟩,⟨bA,rn,bc⟩⟩) (z:=z) (pl:=pl) (H.out.below hB) rfl hV2 ho1 hr rfl hL hk (HZ.out.imp fun _ _ _=>trivial) (HPq.out.imp fun _ _ _=>trivial) HVF.out (HF.out k)).mono ?_;rintro e w6 ⟨⟨⟨OA,On,Oc⟩,⟨RA,Rn,Rc⟩,rfl,hO,hR⟩,hb6⟩;obtain rfl:1=On:=hO.len;obtain rfl:rn=Rn:=by have:=hR.len; simpa [sdRows,HRL.out] using this
 replace bP:=bP.below hb6 (by omega);replace bK:=bK.below hb6 (by omega);replace bL:=bL.below hb6 (by omega);replace bU:=bU.below hb6 (by omega);replace bZ:=bZ.below hb6 (by omega);replace bQ:=bQ.below hb6 (by omega);replace HZ:=hdq (HZ.out.below hb6);replace HPq:=hdq (HPq.out.below hb6);replace hB:=hB.trans (hb6.mono hB.size);have hz6:pb<w6.heap.size:=ltl hz5 hb6.size;have HO:=hdq hO;have HR:=hdq hR;clear p0 p1 p2 p3 k0 z0 z1 z2 z3 q0 q1 q2 q3 hb6 hz5 hO hR;dsimp only [LPV.val,SV.val];go_upto_region 8 with fail
 have al:Below w6 w6 (w6.alloc (.cells #[.int .i64 V,.slice OA 1 Oc,.slice RA rn Rc,.slice none 0 0] 25)):=bal;have bG:BoxL (w6.alloc (.cells #[.int .i64 V,.slice OA 1 Oc,.slice RA rn Rc,.slice none 0 0] 25)) w6 ⟨V,⟨OA,1,Oc⟩,⟨RA,rn,Rc⟩,⟨none,0,0⟩⟩:=bx4;have hO7:MatIs (w6.alloc (.cells #[.int .i64 V,.slice OA 1 Oc,.slice RA rn Rc,.slice none 0 0] 25)) (fun x=>x ≠ w6.heap.size) (fun x=>x ≠ w6.heap.size) 3000 ⟨OA,1,Oc⟩ [sdRow (os.getD 0 []) V k (xl.getD k 0) v]:=MatAt.below (HO.out.imp (fun b hb _=>Nat.ne_of_lt hb) fun _ _ hq=>hq.imp fun b hb _=>Nat.ne_of_lt hb) al;have hR7:MatIs (w6.alloc (.cells #[.int .i64 V,.slice OA 1 Oc,.slice RA rn Rc,.slice none 0 0] 25)) (fun x=>x ≠ w6.heap.size) (fun x=>x ≠ w6.heap.size) 3000 ⟨RA,rn,Rc⟩ (sdRows rs bs V k (xl.getD k 0) rn):=MatAt.below ((HRL.out ▸ HR.out:MatIs w6 AllB AllB 3000 ⟨RA,rn,Rc⟩ (sdRows rs bs V k (xl.getD k 0) rn)).imp (fun b hb _=>Nat.ne_of_lt hb) fun _ _ hq=>hq.imp fun b hb _=>Nat.ne_of_lt hb) al;have hz7:QIs (w6.alloc (.cells #[.int .i64 V,.slice OA 1 Oc,.slice RA rn Rc,.slice none 0 0] 25)) (fun x=>x ≠ w6.heap.size) 1000 z v:=(HZ.out.imp (Y:=fun x=>x ≠ w6.heap.size) fun b hb _=>Nat.ne_of_lt hb).below al;have hp7:QIs (w6.alloc (.cells #[.int .i64 V,.slice OA 1 Oc,.slice RA rn Rc,.slice none 0 0] 25)) (fun x=>x ≠ w6.heap.size) 1000 pl (xl.getD k 0):=(HPq.out.imp (Y:=fun x=>x ≠ w6.heap.size) fun b hb _=>Nat.ne_of_lt hb).below al;have HO7:=hdq hO7;have HR7:=hdq hR7;have HZ7:=hdq hz7;have HP7:=hdq hp7;replace bP:=bP.below al (by omega);replace bK:=bK.below al (by omega);replace bL:=bL.below al (by omega);replace bU:=bU.below al (by omega);replace bZ:=bZ.below al (by omega);replace bQ:=bQ.below al (by omega);replace hB:=hB.trans (al.mono hB.size);have sG:w6.heap.size<(w6.alloc (.cells #[.int .i64 V,.slice OA 1 Oc,.slice RA rn Rc,.slice none 0 0] 25)).heap.size:=by simp
 clear al HZ HPq HO HR hO7 hR7 hz7 hp7;generalize w6.alloc (.cells #[.int .i64 V,.slice OA 1 Oc,.slice RA rn Rc,.slice none 0 0] 25)=W7 at *;generalize w6.heap.size=gb at *;obtain ⟨p0,p1,p2,p3,-⟩:=id bP;go_upto_region 9 with fail
 have a1:Below W7 W7 (W7.alloc (.cells (zeroQ rn) 30)):=bal
 have hr0:RowAt (W7.alloc (.cells (zeroQ rn) 30)) (fun x=>x<W7.heap.size\/x=W7.heap.size) W7 (fillTo (fun i=>(rs.getD i []).getD k 0) rn 0):=by
  have:=RowAt.made W7 rn (fun x=>x<W7.heap.size\/x=W7.heap.size) (.inr rfl);rw [zEe]; exact this
 have sz1:(W7.alloc (.cells (zeroQ rn) 30)).heap.size=W7.heap.size+1:=by simp
 rw [<-sz1];generalize W7.alloc (.cells (zeroQ rn) 30)=wx at *;have a2:Below wx wx (wx.alloc (.cells #[.slice (some W7) rn rn] 23)):=bal;have bC:Box1 (wx.alloc (.cells #[.slice (some W7) rn rn] 23)) wx (.slice (some W7) rn rn):=⟨by go_simp,by intro o; go_simp⟩
 have H0:FillLoop W7 W7 (fun i=>(rs.getD i []).getD k 0) rn rn (fun W'=>Box1 W' wx (.slice (some W7) rn rn)) (.int .i64 0) (wx.alloc (.cells #[.slice (some W7) rn rn] 23)):=
  ⟨0,nzl _,rfl,hr0.below a2,a1.trans (a2.mono a1.size),bC⟩
 have HSX:=hdq sz1;clear a1 hr0 sz1 a2 hmk;generalize wx.alloc (.cells #[.slice (some W7) rn rn] 23)=W8 at *;generalize wx.heap.size=cb at *;obtain ⟨c0,-⟩:=id bC;clear p0 p1 p2 p3;go_wp2;clear c0 bC;go_loopw [54] (fun t W=>FillLoop W7 W7 (fun i=>(rs.getD i []).getD k 0) rn rn (fun W'=>Box1 W' cb (.slice (some W7) rn rn)) t W) (fun t _=>rn-(intOf t).toNat)
 case atStart=>exact H0
 case round=>
  clear H0;obtain ⟨i,hin,rfl,hR,hBr,bC⟩:=hrel;have bPr:=bP.below hBr (by omega);have bKr:=bK.below hBr (by omega);by_cases hlt:i<rn
  ·have hil:(i:Int)<(rn:Int):=(by omega);have hin0:¬ ((i:Int)<0):=(by omega);have hS0:ObS w cb rA rn rc k W7 false wr.drew:=⟨bC.1,bPr.2.2.1,bKr.1⟩;(go_upto_region 12 with fail);refine zAp 8 (ObS w cb rA rn rc k W7) (by kernel_rfl) ?_;refine tx4 0 1 2 3 hS0 ?_;refine tx1 4 hS0 ?_;refine tx1 5 hS0 ?_;refine tk1 6 ?_;intro K hK;go_simp;have hd:Below wr wr wr.drew:=(brf _ _).drew;have hBd:=hB.trans ((hBr.trans (hd.mono hBr.size)).mono hB.size);refine (zFd (s:=⟨rA,rn,rc⟩) ((H.out.below hBd).rows) i k (by show i<rn; omega) (by omega) HL0.out).mono ?_;rintro e w1 ⟨⟨x,rfl,hx⟩,hb1⟩;have h1:Below wr wr w1:=hd.trans (hb1.mono hd.size);have hS1:ObS w cb rA rn rc k W7 true w1:=⟨cellK h1 bC.1,cellK h1 bPr.2.2.1,cellK h1 bKr.1⟩;refine hK.out _ _ hS1 ?_;clear hK K;have hR1:=hR.below h1;have hs1:=h1.size;have hsr:=hBr.size;obtain ⟨ev,⟨d0,d1,d2,d3⟩,-⟩:=hR1.elem i (by rw [zBj _ hin]; exact hlt);have fz:=hR1.frozen;dsimp only at d1 d2 d3;refine tk1 7 ?_;intro K hK;go_simp;refine hK.out _ _ hS1 ?_;clear hK K;have hcb:W7.heap.size<cb:=by have:=HSX.out; omega
   have hx2:QCan w1 (New wr) x ((rs.getD i []).getD k 0):=hx;refine tk1 8 ?_;intro K hK;go_simp;refine hK.out _ _ ⟨(zCq w1 W7 i x (p:=cb) (by dsimp only; omega)).trans hS1.1,(zCq w1 W7 i x (p:=⟨w.heap.size,2,none⟩) (by dsimp only; omega)).trans hS1.2.1,(zCq w1 W7 i x (p:=⟨w+1,0,none⟩) (by dsimp only; omega)).trans hS1.2.2⟩ ?_;clear hK K;refine zAf (by kernel_rfl) ?_ _;have bC4:Box1 (put4 w1 W7 i x) cb (.slice (some W7) rn rn):=⟨(zCq w1 W7 i x (p:=cb) (by dsimp only; omega)).trans hS1.1,fun o=>(World.frozen?_of_block (a:=⟨cb,o,none⟩) (zAx w1 W7 i x (show cb ≠ W7.heap.size by omega))).trans ((bC.below h1 (zAb bC.1)).2 o)⟩
   have Hfin:Hid (FillLoop W7 W7 (fun i=>(rs.getD i []).getD k 0) rn rn (fun W'=>Box1 W' cb (.slice (some W7) rn rn)) (.int .i64 ((i:Int)+1)) (put4 w1 W7 i x)):=
    FillLoop.step (B:=wr) hlt (nlr _) hR hBr h1 hBr.size (show W7.heap.size<wr.heap.size from hR.lt) (nlr _) hx2 bC4
   clear d0 d1 d2 d3 fz hS0 hS1 hR1 hx hx2 hR hBr bC bC4 bPr bKr h1 hb1 hd hBd hs1 hsr;change Exit.inBlock _ _ _ _ (put4 w1 W7 i x);generalize put4 w1 W7 i x=w2 at *;go_wp2;go_roundw;case rel=>exact fn_ Hfin.out
   case measure=>simp [intOf]; omega
  ·(obtain rfl:i=rn:=by omega);have hlt2:¬ ((i:Int)<(i:Int)):=(by omega);rw [zGv] at hR;have hBw:=hB.trans (hBr.mono hB.size);have hsr:=hBr.size;have hcb:W7.heap.size<cb:=by have:=HSX.out; omega
   have bLr:=bL.below hBr (by omega);have bUr:=bU.below hBr (by omega);have bZr:=bZ.below hBr (by omega);have bQr:=bQ.below hBr (by omega);have bGr:=bG.below hBr sG
   have hcol:VecIs wr (fun x=>x ≠ gb) (fun x=>x ≠ gb) (L+1) ⟨some ⟨W7,0,none⟩,i,i⟩ (colOf rs k i):=
    ((rowN hR (by simp) (by omega)).loose fun j=>by rw [zRg]; split <;> (first | exact MatAt.fit H.out.rows j k | exact QFit.zero _)).imp (fun b _ hb=>by have hb:b=W7.heap.size:=hb; omega) fun _ _ hq=>hq.imp fun b _ hb=>by omega
   have hlp:LPIs wr (fun x=>x ≠ gb) (fun x=>x ≠ gb) L ⟨V,⟨oA,on,oc⟩,⟨rA,i,rc⟩,⟨bA,i,bc⟩⟩ os rs bs:=
    have kx:∀ b,b<w.heap.size->AllB b->b ≠ gb:=fun b hb _=>by omega
    (show LPIs w (fun x=>x ≠ gb) (fun x=>x ≠ gb) L ⟨V,⟨oA,on,oc⟩,⟨rA,i,rc⟩,⟨bA,i,bc⟩⟩ os rs bs from ⟨H.out.obj.imp kx fun _ _ hq=>hq.imp kx,H.out.rows.imp kx fun _ _ hq=>hq.imp kx,H.out.bounds.imp kx fun _ _ hq=>hq.imp kx⟩).below hBw
   have hD:DirAt wr pb w gb zb cb (w+1) V k i L ⟨V,⟨oA,on,oc⟩,⟨rA,i,rc⟩,⟨bA,i,bc⟩⟩ pl z ⟨OA,1,Oc⟩ ⟨RA,i,Rc⟩ ⟨some ⟨W7,0,none⟩,i,i⟩ (sdRow (os.getD 0 []) V k (xl.getD k 0) v) (colOf rs k i) (sdRows rs bs V k (xl.getD k 0) i) os rs bs (xl.getD k 0) v:=
    ⟨by omega,by omega,by omega,by omega,by omega,bQr,bPr,bZr,bC.1,bKr.1,⟨⟨none,0,0⟩,bGr⟩,rfl,rfl,rfl,rfl,ho1,MatAt.below HO7.out hBr,MatAt.below HR7.out hBr,hcol,hlp,HP7.out.below hBr,HZ7.out.below hBr⟩
   have HSd0:=hdq (zSl hD hV2 hr hL (by omega) (by rw [zRe]; exact nlr _) (zSx _ _ _ _ _ _) (fun j=>by unfold colOf; rw [zRg]; split <;> (first | exact MatAt.fit H.out.rows j k | exact QFit.zero _)) HQ0.out (HF.out k) HVF.out);have hgr:gb<wr.heap.size:=(by omega);clear hD hlp hcol hR bC bPr bKr bZr bQr bGr HO7 HR7 HZ7 HP7 bZ bQ bG bP bK;(go_upto_region 16 with fail);have a1:Below wr wr (wr.alloc (.cells #[(.func (.func 108) #[] #[.pointer (some pb),.pointer (some w),.pointer (some gb),.pointer (some zb)])] 92)):=bal;have bX:Box1 (wr.alloc (.cells #[(.func (.func 108) #[] #[.pointer (some pb),.pointer (some w),.pointer (some gb),.pointer (some zb)])] 92)) wr (.func (.func 108) #[] #[.pointer (some pb),.pointer (some w),.pointer (some gb),.pointer (some zb)]):=⟨by go_simp,by intro o; go_simp⟩;have sX:(wr.alloc (.cells #[(.func (.func 108) #[] #[.pointer (some pb),.pointer (some w),.pointer (some gb),.pointer (some zb)])] 92)).heap.size=wr.heap.size+1:=(by simp);rw [<-sX];generalize wr.alloc (.cells #[(.func (.func 108) #[] #[.pointer (some pb),.pointer (some w),.pointer (some gb),.pointer (some zb)])] 92)=wx at *;have a2:Below wx wx (wx.alloc (.cells #[(.func (.func 114) #[] #[.pointer (some cb),.pointer (some gb),.pointer (some w),.pointer (some ⟨w+1,0,none⟩)])] 92)):=bal;have bY:Box1 (wx.alloc (.cells #[(.func (.func 114) #[] #[.pointer (some cb),.pointer (some gb),.pointer (some w),.pointer (some ⟨w+1,0,none⟩)])] 92)) wx (.func (.func 114) #[] #[.pointer (some cb),.pointer (some gb),.pointer (some w),.pointer (some ⟨w+1,0,none⟩)]):=⟨by go_simp,by intro o; go_simp⟩;have a3:=a1.trans (a2.mono a1.size);have bX9:=bX.below a2 (by omega);have bL:=bLr.below a3 (by omega);have bU:=bUr.below a3 (by omega);have HSd:=hdq (HSd0.out.below a3);have hB:=hBw.trans (a3.mono hBw.size);have hzx:=a3.size;have lX:=zAb bX9.1;have lY:=zAb bY.1;dsimp only at lX lY;have HSX2:=hdq sX;clear a1 a2 a3 sX bX bLr bUr hBw HSd0;generalize wx.alloc (.cells #[(.func (.func 114) #[] #[.pointer (some cb),.pointer (some gb),.pointer (some w),.pointer (some ⟨w+1,0,none⟩)])] 92)=W at *;generalize wx.heap.size=ub at *;obtain ⟨x0,xf⟩:=id bX9;obtain ⟨y0,yf⟩:=id bY;have hub2:wr.heap.size<ub:=by have:=HSX2.out; omega
   clear bX9 bY;generalize wr.heap.size=lb at *;obtain ⟨fn1,fn2,caps1,caps2,e1,e2,hc1,hc2,hcalls⟩:=HSd.out;cases e1;cases e2;have hlW:=zAb x0;have huW:=zAb y0;dsimp only at hlW huW;refine zAp 8 (fun _ w'=>w'.cell? lb=some (.func (.func 108) #[] #[.pointer (some pb),.pointer (some w),.pointer (some gb),.pointer (some zb)])/\w'.cell? ub=some (.func (.func 114) #[] #[.pointer (some cb),.pointer (some gb),.pointer (some w),.pointer (some ⟨w+1,0,none⟩)])) (by kernel_rfl) ?_;have hS0:W.drew.cell? lb=some (.func (.func 108) #[] #[.pointer (some pb),.pointer (some w),.pointer (some gb),.pointer (some zb)])/\W.drew.cell? ub=some (.func (.func 114) #[] #[.pointer (some cb),.pointer (some gb),.pointer (some w),.pointer (some ⟨w+1,0,none⟩)]):=⟨x0,y0⟩;refine tx4 0 1 3 4 hS0 ?_;refine tk1 2 ?_;intro K hK;go_simp;have hd:Below W W W.drew:=(brf _ _).drew;refine (hcalls W.drew hd).mono ?_;rintro e w1 ⟨⟨b1,v1,o1,rfl,hl1,hr1⟩,hf1,hcalls2⟩;have hS1:w1.cell? lb=some (.func (.func 108) #[] #[.pointer (some pb),.pointer (some w),.pointer (some gb),.pointer (some zb)])/\w1.cell? ub=some (.func (.func 114) #[] #[.pointer (some cb),.pointer (some gb),.pointer (some w),.pointer (some ⟨w+1,0,none⟩)]):=⟨(hf1.cell (p:=lb) hlW (show ¬ (lb=gb) by omega)).trans x0,(hf1.cell (p:=ub) huW (show ¬ (ub=gb) by omega)).trans y0⟩;have hz1:W.heap.size<=w1.heap.size:=hf1.size;dsimp only [limV];refine hK.out _ _ hS1 ?_;clear hK K;refine tk1 5 ?_;intro K hK;go_simp;refine (hcalls2 w1 (brf _ _)).mono ?_;rintro e w2 ⟨⟨b2,v2,o2,rfl,hl2,hr2⟩,hf2⟩;have hS2:w2.cell? lb=some (.func (.func 108) #[] #[.pointer (some pb),.pointer (some w),.pointer (some gb),.pointer (some zb)])/\w2.cell? ub=some (.func (.func 114) #[] #[.pointer (some cb),.pointer (some gb),.pointer (some w),.pointer (some ⟨w+1,0,none⟩)]):=⟨(hf2.cell (p:=lb) (show lb<w1.heap.size by omega) (show ¬ (lb=gb) by omega)).trans hS1.1,(hf2.cell (p:=ub) (show ub<w1.heap.size by omega) (show ¬ (ub=gb) by omega)).trans hS1.2⟩;have hz2:=hf2.size;dsimp only [limV];refine hK.out _ _ hS2 ?_;clear hK K;have bL2:=(bL.heap (hf1.block (w+1+1) (show w.heap.size+1+1<W.heap.size by omega) (show ¬ (w.heap.size+1+1=gb) by omega))).heap (hf2.block (w+1+1) (by omega) (show ¬ (w.heap.size+1+1=gb) by omega));have bU2:=(bU.heap (hf1.block (w+1+1+1) (show w.heap.size+1+1+1<W.heap.size by omega) (show ¬ (w.heap.size+1+1+1=gb) by omega))).heap (hf2.block (w+1+1+1) (by omega) (show ¬ (w.heap.size+1+1+1=gb) by omega));obtain ⟨bL9,bU9,fr9⟩:=zRf (show w.heap.size+1+1 ≠ w.heap.size+1+1+1 by omega) bL2 bU2 (.bool b1) (.bool v1.num.ng) (.slice v1.num.A v1.num.n v1.num.c) (.bool v1.den.ng) (.slice v1.den.A v1.den.n v1.den.c) (.bool b2) (.bool v2.num.ng) (.slice v2.num.A v2.num.n v2.num.c) (.bool v2.den.ng) (.slice v2.den.A v2.den.n v2.den.c);refine tk1 6 ?_;intro K hK;go_simp;refine hK.out _ _ ⟨(zQX (by dsimp only; omega)).trans hS2.1,(zQX (by dsimp only; omega)).trans hS2.2⟩ ?_;clear hK K;refine tk1 7 ?_;intro K hK;go_simp;refine hK.out _ _ ⟨(zQX (by dsimp only; omega)).trans ((zQX (by dsimp only; omega)).trans hS2.1),(zQX (by dsimp only; omega)).trans ((zQX (by dsimp only; omega)).trans hS2.2)⟩ ?_;clear hK K;refine tk1 8 ?_;intro K hK;go_simp;refine hK.out _ _ ⟨(zQX (by dsimp only; omega)).trans ((zQX (by dsimp only; omega)).trans hS2.1),(zQX (by dsimp only; omega)).trans ((zQX (by dsimp only; omega)).trans hS2.2)⟩ ?_;clear hK K;refine zAf (by kernel_rfl) ?_ _;have HBf:=hdq (((hB.trans (hd.mono hB.size)).trans ((hf1.mono (H:=fun x=>x=gb) fun _ h=>h).below (B:=w) (by show _<=W.heap.size; omega) (by intro b hb; omega))).trans ((hf2.below (B:=w) (by omega) (by intro b hb; omega)).trans (fr9.below (B:=w) (by omega) (by intro b hb; omega))));have k2:∀ p:Addr,New W p.block->p.block<w1->w2.cell? p=w1.cell? p:=(fun p hp hl=>hf2.cell hl (by simp only [New] at hp; omega));have k9:∀ p:Addr,New W p.block->p.block<w2->(set5 (set5 w2 (w+1+1) (.bool b1) (.bool v1.num.ng) (.slice v1.num.A v1.num.n v1.num.c) (.bool v1.den.ng) (.slice v1.den.A v1.den.n v1.den.c)) (w+1+1+1) (.bool b2) (.bool v2.num.ng) (.slice v2.num.A v2.num.n v2.num.c) (.bool v2.den.ng) (.slice v2.den.A v2.den.n v2.den.c)).cell? p=w2.cell? p:=(fun p hp hl=>fr9.cell hl (by simp only [New] at hp; omega));have HL1:=hdq ((((hl1.low (B':=W) (nlr _)).keep k2).keep k9).low (B':=w) hB.size);have HL2:=hdq (((hl2.low (B':=W) hz1).keep k9).low (B':=w) hB.size);clear hl1 hl2 hf1 hf2 fr9 k2 k9 hS0 hS1 hS2 hcalls hcalls2 hB hd bL2 bU2 bL bU;have HLU:=hdq (And.intro bL9 bU9);clear bL9 bU9;go_wp2;(try rw [Exit.noGoto_ret]);obtain ⟨⟨l0,l1,l2,l3,l4,-⟩,u0,u1,u2,u3,u4,-⟩:=HLU.out;exact bodyPost_ret (v:=.tuple #[limV b1 v1,limV b2 v2,.int .i64 0]) (by simp [results,Tryz.results43,go_sem,l0,l1,l2,l3,l4,u0,u1,u2,u3,u4,limV]) rfl ⟨⟨b1,b2,v1,v2,o1,o2,rfl,HL1.out,HL2.out,hr1,hr2⟩,HBf.out⟩
open Lin
abbrev smO:List (List Rat):=[rats [3,5]]
abbrev smR:List (List Rat):=[rats [1,0],rats [0,2],rats [3,2]]
abbrev smB:List Rat:=rats [4,12,18]
theorem zRy:OnlyV (prob1 2 smO smR smB) 36:=fun D k hI hE=>by
 obtain ⟨h1,h2⟩:=zCC (D:=D) (k:=k) hI hE;exact ⟨h1,fun h=>(h2 h).1⟩
theorem zSn (hI:PInv (prob1 2 smO smR smB) none D) (hE:Ends (prob1 2 smO smR smB) none D 1):D.dual (prob1 2 smO smR smB) 0=0/\D.dual (prob1 2 smO smR smB) 1=3 / 2/\D.c 0 2=36:=by
 obtain ⟨e0,e1,-⟩:=zJr (zA5 (P:=PSm) hI hE (by decide));exact ⟨e0,e1,((zCC (D:=D) hI hE).2 rfl).1⟩
abbrev PDs:Prob:=prob1 3 [smB.map fun q=>- q] (dRows 3 smR 2) (dBnd smO 2)
theorem zSw:PDs.A 0 0=-1/\PDs.A 0 1=0/\PDs.A 0 2=-3/\PDs.A 1 0=0/\PDs.A 1 1=-2/\PDs.A 1 2=-2:=by decide +kernel
theorem zSE:PDs.b 0=-3/\PDs.b 1=-5:=by decide +kernel
theorem zSD:PDs.O 0 0=-4/\PDs.O 0 1=-12/\PDs.O 0 2=-18:=by decide +kernel
theorem zRS:PDs.Feasible (at3 0 (3/2) 1):=by
 obtain ⟨a0,a1,a2,a3,a4,a5⟩:=zSw;obtain ⟨b0,b1⟩:=zSE;have x0:at3 0 (3/2) 1 0=0:=rfl;have x1:at3 0 (3/2) 1 1=3/2:=rfl;have x2:at3 0 (3/2) 1 2=1:=rfl;refine ⟨all3 (by rw [x0]; exact Rat.le_refl) (by rw [x1]; grind) (by rw [x2]; grind),all2 ?_ ?_⟩
 all_goals
  show sum 3 _<=_;rw [sum3];simp only [a0,a1,a2,a3,a4,a5,b0,b1,x0,x1,x2];grind
theorem zRR:PDs.Dual (at2 2 6):=by
 obtain ⟨a0,a1,a2,a3,a4,a5⟩:=zSw;obtain ⟨o0,o1,o2⟩:=zSD;have x0:at2 2 6 0=2:=rfl;have x1:at2 2 6 1=6:=rfl;refine ⟨all2 (by rw [x0]; grind) (by rw [x1]; grind),all3 ?_ ?_ ?_⟩
 all_goals
  show _<=sum 2 _;rw [sum2];simp only [a0,a1,a2,a3,a4,a5,o0,o1,o2,x0,x1];grind
theorem zRU:OnlyX PDs [2,6]:=fun D k hI hE=>by
 obtain ⟨b0,b1⟩:=zSE;obtain ⟨o0,o1,o2⟩:=zSD;obtain ⟨a0,a1,a2,a3,a4,a5⟩:=zSw
 have hk:k=1:=by
  rcases hE.cases with rfl | rfl | rfl
  ·rfl
  ·exact absurd zRS (ends2 hI hE _)
  ·exact absurd zRR (ends3 hI hE Nat.one_pos _)
 refine ⟨hk,fun _=>?_⟩;subst hk
 have hv:PValid PDs (at2 2 6):=⟨zRR,_,zRS,by
  show sum 3 _=sum 2 _;have x0:at3 0 (3/2) 1 0=0:=rfl;have x1:at3 0 (3/2) 1 1=3/2:=rfl;have x2:at3 0 (3/2) 1 2=1:=rfl;have y0:at2 2 6 0=2:=rfl;have y1:at2 2 6 1=6:=rfl;rw [sum3,sum2];simp only [o0,o1,o2,b0,b1,x0,x1,x2,y0,y1];grind⟩
 have hd:=zA5 hI hE Nat.one_pos;have e:sum 2 (fun i=>D.dual PDs i*PDs.b i)=sum 2 fun i=>at2 2 6 i*PDs.b i:=zBW hd hv
 have y0:at2 2 6 0=2:=rfl;have y1:at2 2 6 1=6:=rfl;rw [sum2,sum2] at e;simp only [b0,b1,y0,y1] at e;have d0:=hd.1.2 0 (by decide);have d1:=hd.1.2 1 (by decide);have d2:=hd.1.2 2 (by decide);change _<=sum 2 _ at d0;change _<=sum 2 _ at d1;change _<=sum 2 _ at d2;rw [sum2] at d0 d1 d2;simp only [a0,a1,a2,a3,a4,a5,o0,o1,o2] at d0 d1 d2;have e0:D.dual PDs 0=2:=by grind
 have e1:D.dual PDs 1=6:=by grind
 show [D.dual PDs 0,D.dual PDs 1]=_;rw [e0,e1]
theorem zSJ {o1:Option Rat} (h:Lim (prob1 2 [sdRow (smO.getD 0 []) 2 0 2 36] (sdRows smR smB 2 0 2 3) (smB.map ((2:Rat)⁻¹*·))) (fun t=>t-36*(2:Rat)⁻¹) o1):o1=some (-3):=
 (h.two 0 3 0 (5/2) 0 15 rfl rfl rfl (by decide +kernel) (by decide +kernel) (by decide +kernel) (by decide +kernel)).trans (by decide +kernel)
theorem zSK {o2:Option Rat} (h:Lim (prob1 2 [sdRow (smO.getD 0 []) 2 0 2 36] (sdRows smR smB 2 0 2 3) ((colOf smR 0 3).map ((-1:Rat)*·))) (fun t=>-(t+(smO.getD 0 []).getD 0 0)) o2):o2=some (9/2):=
 (h.two (1/2) (3/2) 0 0 (5/2) (-15/2) rfl rfl rfl (by decide +kernel) (by decide +kernel) (by decide +kernel) (by decide +kernel)).trans (by decide +kernel)
theorem zSL {o1:Option Rat} (h:Lim (prob1 2 [sdRow (smO.getD 0 []) 2 1 6 36] (sdRows smR smB 2 1 6 3) (smB.map ((6:Rat)⁻¹*·))) (fun t=>t-36*(6:Rat)⁻¹) o1):o1=some (-3):=
 (h.two (4/3) (1/6) 0 0 1 3 rfl rfl rfl (by decide +kernel) (by decide +kernel) (by decide +kernel) (by decide +kernel)).trans (by decide +kernel)
theorem zSM {o2:Option Rat} (h:Lim (prob1 2 [sdRow (smO.getD 0 []) 2 1 6 36] (sdRows smR smB 2 1 6 3) ((colOf smR 1 3).map ((-1:Rat)*·))) (fun t=>-(t+(smO.getD 0 []).getD 1 0)) o2):o2=none:=
 h.none (fun x hx=>by
  have h1:=hx.2 1 (by decide);change sum 2 _<=_ at h1;rw [sum2] at h1;have a0:(prob1 2 [sdRow (smO.getD 0 []) 2 1 6 36] (sdRows smR smB 2 1 6 3) ((colOf smR 1 3).map ((-1:Rat)*·))).A 1 0=0:=by decide +kernel
  have a1:(prob1 2 [sdRow (smO.getD 0 []) 2 1 6 36] (sdRows smR smB 2 1 6 3) ((colOf smR 1 3).map ((-1:Rat)*·))).A 1 1=0:=by decide +kernel
  have b1:(prob1 2 [sdRow (smO.getD 0 []) 2 1 6 36] (sdRows smR smB 2 1 6 3) ((colOf smR 1 3).map ((-1:Rat)*·))).b 1=-2:=by decide +kernel
  rw [a0,a1,b1] at h1;grind) Nat.one_pos
theorem zSN (hI:PInv (prob1 2 smO smR smB) none D) (hE:Ends (prob1 2 smO smR smB) none D 1) {o1 o2:Option Rat} (h1:RangeLo 2 smO smR smB 0 (D.c 0 2) (D.dual (prob1 2 smO smR smB) 0) o1) (h2:RangeUp 2 smO smR smB 0 (D.c 0 2) (D.dual (prob1 2 smO smR smB) 0) o2):o1=some (-2)/\o2=none:=by
 obtain ⟨e0,-,ev⟩:=zSn hI hE;have h:=h1.1 e0;rw [ev] at h;unfold FreeLim at h;exact ⟨(h.two 2 6 (1/3) (5/6) 0 (-2) rfl rfl rfl (by decide +kernel) (by decide +kernel) (by decide +kernel) (by decide +kernel)).trans (by decide +kernel),h2.1 e0⟩
theorem zSO (hI:PInv (prob1 2 smO smR smB) none D) (hE:Ends (prob1 2 smO smR smB) none D 1) {o1 o2:Option Rat} (h1:RangeLo 2 smO smR smB 1 (D.c 0 2) (D.dual (prob1 2 smO smR smB) 1) o1) (h2:RangeUp 2 smO smR smB 1 (D.c 0 2) (D.dual (prob1 2 smO smR smB) 1) o2):o1=some (-6)/\o2=some 6:=by
 obtain ⟨-,e1,ev⟩:=zSn hI hE;have hne:D.dual (prob1 2 smO smR smB) 1 ≠ 0:=by rw [e1]; decide +kernel
 have g1:=h1.2 hne;have g2:=h2.2 hne;rw [e1,ev] at g1 g2;unfold TgLo at g1;unfold TgUp at g2;exact ⟨(g1.two 4 3 3 (5/2) 0 (-18) rfl rfl rfl (by decide +kernel) (by decide +kernel) (by decide +kernel) (by decide +kernel)).trans (by decide +kernel),(g2.two 0 9 0 0 (5/3) 30 rfl rfl rfl (by decide +kernel) (by decide +kernel) (by decide +kernel) (by decide +kernel)).trans (by decide +kernel)⟩
theorem zSI {s v:Rat} (hI:PInv (prob1 2 smO smR (bset smB 1 s)) none D) (hE:Ends (prob1 2 smO smR (bset smB 1 s)) none D k) (a b c d e:Rat)
  (hx:((0<=a/\0<=b)/\(prob1 2 smO smR (bset smB 1 s)).A 0 0*a+(prob1 2 smO smR (bset smB 1 s)).A 0 1*b<=(prob1 2 smO smR (bset smB 1 s)).b 0/\(prob1 2 smO smR (bset smB 1 s)).A 1 0*a+(prob1 2 smO smR (bset smB 1 s)).A 1 1*b<=(prob1 2 smO smR (bset smB 1 s)).b 1/\(prob1 2 smO smR (bset smB 1 s)).A 2 0*a+(prob1 2 smO smR (bset smB 1 s)).A 2 1*b<=(prob1 2 smO smR (bset smB 1 s)).b 2))
  (hy:(0<=c/\0<=d/\0<=e)/\(prob1 2 smO smR (bset smB 1 s)).O 0 0<=c*(prob1 2 smO smR (bset smB 1 s)).A 0 0+d*(prob1 2 smO smR (bset smB 1 s)).A 1 0+e*(prob1 2 smO smR (bset smB 1 s)).A 2 0/\(prob1 2 smO smR (bset smB 1 s)).O 0 1<=c*(prob1 2 smO smR (bset smB 1 s)).A 0 1+d*(prob1 2 smO smR (bset smB 1 s)).A 1 1+e*(prob1 2 smO smR (bset smB 1 s)).A 2 1)
  (ex:(prob1 2 smO smR (bset smB 1 s)).O 0 0*a+(prob1 2 smO smR (bset smB 1 s)).O 0 1*b=v) (ey:c*(prob1 2 smO smR (bset smB 1 s)).b 0+d*(prob1 2 smO smR (bset smB 1 s)).b 1+e*(prob1 2 smO smR (bset smB 1 s)).b 2=v):k=1/\D.c 0 2=v:=
 (cert (x:=at2 a b) (y:=at3 c d e) (zRW rfl rfl hx) (zRV rfl rfl hy) (by show sum 2 _=_; rw [sum2]; exact ex) (by show sum 3 _=_; rw [sum3]; exact ey) Nat.one_pos hI hE)
theorem zSB (hI:PInv (prob1 2 smO smR (bset smB 1 0)) none D) (hE:Ends (prob1 2 smO smR (bset smB 1 0)) none D k):k=1/\D.c 0 2=36:=zSI hI hE 2 6 0 (3/2) 1 (by decide +kernel) (by decide +kernel) (by decide +kernel) (by decide +kernel)
theorem zSC (hI:PInv (prob1 2 smO smR (bset smB 1 2)) none D) (hE:Ends (prob1 2 smO smR (bset smB 1 2)) none D k):k=1/\D.c 0 2=39:=zSI hI hE (4/3) 7 0 (3/2) 1 (by decide +kernel) (by decide +kernel) (by decide +kernel) (by decide +kernel)
theorem zSz {e:Ending} (h:OptsRet w 2 smO smR smB 1 [0,2] e w'):∃ y:SV,e = .returned (.tuple #[y.val,.int .i64 0])/\VecCan w' AllB AllB y [36,39]:=by
 rcases h with ⟨y,vs,rfl,hy,hl,ha⟩ | ⟨j,k,c,D,hj,hI,hE,hk,-⟩
 ·have e0:vs.getD 0 0=36:=by
   obtain ⟨D,hI,hE,e⟩:=(ha 0 (by decide)).1;rw [e]; exact (zSB hI hE).2
  have e1:vs.getD 1 0=39:=by
   obtain ⟨D,hI,hE,e⟩:=(ha 1 (by decide)).1;rw [e]; exact (zSC hI hE).2
  have hl2:vs.length=2:=hl
  have ev:vs=[36,39]:=by
   match vs,hl2 with
   | [a,b],_=>
    have h0:a=36:=e0;have h1:b=39:=e1;rw [h0,h1]
  rw [ev] at hy;exact ⟨y,rfl,hy⟩
 ·exfalso
  have h1:k=1:=by
   rcases (show j=0\/j=1 by have:j<2:=hj; omega) with rfl | rfl
   ·exact (zSB hI hE).1
   ·exact (zSC hI hE).1
  omega
end Go.Proofs.YtbpngececjihlaaGreat
