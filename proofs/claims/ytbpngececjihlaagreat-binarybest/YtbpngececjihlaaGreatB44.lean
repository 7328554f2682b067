/- Texts BnZ7 BoA BoB of this claim. -/
import Derived.Test.YtbpngececjihlaaGreatB43
set_option maxHeartbeats 4000000
set_option maxRecDepth 40000
namespace Go.Proofs.YtbpngececjihlaaGreat
open Go.RowKit Go.Shelf
variable {k L b B j pb:Nat} {w W W2:World} {v v':Value} {s:SV} {l:List Rat}
namespace Lin
theorem zLE {f:Nat->Rat} {k:Nat} (h:∀ i,Lin.Fits k (f i)):∀ n,Lin.Fits (n*(k+1)) (Lin.sum n f)
 | 0=>Lin.Fits.zero _
 | n+1=>by
  have:=(zLE h n).add (h n);rw [Nat.succ_mul];exact this
namespace BP
variable {B:BP} {av:Nat->Int} {k:Nat}
theorem base_fits (hav:B.Av av) (v:Nat):Lin.Fits 0 (B.base av B.nb v):=by
 rcases base_sgn hav (k:=v) (nlr B.nb) with h | h | h <;> rw [h]
 ·exact Lin.Fits.zero _
 ·exact Lin.Fits.one _
 ·exact (Lin.Fits.one _).neg
theorem dot_fits (hav:B.Av av) {f:Nat->Rat} (hf:∀ v,Lin.Fits k (f v)):Lin.Fits (B.V*(k+1)) (B.dot f (B.base av B.nb)):=
 zLE (fun v=>(hf v).mul (base_fits hav v)) _
theorem lev_fits (hO:∀ l v,l<B.K->Lin.Fits k (B.O l v)) (l v:Nat):Lin.Fits k (B.lev l v):=by
 unfold lev
 split
 ·exact hO l v ‹_›
 ·split
  ·exact (Lin.Fits.one _).neg
  ·exact Lin.Fits.zero _
theorem start_fits (hav:B.Av av) (hA:∀ i v,i<B.M->Lin.Fits k (B.A i v)) (hb:∀ i,i<B.M->Lin.Fits k (B.b i)) (hO:∀ l v,l<B.K->Lin.Fits k (B.O l v)):(B.prob av).start.Fits (B.prob av) (k+B.V*(k+1)+1):=by
 have hle:k<=k+B.V*(k+1)+1:=om
 refine ⟨fun i j _ _=>?_,fun l j _ _=>?_⟩
 ·show Lin.Fits _ (if j<_ then (if i<B.M then _ else if _ then 1 else 0) else (if i<B.M then _ else 1))
  split
  ·split
   ·exact (hA i _ ‹_›).mono hle
   ·split
    ·exact Lin.Fits.one _
    ·exact Lin.Fits.zero _
  ·split
   ·exact (hb i ‹_›).sub (dot_fits hav fun v=>hA i v ‹_›)
   ·exact Lin.Fits.one _
 ·show Lin.Fits _ (if j<_ then-B.lev l _ else 0)
  split
  ·exact ((lev_fits hO l _).mono hle).neg
  ·exact Lin.Fits.zero _
end BP
end Lin
def bqk (V k:Nat):Nat:=5 ^ V*(k+V*(k+1)+1)+V*(k+1)+1
theorem SoK.of {B:Lin.BP} (hk:1<=k) (hA:∀ i v,i<B.M->Lin.Fits k (B.A i v)) (hb:∀ i,i<B.M->Lin.Fits k (B.b i)) (hO:∀ l v,l<B.K->Lin.Fits k (B.O l v)) (hL:bqk B.V k+1<=L) (hL6:8<=L) (hLM:L<=LM)
  (h4:1000000*(k+1)<32*LM) (h5:(B.M+B.nb)*(2*bqk B.V k+1)+bqk B.V k+2<=LM) (h3:2*bqk B.V k+1<=LM):SoK B L:=by
 refine ⟨fun av hav=>⟨5 ^ B.V*(k+B.V*(k+1)+1),bqk B.V k,k,k+B.V*(k+1)+1,k,?_,?_⟩⟩
 ·have h1:(1:Nat)<=5 ^ B.V:=Nat.pow_pos dj;have hz:B.V*(k+1)<=bqk B.V k:=by unfold bqk; omega
  have hkb:5 ^ B.V*(k+B.V*(k+1)+1)+B.V*(k+1)+1<=bqk B.V k:=nlr _
  have hk1:k<=bqk B.V k:=by
   have:=Nat.mul_le_mul h1 (nlr (k+B.V*(k+1)+1));unfold bqk; omega
  have hfit:∀ D,Lin.Good (B.prob av) D->D.Fits (B.prob av) (5 ^ B.V*(k+B.V*(k+1)+1)):=fun D hD=>by
   have:=hD.fits (k:=k+B.V*(k+1)+1) om (Lin.BP.start_fits hav hA hb hO);have hle:5 ^ (B.prob av).n*(k+B.V*(k+1)+1)<=5 ^ B.V*(k+B.V*(k+1)+1):=Nat.mul_le_mul_right _ (Nat.pow_le_pow_right dj (zNl B av));exact ⟨fun i j hi hj=>(this.1 i j hi hj).mono hle,fun l j hl hj=>(this.2 l j hl hj).mono hle⟩
  refine ⟨hfit,om,fun D hD l hl j hj=>?_,fun l v _=>(Lin.BP.lev_fits hO l v).mono hk1,fun l _=>(Lin.BP.dot_fits hav fun v=>Lin.BP.lev_fits hO l v).mono hz,fun l v _=>(Lin.BP.lev_fits hO l v).mul (Lin.BP.base_fits hav v),hLM,hL,h3,h4,?_⟩
  ·have hc:=(hfit D hD).2 l;unfold glR
   split
   ·exact (hc _ hl (nlr _)).add (Lin.BP.dot_fits hav fun v=>Lin.BP.lev_fits hO l v)
   ·exact (hc j hl hj).mono om
  ·have:=Nat.mul_le_mul_right (2*bqk B.V k+1) (zNk B av);omega
 ·refine ⟨fun i v hi=>(hA i v hi).mul (Lin.BP.base_fits hav v),fun i hi=>(Lin.BP.dot_fits hav fun v=>hA i v hi).mono om,fun i hi=>(hb i hi).sub (Lin.BP.dot_fits hav fun v=>hA i v hi),h4,?_,hLM,hL6⟩;have h1:(1:Nat)<=5 ^ B.V:=Nat.pow_pos dj;have:=Nat.mul_le_mul h1 (nlr (k+B.V*(k+1)+1));unfold bqk at hL;omega
theorem zMd {l m n:List Int} (hl:l.length<=1000) (hr:∀ x ∈ l,-9223372036854775808<=x/\x<=9223372036854775807) (hm:m.length<=1000) (hs:∀ x ∈ m,-9223372036854775808<=x/\x<=9223372036854775807) (hn:n.length<=1000) (ht:∀ x ∈ n,-9223372036854775808<=x/\x<=9223372036854775807) :
  Calls Tryz.prog 92 #[.slice (some ⟨w+1+1+1,0,none⟩) 3 3] ((((w.alloc (intCells l)).alloc (intCells m)).alloc (intCells n)).alloc (.cells #[.slice (some w) l.length l.length,.slice (some ⟨w+1,0,none⟩) m.length m.length,.slice (some ⟨w+1+1,0,none⟩) n.length n.length] 109)) fun e w'=>MRet w [rats l,rats m,rats n] e w'/\Below w w w':=by
 obtain ⟨W,hW⟩:∃ W,W=(((w.alloc (intCells l)).alloc (intCells m)).alloc (intCells n)).alloc (.cells #[.slice (some w) l.length l.length,.slice (some ⟨w+1,0,none⟩) m.length m.length,.slice (some ⟨w+1+1,0,none⟩) n.length n.length] 109):=⟨_,rfl⟩;rw [<-hW];have i1:W.heap[w.heap.size]?=some (.cells (l.map fun z=>Value.int .i64 z).toArray 2 (0,0)):=by rw [hW]; exact (Below.heap_alloc _ _ _ (by simp <;> omega)).trans ((Below.heap_alloc _ _ _ (by simp <;> omega)).trans ((Below.heap_alloc _ _ _ si).trans (zAd _ _ rfl)))
 have i2:W.heap[w.heap.size+1]?=some (.cells (m.map fun z=>Value.int .i64 z).toArray 2 (0,0)):=by rw [hW]; exact (Below.heap_alloc _ _ _ (by simp <;> omega)).trans ((Below.heap_alloc _ _ _ si).trans (zAd _ _ si))
 have i3:W.heap[w.heap.size+1+1]?=some (.cells (n.map fun z=>Value.int .i64 z).toArray 2 (0,0)):=by rw [hW]; exact (Below.heap_alloc _ _ _ si).trans (zAd _ _ si)
 have g1:W.heap[w.heap.size+1+1+1]?=some (.cells #[.slice (some w) l.length l.length,.slice (some ⟨w+1,0,none⟩) m.length m.length,.slice (some ⟨w+1+1,0,none⟩) n.length n.length] 109 (0,0)):=by rw [hW]; exact zAd _ _ si
 have hb:Below w w W:=by rw [hW]; exact (((bal).alloc si _).alloc (by simp <;> omega) _).alloc (by simp <;> omega) _
 clear hW
 refine (zBa (s:=⟨some ⟨w+1+1+1,0,none⟩,3,3⟩) (m:=[l,m,n]) (IntsMat.blk (ss:=[⟨some ⟨w,0,none⟩,l.length,l.length⟩,⟨some ⟨w+1,0,none⟩,m.length,m.length⟩,⟨some ⟨w+1+1,0,none⟩,n.length,n.length⟩]) g1 (by show 3<=1000; omega) rfl (fun i hi=>by
  have hi':i<3:=hi;rcases (show i=0\/i=1\/i=2 by omega) with rfl | rfl | rfl
  ·exact ⟨IntsAt.blk (l:=l) i1 hl hr,hl⟩
  ·exact ⟨IntsAt.blk (l:=m) i2 hm hs,hm⟩
  ·exact ⟨IntsAt.blk (l:=n) i3 hn ht,hn⟩)) (by show 3<=1000; omega)).mono ?_
 rintro e w' ⟨⟨s,rfl,hv⟩,hb'⟩;exact ⟨⟨s,rfl,hv.low hb.size⟩,hb.trans (hb'.mono hb.size)⟩
def BinRet (w:World) (V:Nat) (os rs:List (List Rat)) (bs:List Rat) (zs:List Int) (e:Ending) (w':World):Prop:=
 ∃ b:BinV,e = .returned b.val/\b.p.n=V/\MatCan w' (New w) (New w) b.p.O os/\MatCan w' (New w) (New w) b.p.R rs/\VecCan w' (New w) (New w) b.p.B bs/\IntsAt w' b.bin zs
theorem zKK :Calls Tryz.prog 66 #[] w fun e w'=>BinRet w 3 [rats [5,4,3]] [rats [2,3,1],rats [4,1,2],rats [3,4,2]] (rats [5,11,8]) [0,1,2] e w'/\Below w w w':=by
 go_enter Tryz.func66,Tryz.ntmps66
 go_wp2_with fail
 have b1:(w.alloc (.cells #[.int .i64 0,.slice none 0 0,.slice none 0 0,.slice none 0 0,.slice none 0 0] 50)).heap[w.heap.size]?=some (.cells #[.int .i64 0,.slice none 0 0,.slice none 0 0,.slice none 0 0,.slice none 0 0] 50 (0,0)):=zAd _ _ rfl;have hbl:Below w w (w.alloc (.cells #[.int .i64 0,.slice none 0 0,.slice none 0 0,.slice none 0 0,.slice none 0 0] 50)):=bal;have hl1:=zAa b1;have hs1:(w.alloc (.cells #[.int .i64 0,.slice none 0 0,.slice none 0 0,.slice none 0 0,.slice none 0 0] 50)).heap.size=w.heap.size+1:=si
 generalize w.alloc (.cells #[.int .i64 0,.slice none 0 0,.slice none 0 0,.slice none 0 0,.slice none 0 0] 50)=W1 at *;rw [<-hs1];refine (zDv (w:=W1) (l:=[5,4,3]) dj dj).mono ?_;rintro e w2 ⟨⟨⟨oA,on,oc⟩,rfl,ho⟩,hb2⟩;have b2:=(hb2.block _ hl1).trans b1;have hbl2:=hbl.trans (hb2.mono hbl.size);dsimp only [SV.val];go_wp2_with fail
 refine (zMd (w:=w2) (l:=[2,3,1]) (m:=[4,1,2]) (n:=[3,4,2]) dj dj dj dj dj dj).mono ?_;rintro e w3 ⟨⟨⟨mA,mn,mc⟩,rfl,hm⟩,hb3⟩;have b3:=(hb3.block _ (zAa b2)).trans b2;have hbl3:=hbl2.trans (hb3.mono hbl2.size);dsimp only [SV.val];go_wp2_with fail
 refine (zCE (w:=w3) (l:=[5,11,8]) dj dj).mono ?_;rintro e w4 ⟨⟨⟨vA,vn,vc⟩,rfl,hv⟩,hb4⟩;have b4:=(hb4.block _ (zAa b3)).trans b3;have hbl4:=hbl3.trans (hb4.mono hbl3.size);have HO:=hdq ((ho.belowC (hb3.trans (hb4.mono hb3.size))).low (B':=w+1) om);have HM:=hdq ((hm.belowC hb4).low (B':=w+1) (by have:=hb2.size; omega));have HV:=hdq (hv.low (B':=w+1) (by have:=hb2.size; have:=hb3.size; omega));have hl4:=zAa b4;clear ho hm hv b1 b2 b3 hb2 hb3 hb4 hbl hbl2 hbl3 hl1;dsimp only [SV.val];have c0:w4.cell? w=some (.int .i64 0):=by simp [World.cell?,b4]
 have c1:w4.cell? ⟨w.heap.size,1,none⟩=some (.slice none 0 0):=by simp [World.cell?,b4]
 have c2:w4.cell? ⟨w.heap.size,2,none⟩=some (.slice none 0 0):=by simp [World.cell?,b4]
 have c3:w4.cell? ⟨w.heap.size,3,none⟩=some (.slice none 0 0):=by simp [World.cell?,b4]
 have c4:w4.cell? ⟨w.heap.size,4,none⟩=some (.slice none 0 0):=by simp [World.cell?,b4]
 have cf:∀ o,w4.frozen? ⟨w.heap.size,o,none⟩=false:=fun o=>by simp [World.frozen?,b4]
 go_wp2;obtain ⟨Wf,hWf⟩:∃ Wf,Wf=((((((w4.setCell w (.int .i64 3)).setCell ⟨w.heap.size,1,none⟩ (.slice oA on oc)).setCell ⟨w.heap.size,2,none⟩ (.slice mA mn mc)).setCell ⟨w.heap.size,3,none⟩ (.slice vA vn vc)).setCell ⟨w.heap.size,4,none⟩ (.slice (some ⟨w4+1,0,none⟩) 3 3)).alloc (.cells #[.int .i64 3,.slice oA on oc,.slice mA mn mc,.slice vA vn vc] 25)).alloc (.cells #[.int .i64 0,.int .i64 1,.int .i64 2] 3):=⟨_,rfl⟩;rw [<-hWf]
 have hF:Fr (fun y=>y=w.heap.size) w4 Wf:=by
  rw [hWf];exact (((((((Fr.refl (fun y=>y=w.heap.size) w4).set (p:=w) rfl _).set (p:=⟨w.heap.size,1,none⟩) rfl _).set (p:=⟨w.heap.size,2,none⟩) rfl _).set (p:=⟨w.heap.size,3,none⟩) rfl _).set (p:=⟨w.heap.size,4,none⟩) rfl _).call (bal)).call (bal)
 have hZ:Wf.heap[w4.heap.size+1]?=some (.cells (([0,1,2]:List Int).map fun z=>Value.int .i64 z).toArray 3 (0,0)):=by rw [hWf]; exact zAd _ _ si
 have q0:Wf.cell? w=some (.int .i64 3):=by rw [hWf]; go_simp
 have q1:Wf.cell? ⟨w.heap.size,1,none⟩=some (.slice oA on oc):=by rw [hWf]; go_simp
 have q2:Wf.cell? ⟨w.heap.size,2,none⟩=some (.slice mA mn mc):=by rw [hWf]; go_simp
 have q3:Wf.cell? ⟨w.heap.size,3,none⟩=some (.slice vA vn vc):=by rw [hWf]; go_simp
 have q4:Wf.cell? ⟨w.heap.size,4,none⟩=some (.slice (some ⟨w4+1,0,none⟩) 3 3):=by rw [hWf]; go_simp
 have hk:∀ p:Addr,New (w+1) p.block->p.block<w4->Wf.cell? p=w4.cell? p:=fun p hp hl=>hF.cell hl fun e=>by simp only [New] at hp; omega
 refine bodyPost_ret (v:=BinV.val ⟨⟨3,⟨oA,on,oc⟩,⟨mA,mn,mc⟩,⟨vA,vn,vc⟩⟩,⟨some ⟨w4+1,0,none⟩,3,3⟩⟩) (by simp [results,Tryz.results66,go_sem,q0,q1,q2,q3,q4,BinV.val,SV.val]) rfl ⟨⟨_,rfl,rfl,?_,?_,?_,?_⟩,hbl4.trans (hF.below hbl4.size fun b e=>om)⟩
 ·exact (HO.out.keep hk fun v q hq=>hq.keep hk).low (Nat.le_add_right _ _)
 ·exact (HM.out.keep hk fun v q hq=>hq.keep hk).low (Nat.le_add_right _ _)
 ·exact (HV.out.keep hk fun v q hq=>hq.keep hk).low (Nat.le_add_right _ _)
 ·exact IntsAt.blk (l:=[0,1,2]) hZ dj dj
def SS (v:Value):Prop:=∃ A n c,v = .slice A n c
theorem NoQ.ss (h:CT SS w v) (hb:v.ownBlock=some b):NoQ w b:=
 NoQ.ct (fun g hg=>by
  obtain ⟨cs,T,fz,h1,h2⟩:=h g hg;exact ⟨cs,T,fz,h1,fun c hc=>.inl (h2 c hc)⟩) hb
theorem MatAt.mid {m:List (List Rat)} (h:MatCan w (New B) (New B) s m):MatCan w (fun y=>B<=y/\y<w.heap.size) (fun y=>B<=y/\y<w.heap.size) s m:=
 h.imp (fun _b hl hb=>⟨hb,hl⟩) fun _ _ hq=>hq.imp fun _b hl hb=>⟨hb,hl⟩
theorem VecAt.mid (h:VecCan w (New B) (New B) s l):VecCan w (fun y=>B<=y/\y<w.heap.size) (fun y=>B<=y/\y<w.heap.size) s l:=
 h.imp (fun _b hl hb=>⟨hb,hl⟩) fun _ _ hq=>hq.imp fun _b hl hb=>⟨hb,hl⟩
structure OnI (w:World) (pb:Nat) (o b:SV) (mo:List (List Rat)) (mb:List Rat) (r:List Int) (k:Nat) (vr:Value) (W:World):Prop where
 bel:Below w w W
 hp:w.heap.size+1<=pb
 blk:W.heap[pb]?=some (.cells #[.int .i64 1,o.val,vr,b.val] 25 (0,0))
 box:W.heap[w.heap.size]?=some (.cells #[.int .i64 0,.slice none 0 0,.slice none 0 0,.slice none 0 0,.slice none 0 0] 50 (0,0))
 own:∃ ss:List SV,W.ownsRow (pb+1) 23 1 vr k (ss.map SV.val)/\ss.length=k/\∀ j,j<k->VecCan W (New (w+1)) (New (w+1)) (ss.getD j ⟨none,0,0⟩) (rats [r.getD j 0])
 ct:CT SS W vr
 mo:MatCan W (fun y=>w.heap.size+1<=y/\y<pb) (fun y=>w.heap.size+1<=y/\y<pb) o mo
 mb:VecCan W (fun y=>w.heap.size+1<=y/\y<pb) (fun y=>w.heap.size+1<=y/\y<pb) b mb
def OnL (w:World) (pb:Nat) (o b:SV) (mo:List (List Rat)) (mb:List Rat) (r:List Int) (t:Value) (W:World):Prop:=∃ (k:Nat) (vr:Value),k<=r.length/\t = .int .i64 (k:Int)/\OnI w pb o b mo mb r k vr W
theorem OnI.ownlt {o b:SV} {mo:List (List Rat)} {mb:List Rat} {r:List Int} {vr:Value} (h:OnI w pb o b mo mb r k vr W) (hj:vr.ownBlock=some j):pb+1<=j/\j<W.heap.size:=by
 obtain ⟨ss,hown,-⟩:=h.own;obtain ⟨h1,cs,hh⟩:=zAc hown hj;exact ⟨h1,zAa hh⟩
theorem OnI.push {W1:World} {o b:SV} {mo:List (List Rat)} {mb:List Rat} {r:List Int} {vr:Value} {ob:Obj} {ss:List SV} (h:OnI w pb o b mo mb r k vr W) (hb:Below W W W1) (hs:VecCan W1 (New W) (New W) s (rats [r.getD k 0]))
  (ho:W.ownsRow (pb+1) 23 1 vr k (ss.map SV.val)) (hl:ss.length=k) (hv:∀ j,j<k->VecCan W (New (w+1)) (New (w+1)) (ss.getD j ⟨none,0,0⟩) (rats [r.getD j 0])) (ho2:W2.ownsRow (pb+1) 23 1 v' (k+1) (ss.map SV.val++[s.val])) (hg:(W1.alloc ob).grownBy W2 vr.ownBlock) (hct:CT SS W2 v') (hat:v'.ownBlock=vr.ownBlock\/v'.ownBlock=some (W1.alloc ob).heap.size) :
  OnI w pb o b mo mb r (k+1) v' (W2.setCell ⟨pb,2,none⟩ v'):=by
 obtain ⟨vA,vc,rfl,-,-⟩:=zKU ho;have hpl:=zAa h.blk;have hp:=h.hp;have hsz:=hb.size;have hF1:Fr (fun y=>(Value.slice vA k vc).ownBlock=some y) W1 W2:=⟨hg.os,hg.tape,hg.output,by have:=hg.size; simp at this; omega,fun b hb hn=>(hg.block b (by simp; omega) fun e=>hn e.symm).trans (Below.heap_alloc _ _ _ hb)⟩;have hF:Fr (fun y=>(Value.slice vA k vc).ownBlock=some y\/y=pb) W1 (W2.setCell ⟨pb,2,none⟩ v'):=(hF1.mono fun y hy=>.inl hy).set (p:=⟨pb,2,none⟩) (.inr rfl) _;have hFW:Fr (fun y=>(Value.slice vA k vc).ownBlock=some y\/y=pb) W (W2.setCell ⟨pb,2,none⟩ v'):=(Fr.of_below hb).trans hF;have no:∀ j,j<=pb->¬ (Value.slice vA k vc).ownBlock=some j:=fun j hj e=>by have:=(h.ownlt e).1; omega
 have hv'p:∀ j,v'.ownBlock=some j->j ≠ pb:=fun j hj e=>by
  rcases hat with h2 | h2
  ·exact no j om (h2.symm.trans hj)
  ·rw [h2] at hj;have:=Option.some.inj hj;simp at this;omega
 have hm:ss.map SV.val++[s.val]=(ss++[s]).map SV.val:=si
 rw [hm] at ho2;have kb:W2.heap[pb]?=_:=((hF1.block pb om (no _ (nlr _))).trans (hb.block pb hpl)).trans h.blk
 have hk:∀ p:Addr,(w.heap.size+1<=p.block/\p.block<pb)->p.block<W->(W2.setCell ⟨pb,2,none⟩ v').cell? p=W.cell? p:=fun p hp2 hl2=>hFW.cell hl2 fun e=>by
  rcases e with e | e
  ·exact no _ om e
  ·omega
 have nq:∀ y,(Value.slice vA k vc).ownBlock=some y\/y=pb->NoQ W1 y:=fun y hy=>by
  rcases hy with hy | rfl
  ·refine NoQ.ss (v:=.slice vA k vc) (fun g hg2=>?_) hy;obtain ⟨cs,T,fz,h1,h2⟩:=h.ct g hg2;exact ⟨cs,T,fz,(hb.block g (zAa h1)).trans h1,h2⟩
  ·have k1:W1.heap[y]?=_:=(hb.block y hpl).trans h.blk;intro p hp2;subst hp2;refine ⟨fun x hx=>?_,fun v hv=>?_⟩
   ·have:=zKM k1 hx;rcases p with ⟨pb,_ | _ | _ | _ | po,ps⟩ <;> simp at this
   ·have:=zKM k1 hv.1;rcases p with ⟨pb,_ | _ | _ | _ | po,ps⟩ <;> simp at this
 refine ⟨h.bel.trans (hFW.below h.bel.size fun y e=>by rcases e with e | e; have:=(h.ownlt e).1; omega; omega),hp,?_,(hFW.block _ (by have:=h.bel.size; have:=zAa h.box; omega) (fun e=>by rcases e with e | e; exact no _ om e; omega)).trans h.box,⟨ss++[s],zAr ho2 fun j hj=>bhs _ _ _ _ (hv'p j hj),by simp [hl],fun j hj=>?_⟩,?_,h.mo.keep hk fun v q hq=>hq.keep hk,h.mb.keep hk fun v q hq=>hq.keep hk⟩
 ·rw [zAe _ kb]; simp
 ·by_cases e:j<k
  ·rw [gdd,List.getElem?_append_left om,<-gdd];exact ((hv j e).belowC hb).stays (fun _ _ hq=>hq.stays nq hF) nq hF
  ·(obtain rfl:j=k:=om);have e2:(ss++[s]).getD j ⟨none,0,0⟩=s:=by rw [gdd,List.getElem?_append_right om]; simp [hl]
   rw [e2];exact (VecAt.stays hs (fun _ _ hq=>hq.stays nq hF) nq hF).low (by have:=h.bel.size; have:=zAa h.box; omega)
 ·intro g hg2;obtain ⟨cs,T,fz,h1,h2⟩:=hct g hg2;exact ⟨cs,T,fz,(bhs _ _ _ _ (hv'p g hg2)).trans h1,h2⟩
theorem zL8 {sr sm:SV} {r b:List Int} (hr:IntsAt w sr r) (hm:IntsAt w sm b) (hrn:sr.n<=1000) (hmn:sm.n<=1000) :
  Calls Tryz.prog 67 #[sr.val,sm.val] w fun e w'=>BinRet w 1 [rats [1]] (r.map fun z=>rats [z]) (rats b) [0] e w'/\Below w w w':=by
 obtain ⟨rA,rn,rc⟩:=sr;obtain ⟨mA,mn,mc⟩:=sm;have hrl:r.length=rn:=hr.len;have hle:rn<=rc:=hr.le;have hcap:rc<=9223372036854775807:=hr.cap;have HRr:=hdq hr;have HMm:=hdq hm;clear hr hm;dsimp only at hrn hmn;dsimp only [SV.val];go_enter Tryz.func67,Tryz.ntmps67
 go_wp2_with fail
 have b1:(w.alloc (.cells #[.int .i64 0,.slice none 0 0,.slice none 0 0,.slice none 0 0,.slice none 0 0] 50)).heap[w.heap.size]?=some (.cells #[.int .i64 0,.slice none 0 0,.slice none 0 0,.slice none 0 0,.slice none 0 0] 50 (0,0)):=zAd _ _ rfl;have hbl:Below w w (w.alloc (.cells #[.int .i64 0,.slice none 0 0,.slice none 0 0,.slice none 0 0,.slice none 0 0] 50)):=bal;have hl1:=zAa b1;have hs1:(w.alloc (.cells #[.int .i64 0,.slice none 0 0,.slice none 0 0,.slice none 0 0,.slice none 0 0] 50)).heap.size=w.heap.size+1:=si
 generalize w.alloc (.cells #[.int .i64 0,.slice none 0 0,.slice none 0 0,.slice none 0 0,.slice none 0 0] 50)=W1 at *;rw [<-hs1];refine (zDv (w:=W1) (l:=[1]) dj dj).mono ?_;rintro e w2 ⟨⟨⟨oA,on,oc⟩,rfl,ho⟩,hb2⟩;have b2:=(hb2.block _ hl1).trans b1;have hbl2:=hbl.trans (hb2.mono hbl.size);dsimp only [SV.val];go_wp2_with fail
 refine (zBP (s:=⟨mA,mn,mc⟩) (HMm.out.below hbl2) hmn).mono ?_;rintro e w3 ⟨⟨⟨vA,vn,vc⟩,rfl,hv⟩,hb3⟩;have b3:=(hb3.block _ (zAa b2)).trans b2;have hbl3:=hbl2.trans (hb3.mono hbl2.size);have hs13:W1.heap.size<=w3.heap.size:=nlt hb2.size hb3.size;have HO:=hdq ((ho.belowC hb3).low (B':=w+1) om).mid;have HV:=hdq (hv.low (B':=w+1) (by have:=hb2.size; omega)).mid;dsimp only [SV.val];go_upto_region 2 with fail
 have al3:Below w3 w3 (w3.alloc (.cells #[.int .i64 1,.slice oA on oc,.slice none 0 0,.slice vA vn vc] 25)):=bal
 have H0:OnL w w3 ⟨oA,on,oc⟩ ⟨vA,vn,vc⟩ [rats [1]] (rats b) r (.int .i64 0) (w3.alloc (.cells #[.int .i64 1,.slice oA on oc,.slice none 0 0,.slice vA vn vc] 25)):=
  ⟨0,.slice none 0 0,nzl _,rfl,hbl3.trans (al3.mono hbl3.size),om,zAd _ _ rfl,(al3.block _ (zAa b3)).trans b3,⟨[],World.ownsRow_nil _ _ _ _,rfl,fun j hj=>absurd hj (Nat.not_lt_zero j)⟩,fun g hg=>(by cases hg),HO.out.keep (fun a _ hl=>al3.cell hl) fun v q hq=>hq.keep fun a _ hl=>al3.cell hl,HV.out.keep (fun a _ hl=>al3.cell hl) fun v q hq=>hq.keep fun a _ hl=>al3.cell hl⟩
 clear ho hv b1 b2 b3 hb2 hb3 hbl hbl2 hbl3 hl1 al3 HO HV;generalize w3.alloc (.cells #[.int .i64 1,.slice oA on oc,.slice none 0 0,.slice vA vn vc] 25)=W4 at *;generalize w3.heap.size=pb at *;go_wp2;go_loopw [6] (fun t W=>OnL w pb ⟨oA,on,oc⟩ ⟨vA,vn,vc⟩ [rats [1]] (rats b) r t W) (fun t _=>rn-(intOf t).toNat)
 case atStart=>exact H0
 case round=>
  clear H0;obtain ⟨k,vr,hk,rfl,hI⟩:=hrel;obtain ⟨ss0,hss0,-⟩:=hI.own;obtain ⟨uA,uc,rfl,ho1,ho2⟩:=zKU hss0;clear hss0 ss0;have hpl:=zAa hI.blk;have hp1:=hI.hp;have hgl:=fun j h=>hI.ownlt (j:=j) h
  have HI:=hdq hI;by_cases e:k<rn
  ·have e1:(k:Int)<(rn:Int):=om;obtain ⟨ad,rfl,hcell⟩:=HRr.out.cell k om;obtain ⟨z,hz⟩:∃ z,r.getD k 0=z:=⟨_,rfl⟩;rw [hz] at hcell;have hcw:=(hI.bel.cell (zAb hcell)).trans hcell;have x2:wr.cell? ⟨pb,2,none⟩=some (.slice uA k uc):=by simp [World.cell?,hI.blk]
   have hzr:=HRr.out.range (r.getD k 0) (by
    have:r.getD k 0=r[k]'om:=(by simp [show k<r.length by omega]);rw [this]; exact List.getElem_mem _)
   rw [hz] at hzr;have HZ:=hdq hz;clear hz;clear hI;(go_upto_region 5 with fail);refine zAp 9 (fun f w'=>w'.cell? (ad.add k)=some (.int .i64 z)/\(f=false->w'.cell? ⟨pb,2,none⟩=some (.slice uA k uc))) kj ?_;have hS0:wr.drew.cell? (ad.add k)=some (.int .i64 z)/\(false=false->wr.drew.cell? ⟨pb,2,none⟩=some (.slice uA k uc)):=⟨hcw,fun _=>x2⟩;refine tx1 0 hS0 ?_;refine tkW 1 (.slice uA k uc) (fun w' hSw=>?_) (hS0) ?_
   ·have:=hSw.2 rfl; go_simp
   simp only [zz];refine tx4 2 3 4 5 hS0 ?_;refine tk1 6 ?_;intro K hK;go_simp;have al:Below wr wr (wr.alloc (.cells #[.int .i64 z] 2)).drew:=(bal).drew
   have i1:(wr.alloc (.cells #[.int .i64 z] 2)).drew.cell? wr=some (.int .i64 z):=by
    show (wr.alloc (.cells #[.int .i64 z] 2)).cell? wr=_;simp
   refine hK.out _ _ ⟨(al.cell (p:=ad.add k) (zAb hcw)).trans hcw,fun _=>(al.cell (p:=⟨pb,2,none⟩) hpl).trans x2⟩ ?_;clear hK K;refine tk1 7 ?_;intro K hK;go_simp;refine (zBP (s:=⟨some ⟨wr,0,none⟩,1,1⟩) (IntsAt.one i1 hzr.1 hzr.2) (by show 1<=1000; decide)).mono ?_;rintro e w7 ⟨⟨⟨sA,sn,sc⟩,rfl,hs⟩,hb7⟩;have h7:Below wr wr w7:=al.trans (hb7.mono al.size);refine hK.out _ _ ⟨(h7.cell (p:=ad.add k) (zAb hcw)).trans hcw,fun _=>(h7.cell (p:=⟨pb,2,none⟩) hpl).trans x2⟩ ?_;clear hK K;refine tk1 8 ?_;intro K hK;go_simp;have al8:Below wr wr (w7.alloc (.cells #[.slice sA sn sc] 23)).drew:=(h7.alloc h7.size _).drew;refine hK.out _ _ ⟨(al8.cell (p:=ad.add k) (zAb hcw)).trans hcw,fun _=>(al8.cell (p:=⟨pb,2,none⟩) hpl).trans x2⟩ ?_;clear hK K;refine tk1 9 ?_;intro K hK;obtain ⟨i0,hiI,hz0,hz1,hz2⟩:=info_parts zFA;obtain ⟨ss0,hss0,hsl0,hsv0⟩:=HI.out.own;have hss1:wr.ownsRow (pb+1) 23 1 (.slice uA k uc) k (ss0.map SV.val):=hss0;refine zKP SS _ _ 22 rfl (pb+1) 23 i0 (.slice none 0 0) 1 24 Tryz.underlying22 hiI hz0 hz1 hz2 rfl dj (.slice uA k uc) k (ss0.map SV.val) rfl ((zAr hss1 fun j hj=>h7.block j (hgl j hj).2).alloc _) ⟨w7,0,none⟩ 1 1 [.slice sA sn sc] rfl rfl (cell_one_new _ _ _) (by intro u hu; simp at hu; subst hu; rfl) (by simp [maxLen]; omega) om (by have:=h7.size; simp; omega) dj ?_ (by intro u hu; simp [Value.cells] at hu; subst hu; exact ⟨_,_,_,rfl⟩) (by intro u hu; simp at hu; subst hu; exact ⟨_,_,_,rfl⟩) ?_
   ·intro g hg;obtain ⟨cs,T,fz,q1,q2⟩:=HI.out.ct g hg;exact ⟨cs,T,fz,(al8.block g (hgl g hg).2).trans q1,q2⟩
   ·intro v' w9 hown9 hg9 hct9 hat9;obtain ⟨xA,xc,rfl,-,-⟩:=zKU hown9;have ksz:wr.heap.size<=w7.heap.size:=h7.size;have hlow:∀ y,y<=pb->w9.heap[y]?=wr.heap[y]?:=(fun y hy=>(hg9.block y (by simp; omega) fun e=>by have:=(hgl y e.symm).1; omega).trans ((Below.heap_alloc _ _ _ om).trans (h7.block y om)));have hadb:(ad.add k).block<w:=zAb hcell;have c9:w9.cell? (ad.add k)=some (.int .i64 z):=(cob (a:=ad.add k) (hlow _ om)).trans hcw;have d2:w9.cell? ⟨pb,2,none⟩=some (.slice uA k uc):=(cob (a:=⟨pb,2,none⟩) (hlow _ (nlr _))).trans x2;have df:∀ o,w9.frozen? ⟨pb,o,none⟩=false:=(fun o=>(World.frozen?_of_block (a:=⟨pb,o,none⟩) (hlow _ (nlr _))).trans (by simp [World.frozen?,HI.out.blk]));have Hfin:Hid (OnL w pb ⟨oA,on,oc⟩ ⟨vA,vn,vc⟩ [rats [1]] (rats b) r (.int .i64 ((k:Int)+1)) (w9.setCell ⟨pb,2,none⟩ (.slice xA (k+1) xc))):=hdq ⟨k+1,.slice xA (k+1) xc,om,si,HI.out.push h7 (s:=⟨sA,sn,sc⟩) (by rw [HZ.out]; exact hs.low al.size) hss1 hsl0 hsv0 hown9 hg9 hct9 hat9⟩;simp only [Act.put,zz];refine hK.out _ _ ⟨c9,fun h=>absurd h dj⟩ ?_;clear hK K hown9 hg9 hct9 hat9;refine tk1 10 ?_;intro K hK;go_simp;refine hK.out _ _ ⟨c9,fun h=>absurd h dj⟩ ?_;clear hK K;refine tk1 11 ?_;intro K hK;go_simp;refine hK.out _ _ ⟨(cob (a:=ad.add k) (bhs w9 ⟨pb,2,none⟩ _ _ (by show (ad.add k).block ≠ pb; omega))).trans c9,fun h=>absurd h dj⟩ ?_;clear hK K;refine zAf kj ?_ _;clear hs hb7 i1;go_wp2;go_roundw;case rel=>exact fn_ Hfin.out
    case measure=>simp [intOf]; omega
  ·(obtain rfl:k=rn:=om);have p0:wr.cell? pb=some (.int .i64 1):=(by simp [World.cell?,hI.blk]);have p1:wr.cell? ⟨pb,1,none⟩=some (.slice oA on oc):=(by simp [World.cell?,hI.blk]);have p2:wr.cell? ⟨pb,2,none⟩=some (.slice uA k uc):=(by simp [World.cell?,hI.blk]);have p3:wr.cell? ⟨pb,3,none⟩=some (.slice vA vn vc):=(by simp [World.cell?,hI.blk]);have c0:wr.cell? w=some (.int .i64 0):=(by simp [World.cell?,hI.box]);have c1:wr.cell? ⟨w.heap.size,1,none⟩=some (.slice none 0 0):=(by simp [World.cell?,hI.box]);have c2:wr.cell? ⟨w.heap.size,2,none⟩=some (.slice none 0 0):=(by simp [World.cell?,hI.box]);have c3:wr.cell? ⟨w.heap.size,3,none⟩=some (.slice none 0 0):=(by simp [World.cell?,hI.box]);have c4:wr.cell? ⟨w.heap.size,4,none⟩=some (.slice none 0 0):=(by simp [World.cell?,hI.box]);have cf:∀ o,wr.frozen? ⟨w.heap.size,o,none⟩=false:=(fun o=>by simp [World.frozen?,hI.box]);have hwl:w.heap.size<wr.heap.size:=zAa hI.box;clear hI;go_wp2;obtain ⟨Wf,hWf⟩:∃ Wf,Wf=((((((wr.setCell w (.int .i64 1)).setCell ⟨w.heap.size,1,none⟩ (.slice oA on oc)).setCell ⟨w.heap.size,2,none⟩ (.slice uA k uc)).setCell ⟨w.heap.size,3,none⟩ (.slice vA vn vc)).setCell ⟨w.heap.size,4,none⟩ (.slice (some wr) 1 1)).alloc (.cells #[.int .i64 0] 3)):=⟨_,rfl⟩;rw [<-hWf]
   have hF:Fr (fun y=>y=w.heap.size) wr Wf:=by
    rw [hWf];exact ((((((Fr.refl (fun y=>y=w.heap.size) wr).set (p:=w) rfl _).set (p:=⟨w.heap.size,1,none⟩) rfl _).set (p:=⟨w.heap.size,2,none⟩) rfl _).set (p:=⟨w.heap.size,3,none⟩) rfl _).set (p:=⟨w.heap.size,4,none⟩) rfl _).call (bal)
   have hZ:Wf.heap[wr.heap.size]?=some (.cells (([0]:List Int).map fun z=>Value.int .i64 z).toArray 3 (0,0)):=by rw [hWf]; exact zAd _ _ si
   have q0:Wf.cell? w=some (.int .i64 1):=by rw [hWf]; go_simp
   have q1:Wf.cell? ⟨w.heap.size,1,none⟩=some (.slice oA on oc):=by rw [hWf]; go_simp
   have q2:Wf.cell? ⟨w.heap.size,2,none⟩=some (.slice uA k uc):=by rw [hWf]; go_simp
   have q3:Wf.cell? ⟨w.heap.size,3,none⟩=some (.slice vA vn vc):=by rw [hWf]; go_simp
   have q4:Wf.cell? ⟨w.heap.size,4,none⟩=some (.slice (some wr) 1 1):=by rw [hWf]; go_simp
   have hk2:∀ p:Addr,(New (w+1) p.block)->p.block<wr->Wf.cell? p=wr.cell? p:=fun p hp hl=>hF.cell hl fun e=>by simp only [New] at hp; omega
   have hk3:∀ p:Addr,(w.heap.size+1<=p.block/\p.block<pb)->p.block<wr->Wf.cell? p=wr.cell? p:=(fun p hp hl=>hk2 p hp.1 hl);obtain ⟨ss,hown,hsl,hsv⟩:=HI.out.own
   have hU:MatCan Wf (New w) (New w) ⟨uA,k,uc⟩ (r.map fun z=>rats [z]):=by
    (obtain ⟨⟨A2,n2,c2⟩,e3,⟨h1,h2,h3,h4⟩,b3⟩:=own_arr' (f:=fun i=>(ss.getD i ⟨none,0,0⟩).val) hown fun j hj=>by simp [show j<ss.length by omega]);simp only [SV.val,Value.slice.injEq] at e3;obtain ⟨rfl,rfl,rfl⟩:=e3;refine ⟨by simp [hrl],h2,h3,fun i hi=>?_⟩;have hi':i<k:=hi;rcases h4 with ⟨h5,h6⟩ | ⟨g,cur,h5,h6,h7⟩
    ·omega
    ·subst h5;have hg:=hgl g (b3 g rfl);have hF2:Wf.heap[g]?=_:=(hF.block g hg.2 om).trans h6;refine ⟨⟨g,0,none⟩,ss.getD i ⟨none,0,0⟩,rfl,by show w.heap.size<=g; omega,?_,?_⟩
     ·rw [zA4,Nat.zero_add];simp only [World.cell?,hF2];exact h7 i hi'
     ·have hi2:i<r.length:=by rw [hrl]; exact hi'
      have e5:(r.map fun z=>rats [z]).getD i []=rats [r.getD i 0]:=by
       rw [gdd,gdd,List.getElem?_map,gge hi2]; rfl
      rw [e5];exact ((hsv i hi').keep hk2 fun v q hq=>hq.keep hk2).low (Nat.le_add_right _ _)
   refine bodyPost_ret (v:=BinV.val ⟨⟨1,⟨oA,on,oc⟩,⟨uA,k,uc⟩,⟨vA,vn,vc⟩⟩,⟨some ⟨wr,0,none⟩,1,1⟩⟩) (by simp [results,Tryz.results67,go_sem,q0,q1,q2,q3,q4,BinV.val,SV.val]) rfl ⟨⟨_,rfl,rfl,?_,?_,?_,?_⟩,HI.out.bel.trans (hF.below HI.out.bel.size fun b e=>om)⟩
   ·exact (HI.out.mo.keep hk3 fun v q hq=>hq.keep hk3).imp (fun b _ hb=>nlt (Nat.le_add_right _ _) hb.1) fun _ _ hq=>hq.imp fun b _ hb=>nlt (Nat.le_add_right _ _) hb.1
   ·exact hU
   ·exact (HI.out.mb.keep hk3 fun v q hq=>hq.keep hk3).imp (fun b _ hb=>nlt (Nat.le_add_right _ _) hb.1) fun _ _ hq=>hq.imp fun b _ hb=>nlt (Nat.le_add_right _ _) hb.1
   ·exact IntsAt.blk (l:=[0]) hZ dj dj
end Go.Proofs.YtbpngececjihlaaGreat
