/- Texts Enter Improve Solve Alive1 of this claim. -/
import Derived.Test.YtbpngececjihlaaGreatY22
set_option maxHeartbeats 4000000
set_option maxRecDepth 40000
namespace Go.Proofs.YtbpngececjihlaaGreat
open Go.RowKit Go.Shelf
attribute [local go_sem] Oper.semAt_some
section
variable {w W Wd:World} {B d V:Nat} {p:Nat->Prop} {D:Lin.Dict} {cf:Bool} {pre:List {j:Nat // j<V/\p j}} {y:{j:Nat // j<V/\p j}} {v:Value}
end
end Go.Proofs.YtbpngececjihlaaGreat
namespace Go.Proofs.YtbpngececjihlaaGreat
open Go.RowKit Go.Shelf
variable {bs:List Rat} {os rs:List (List Rat)} {p:LPV} {L B b B':Nat} {X Y:Nat->Prop} {w:World} {s:SV} {T:TypeId}
theorem LPIs.old' (h:LPIs w X Y L p os rs bs):LPIs w (fun _=>True) (fun _=>True) L p os rs bs:=
 ⟨h.obj.imp (fun _ _ _=>trivial) fun _ _ hq=>hq.any,h.rows.imp (fun _ _ _=>trivial) fun _ _ hq=>hq.any,h.bounds.imp (fun _ _ _=>trivial) fun _ _ hq=>hq.any⟩
def LRet (w:World) (V:Nat) (os rs:List (List Rat)) (bs:List Rat) (e:Ending) (w':World):Prop:=
 ∃ p:LPV,e = .returned p.val/\p.n=V/\MatCan w' (New w) (New w) p.O os/\MatCan w' (New w) (New w) p.R rs/\VecCan w' (New w) (New w) p.B bs
theorem vfar4 {l:List Rat} (h:VecCan w (New B) (New B) s l) (hb:b<B) (v0 v1 v2 v3:Value):VecCan ((((w.setCell b v0).setCell ⟨b,1,none⟩ v1).setCell ⟨b,2,none⟩ v2).setCell ⟨b,3,none⟩ v3) (New B) (New B) s l:=by
 have hk:∀ p:Addr,New B p.block->((((w.setCell b v0).setCell ⟨b,1,none⟩ v1).setCell ⟨b,2,none⟩ v2).setCell ⟨b,3,none⟩ v3).cell? p=w.cell? p:=fun p hp=>by
  have hne:p.block ≠ b:=by simp only [New] at hp; omega
  exact cob (by rw [bhs _ _ _ _ hne,bhs _ _ _ _ hne,bhs _ _ _ _ hne,bhs _ _ _ _ hne])
 exact h.keep (fun a ha _=>hk a ha) fun v q hq=>hq.keep fun p hp _=>hk p hp
theorem mfar4 {l:List (List Rat)} (h:MatCan w (New B) (New B) s l) (hb:b<B) (v0 v1 v2 v3:Value):MatCan ((((w.setCell b v0).setCell ⟨b,1,none⟩ v1).setCell ⟨b,2,none⟩ v2).setCell ⟨b,3,none⟩ v3) (New B) (New B) s l:=by
 have hk:∀ p:Addr,New B p.block->((((w.setCell b v0).setCell ⟨b,1,none⟩ v1).setCell ⟨b,2,none⟩ v2).setCell ⟨b,3,none⟩ v3).cell? p=w.cell? p:=fun p hp=>by
  have hne:p.block ≠ b:=by simp only [New] at hp; omega
  exact cob (by rw [bhs _ _ _ _ hne,bhs _ _ _ _ hne,bhs _ _ _ _ hne,bhs _ _ _ _ hne])
 exact h.keep (fun a ha _=>hk a ha) fun v q hq=>hq.keep fun p hp _=>hk p hp
theorem VecAt.low {l:List Rat} (h:VecCan w (New B) (New B) s l) (hB:B'<=B):VecCan w (New B') (New B') s l:=h.imp (fun _ _ hb=>nlt hB hb) fun _ _ hq=>hq.lower hB
theorem MatAt.low {l:List (List Rat)} (h:MatCan w (New B) (New B) s l) (hB:B'<=B):MatCan w (New B') (New B') s l:=h.imp (fun _ _ hb=>nlt hB hb) fun _ _ hq=>hq.lower hB
theorem IntsAt.blk {l:List Int} {f:Nat × Nat} (h:w.heap[b]?=some (.cells (l.map fun z=>Value.int .i64 z).toArray T f)) (hl:l.length<=1000) (hr:∀ x ∈ l,-9223372036854775808<=x/\x<=9223372036854775807):IntsAt w ⟨some ⟨b,0,none⟩,l.length,l.length⟩ l:=
 ⟨rfl,nlr _,by show l.length<=_; omega,hr,fun i hi=>⟨⟨b,0,none⟩,rfl,by
  have hi':i<l.length:=hi;rw [zA4,Nat.zero_add]; simp only [World.cell?,h]; simp [hi']⟩⟩
theorem IntsMat.blk {ss:List SV} {m:List (List Int)} {f:Nat × Nat} (h:w.heap[b]?=some (.cells (ss.map SV.val).toArray T f)) (hl:ss.length<=1000) (hm:m.length=ss.length) (hr:∀ i,i<ss.length->IntsAt w (ss.getD i ⟨none,0,0⟩) (m.getD i [])/\(ss.getD i ⟨none,0,0⟩).n<=1000):IntsMat w ⟨some ⟨b,0,none⟩,ss.length,ss.length⟩ m:=
 ⟨hm,nlr _,by show ss.length<=_; omega,fun i hi=>⟨⟨b,0,none⟩,ss.getD i ⟨none,0,0⟩,rfl,by
  have hi':i<ss.length:=hi;rw [zA4,Nat.zero_add]; simp only [World.cell?,h]; simp [hi'],(hr i hi).1,(hr i hi).2⟩⟩
theorem zEF :
  Calls Tryz.prog 42 #[] w fun e w'=>LRet w 2 [rats [3,5]] [rats [1,0],rats [0,2],rats [3,2]] (rats [4,12,18]) e w'/\Below w w w':=by
 go_enter Tryz.func42,Tryz.ntmps42
 go_wp2_with fail
 obtain ⟨W1,hW1⟩:∃ W1,W1=((w.alloc (.cells #[.int .i64 0,.slice none 0 0,.slice none 0 0,.slice none 0 0] 25)).alloc (.cells #[.int .i64 3,.int .i64 5] 2)).alloc (.cells #[.slice (some ⟨w+1,0,none⟩) 2 2] 109):=⟨_,rfl⟩;rw [<-hW1];have hb1:Below w w W1:=by rw [hW1]; exact ((bal).alloc (by simp) _).alloc (by simp <;> omega) _
 have b1:Box4 W1 w (.int .i64 0) (.slice none 0 0) (.slice none 0 0) (.slice none 0 0):=by rw [hW1]; exact bx4
 have i1:W1.heap[w.heap.size+1]?=some (.cells #[.int .i64 3,.int .i64 5] 2 (0,0)):=by rw [hW1]; exact (Below.heap_alloc _ _ _ (by simp)).trans (zAd _ _ (by simp))
 have g1:W1.heap[w.heap.size+1+1]?=some (.cells #[.slice (some ⟨w+1,0,none⟩) 2 2] 109 (0,0)):=by rw [hW1]; exact zAd _ _ (by simp)
 have hs1:w.heap.size<W1.heap.size:=by rw [hW1]; simp; omega
 clear hW1
 refine (zBa (s:=⟨some ⟨w+1+1,0,none⟩,1,1⟩) (m:=[[3,5]]) (IntsMat.blk (ss:=[⟨some ⟨w+1,0,none⟩,2,2⟩]) g1 (by show 1<=1000; omega) rfl (fun i hi=>by
  obtain rfl:i=0:=by have hi':i<1:=hi; omega
  exact ⟨IntsAt.blk (l:=[3,5]) i1 (by decide) (by decide),by show 2<=1000; omega⟩)) (by show 1<=1000; omega)).mono ?_
 rintro e w2 ⟨⟨⟨oA,on,oc⟩,rfl,ho⟩,hb2⟩;have hbw2:=hb1.trans (hb2.mono hb1.size);have b2:=b1.below hb2 hs1;have hs2:w.heap.size<w2.heap.size:=ltl hs1 hb2.size;clear i1 g1 b1;go_wp2_with fail
 obtain ⟨W3,hW3⟩:∃ W3,W3=(((w2.alloc (.cells #[.int .i64 1,.int .i64 0] 2)).alloc (.cells #[.int .i64 0,.int .i64 2] 2)).alloc (.cells #[.int .i64 3,.int .i64 2] 2)).alloc (.cells #[.slice (some w2) 2 2,.slice (some ⟨w2+1,0,none⟩) 2 2,.slice (some ⟨w2+1+1,0,none⟩) 2 2] 109):=⟨_,rfl⟩;rw [<-hW3];have hb3:Below w2 w2 W3:=by rw [hW3]; exact (((bal).alloc (by simp) _).alloc (by simp <;> omega) _).alloc (by simp <;> omega) _
 have j1:W3.heap[w2.heap.size]?=some (.cells #[.int .i64 1,.int .i64 0] 2 (0,0)):=by rw [hW3]; exact (Below.heap_alloc _ _ _ (by simp <;> omega)).trans ((Below.heap_alloc _ _ _ (by simp <;> omega)).trans ((Below.heap_alloc _ _ _ (by simp)).trans (zAd _ _ rfl)))
 have j2:W3.heap[w2.heap.size+1]?=some (.cells #[.int .i64 0,.int .i64 2] 2 (0,0)):=by rw [hW3]; exact (Below.heap_alloc _ _ _ (by simp <;> omega)).trans ((Below.heap_alloc _ _ _ (by simp)).trans (zAd _ _ (by simp)))
 have j3:W3.heap[w2.heap.size+1+1]?=some (.cells #[.int .i64 3,.int .i64 2] 2 (0,0)):=by rw [hW3]; exact (Below.heap_alloc _ _ _ (by simp)).trans (zAd _ _ (by simp))
 have j4:W3.heap[w2.heap.size+1+1+1]?=some (.cells #[.slice (some w2) 2 2,.slice (some ⟨w2+1,0,none⟩) 2 2,.slice (some ⟨w2+1+1,0,none⟩) 2 2] 109 (0,0)):=by rw [hW3]; exact zAd _ _ (by simp)
 clear hW3
 refine (zBa (s:=⟨some ⟨w2+1+1+1,0,none⟩,3,3⟩) (m:=[[1,0],[0,2],[3,2]]) (IntsMat.blk (ss:=[⟨some ⟨w2,0,none⟩,2,2⟩,⟨some ⟨w2+1,0,none⟩,2,2⟩,⟨some ⟨w2+1+1,0,none⟩,2,2⟩]) j4 (by show 3<=1000; omega) rfl (fun i hi=>by
  have hi':i<3:=hi;rcases (by omega:i=0\/i=1\/i=2) with rfl | rfl | rfl
  ·exact ⟨IntsAt.blk (l:=[1,0]) j1 (by decide) (by decide),by show 2<=1000; omega⟩
  ·exact ⟨IntsAt.blk (l:=[0,2]) j2 (by decide) (by decide),by show 2<=1000; omega⟩
  ·exact ⟨IntsAt.blk (l:=[3,2]) j3 (by decide) (by decide),by show 2<=1000; omega⟩)) (by show 3<=1000; omega)).mono ?_
 rintro e w4 ⟨⟨⟨mA,mn,mc⟩,rfl,hm⟩,hb4⟩;have h24:=hb3.trans (hb4.mono hb3.size);have hbw4:=hbw2.trans (h24.mono hbw2.size);clear j1 j2 j3 j4;go_wp2_with fail
 have al5:Below w4 w4 (w4.alloc (.cells #[.int .i64 4,.int .i64 12,.int .i64 18] 2)):=bal;have k1:(w4.alloc (.cells #[.int .i64 4,.int .i64 12,.int .i64 18] 2)).heap[w4.heap.size]?=some (.cells #[.int .i64 4,.int .i64 12,.int .i64 18] 2 (0,0)):=zAd _ _ rfl;refine (zBP (s:=⟨some ⟨w4,0,none⟩,3,3⟩) (l:=[4,12,18]) (IntsAt.blk (l:=[4,12,18]) k1 (by decide) (by decide)) (by show 3<=1000; omega)).mono ?_;rintro e w6 ⟨⟨⟨vA,vn,vc⟩,rfl,hv⟩,hb6⟩;have h46:=al5.trans (hb6.mono al5.size);have h26:=h24.trans (h46.mono h24.size);have hbw6:=hbw4.trans (h46.mono hbw4.size);have b6:=b2.below h26 hs2;have ho6:=hdq ((ho.belowC h26).low (B':=w+1) (by omega));have hm6:=hdq ((hm.belowC h46).low (B':=w+1) (by have:=hb3.size; omega));have hv6:=hdq (hv.low (B':=w+1) (by have:=h24.size; have:=al5.size; omega));clear ho hm hv k1 b2 al5 hb2 hb3 hb4 hb6 h46 h26 h24 hbw2 hbw4;dsimp only [SV.val];obtain ⟨k0,k1,k2,k3,k4⟩:=b6;go_wp2;obtain ⟨v0,v1,v2,v3,-⟩:=Box4.stored (w:=w6) (b:=w) (u0:=.int .i64 0) (u1:=.slice none 0 0) (u2:=.slice none 0 0) (u3:=.slice none 0 0) ⟨k0,k1,k2,k3,k4⟩ (.int .i64 2) (.slice oA on oc) (.slice mA mn mc) (.slice vA vn vc);refine bodyPost_ret (v:=LPV.val ⟨2,⟨oA,on,oc⟩,⟨mA,mn,mc⟩,⟨vA,vn,vc⟩⟩) (by simp [results,Tryz.results42,go_sem,v0,v1,v2,v3]) rfl ⟨⟨⟨2,⟨oA,on,oc⟩,⟨mA,mn,mc⟩,⟨vA,vn,vc⟩⟩,rfl,rfl,?_,?_,?_⟩,zAl hbw6 (nlr _)⟩
 ·exact (mfar4 ho6.out (by omega) _ _ _ _).low (by omega)
 ·exact (mfar4 hm6.out (by omega) _ _ _ _).low (by omega)
 ·exact (vfar4 hv6.out (by omega) _ _ _ _).low (by omega)
end Go.Proofs.YtbpngececjihlaaGreat
