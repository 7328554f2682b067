/- Texts OptmM PrV of this claim. -/
import Derived.Test.YtbpngececjihlaaGreatB35
import Derived.Test.YtbpngececjihlaaGreatB36
set_option maxHeartbeats 4000000
namespace Go.Proofs.YtbpngececjihlaaGreat
open Go.RowKit Go.Shelf Lin
open Go.RowKit Go.Shelf
variable {w:World}
abbrev intCells (l:List Int):Obj:=.cells (l.map fun z=>Value.int .i64 z).toArray 2
theorem zCE {l:List Int} (hl:l.length<=1000) (hr:∀ x ∈ l,-9223372036854775808<=x/\x<=9223372036854775807) :
  Calls Tryz.prog 47 #[.slice (some w) l.length l.length] (w.alloc (intCells l)) fun e w'=>VRet w (rats l) e w'/\Below w w w':=by
 have i1:(w.alloc (intCells l)).heap[w.heap.size]?=some (.cells (l.map fun z=>Value.int .i64 z).toArray 2 (0,0)):=zAd _ _ rfl;have hb:Below w w (w.alloc (intCells l)):=bal;refine (zBP (s:=⟨some ⟨w,0,none⟩,l.length,l.length⟩) (IntsAt.blk i1 hl hr) hl).mono ?_;rintro e w' ⟨⟨s,rfl,hv⟩,hb'⟩;exact ⟨⟨s,rfl,hv.low hb.size⟩,hb.trans (hb'.mono hb.size)⟩
theorem zDv {l:List Int} (hl:l.length<=1000) (hr:∀ x ∈ l,-9223372036854775808<=x/\x<=9223372036854775807) :
  Calls Tryz.prog 92 #[.slice (some ⟨w+1,0,none⟩) 1 1] ((w.alloc (intCells l)).alloc (.cells #[.slice (some w) l.length l.length] 109)) fun e w'=>MRet w [rats l] e w'/\Below w w w':=by
 obtain ⟨W,hW⟩:∃ W,W=(w.alloc (intCells l)).alloc (.cells #[.slice (some w) l.length l.length] 109):=⟨_,rfl⟩;rw [<-hW];have i1:W.heap[w.heap.size]?=some (.cells (l.map fun z=>Value.int .i64 z).toArray 2 (0,0)):=by rw [hW]; exact (Below.heap_alloc _ _ _ si).trans (zAd _ _ rfl)
 have g1:W.heap[w.heap.size+1]?=some (.cells #[.slice (some w) l.length l.length] 109 (0,0)):=by rw [hW]; exact zAd _ _ si
 have hb:Below w w W:=by rw [hW]; exact (bal).alloc si _
 clear hW
 refine (zBa (s:=⟨some ⟨w+1,0,none⟩,1,1⟩) (m:=[l]) (IntsMat.blk (ss:=[⟨some ⟨w,0,none⟩,l.length,l.length⟩]) g1 (by show 1<=1000; omega) rfl (fun i hi=>by
  obtain rfl:i=0:=by have hi':i<1:=hi; omega
  exact ⟨IntsAt.blk (l:=l) i1 hl hr,hl⟩)) (by show 1<=1000; omega)).mono ?_
 rintro e w' ⟨⟨s,rfl,hv⟩,hb'⟩;exact ⟨⟨s,rfl,hv.low hb.size⟩,hb.trans (hb'.mono hb.size)⟩
end Go.Proofs.YtbpngececjihlaaGreat
