/- Texts Pivot Last Comp1 Infeas Unb of this claim. -/
import Derived.Test.YtpjaodcimomaiaaGreatL14
set_option maxHeartbeats 4000000
set_option maxRecDepth 40000
namespace Go.Proofs.YtpjaodcimomaiaaGreat
open Go.RowKit Go.Shelf
variable {g n k V:Nat} {T:TypeId} {w:World}
section
variable {W:World} {G:Nat->Prop} {x:DV} {V M K:Nat} {D D':Lin.Dict} {pv rw cl:Int}
theorem Arr.block {s:SV} {f:Nat->Value} (h:Arr W s n T f) (e:s.A=some ⟨g,0,none⟩):∃ cs,W.heap[g]?=some (.cells cs T (0,0)):=by
 rcases h.blk with ⟨h0,_⟩ | ⟨g',cs,e',hb,_⟩
 ·rw [h0] at e; cases e
 ·rw [e] at e'; cases e'; exact ⟨cs,hb⟩
end
theorem zOd (f:Nat->Rat) (q:Rat):((List.range V).map f).set k q=(List.range V).map (Lin.turn f k q):=by
 apply List.ext_getElem
 ·simp
 ·intro i h1 h2;simp only [List.getElem_set,List.getElem_map,List.getElem_range,Lin.turn];by_cases e:k=i
  ·subst e; simp
  ·rw [if_neg e,if_neg (Ne.symm e)]
theorem zMY (f:Nat->Rat) (q:Rat) (h:V<=k):(List.range V).map (Lin.turn f k q)=(List.range V).map f:=by
 apply List.map_congr_left;intro i hi;rw [List.mem_range] at hi;exact Lin.zBh _ (by omega) _
structure RV where
 kind:Nat
 X:SV
 Y:SV
 R:SV
 F:SV
 pv:Int
theorem zK6 (n:Nat) (h1:1<=n) (hn:n<=1000) :
  Calls Tryz.prog 28 #[.slice none 0 0,.int .i64 (n:Int)] w fun e w'=>(e = .returned (.slice (some ⟨w.heap.size,0,none⟩) n n)/\RowAt w' (fun x=>x<w.heap.size\/x=w.heap.size) w.heap.size (List.replicate n 0))/\Below w.heap.size w w':=by
 have hmk:=zBZ n (by omega);have e1:¬ ((n:Int)<1):=by omega
 have e2:min (n:Int) 65536=(n:Int):=by omega
 have e3:min (0:Int) (n:Int)=0:=by omega
 go_enter Tryz.func28,Tryz.ntmps28
 go_wp2;go_loopw [17] (fun t W=>t = .int .i64 0/\W=w.alloc (.cells (zeroQ n) 37)) (fun _ _=>0)
 case atStart=>exact ⟨rfl,rfl⟩
 case round=>
  obtain ⟨rfl,rfl⟩:=hrel;go_wp2;go_ret;exact ⟨⟨rfl,RowAt.made w n _ (.inr rfl)⟩,(brf _ _).alloc (nlr _) _⟩
theorem zLf (n k:Nat) (h1:1<=n) (hn:n<=1000) (hk:k<=1000000) :
  Calls Tryz.prog 14 #[.int .i64 (n:Int),.int .i64 (k:Int)] w fun e w'=>(e = .returned (.slice (some ⟨w.heap.size,0,none⟩) n n)/\RowAt w' (fun x=>x<w.heap.size\/x=w.heap.size) w.heap.size ((List.range n).map fun i=>if i=k then 1 else 0))/\Below w.heap.size w w':=by
 have k0:(0:Int)<=(k:Int):=by omega
 go_enter Tryz.func14,Tryz.ntmps14
 go_wp2_with fail
 refine (zK6 n h1 hn).mono ?_; rintro e w1 ⟨⟨rfl,hR⟩,hb1⟩
 by_cases hkn:k<n
 ·have hki:(k:Int)<(n:Int):=by omega
  have hgl:=hR.lt;go_wp2_with fail
  refine (zAN 1 (by decide) (by decide) _).mono ?_; rintro e w2 ⟨⟨y,rfl,hy⟩,hb2⟩
  have hR2:=hR.below hb2;obtain ⟨u2,⟨p0,p1,p2,p3⟩,-⟩:=hR2.elem k (by simpa using hkn);dsimp only at p1 p2 p3;have fz:=hR2.frozen;have hR3:=hR2.put4 (k:=k) (v:=y) (q:=1) (by simpa using hkn) (hy.imp fun b _ hb hg=>by simp only [New] at hb; have:=hb1.size; rcases hg with h | h <;> omega)
  have e:(List.replicate n (0:Rat)).set k 1=(List.range n).map fun i=>if i=k then 1 else 0:=by
   apply List.ext_getElem
   ·simp
   ·intro i h1 h2;simp only [List.getElem_set,List.getElem_replicate,List.getElem_map,List.getElem_range];by_cases ei:k=i
    ·subst ei; simp
    ·rw [if_neg ei,if_neg (Ne.symm ei)]
  rw [e] at hR3;have HR3:=hdq hR3;have Hb:=hdq (zBq (b:=w.heap.size) (hb1.trans (hb2.mono hb1.size)) (nlr _) k y);clear hR3 hR2 hR hy hb1 hb2 e;go_wp2;go_ret;exact ⟨⟨rfl,HR3.out⟩,Hb.out⟩
 ·have hki:¬ (k:Int)<(n:Int):=by omega
  have e:List.replicate n (0:Rat)=(List.range n).map fun i=>if i=k then 1 else 0:=by
   apply List.ext_getElem
   ·simp
   ·intro i h1 h2;simp only [List.getElem_replicate,List.getElem_map,List.getElem_range];simp at h1;rw [if_neg (by omega)]
  rw [e] at hR;have HR:=hdq hR;clear hR e;go_wp2;go_ret;exact ⟨⟨rfl,HR.out⟩,hb1⟩
end Go.Proofs.YtpjaodcimomaiaaGreat
