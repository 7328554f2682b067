/- Texts OptmM PrV of this claim. -/
import Derived.Test.YtlepljpdkbjbhaaGreatQA0
import Derived.Test.YtlepljpdkbjbhaaGreatQ25
import Derived.Test.YtlepljpdkbjbhaaGreatQ29
import Derived.Test.YtlepljpdkbjbhaaGreatQ31
import Derived.Test.YtlepljpdkbjbhaaGreatQ32
import Derived.Test.YtlepljpdkbjbhaaGreatQ24
set_option maxHeartbeats 4000000
namespace Go.Proofs.YtlepljpdkbjbhaaGreat
open Go.RowKit Go.Shelf Lin
theorem zKC {f g:Nat->Rat} {N:Nat} (h:LexPos N fun l=>g l-f l):vcmp f g N=-1:=by
 obtain ⟨i,hi,h1,h2⟩:=h;rw [zKr (x:=i) (fun j hj=>by have:=h2 j hj; grind) (by grind) hi];unfold qcmp; grind
theorem zJd {V:Nat} {os rs:List (List Rat)} {bs x:List Rat} (hc:colsOf rs<=V) (hx:x.length=V):((∀ k,k<x.length->0<=x.getD k 0)/\∀ i,i<rs.length->dotL (rs.getD i []) x<=bs.getD i 0) ↔ (probOf V os rs bs).Feasible fun k=>x.getD k 0:=by
 constructor
 ·rintro ⟨h1,h2⟩;refine ⟨fun k hk=>h1 k (by rw [hx]; exact hk),fun i hi=>?_⟩;have:=h2 i hi;rw [zGW (zBT hc i) hx] at this;exact this
 ·rintro ⟨h1,h2⟩;refine ⟨fun k hk=>h1 k (by rw [hx] at hk; exact hk),fun i hi=>?_⟩;rw [zGW (zBT hc i) hx];exact h2 i hi
open Go.RowKit Go.Shelf
theorem heapK {w w':World} {b:Nat} {o:Obj} (h:w.heap[b]?=some o) (hb:Below w.heap.size w w'):w'.heap[b]?=some o:=(hb.block _ (zAa h)).trans h
theorem zHH {w w':World} {e:Ending} (h:PricesRet w PSm e w'):∃ y:SV,e = .returned (.tuple #[y.val,.int .i64 0])/\VecCan w' (New w.heap.size) (New w.heap.size) y [0,3/2,1]:=by
 rcases h with ⟨D,y,hI,hE,he,hv⟩ | ⟨D,hI,hE,_⟩ | ⟨D,hI,hE,_⟩
 ·rw [<-((zCC hI hE).2 rfl).2];exact ⟨y,he,hv⟩
 ·have:=(zCC hI hE).1; omega
 ·have:=(zCC hI hE).1; omega
theorem zJ2 {w w':World} {e:Ending} (h:OptimumRet w PSm e w'):∃ z:QV,e = .returned (.tuple #[z.val,.int .i64 0])/\QCan w' (New w.heap.size) z 36:=by
 rcases h with ⟨D,z,hI,hE,he,hv⟩ | ⟨D,hI,hE,_⟩ | ⟨D,hI,hE,_⟩
 ·rw [<-((zCC hI hE).2 rfl).1];exact ⟨z,he,hv⟩
 ·have:=(zCC hI hE).1; omega
 ·have:=(zCC hI hE).1; omega
theorem zHG {w w':World} {e:Ending} (h:PricesRet w PQ2 e w'):∃ y:SV,e = .returned (.tuple #[y.val,.int .i64 0])/\VecCan w' (New w.heap.size) (New w.heap.size) y (rats [0,1]):=by
 rcases h with ⟨D,y,hI,hE,he,hv⟩ | ⟨D,hI,hE,_⟩ | ⟨D,hI,hE,_⟩
 ·rw [show rats [0,1]=[0,1] from rfl,<-(zC9 hI hE).2 rfl];exact ⟨y,he,hv⟩
 ·have:=(zC9 hI hE).1; omega
 ·have:=(zC9 hI hE).1; omega
theorem zHc {w w':World} {e:Ending} {up:Bool} (h:MargRet w PQ2 0 up e w'):∃ z:QV,e = .returned (.tuple #[z.val,.int .i64 0])/\QCan w' (New w.heap.size) z (if up then 0 else 1):=by
 rcases h with ⟨D,hI,hE,_⟩ | ⟨D,hI,hE,_⟩ | ⟨D0,hI0,hE0,D,k,hI,hE,⟨hk,_⟩ | ⟨rfl,z,he,hz⟩⟩
 ·have:=(zC9 hI hE).1; omega
 ·have:=(zC9 hI hE).1; omega
 ·exact absurd (zHb up hI hE).1 hk
 ·rw [<-(zHb up hI hE).2 rfl];exact ⟨z,he,hz⟩
theorem zJn {w w':World} {e:Ending} (h:MargRet w PQ3 0 false e w'):e = .returned (.tuple #[.agg #[.bool false,.slice none 0 0,.bool false,.slice none 0 0],.int .i64 9]):=by
 rcases h with ⟨D,hI,hE,_⟩ | ⟨D,hI,hE,_⟩ | ⟨D0,hI0,hE0,D,k,hI,hE,⟨hk,he⟩ | ⟨rfl,z,he,hz⟩⟩
 ·have:=zHe hI hE; omega
 ·have:=zHe hI hE; omega
 ·exact he
 ·exact (zJm hI hE).elim
abbrev intCells (l:List Int):Obj:=.cells (l.map fun z=>Value.int .i64 z).toArray 2
theorem zCE {w:World} {l:List Int} (hl:l.length<=1000) (hr:∀ x ∈ l,-9223372036854775808<=x/\x<=9223372036854775807) :
  Calls Tryz.prog 62 #[.slice (some ⟨w.heap.size,0,none⟩) l.length l.length] (w.alloc (intCells l)) fun e w'=>VRet w (rats l) e w'/\Below w.heap.size w w':=by
 have i1:(w.alloc (intCells l)).heap[w.heap.size]?=some (.cells (l.map fun z=>Value.int .i64 z).toArray 2 (0,0)):=zAd _ _ rfl;have hb:Below w.heap.size w (w.alloc (intCells l)):=(brf _ _).alloc (nlr _) _;refine (zBP (s:=⟨some ⟨w.heap.size,0,none⟩,l.length,l.length⟩) (IntsAt.blk i1 hl hr) hl).mono ?_;rintro e w' ⟨⟨s,rfl,hv⟩,hb'⟩;exact ⟨⟨s,rfl,hv.low hb.size⟩,hb.trans (hb'.mono hb.size)⟩
theorem zDv {w:World} {l:List Int} (hl:l.length<=1000) (hr:∀ x ∈ l,-9223372036854775808<=x/\x<=9223372036854775807) :
  Calls Tryz.prog 98 #[.slice (some ⟨w.heap.size+1,0,none⟩) 1 1] ((w.alloc (intCells l)).alloc (.cells #[.slice (some ⟨w.heap.size,0,none⟩) l.length l.length] 92)) fun e w'=>MRet w [rats l] e w'/\Below w.heap.size w w':=by
 obtain ⟨W,hW⟩:∃ W,W=(w.alloc (intCells l)).alloc (.cells #[.slice (some ⟨w.heap.size,0,none⟩) l.length l.length] 92):=⟨_,rfl⟩;rw [<-hW];have i1:W.heap[w.heap.size]?=some (.cells (l.map fun z=>Value.int .i64 z).toArray 2 (0,0)):=by rw [hW]; exact (Below.heap_alloc _ _ _ (by simp)).trans (zAd _ _ rfl)
 have g1:W.heap[w.heap.size+1]?=some (.cells #[.slice (some ⟨w.heap.size,0,none⟩) l.length l.length] 92 (0,0)):=by rw [hW]; exact zAd _ _ (by simp)
 have hb:Below w.heap.size w W:=by rw [hW]; exact ((brf _ _).alloc (nlr _) _).alloc (by simp) _
 clear hW
 refine (zBa (s:=⟨some ⟨w.heap.size+1,0,none⟩,1,1⟩) (m:=[l]) (IntsMat.blk (ss:=[⟨some ⟨w.heap.size,0,none⟩,l.length,l.length⟩]) g1 (by show 1<=1000; omega) rfl (fun i hi=>by
  obtain rfl:i=0:=by have hi':i<1:=hi; omega
  exact ⟨IntsAt.blk (l:=l) i1 hl hr,hl⟩)) (by show 1<=1000; omega)).mono ?_
 rintro e w' ⟨⟨s,rfl,hv⟩,hb'⟩;exact ⟨⟨s,rfl,hv.low hb.size⟩,hb.trans (hb'.mono hb.size)⟩
theorem zHB {w:World} {l m:List Int} (hl:l.length<=1000) (hr:∀ x ∈ l,-9223372036854775808<=x/\x<=9223372036854775807) (hm:m.length<=1000) (hs:∀ x ∈ m,-9223372036854775808<=x/\x<=9223372036854775807) :
  Calls Tryz.prog 98 #[.slice (some ⟨w.heap.size+1+1,0,none⟩) 2 2] (((w.alloc (intCells l)).alloc (intCells m)).alloc (.cells #[.slice (some ⟨w.heap.size,0,none⟩) l.length l.length,.slice (some ⟨w.heap.size+1,0,none⟩) m.length m.length] 92)) fun e w'=>MRet w [rats l,rats m] e w'/\Below w.heap.size w w':=by
 obtain ⟨W,hW⟩:∃ W,W=((w.alloc (intCells l)).alloc (intCells m)).alloc (.cells #[.slice (some ⟨w.heap.size,0,none⟩) l.length l.length,.slice (some ⟨w.heap.size+1,0,none⟩) m.length m.length] 92):=⟨_,rfl⟩;rw [<-hW];have i1:W.heap[w.heap.size]?=some (.cells (l.map fun z=>Value.int .i64 z).toArray 2 (0,0)):=by rw [hW]; exact (Below.heap_alloc _ _ _ (by simp <;> omega)).trans ((Below.heap_alloc _ _ _ (by simp)).trans (zAd _ _ rfl))
 have i2:W.heap[w.heap.size+1]?=some (.cells (m.map fun z=>Value.int .i64 z).toArray 2 (0,0)):=by rw [hW]; exact (Below.heap_alloc _ _ _ (by simp)).trans (zAd _ _ (by simp))
 have g1:W.heap[w.heap.size+1+1]?=some (.cells #[.slice (some ⟨w.heap.size,0,none⟩) l.length l.length,.slice (some ⟨w.heap.size+1,0,none⟩) m.length m.length] 92 (0,0)):=by rw [hW]; exact zAd _ _ (by simp)
 have hb:Below w.heap.size w W:=by rw [hW]; exact (((brf _ _).alloc (nlr _) _).alloc (by simp) _).alloc (by simp <;> omega) _
 clear hW
 refine (zBa (s:=⟨some ⟨w.heap.size+1+1,0,none⟩,2,2⟩) (m:=[l,m]) (IntsMat.blk (ss:=[⟨some ⟨w.heap.size,0,none⟩,l.length,l.length⟩,⟨some ⟨w.heap.size+1,0,none⟩,m.length,m.length⟩]) g1 (by show 2<=1000; omega) rfl (fun i hi=>by
  have hi':i<2:=hi;rcases (show i=0\/i=1 by omega) with rfl | rfl
  ·exact ⟨IntsAt.blk (l:=l) i1 hl hr,hl⟩
  ·exact ⟨IntsAt.blk (l:=m) i2 hm hs,hm⟩)) (by show 2<=1000; omega)).mono ?_
 rintro e w' ⟨⟨s,rfl,hv⟩,hb'⟩;exact ⟨⟨s,rfl,hv.low hb.size⟩,hb.trans (hb'.mono hb.size)⟩
theorem zD3 {f:Nat->Rat} {k:Nat} (h:∀ i,Lin.Fits k (f i)):∀ n,Lin.Fits (n*(k+1)) (Lin.sum n f)
 | 0=>Lin.Fits.zero _
 | n+1=>by
  have:=(zD3 h n).add (h n);rw [Nat.succ_mul];exact this
theorem zHl {f:Nat->Rat} {N:Nat} (h0:∀ i,N<=i->f i=0):∀ n,N<=n->Lin.sum n f=Lin.sum N f
 | 0,h=>by rw [show N=0 by omega]
 | n+1,h=>by
  by_cases e:N=n+1
  ·rw [e]
  ·show Lin.sum n f+f n=_;rw [zHl h0 n (by omega),h0 n (by omega)]; grind
theorem zIV {f:Nat->Rat} {k N:Nat} (h:∀ i,Lin.Fits k (f i)) (h0:∀ i,N<=i->f i=0) (n:Nat):Lin.Fits (N*(k+1)) (Lin.sum n f):=by
 by_cases hn:N<=n
 ·rw [zHl h0 n hn]; exact zD3 h N
 ·exact (zD3 h n).mono (Nat.mul_le_mul_right _ (by omega))
theorem zE8 {y:List Rat} {rs:List (List Rat)} {bs:List Rat} {L M:Nat} (fy:∀ i,QFit L (y.getD i 0)) (fr:∀ i j,QFit M ((rs.getD i []).getD j 0)) (fb:∀ i,QFit M (bs.getD i 0)) (hL:L<=1001) (hM:M<=101) (hr:rs.length<=128) (he:y.length=rs.length) :
  (∀ i j,QFit LM (y.getD i 0*(rs.getD i []).getD j 0))/\(∀ k j,Lin.Fits (128*35301) (Lin.sum k fun i=>y.getD i 0*(rs.getD i []).getD j 0))/\∀ i,Lin.Fits 35300 (y.getD i 0*bs.getD i 0):=by
 have f1:∀ i j,Lin.Fits 35300 (y.getD i 0*(rs.getD i []).getD j 0):=fun i j=>((zAR (fy i)).mul (zAR (fr i j))).mono (by omega)
 refine ⟨fun i j=>zBn (f1 i j) (by rw [zAZ]; omega),fun k j=>(zIV (N:=y.length) (fun i=>f1 i j) (fun i hi=>?_) k).mono (by have:=Nat.mul_le_mul_right 35301 (show y.length<=128 by omega); omega),fun i=>((zAR (fy i)).mul (zAR (fb i))).mono (by omega)⟩;rw [zAw _ _ _ hi]; grind
theorem zFz {w:World} {X Y X' Y':Nat->Prop} {L M V:Nat} {p:LPV} {os rs:List (List Rat)} {bs y:List Rat} {s:SV} (b:Bool) (h:LPIs w X Y M p os rs bs) (hV:p.n=V) (hV2:V<=8) (ho1:1<=p.O.n) (ho2:p.O.n<=4) (hr:p.R.n<=128) (hb:p.B.n=p.R.n) (hco:colsOf os<=V) (hcr:colsOf rs<=V) (hM:M<=100)
  (hy:VecIs w X' Y' L s y) (hL:L<=1000) (hbb:(y.length=rs.length/\PValid (prob1 V os rs bs) fun i=>y.getD i 0) ↔ b=true) :
  Calls Tryz.prog 47 #[p.val,s.val] w fun e w'=>e = .returned (.bool b)/\Below w.heap.size w w':=
 zFW (kb:=128*35301) (kd:=35300) b h hV hV2 ho1 ho2 hr hb hco hcr hM hy (by rw [zAZ]; omega) (by rw [zAZ]; omega) (by rw [zAZ]; omega)
  (zE8 hy.fit h.rows.fit h.bounds.fit (by omega) (by omega) (by rw [h.rows.len]; exact hr)) hbb
set_option maxRecDepth 4000 in
theorem zIK {w:World} {X Y X' Y' X'' Y'':Nat->Prop} {p:LPV} {sx sy:SV} (h:LPIs w X Y 1 p [rats [3,5]] [rats [1,0],rats [0,2],rats [3,2]] (rats [4,12,18])) (hV:p.n=2)
  (hx:VecIs w X'' Y'' 1 sx (rats [2,6])) (hy:VecIs w X' Y' 1 sy [0,3/2,1]) :
  Calls Tryz.prog 100 #[p.val,sx.val,sy.val] w fun e w'=>e = .returned (.bool true)/\Below w.heap.size w w':=by
 have v:=zE8 hy.fit h.rows.fit h.bounds.fit (by decide) (by decide) (by decide) rfl;have fx:∀ i k,Lin.Fits 128 ((([rats [1,0],rats [0,2],rats [3,2]]:List (List Rat)).getD i []).getD k 0*(rats [2,6]).getD k 0):=fun i k=>((zAR (h.rows.fit i k)).mul (zAR (hx.fit k))).mono (by omega)
 have l1:p.O.n=1:=h.obj.len.symm;have l2:p.R.n=3:=h.rows.len.symm;have l3:p.B.n=3:=h.bounds.len.symm;have y0:([0,3/2,1]:List Rat).getD 0 0=0:=rfl;have d1:dotL (rats [0,2]) (rats [2,6])=12:=by show Lin.sum 2 _=_; rw [sum2]; simp [rats]; grind
 have d2:dotL (rats [3,2]) (rats [2,6])=18:=by show Lin.sum 2 _=_; rw [sum2]; simp [rats]; grind
 refine zGn (V:=2) (kb:=128*35301) (kx:=128) h hV (by decide) (by omega) (by omega) (by omega) (by omega) (by decide) (by decide) hx hy (by decide) (by rw [zAZ]; omega) (by rw [zAZ]; omega) (by rw [zAZ]; omega) (by rw [zAZ]; omega) (by rw [zAZ]; omega)
  v.1 v.2.1 fx (fun i=>?_) (fun k=>?_) ((zJd (V:=2) (os:=[rats [3,5]]) (by decide) rfl).2 zFy) ((zDm (bs:=rats [4,12,18])).2 ⟨rfl,zFx⟩) (all3 ?_ ?_ ?_) (all2 ?_ ?_)
 ·refine zBn (k:=64+2*129+1) ((zAR (h.bounds.fit i)).sub ?_) (by rw [zAZ]; omega);refine (zD3 (fx i) _).mono (Nat.mul_le_mul_right _ ?_);show min _ 2<=2;omega
 ·refine zBn (k:=128*35301+64+1) ((v.2.1 _ k).sub (zAR (h.obj.fit 0 k))) (by rw [zAZ]; omega)
 ·rintro ⟨h,_⟩;rw [y0] at h; exact absurd h Rat.lt_irrefl
 ·rintro ⟨_,h⟩;change 0<(12:Rat)-dotL (rats [0,2]) (rats [2,6]) at h;rw [d1] at h; grind
 ·rintro ⟨_,h⟩;change 0<(18:Rat)-dotL (rats [3,2]) (rats [2,6]) at h;rw [d2] at h; grind
 ·rintro ⟨_,h⟩;change 0<Lin.sum 3 _-(3:Rat) at h;rw [sum3] at h;simp [rats] at h;grind
 ·rintro ⟨_,h⟩;change 0<Lin.sum 3 _-(5:Rat) at h;rw [sum3] at h;simp [rats] at h;grind
end Go.Proofs.YtlepljpdkbjbhaaGreat
