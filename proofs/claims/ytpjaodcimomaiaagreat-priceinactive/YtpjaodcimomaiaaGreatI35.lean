/- Texts PrS PrV of this claim. -/
import Derived.Deep.DeepCutAuto
import Derived.Test.YtpjaodcimomaiaaGreatI32
import Derived.Test.YtpjaodcimomaiaaGreatI34
import Derived.Test.YtpjaodcimomaiaaGreatI30
set_option maxHeartbeats 4000000
set_option maxRecDepth 20000
namespace Go.Proofs.YtpjaodcimomaiaaGreat
open Go.RowKit Go.Shelf
variable {z:Int} {X Y X' Y':Nat->Prop} {w w':World} {q:Rat} {b k N L M V:Nat} {f:Nat->Rat} {bs:List Rat} {rs os:List (List Rat)} {s:SV} {p:LPV}
def SmX (w W0:World) (n:Nat) (t:Value) (W:World):Prop:=∃ k:Nat,k<=n/\t = .int .i64 k/\Below w w W/\Below W0 W0 W
theorem zE6 {a b:ZV} (ha:ZAt w X a.ng a.A a.n a.c z) (hb:ZAt w Y b.ng b.A b.n b.c z) :
  Calls Tryz.prog 172 #[.agg #[.bool a.ng,.slice a.A a.n a.c],.agg #[.bool b.ng,.slice b.A b.n b.c]] w fun e w'=>e = .returned (.bool true)/\Below w w w':=by
 obtain ⟨ag,aA,n,ac⟩:=a;obtain ⟨bg,bA,m,bc⟩:=b;dsimp only at ha hb ⊢;have e1:=ha.sign;have e2:=hb.sign;obtain rfl:bg=ag:=e2.trans e1.symm;have l1:=ha.words.len;have l2:=hb.words.len;obtain rfl:m=n:=l2.symm.trans l1;have hle:=ha.words.le;have hcap:=ha.words.cap;have hle2:=hb.words.le;have hcap2:=hb.words.cap;have HA:=hdq ha.words;have HB:=hdq hb.words;have hbb:(bg != bg)=false:=by cases bg <;> rfl
 have hnn:((m:Int) != (m:Int))=false:=by simp
 clear ha hb l1 l2 e1 e2;go_enter Tryz.func172,Tryz.ntmps172
 go_wp2;refine zAo (fun W=>Below w w W/\Box2 W w (.bool bg) (.slice aA m ac)/\Box2 W (w+1) (.bool bg) (.slice bA m bc)/\w<(W:Nat)/\w+1<(W:Nat)) ⟨(az (az (brf _ _))),bx2,bx2,by simp <;> omega,by simp <;> omega⟩ ?_;rintro W ⟨hbW,bX,bY,s0,s1⟩;have hBW:=hbW.size;have HX:=hdq bX;have HY:=hdq bY;clear bX bY hbb hnn;have H0:SmX w W m (.int .i64 0) W:=⟨0,nzl _,rfl,hbW,brf _ _⟩;have hBW':=hdq hBW;clear hbW hBW;go_loopw [5] (fun t W'=>SmX w W m t W') (fun t _=>m-(intOf t).toNat)
 case atStart=>exact H0
 case round=>
  clear H0;obtain ⟨k,hk,rfl,hB,hBW⟩:=hrel;obtain ⟨x0,x1,-⟩:=HX.out.below hBW s0;obtain ⟨y0,y1,-⟩:=HY.out.below hBW s1;by_cases hlt:k<m
  ·obtain ⟨a1,rfl,-,hc⟩:=HA.out.cell k hlt;obtain ⟨b1,rfl,-,hd⟩:=HB.out.cell k hlt;rw [<-hB.cell (zAb hc)] at hc;rw [<-hB.cell (zAb hd)] at hd;generalize (Num.words z.natAbs).getD k 0=x at *;have hkk:(k:Int)<(m:Int):=(by omega);have hk0:(0:Int)<=(k:Int):=(by omega);have hxx:((x:Int) != (x:Int))=false:=(by simp);have HB2:=hdq (And.intro hB hBW);clear hB hBW HA HB HX HY x0 y0;go_wp2;(go_quiet (fail));go_wp2;go_roundw;case rel=>exact ⟨k+1,by omega,by simp,zAB HB2.out.1 _,zAB HB2.out.2 _⟩
   case measure=>simp [intOf]; omega
  ·have hkk:¬ (k:Int)<(m:Int):=(by omega);have HB2:=hdq hB;clear hB hBW HX HY x0 y0;go_wp2;go_ret;exact ⟨rfl,HB2.out⟩
theorem zEz {a b:QV} (ha:QCan w X a q) (hb:QCan w Y b q) :
  Calls Tryz.prog 101 #[a.val,b.val] w fun e w'=>e = .returned (.bool true)/\Below w w w':=by
 go_enter Tryz.func101,Tryz.ntmps101
 go_wp2_with fail
 refine zAg (fun W=>Below w w W/\Box4 W w (.bool a.num.ng) (.slice a.num.A a.num.n a.num.c) (.bool a.den.ng) (.slice a.den.A a.den.n a.den.c)/\Box4 W (w+1) (.bool b.num.ng) (.slice b.num.A b.num.n b.num.c) (.bool b.den.ng) (.slice b.den.A b.den.n b.den.c)/\w<(W:Nat)/\w+1<(W:Nat)) ⟨(az (az (brf _ _))),bx4,bx4,by simp <;> omega,by simp <;> omega⟩ ?_;rintro W ⟨hbW,bX,bY,s0,s1⟩;have hBW:=hbW.size;refine (zE6 (ha.below hbW).1 (hb.below hbW).1).mono ?_; rintro e w1 ⟨rfl,hb1⟩
 have HA:=hdq (ha.below (hbW.trans (hb1.mono hBW)));have HB:=hdq (hb.below (hbW.trans (hb1.mono hBW)));obtain ⟨x0,x1,x2,x3,-⟩:=bX.below hb1 s0;obtain ⟨y0,y1,y2,y3,-⟩:=bY.below hb1 s1;have HW:=hdq (hbW.trans (hb1.mono hBW));clear bX bY hb1 hbW hBW ha hb;go_wp2_with fail
 refine (zE6 HA.out.2 HB.out.2).mono ?_; rintro e w2 ⟨rfl,hb2⟩
 have hbf:=HW.out.trans (hb2.mono HW.out.size);go_wp2;go_ret;exact ⟨rfl,hbf⟩
def IsX (w:World) (n:Nat) (t:Value) (W:World):Prop:=∃ k:Nat,k<=n/\t = .int .i64 k/\Below w w W
theorem zE5 {a b:SV} {l:List Rat} (ha:VecCan w X Y a l) (hb:VecCan w X' Y' b l) :
  Calls Tryz.prog 57 #[a.val,b.val] w fun e w'=>e = .returned (.bool true)/\Below w w w':=by
 obtain ⟨A,n,c⟩:=a;obtain ⟨B,m,d⟩:=b;have l1:l.length=n:=ha.len;have l2:l.length=m:=hb.len;obtain rfl:m=n:=l2.symm.trans l1;have hle:m<=c:=ha.le;have hcap:c<=9223372036854775807:=ha.cap;have hle2:m<=d:=hb.le;have hcap2:d<=9223372036854775807:=hb.cap;have HA:=hdq ha;have HB:=hdq hb;have hnn:((m:Int) != (m:Int))=false:=by simp
 clear ha hb l1 l2;dsimp only [SV.val];go_enter Tryz.func57,Tryz.ntmps57
 go_wp2;have H0:IsX w m (.int .i64 0) w:=⟨0,nzl _,rfl,brf _ _⟩;clear hnn;go_loopw [5] (fun t W'=>IsX w m t W') (fun t _=>m-(intOf t).toNat)
 case atStart=>exact H0
 case round=>
  clear H0;obtain ⟨k,hk,rfl,hB⟩:=hrel;by_cases hlt:k<m
  ·obtain ⟨ad,u,rfl,-,hp,hu⟩:=HA.out.elem k hlt;obtain ⟨bd,v,rfl,-,hq,hv⟩:=HB.out.elem k hlt;have ta:ad.block<w:=by have:=zAb hp.1; rwa [zAj] at this
   have tb:bd.block<w:=by have:=zAb hq.1; rwa [zAj] at this
   (obtain ⟨p0,p1,p2,p3⟩:=hp.keep (w':=_) fun a ha hl=>hB.cell (by rw [ha]; exact hl));(obtain ⟨q0,q1,q2,q3⟩:=hq.keep (w':=_) fun a ha hl=>hB.cell (by rw [ha]; exact hl));have la:=zAb p0;have lb:=zAb q0;have hkk:(k:Int)<(m:Int):=(by omega);have hk0:(0:Int)<=(k:Int):=(by omega);have HB2:=hdq hB;have HU:=hdq (hu.below hB);have HV:=hdq (hv.below hB);have bW:=hB.size;clear hB HA HB hu hv;(go_upto_region 6 with fail);refine zAp 1000 (fun _ w'=>Sees w [] wr w') (by kernel_rfl) ?_;have hS0:Sees w [] wr wr.drew:=Sees.st (by simp) bW;refine tx4 0 1 2 3 hS0 ?_;refine tx4 4 5 6 7 hS0 ?_;refine tk1 8 ?_;intro K hK;go_simp;refine (zEz (HU.out.below hS0.kept.whole) (HV.out.below hS0.kept.whole)).mono ?_;rintro e w2 ⟨rfl,hb2⟩;have hS1:=Kept.call2 hb2 hS0;refine hK.out _ _ hS1 ?_;clear hK K hS0 hb2;refine tx1 9 hS1 ?_;refine zAf (by kernel_rfl) ?_ _;have HBf:=hdq (HB2.out.trans (hS1.kept.whole.mono bW));clear hS1 HB2 p0 p1 p2 p3 q0 q1 q2 q3;go_wp2;go_roundw;case rel=>exact ⟨k+1,by omega,by simp,HBf.out⟩
   case measure=>simp [intOf]; omega
  ·have hkk:¬ (k:Int)<(m:Int):=(by omega);have HB2:=hdq hB;clear hB;go_wp2;go_ret;exact ⟨rfl,HB2.out⟩
theorem heapK {o:Obj} (h:w.heap[b]?=some o) (hb:Below w w w'):w'.heap[b]?=some o:=(hb.block _ (zAa h)).trans h
theorem zHH {e:Ending} (h:PricesRet w PSm e w'):∃ y:SV,e = .returned (.tuple #[y.val,.int .i64 0])/\VecCan w' (New w) (New w) y [0,3/2,1]:=by
 rcases h with ⟨D,y,hI,hE,he,hv⟩ | ⟨D,hI,hE,_⟩ | ⟨D,hI,hE,_⟩
 ·rw [<-((zCC hI hE).2 rfl).2];exact ⟨y,he,hv⟩
 ·have:=(zCC hI hE).1; omega
 ·have:=(zCC hI hE).1; omega
theorem zJ2 {e:Ending} (h:OptimumRet w PSm e w'):∃ z:QV,e = .returned (.tuple #[z.val,.int .i64 0])/\QCan w' (New w) z 36:=by
 rcases h with ⟨D,z,hI,hE,he,hv⟩ | ⟨D,hI,hE,_⟩ | ⟨D,hI,hE,_⟩
 ·rw [<-((zCC hI hE).2 rfl).1];exact ⟨z,he,hv⟩
 ·have:=(zCC hI hE).1; omega
 ·have:=(zCC hI hE).1; omega
theorem zHG {e:Ending} (h:PricesRet w PQ2 e w'):∃ y:SV,e = .returned (.tuple #[y.val,.int .i64 0])/\VecCan w' (New w) (New w) y (rats [0,1]):=by
 rcases h with ⟨D,y,hI,hE,he,hv⟩ | ⟨D,hI,hE,_⟩ | ⟨D,hI,hE,_⟩
 ·rw [show rats [0,1]=[0,1] from rfl,<-(zC9 hI hE).2 rfl];exact ⟨y,he,hv⟩
 ·have:=(zC9 hI hE).1; omega
 ·have:=(zC9 hI hE).1; omega
theorem zHc {e:Ending} {up:Bool} (h:MargRet w PQ2 0 up e w'):∃ z:QV,e = .returned (.tuple #[z.val,.int .i64 0])/\QCan w' (New w) z (if up then 0 else 1):=by
 rcases h with ⟨D,hI,hE,_⟩ | ⟨D,hI,hE,_⟩ | ⟨D0,hI0,hE0,D,k,hI,hE,⟨hk,_⟩ | ⟨rfl,z,he,hz⟩⟩
 ·have:=(zC9 hI hE).1; omega
 ·have:=(zC9 hI hE).1; omega
 ·exact absurd (zHb up hI hE).1 hk
 ·rw [<-(zHb up hI hE).2 rfl];exact ⟨z,he,hz⟩
theorem zJn {e:Ending} (h:MargRet w PQ3 0 false e w'):e = .returned (.tuple #[.agg #[.bool false,.slice none 0 0,.bool false,.slice none 0 0],.int .i64 9]):=by
 rcases h with ⟨D,hI,hE,_⟩ | ⟨D,hI,hE,_⟩ | ⟨D0,hI0,hE0,D,k,hI,hE,⟨hk,he⟩ | ⟨rfl,z,he,hz⟩⟩
 ·have:=zHe hI hE; omega
 ·have:=zHe hI hE; omega
 ·exact he
 ·exact (zJm hI hE).elim
abbrev intCells (l:List Int):Obj:=.cells (l.map fun z=>Value.int .i64 z).toArray 2
theorem zCE {l:List Int} (hl:l.length<=1000) (hr:∀ x ∈ l,-9223372036854775808<=x/\x<=9223372036854775807) :
  Calls Tryz.prog 58 #[.slice (some w) l.length l.length] (w.alloc (intCells l)) fun e w'=>VRet w (rats l) e w'/\Below w w w':=by
 have i1:(w.alloc (intCells l)).heap[w.heap.size]?=some (.cells (l.map fun z=>Value.int .i64 z).toArray 2 (0,0)):=zAd _ _ rfl;have hb:Below w w (w.alloc (intCells l)):=bal;refine (zBP (s:=⟨some ⟨w,0,none⟩,l.length,l.length⟩) (IntsAt.blk i1 hl hr) hl).mono ?_;rintro e w' ⟨⟨s,rfl,hv⟩,hb'⟩;exact ⟨⟨s,rfl,hv.low hb.size⟩,hb.trans (hb'.mono hb.size)⟩
theorem zDv {l:List Int} (hl:l.length<=1000) (hr:∀ x ∈ l,-9223372036854775808<=x/\x<=9223372036854775807) :
  Calls Tryz.prog 99 #[.slice (some ⟨w+1,0,none⟩) 1 1] ((w.alloc (intCells l)).alloc (.cells #[.slice (some w) l.length l.length] 91)) fun e w'=>MRet w [rats l] e w'/\Below w w w':=by
 obtain ⟨W,hW⟩:∃ W,W=(w.alloc (intCells l)).alloc (.cells #[.slice (some w) l.length l.length] 91):=⟨_,rfl⟩;rw [<-hW];have i1:W.heap[w.heap.size]?=some (.cells (l.map fun z=>Value.int .i64 z).toArray 2 (0,0)):=by rw [hW]; exact (Below.heap_alloc _ _ _ (by simp)).trans (zAd _ _ rfl)
 have g1:W.heap[w.heap.size+1]?=some (.cells #[.slice (some w) l.length l.length] 91 (0,0)):=by rw [hW]; exact zAd _ _ (by simp)
 have hb:Below w w W:=by rw [hW]; exact (bal).alloc (by simp) _
 clear hW
 refine (zBa (s:=⟨some ⟨w+1,0,none⟩,1,1⟩) (m:=[l]) (IntsMat.blk (ss:=[⟨some ⟨w,0,none⟩,l.length,l.length⟩]) g1 (by show 1<=1000; omega) rfl (fun i hi=>by
  obtain rfl:i=0:=by have hi':i<1:=hi; omega
  exact ⟨IntsAt.blk (l:=l) i1 hl hr,hl⟩)) (by show 1<=1000; omega)).mono ?_
 rintro e w' ⟨⟨s,rfl,hv⟩,hb'⟩;exact ⟨⟨s,rfl,hv.low hb.size⟩,hb.trans (hb'.mono hb.size)⟩
theorem zHB {l m:List Int} (hl:l.length<=1000) (hr:∀ x ∈ l,-9223372036854775808<=x/\x<=9223372036854775807) (hm:m.length<=1000) (hs:∀ x ∈ m,-9223372036854775808<=x/\x<=9223372036854775807) :
  Calls Tryz.prog 99 #[.slice (some ⟨w+1+1,0,none⟩) 2 2] (((w.alloc (intCells l)).alloc (intCells m)).alloc (.cells #[.slice (some w) l.length l.length,.slice (some ⟨w+1,0,none⟩) m.length m.length] 91)) fun e w'=>MRet w [rats l,rats m] e w'/\Below w w w':=by
 obtain ⟨W,hW⟩:∃ W,W=((w.alloc (intCells l)).alloc (intCells m)).alloc (.cells #[.slice (some w) l.length l.length,.slice (some ⟨w+1,0,none⟩) m.length m.length] 91):=⟨_,rfl⟩;rw [<-hW];have i1:W.heap[w.heap.size]?=some (.cells (l.map fun z=>Value.int .i64 z).toArray 2 (0,0)):=by rw [hW]; exact (Below.heap_alloc _ _ _ (by simp <;> omega)).trans ((Below.heap_alloc _ _ _ (by simp)).trans (zAd _ _ rfl))
 have i2:W.heap[w.heap.size+1]?=some (.cells (m.map fun z=>Value.int .i64 z).toArray 2 (0,0)):=by rw [hW]; exact (Below.heap_alloc _ _ _ (by simp)).trans (zAd _ _ (by simp))
 have g1:W.heap[w.heap.size+1+1]?=some (.cells #[.slice (some w) l.length l.length,.slice (some ⟨w+1,0,none⟩) m.length m.length] 91 (0,0)):=by rw [hW]; exact zAd _ _ (by simp)
 have hb:Below w w W:=by rw [hW]; exact ((bal).alloc (by simp) _).alloc (by simp <;> omega) _
 clear hW
 refine (zBa (s:=⟨some ⟨w+1+1,0,none⟩,2,2⟩) (m:=[l,m]) (IntsMat.blk (ss:=[⟨some ⟨w,0,none⟩,l.length,l.length⟩,⟨some ⟨w+1,0,none⟩,m.length,m.length⟩]) g1 (by show 2<=1000; omega) rfl (fun i hi=>by
  have hi':i<2:=hi;rcases (show i=0\/i=1 by omega) with rfl | rfl
  ·exact ⟨IntsAt.blk (l:=l) i1 hl hr,hl⟩
  ·exact ⟨IntsAt.blk (l:=m) i2 hm hs,hm⟩)) (by show 2<=1000; omega)).mono ?_
 rintro e w' ⟨⟨s,rfl,hv⟩,hb'⟩;exact ⟨⟨s,rfl,hv.low hb.size⟩,hb.trans (hb'.mono hb.size)⟩
theorem zD3 (h:∀ i,Lin.Fits k (f i)):∀ n,Lin.Fits (n*(k+1)) (Lin.sum n f)
 | 0=>Lin.Fits.zero _
 | n+1=>by
  have:=(zD3 h n).add (h n);rw [Nat.succ_mul];exact this
theorem zHl (h0:∀ i,N<=i->f i=0):∀ n,N<=n->Lin.sum n f=Lin.sum N f
 | 0,h=>by rw [show N=0 by omega]
 | n+1,h=>by
  by_cases e:N=n+1
  ·rw [e]
  ·show Lin.sum n f+f n=_;rw [zHl h0 n (by omega),h0 n (by omega)]; grind
theorem zIV (h:∀ i,Lin.Fits k (f i)) (h0:∀ i,N<=i->f i=0) (n:Nat):Lin.Fits (N*(k+1)) (Lin.sum n f):=by
 by_cases hn:N<=n
 ·rw [zHl h0 n hn]; exact zD3 h N
 ·exact (zD3 h n).mono (Nat.mul_le_mul_right _ (by omega))
theorem zE8 {y:List Rat} (fy:∀ i,QFit L (y.getD i 0)) (fr:∀ i j,QFit M ((rs.getD i []).getD j 0)) (fb:∀ i,QFit M (bs.getD i 0)) (hL:L<=1001) (hM:M<=101) (hr:rs.length<=128) (he:y.length=rs.length) :
  (∀ i j,QFit LM (y.getD i 0*(rs.getD i []).getD j 0))/\(∀ k j,Lin.Fits (128*35301) (Lin.sum k fun i=>y.getD i 0*(rs.getD i []).getD j 0))/\∀ i,Lin.Fits 35300 (y.getD i 0*bs.getD i 0):=by
 have f1:∀ i j,Lin.Fits 35300 (y.getD i 0*(rs.getD i []).getD j 0):=fun i j=>((zAR (fy i)).mul (zAR (fr i j))).mono (by omega)
 refine ⟨fun i j=>zBn (f1 i j) (by rw [zAZ]; omega),fun k j=>(zIV (N:=y.length) (fun i=>f1 i j) (fun i hi=>?_) k).mono (by have:=Nat.mul_le_mul_right 35301 (show y.length<=128 by omega); omega),fun i=>((zAR (fy i)).mul (zAR (fb i))).mono (by omega)⟩;rw [zAw _ _ _ hi]; grind
theorem zFz {y:List Rat} (b:Bool) (h:LPIs w X Y M p os rs bs) (hV:p.n=V) (hV2:V<=8) (ho1:1<=p.O.n) (ho2:p.O.n<=4) (hr:p.R.n<=128) (hb:p.B.n=p.R.n) (hco:colsOf os<=V) (hcr:colsOf rs<=V) (hM:M<=100)
  (hy:VecIs w X' Y' L s y) (hL:L<=1000) (hbb:(y.length=rs.length/\PValid (prob1 V os rs bs) fun i=>y.getD i 0) ↔ b=true) :
  Calls Tryz.prog 48 #[p.val,s.val] w fun e w'=>e = .returned (.bool b)/\Below w w w':=
 zFW (kb:=128*35301) (kd:=35300) b h hV hV2 ho1 ho2 hr hb hco hcr hM hy (by rw [zAZ]; omega) (by rw [zAZ]; omega) (by rw [zAZ]; omega)
  (zE8 hy.fit h.rows.fit h.bounds.fit (by omega) (by omega) (by rw [h.rows.len]; exact hr)) hbb
theorem zIK {X'' Y'':Nat->Prop} {sx sy:SV} (h:LPIs w X Y 1 p [rats [3,5]] [rats [1,0],rats [0,2],rats [3,2]] (rats [4,12,18])) (hV:p.n=2)
  (hx:VecIs w X'' Y'' 1 sx (rats [2,6])) (hy:VecIs w X' Y' 1 sy [0,3/2,1]) :
  Calls Tryz.prog 49 #[p.val,sx.val,sy.val] w fun e w'=>e = .returned (.bool true)/\Below w w w':=by
 have v:=zE8 hy.fit h.rows.fit h.bounds.fit (by decide) (by decide) (by decide) rfl;have fx:∀ i k,Lin.Fits 128 ((([rats [1,0],rats [0,2],rats [3,2]]:List (List Rat)).getD i []).getD k 0*(rats [2,6]).getD k 0):=fun i k=>((zAR (h.rows.fit i k)).mul (zAR (hx.fit k))).mono (by omega)
 have l1:p.O.n=1:=h.obj.len.symm;have l2:p.R.n=3:=h.rows.len.symm;have l3:p.B.n=3:=h.bounds.len.symm;have y0:([0,3/2,1]:List Rat).getD 0 0=0:=rfl;have d1:dotL (rats [0,2]) (rats [2,6])=12:=by show Lin.sum 2 _=_; rw [sum2]; simp [rats]; grind
 have d2:dotL (rats [3,2]) (rats [2,6])=18:=by show Lin.sum 2 _=_; rw [sum2]; simp [rats]; grind
 refine zGn (V:=2) (kb:=128*35301) (kx:=128) h hV (by decide) (by omega) (by omega) (by omega) (by omega) (by decide) (by decide) hx hy (by decide) (by rw [zAZ]; omega) (by rw [zAZ]; omega) (by rw [zAZ]; omega) (by rw [zAZ]; omega) (by rw [zAZ]; omega)
  v.1 v.2.1 fx (fun i=>?_) (fun k=>?_) ((zJd (V:=2) (os:=[rats [3,5]]) (by decide) rfl).2 zFy) ((zDm (bs:=rats [4,12,18])).2 ⟨rfl,zFx⟩) (all3 ?_ ?_ ?_) (all2 ?_ ?_)
 ·refine zBn (k:=64+2*129+1) ((zAR (h.bounds.fit i)).sub ?_) (by rw [zAZ]; omega);refine (zD3 (fx i) _).mono (Nat.mul_le_mul_right _ ?_);show min _ 2<=2;omega
 ·refine zBn (k:=128*35301+64+1) ((v.2.1 _ k).sub (zAR (h.obj.fit 0 k))) (by rw [zAZ]; omega)
 ·rintro ⟨h,_⟩;rw [y0] at h; exact absurd h Rat.lt_irrefl
 ·rintro ⟨_,h⟩;change 0<(12:Rat)-dotL (rats [0,2]) (rats [2,6]) at h;rw [d1] at h; grind
 ·rintro ⟨_,h⟩;change 0<(18:Rat)-dotL (rats [3,2]) (rats [2,6]) at h;rw [d2] at h; grind
 ·rintro ⟨_,h⟩;change 0<Lin.sum 3 _-(3:Rat) at h;rw [sum3] at h;simp [rats] at h;grind
 ·rintro ⟨_,h⟩;change 0<Lin.sum 3 _-(5:Rat) at h;rw [sum3] at h;simp [rats] at h;grind
end Go.Proofs.YtpjaodcimomaiaaGreat
