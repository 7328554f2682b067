/- Texts BoN BoJ of this claim. -/
import Derived.Test.YtpjaodcimomaiaaGreatL45
set_option maxHeartbeats 4000000
set_option maxRecDepth 40000
namespace Go.Proofs.YtpjaodcimomaiaaGreat
variable {s k n b g1 go pb g2 c:Nat} {f:Nat->Rat} {w W2 W w':World} {v' vr:Value} {G:Nat->Prop} {A:Option Addr}
def lmC (s:Nat) (k:Nat):Int:=if s / 2 ^ k % 2=1 then (k:Int)+1 else -1-(k:Int)
def lmW (s:Nat) (k:Nat):Rat:=if s / 2 ^ k % 2=1 then 1 else 0
def lmZ:List Int:=(List.range 12).map fun k:Nat=>(k:Int)
def lmO (s:Nat):List Int:=(List.range 12).map (lmC s)
def lmB (s:Nat):Lin.BP:=BPof 12 [rats (lmO s)] [] [] lmZ
theorem zOL (h:s / 2 ^ k % 2=1):lmC s k=(k:Int)+1:=if_pos h
theorem zOJ (h:¬ s / 2 ^ k % 2=1):lmC s k=-1-(k:Int):=if_neg h
theorem zON (h:s / 2 ^ k % 2=1):lmW s k=1:=if_pos h
theorem zOK (h:¬ s / 2 ^ k % 2=1):lmW s k=0:=if_neg h
theorem zOB (hk:k<12):lmZ.getD k 0=(k:Int):=by
 unfold lmZ;rw [gdd,List.getElem?_map,List.getElem?_range hk]; rfl
theorem zOC:lmZ.length=12:=by simp [lmZ]
theorem zOH (s:Nat) (hk:k<12):(lmB s).bin k=k:=by
 show (lmZ.getD k 0).toNat=k;rw [zOB hk]; rfl
theorem zOQ (s:Nat):(lmB s).nb=12:=zOC
theorem zOX (s:Nat) (hk:k<12):(lmB s).O 0 k=(lmC s k:Rat):=by
 show (rats (lmO s)).getD k 0=_;unfold rats lmO;rw [gdd,List.getElem?_map,List.getElem?_map,List.getElem?_range hk]; rfl
theorem zO0 (s:Nat):(lmB s).Ok:=⟨fun i hi=>by rw [zOQ] at hi; rw [zOH s hi]; exact hi,fun i j hij hj=>by rw [zOQ] at hj; rw [zOH s hj,zOH s (by omega)]; exact hij⟩
theorem zOP (s:Nat):(lmB s).S (lmW s):=by
 refine ⟨⟨fun k _=>?_,fun i hi=>absurd hi (Nat.not_lt_zero i)⟩,fun i hi=>?_⟩
 ·unfold lmW; split <;> decide
 ·unfold lmW; split
  ·exact .inr rfl
  ·exact .inl rfl
theorem zOR {c:Int} {x:Rat} (hc:c=lmC s k) (hx:x=0\/x=1):(c:Rat)*x-(c:Rat)*lmW s k<=0/\((c:Rat)*x-(c:Rat)*lmW s k=0->x=lmW s k):=by
 by_cases h:s / 2 ^ k % 2=1
 ·rw [zON h];rw [zOL h] at hc
  have h1:(0:Rat)<(c:Rat):=by
   have:(0:Int)<c:=(by omega);exact_mod_cast this
  rcases hx with rfl | rfl
  ·constructor
   ·grind
   ·intro e; grind
  ·constructor
   ·grind
   ·intro _; rfl
 ·rw [zOK h];rw [zOJ h] at hc
  have h1:(c:Rat)<0:=by
   have:c<(0:Int):=(by omega);exact_mod_cast this
  rcases hx with rfl | rfl
  ·constructor
   ·grind
   ·intro _; rfl
  ·constructor
   ·grind
   ·intro e; grind
theorem zOI (h:∀ i,i<n->f i<=0) (h0:0<=Lin.sum n f):∀ i,i<n->f i=0:=by
 induction n with
 | zero=>intro i hi; exact absurd hi (Nat.not_lt_zero i)
 | succ n ih=>
  have e:Lin.sum (n+1) f=Lin.sum n f+f n:=rfl;have h1:=Lin.zH0 (n:=n) (f:=f) fun i hi=>h i (by omega)
  have h2:=h n (Nat.lt_succ_self n);intro i hi;rcases Nat.lt_succ_iff_lt_or_eq.1 hi with hi | rfl
  ·exact ih (fun i hi=>h i (by omega)) (by grind) i hi
  ·grind
theorem zOU {x:Nat->Rat} (h:(lmB s).S x) (hle:(lmB s).Le (lmW s) x):∀ k,k<12->x k=lmW s k:=by
 have hx:∀ k,k<12->x k=0\/x k=1:=fun k hk=>by
  have:=h.2 k (by rw [zOQ]; exact hk)
  rwa [zOH s hk] at this
 have hn:=zM6 hle (show 0<1+12 by decide)
 have e0:∀ y:Nat->Rat,(lmB s).dot ((lmB s).lev 0) y=Lin.sum 12 fun k=>(lmC s k:Rat)*y k:=fun y=>Lin.zAh fun k hk=>by
  rw [show (lmB s).lev 0 k=(lmB s).O 0 k from if_pos (show 0<1 by decide),zOX s hk]
 have hs:0<=Lin.sum 12 fun k=>(lmC s k:Rat)*x k-(lmC s k:Rat)*lmW s k:=by
  rw [Lin.zFD];have:=hn;rw [e0,e0] at this;grind
 intro k hk;have hz:=zOI (fun i hi=>(zOR (k:=i) (s:=s) rfl (hx i hi)).1) hs k hk;exact (zOR (k:=k) (s:=s) rfl (hx k hk)).2 hz
theorem zOY (s:Nat):¬ (lmB s).Ray:=fun ⟨d,_,_,hb,i,hi,hp,_⟩=>by
 have hd:∀ k,k<12->d k=0:=fun k hk=>by
  have:=hb k (by rw [zOQ]; exact hk)
  rwa [zOH s hk] at this
 dsimp only at hp;have e:(lmB s).dot ((lmB s).O i) d=0:=Lin.zAC fun k hk=>by rw [hd k hk]; grind
 rw [e] at hp;exact absurd hp (by decide)
theorem zOW {x:Nat->Rat} (h:∀ k,k<12->x k=lmW s k):(List.range 12).map x=(List.range 12).map (lmW s):=List.map_congr_left fun k hk=>h k (List.mem_range.1 hk)
open Go.RowKit Go.Shelf
theorem zOD (n:Nat) (h1:1<=n) (hn:n<=1000) :
  Calls Tryz.prog 28 #[.slice none 0 0,.int .i64 (n:Int)] w fun e w'=>e = .returned (.slice (some ⟨w.heap.size,0,none⟩) n n)/\w'=w.alloc (.cells (zeroQ n) 37):=by
 have hmk:=zBZ n (by omega);have e1:¬ ((n:Int)<1):=by omega
 have e2:min (n:Int) 65536=(n:Int):=by omega
 have e3:min (0:Int) (n:Int)=0:=by omega
 go_enter Tryz.func28,Tryz.ntmps28
 go_wp2;go_loopw [17] (fun t W=>t = .int .i64 0/\W=w.alloc (.cells (zeroQ n) 37)) (fun _ _=>0)
 case atStart=>exact ⟨rfl,rfl⟩
 case round=>
  obtain ⟨rfl,rfl⟩:=hrel;go_wp2;go_ret;exact ⟨rfl,rfl⟩
theorem zOx (n:Nat) (h1:1<=n) (hn:n<=1000) :
  Calls Tryz.prog 14 #[.int .i64 (n:Int),.int .i64 (-1)] w fun e w'=>e = .returned (.slice (some ⟨w.heap.size,0,none⟩) n n)/\w'=w.alloc (.cells (zeroQ n) 37):=by
 go_enter Tryz.func14,Tryz.ntmps14
 go_wp2_with fail
 refine (zOD n h1 hn).mono ?_;rintro e w1 ⟨rfl,rfl⟩;go_wp2;go_ret;exact ⟨rfl,rfl⟩
structure LmI (w:World) (g1 go pb g2 s a b c:Nat) (vr:Value) (G:Nat->Prop) (W:World):Prop where
 bel:Below w.heap.size w W
 gin:∀ y,G y->w.heap.size<=y/\y<W.heap.size
 gpb:G pb
 own:W.ownsRow (g2+1) 3 1 vr c (iv (List.range c))
 ownG:∀ j,vr.ownBlock=some j->G j
 box:W.heap[pb]?=some (.cells #[.int .i64 12,.slice (some ⟨go,0,none⟩) 1 1,.slice none 0 0,.slice none 0 0,vr] 31 (0,0))
 obj:W.heap[go]?=some (.cells #[.slice (some ⟨g1,0,none⟩) 12 12] 24 (0,0))
 r1:RowAt W G g1 (fillTo (fun i=>(lmC s i:Rat)) 12 a)
 r2:RowAt W G g2 (fillTo (lmW s) 12 b)
 ord:w.heap.size<=g1/\g1<go/\go<pb/\pb<g2
section
variable {w W W':World} {g1 go pb g2 s a b c:Nat} {vr:Value} {G:Nat->Prop}
theorem LmI.call (h:LmI w g1 go pb g2 s a b c vr G W) (hb:Below W.heap.size W W'):LmI w g1 go pb g2 s a b c vr G W':=
 ⟨h.bel.trans (hb.mono h.bel.size),fun y hy=>⟨(h.gin y hy).1,ltl (h.gin y hy).2 hb.size⟩,h.gpb,zAr h.own fun j hj=>hb.block j (h.gin j (h.ownG j hj)).2,h.ownG,(hb.block _ (zAa h.box)).trans h.box,(hb.block _ (zAa h.obj)).trans h.obj,h.r1.below hb,h.r2.below hb,h.ord⟩
theorem LmI.put1 (h:LmI w g1 go pb g2 s a b c vr G W) (ha:a<12) {v:QV} (hv:QCan W (fun x=>¬ G x) v (lmC s a:Rat)):LmI w g1 go pb g2 s (a+1) b c vr G (put4 W g1 a v):=by
 obtain ⟨o1,o2,o3,o4⟩:=h.ord;refine ⟨zBq h.bel o1 a v,fun y hy=>⟨(h.gin y hy).1,by rw [zBI]; exact (h.gin y hy).2⟩,h.gpb,zAr h.own fun j hj=>zAx W g1 a v (by have:=(zAc h.own hj).1; omega),h.ownG,(zAx W g1 a v (by omega)).trans h.box,(zAx W g1 a v (by omega)).trans h.obj,?_,h.r2.put4_other h.r1.mem (by omega) a v,h.ord⟩;rw [<-zGw _ ha];exact h.r1.put4 (by rw [zBj _ (by omega)]; exact ha) hv
theorem LmI.put2 (h:LmI w g1 go pb g2 s a b c vr G W) (ha:b<12) {v:QV} (hv:QCan W (fun x=>¬ G x) v (lmW s b)):LmI w g1 go pb g2 s a (b+1) c vr G (put4 W g2 b v):=by
 obtain ⟨o1,o2,o3,o4⟩:=h.ord;refine ⟨zBq h.bel (by omega) b v,fun y hy=>⟨(h.gin y hy).1,by rw [zBI]; exact (h.gin y hy).2⟩,h.gpb,zAr h.own fun j hj=>zAx W g2 b v (by have:=(zAc h.own hj).1; omega),h.ownG,(zAx W g2 b v (by omega)).trans h.box,(zAx W g2 b v (by omega)).trans h.obj,h.r1.put4_other h.r2.mem (by omega) b v,?_,h.ord⟩;rw [<-zGw _ ha];exact h.r2.put4 (by rw [zBj _ (by omega)]; exact ha) hv
theorem LmI.skip2 (h:LmI w g1 go pb g2 s a b c vr G W) (ha:b<12) (h0:lmW s b=0):LmI w g1 go pb g2 s a (b+1) c vr G W:=by
 have e:fillTo (lmW s) 12 (b+1)=fillTo (lmW s) 12 b:=by
  rw [<-zGw _ ha,h0];apply List.ext_getElem
  ·simp
  ·intro i h1 h2;rw [List.getElem_set]
   split
   ·rename_i e; subst e
    simp only [fillTo];rw [List.getElem_append_right (by simp)];simp
   ·rfl
 exact ⟨h.bel,h.gin,h.gpb,h.own,h.ownG,h.box,h.obj,h.r1,by rw [e]; exact h.r2,h.ord⟩
theorem LmI.push {ob:Obj} (h:LmI w g1 go pb g2 s a b c vr G W) (hown:W2.ownsRow (g2+1) 3 1 v' (c+1) (iv (List.range c)++[.int .i64 (c:Int)])) (hg:(W.alloc ob).grownBy W2 vr.ownBlock) (hat:v'.ownBlock=vr.ownBlock\/v'.ownBlock=some (W.alloc ob).heap.size) :
  LmI w g1 go pb g2 s a b (c+1) v' (fun y=>G y\/v'.ownBlock=some y) (W2.setCell ⟨pb,4,none⟩ v'):=by
 obtain ⟨o1,o2,o3,o4⟩:=h.ord;have hsz:=hg.size;have hF1:Fr (fun y=>vr.ownBlock=some y) W W2:=⟨hg.os,hg.tape,hg.output,by simp at hsz; omega,fun b hb hn=>(hg.block b (by simp; omega) fun e=>hn e.symm).trans (Below.heap_alloc _ _ _ hb)⟩;have hF:Fr (fun y=>vr.ownBlock=some y\/y=pb) W (W2.setCell ⟨pb,4,none⟩ v'):=(hF1.mono fun y hy=>.inl hy).set (p:=⟨pb,4,none⟩) (.inr rfl) _;have no:∀ j,j<=g2->¬ vr.ownBlock=some j:=fun j hj e=>by have:=(zAc h.own e).1; omega
 have hin:∀ x,x<W.heap.size->(G x\/v'.ownBlock=some x)->G x:=fun x hx h2=>by
  rcases h2 with h2 | h2
  ·exact h2
  ·rcases hat with e | e
   ·exact h.ownG x (e.symm.trans h2)
   ·rw [e] at h2;have:=Option.some.inj h2;simp at this;omega
 have hk:∀ p:Addr,¬ (G p.block\/v'.ownBlock=some p.block)->p.block<W.heap.size->(W2.setCell ⟨pb,4,none⟩ v').cell? p=W.cell? p:=fun p hp hl=>hF.cell hl fun e=>by
  rcases e with e | e
  ·exact hp (.inl (h.ownG _ e))
  ·exact hp (.inl (by rw [e]; exact h.gpb))
 refine ⟨h.bel.trans (hF.below h.bel.size fun y e=>?_),fun y hy=>?_,.inl h.gpb,?_,fun j hj=>.inr hj,?_,?_,?_,?_,h.ord⟩
 ·rcases e with e | e
  ·have:=(zAc h.own e).1; omega
  ·omega
 ·rcases hy with hy | hy
  ·exact ⟨(h.gin y hy).1,by have:=(h.gin y hy).2; have:=hF.size; omega⟩
  ·obtain ⟨h1,cs,hh⟩:=zAc hown hy;exact ⟨by omega,by have:=zAa hh; simpa using this⟩
 ·rw [show iv (List.range (c+1))=iv (List.range c)++[.int .i64 (c:Int)] by simp [iv,List.range_succ]];exact zAr hown fun j hj=>bhs _ _ _ _ (by have:=(zAc hown hj).1; show j ≠ pb; omega)
 ·have k1:W2.heap[pb]?=_:=(hF1.block pb (zAa h.box) (no _ (by omega))).trans h.box;rw [zAe _ k1]; simp
 ·exact (hF.block go (zAa h.obj) fun e=>by
   rcases e with e | e
   ·exact no _ (by omega) e
   ·omega).trans h.obj
 ·exact (h.r1.grow (fun x hx=>.inl hx) hin).keep (hF.block g1 h.r1.lt fun e=>by
   rcases e with e | e
   ·exact no _ (by omega) e
   ·omega) hk
 ·exact (h.r2.grow (fun x hx=>.inl hx) hin).keep (hF.block g2 h.r2.lt fun e=>by
   rcases e with e | e
   ·exact no _ (by omega) e
   ·omega) hk
end
def LmL (w:World) (g1 go pb g2 s:Nat) (t:Value) (W:World):Prop:=∃ (k:Nat) (vr:Value) (G:Nat->Prop),k<=12/\t = .int .i64 (k:Int)/\LmI w g1 go pb g2 s k k k vr G W
theorem zOA {b:BinV} (hvl:∀ w',Below w.heap.size w w'->Calls Tryz.prog 69 #[b.p.val] w' fun e w2=>e = .returned (.bool true)/\Below w'.heap.size w' w2) (hn:12<b.bin.n) (hc:b.bin.n<=1000) :
  Calls Tryz.prog 18 #[b.val] w fun e w'=>e = .returned (.bool false)/\Below w.heap.size w w':=by
 obtain ⟨⟨pn,⟨OA,On,Oc⟩,⟨RA,Rn,Rc⟩,⟨BA,Bn,Bc⟩⟩,⟨bA,bN,bC⟩⟩:=b;dsimp only at hn hc;obtain ⟨W0,hW0⟩:∃ W0,W0=w.alloc (.cells #[.int .i64 pn,.slice OA On Oc,.slice RA Rn Rc,.slice BA Bn Bc,.slice bA bN bC] 31):=⟨_,rfl⟩;have al:Below w.heap.size w W0:=by rw [hW0]; exact (brf _ _).alloc (nlr _) _
 have hq:W0.heap[w.heap.size]?=some (.cells #[.int .i64 pn,.slice OA On Oc,.slice RA Rn Rc,.slice BA Bn Bc,.slice bA bN bC] 31 (0,0)):=by rw [hW0]; exact zAd _ _ rfl
 have p0:W0.cell? ⟨w.heap.size,0,none⟩=some (.int .i64 pn):=by simp [World.cell?,hq]
 have p1:W0.cell? ⟨w.heap.size,1,none⟩=some (.slice OA On Oc):=by simp [World.cell?,hq]
 have p2:W0.cell? ⟨w.heap.size,2,none⟩=some (.slice RA Rn Rc):=by simp [World.cell?,hq]
 have p3:W0.cell? ⟨w.heap.size,3,none⟩=some (.slice BA Bn Bc):=by simp [World.cell?,hq]
 have p4:W0.cell? ⟨w.heap.size,4,none⟩=some (.slice bA bN bC):=by simp [World.cell?,hq]
 have hl0:=zAa hq;clear hq;have HVL:=hdq (hvl W0 al);clear hvl;show Calls _ _ #[.agg #[.int .i64 pn,.slice OA On Oc,.slice RA Rn Rc,.slice BA Bn Bc,.slice bA bN bC]] _ _;go_enter Tryz.func18,Tryz.ntmps18
 go_upto_region 1 with fail
 rw [<-hW0];clear hW0;go_wp2_with fail
 refine HVL.out.mono ?_;rintro e w1 ⟨rfl,hb1⟩;have q4:=(hb1.cell (p:=⟨w.heap.size,4,none⟩) hl0).trans p4;have hbl:=al.trans (hb1.mono al.size);have hg:(12:Int)<(bN:Int):=by omega
 clear p0 p1 p2 p3 p4 hb1;go_wp2;go_ret;exact ⟨rfl,hbl⟩
theorem zOz {b:BinV} (hvl:∀ w',Below w.heap.size w w'->Calls Tryz.prog 18 #[b.val] w' fun e w2=>e = .returned (.bool false)/\Below w'.heap.size w' w2) :
  Calls Tryz.prog 16 #[b.val] w fun e w'=>e = .returned (.tuple #[.slice none 0 0,.int .i64 0,.int .i64 1])/\Below w.heap.size w w':=by
 obtain ⟨⟨pn,⟨OA,On,Oc⟩,⟨RA,Rn,Rc⟩,⟨BA,Bn,Bc⟩⟩,⟨bA,bN,bC⟩⟩:=b;obtain ⟨W0,hW0⟩:∃ W0,W0=w.alloc (.cells #[.int .i64 pn,.slice OA On Oc,.slice RA Rn Rc,.slice BA Bn Bc,.slice bA bN bC] 31):=⟨_,rfl⟩;have al:Below w.heap.size w W0:=by rw [hW0]; exact (brf _ _).alloc (nlr _) _
 have hq:W0.heap[w.heap.size]?=some (.cells #[.int .i64 pn,.slice OA On Oc,.slice RA Rn Rc,.slice BA Bn Bc,.slice bA bN bC] 31 (0,0)):=by rw [hW0]; exact zAd _ _ rfl
 have p0:W0.cell? ⟨w.heap.size,0,none⟩=some (.int .i64 pn):=by simp [World.cell?,hq]
 have p1:W0.cell? ⟨w.heap.size,1,none⟩=some (.slice OA On Oc):=by simp [World.cell?,hq]
 have p2:W0.cell? ⟨w.heap.size,2,none⟩=some (.slice RA Rn Rc):=by simp [World.cell?,hq]
 have p3:W0.cell? ⟨w.heap.size,3,none⟩=some (.slice BA Bn Bc):=by simp [World.cell?,hq]
 have p4:W0.cell? ⟨w.heap.size,4,none⟩=some (.slice bA bN bC):=by simp [World.cell?,hq]
 have hl0:=zAa hq;clear hq;have HVL:=hdq (hvl W0 al);clear hvl;dsimp only [BinV.val,LPV.val,SV.val] at *;go_enter Tryz.func16,Tryz.ntmps16
 go_upto_region 1 with fail
 rw [<-hW0];clear hW0;go_wp2_with fail
 refine HVL.out.mono ?_;rintro e w1 ⟨rfl,hb1⟩;have hbl:=al.trans (hb1.mono al.size);clear p0 p1 p2 p3 p4 hb1;go_wp2;exact bodyPost_ret (v:=.tuple #[.slice none 0 0,.int .i64 0,.int .i64 1]) (by simp [results,Tryz.results16,go_sem]) rfl ⟨rfl,hbl⟩
theorem zOv (h:k<12):-1000000<=lmC s k/\lmC s k<=1000000/\lmC s k ≠ 0:=by
 unfold lmC; split <;> omega
theorem RowAt.vecN {l:List Rat} (h:RowAt W G b l) (hn:l.length=n) (hn2:n<=1000):VecCan W (fun x=>x=b) (fun x=>¬ G x) ⟨some ⟨b,0,none⟩,n,n⟩ l:=by
 subst hn;exact h.vec (by omega) _ (nlr _) (by omega)
theorem zOM (s:Nat):(rats (lmO s)).length=12:=by simp [rats,lmO]
theorem zOG (s:Nat):∀ z ∈ lmO s,z.natAbs<1000:=fun z hz=>by
 unfold lmO at hz;obtain ⟨k,hk,rfl⟩:=List.mem_map.1 hz;rw [List.mem_range] at hk;unfold lmC
 split <;> omega
theorem zOV (s:Nat):fillTo (fun i=>(lmC s i:Rat)) 12 12=rats (lmO s):=by rw [zGv]; simp [rats,lmO]
theorem zOZ (s:Nat):SoK (lmB s) 200000000000:=by
 have hq:bqk 12 32=104736328522:=by decide
 refine SoK.of (k:=32) (by decide) (fun i v hi=>absurd hi (Nat.not_lt_zero i)) (fun i hi=>absurd hi (Nat.not_lt_zero i)) (fun l v hl=>?_) ?_ (by decide) (by rw [zAZ]; decide) (by rw [zAZ]; decide) ?_ ?_
 ·obtain rfl:l=0:=by have:l<1:=hl; omega
  exact zAR (zCZ (zOG s) v)
 ·show bqk 12 32+1<=_; omega
 ·rw [zOQ];show (0+12)*(2*bqk 12 32+1)+bqk 12 32+2<=_;rw [zAZ]; omega
 ·show 2*bqk 12 32+1<=_;rw [zAZ]; omega
theorem LmI.ints {uA:Option Addr} {uc:Nat} (h:LmI w g1 go pb g2 s 12 12 12 (.slice uA 12 uc) G W):IntsAt W ⟨uA,12,uc⟩ lmZ:=by
 obtain ⟨⟨A2,n2,c2⟩,e3,⟨h1,h2,h3,h4⟩,-⟩:=own_arr' (f:=fun i=>.int .i64 (lmZ.getD i 0)) h.own fun j hj=>by rw [zOB hj]; simp [iv,hj]
 simp only [SV.val,Value.slice.injEq] at e3;obtain ⟨rfl,rfl,rfl⟩:=e3;refine ⟨zOC,h2,h3,fun x hx=>?_,fun j hj=>?_⟩
 ·unfold lmZ at hx;obtain ⟨k,hk,rfl⟩:=List.mem_map.1 hx;rw [List.mem_range] at hk;omega
 ·have hj':j<12:=hj;rcases h4 with ⟨_,h6⟩ | ⟨g,cur,h5,h6,h7⟩
  ·omega
  ·exact ⟨⟨g,0,none⟩,h5,by rw [zA4,Nat.zero_add]; simp only [World.cell?,h6]; exact h7 j hj'⟩
theorem LmI.lp (h:LmI w g1 go pb g2 s 12 12 12 vr G W) (n:Int):LPIs W AllB AllB 8 ⟨n,⟨some ⟨go,0,none⟩,1,1⟩,⟨none,0,0⟩,⟨none,0,0⟩⟩ [rats (lmO s)] [] []:=by
 have c0:W.cell? ⟨go,0,none⟩=some (.slice (some ⟨g1,0,none⟩) 12 12):=by simp [World.cell?,h.obj]
 have r1:=h.r1;rw [zOV] at r1;have hv:VecIs W AllB AllB 8 ⟨some ⟨g1,0,none⟩,12,12⟩ (rats (lmO s)):=((r1.vecN (zOM s) (by decide)).loose fun k=>(zCZ (zOG s) k).up (by decide)).imp (fun _ _ _=>trivial) fun _ _ hq=>hq.imp fun _ _ _=>trivial
 exact ⟨⟨rfl,nlr _,by show 1<=9223372036854775807; decide,fun i hi=>by
  obtain rfl:i=0:=by have:i<1:=hi; omega
  exact ⟨⟨go,0,none⟩,⟨some ⟨g1,0,none⟩,12,12⟩,rfl,trivial,by rw [zA4,Nat.zero_add]; exact c0,hv⟩⟩,⟨rfl,nlr _,nzl _,fun k hk=>absurd hk (Nat.not_lt_zero k)⟩,⟨rfl,nlr _,nzl _,fun k hk=>absurd hk (Nat.not_lt_zero k)⟩⟩
theorem zOO (s:Nat):colsOf [rats (lmO s)]<=12:=zAU.2 fun r hr=>by rw [List.mem_singleton.1 hr,zOM]; decide
theorem LmI.solve {uA:Option Addr} {uc:Nat} (h:LmI w g1 go pb g2 s 12 12 12 (.slice uA 12 uc) G W) :
  Calls Tryz.prog 16 #[BinV.val ⟨⟨12,⟨some ⟨go,0,none⟩,1,1⟩,⟨none,0,0⟩,⟨none,0,0⟩⟩,⟨uA,12,uc⟩⟩] W (BSoRet W 200000000000 (lmB s)):=
 zLk (X:=AllB) (Y:=AllB) (V:=12) (os:=[rats (lmO s)]) (rs:=[]) (bs:=[]) (zs:=lmZ) (b:=⟨⟨12,⟨some ⟨go,0,none⟩,1,1⟩,⟨none,0,0⟩,⟨none,0,0⟩⟩,⟨uA,12,uc⟩⟩) (h.lp 12) rfl (by decide) (show 1<=1 by decide) (show 1<=4 by decide) (nzl _) rfl (zOO s) (nzl _) h.ints (by rw [zOC]; decide) (fun i hi=>by rw [zOC] at hi; rw [zOB hi]; omega) (zO0 s) (zOZ s)
theorem LmI.bad (h:LmI w g1 go pb g2 s 12 12 12 vr G W) (hb:Below W.heap.size W w') :
  Calls Tryz.prog 18 #[BinV.val ⟨⟨13,⟨some ⟨go,0,none⟩,1,1⟩,⟨none,0,0⟩,⟨none,0,0⟩⟩,⟨A,13,c⟩⟩] w' fun e w2=>e = .returned (.bool false)/\Below w'.heap.size w' w2:=
 zOA (b:=⟨⟨13,⟨some ⟨go,0,none⟩,1,1⟩,⟨none,0,0⟩,⟨none,0,0⟩⟩,⟨A,13,c⟩⟩) (fun w2 hb2=>zBv (p:=⟨13,⟨some ⟨go,0,none⟩,1,1⟩,⟨none,0,0⟩,⟨none,0,0⟩⟩) (V:=13) (((h.lp 13).below hb).below hb2) rfl (by decide) (show 1<=1 by decide) (show 1<=4 by decide) (nzl _) rfl (nlt (zOO s) (by decide)) (nzl _)) (show 12<13 by decide) (show 13<=1000 by decide)
theorem zOT (s k:Nat):QFit 1 (((List.range 12).map (lmW s)).getD k 0):=by
 have h0:QFit 1 0:=⟨by decide +kernel,by decide +kernel⟩;have h1:QFit 1 1:=⟨by decide +kernel,by decide +kernel⟩;by_cases h:k<12
 ·rw [gdd,List.getElem?_map,List.getElem?_range h];show QFit 1 (lmW s k);unfold lmW; split
  ·exact h1
  ·exact h0
 ·rw [zAw _ _ _ (by simp; omega)]; exact h0
theorem LmI.want (h:LmI w g1 go pb g2 s 12 12 12 vr G W):VecIs W (fun x=>x=g2) (fun x=>¬ G x) 1 ⟨some ⟨g2,0,none⟩,12,12⟩ ((List.range 12).map (lmW s)):=by
 have r2:=h.r2;rw [zGv] at r2;exact (r2.vecN (by simp) (by decide)).loose fun k=>zOT s k
theorem zOS (s k:Nat):((s:Int) / 2 ^ k).tmod 2=((s / 2 ^ k % 2:Nat):Int):=by
 rw [show ((s:Int) / 2 ^ k)=((s / 2 ^ k:Nat):Int) by simp];exact zDj _ 2
theorem zOw {a:Nat} (h:LmI w g1 go pb g2 s a b c vr G W):g2<W.heap.size:=h.r2.lt
theorem zOE (hs:s<65536) :
  Calls Tryz.prog 4 #[.int .u16 s] w fun e w'=>e = .returned (.bool true)/\Below w.heap.size w w':=by
 go_enter Tryz.func4,Tryz.ntmps4
 go_wp2_with fail
 refine (zOx 12 (by decide) (by decide)).mono ?_;rintro e w1 ⟨rfl,hw1⟩;have hb1:Below w.heap.size w w1:=by rw [hw1]; exact (brf _ _).alloc (nlr _) _
 have hc1:w1.heap[w.heap.size]?=some (.cells (zeroQ 12) 37 (0,0)):=by rw [hw1]; exact zAd _ _ (by rfl)
 clear hw1;go_wp2_with fail
 obtain ⟨W4,hW4⟩:∃ W4,W4=(w1.alloc (.cells #[.slice (some ⟨w.heap.size,0,none⟩) 12 12] 24)).alloc (.cells #[.int .i64 12,.slice (some ⟨w1.heap.size,0,none⟩) 1 1,.slice none 0 0,.slice none 0 0,.slice none 0 0] 31):=⟨_,rfl⟩;have hb4:Below w1.heap.size w1 W4:=by rw [hW4]; exact ((brf _ _).alloc (nlr _) _).alloc (by simp) _
 have hc2:W4.heap[w1.heap.size]?=some (.cells #[.slice (some ⟨w.heap.size,0,none⟩) 12 12] 24 (0,0)):=by rw [hW4]; exact (Below.heap_alloc _ _ _ (by simp)).trans (zAd _ _ rfl)
 have hc3:W4.heap[w1.heap.size+1]?=some (.cells #[.int .i64 12,.slice (some ⟨w1.heap.size,0,none⟩) 1 1,.slice none 0 0,.slice none 0 0,.slice none 0 0] 31 (0,0)):=by rw [hW4]; exact zAd _ _ (by simp)
 rw [<-hW4];clear hW4;refine (zOx 12 (by decide) (by decide)).mono ?_;rintro e w5 ⟨rfl,hw5⟩
 have H0:LmL w w.heap.size w1.heap.size (w1.heap.size+1) W4.heap.size s (.int .i64 0) w5:=by
  have hb5:Below W4.heap.size W4 w5:=by rw [hw5]; exact (brf _ _).alloc (nlr _) _
  have hc4:w5.heap[W4.heap.size]?=some (.cells (zeroQ 12) 37 (0,0)):=by rw [hw5]; exact zAd _ _ (by rfl)
  have l1:=zAa hc1;have l3:=zAa hc3;have l5:=zAa hc4;have hz1:=hb1.size;refine ⟨0,.slice none 0 0,fun y=>y=w.heap.size\/y=w1.heap.size+1\/y=W4.heap.size,by decide,rfl,(hb1.trans (hb4.mono hz1)).trans (hb5.mono (by omega)),?_,.inr (.inl rfl),World.ownsRow_nil _ _ _ _,(fun j hj=>by cases hj),(hb5.block _ l3).trans hc3,(hb5.block _ (zAa hc2)).trans hc2,?_,?_,nlr _,l1,Nat.lt_succ_self _,l3⟩
  ·rintro y (rfl | rfl | rfl) <;> omega
  ·rw [zEe];exact RowAt.zero ((hb5.block _ (by omega)).trans ((hb4.block _ l1).trans hc1)) (.inl rfl)
  ·rw [zEe];exact RowAt.zero hc4 (.inr (.inr rfl))
 clear hc1 hc2 hc3 hw5 hb1 hb4;generalize W4.heap.size=g2 at *;generalize w1.heap.size+1=pb at *;generalize w1.heap.size=go at *;obtain ⟨g1,hg1⟩:∃ g1,g1=w.heap.size:=⟨_,rfl⟩;rw [<-hg1];rw [<-hg1] at H0;clear hg1;go_wp2;go_loopw [6] (fun t W=>LmL w g1 go pb g2 s t W) (fun t _=>12-(intOf t).toNat)
 case atStart=>exact H0
 case round=>
  clear H0;obtain ⟨k,vr,G,hk,rfl,hI⟩:=hrel;obtain ⟨uA,uc,rfl,ho1,ho2⟩:=zKU hI.own;obtain ⟨o1,o2,o3,o4⟩:=hI.ord;have p0:wr.cell? ⟨pb,0,none⟩=some (.int .i64 12):=by simp [World.cell?,hI.box]
  have p1:wr.cell? ⟨pb,1,none⟩=some (.slice (some ⟨go,0,none⟩) 1 1):=by simp [World.cell?,hI.box]
  have p4:wr.cell? ⟨pb,4,none⟩=some (.slice uA k uc):=by simp [World.cell?,hI.box]
  have c0:wr.cell? ⟨go,0,none⟩=some (.slice (some ⟨g1,0,none⟩) 12 12):=by simp [World.cell?,hI.obj]
  by_cases hlt:k<12
  ·have hki:(k:Int)<12:=(by omega);have HI:=hdq hI;clear hI;by_cases hbit:s / 2 ^ k % 2=1
   ·have hbi:(((s:Int) / 2 ^ k).tmod 2 == 1)=true:=by rw [zOS,hbit]; rfl
    (go_upto_region 11 with fail);(go_wp2_with fail);refine (zDy 1 (by decide) (by decide) (by decide)).mono ?_;rintro e w2 ⟨⟨v,rfl,hv⟩,hb2⟩;have hg2:=HI.out.r2.lt;have HV:=hdq (hv.imp (Y:=fun x=>¬ G x) fun b _ hb hg=>by have:=(HI.out.gin b hg).2; have hb2:wr.heap.size<=b:=hb; omega);replace HI:=hdq (HI.out.call hb2);obtain ⟨u2,⟨d0,d1,d2,d3⟩,-⟩:=HI.out.r2.elem k (by rw [zBj _ (by omega)]; exact hlt);have fz:=HI.out.r2.frozen;dsimp only at d1 d2 d3;replace HI:=hdq (HI.out.put2 hlt (by rw [zON hbit]; exact HV.out));clear hv hb2 HV p0 p1 p4 c0;(go_upto_region 13 with fail);clear d0 d1 d2 d3 fz;change Code.wp _ _ _ _ (put4 w2 g2 k v);generalize put4 w2 g2 k v=W2 at *;have p1:W2.cell? ⟨pb,1,none⟩=some (.slice (some ⟨go,0,none⟩) 1 1):=(by simp [World.cell?,HI.out.box]);have c0:W2.cell? ⟨go,0,none⟩=some (.slice (some ⟨g1,0,none⟩) 12 12):=(by simp [World.cell?,HI.out.obj]);have hc7:1+(k:Int)=lmC s k:=by rw [zOL hbit]; omega
    obtain ⟨o1,o2,o3,o4⟩:=HI.out.ord;have hpl:=zAa HI.out.box;have hgl:=zAa HI.out.obj;have hg1:=HI.out.r1.lt;have hd:¬ (pb=g1):=(by omega);have hd1:¬ (go=g1):=(by omega);have hgw:=HI.out.bel.size;obtain ⟨u1,⟨d0,d1,d2,d3⟩,-⟩:=HI.out.r1.elem k (by rw [zBj _ (by omega)]; exact hlt);have fz:=HI.out.r1.frozen;dsimp only at d1 d2 d3;refine zAp 1000 (fun _ w'=>Sees w.heap.size [g1] W2 w') (by kernel_rfl) ?_;have hS0:Sees w.heap.size [g1] W2 W2.drew:=Sees.st (by simp; omega) hgw;refine tx4 0 1 2 3 (hS0) ?_;refine tx3 4 5 6 (hS0) ?_;refine tk1 7 ?_;intro K hK;go_simp;clear hc7;refine (zDy (lmC s k) (zOv hlt).1 (zOv hlt).2.1 (zOv hlt).2.2).mono ?_;rintro e w7 ⟨⟨v,rfl,hv⟩,hb7⟩;have hS1:=Kept.call2 hb7 hS0;refine hK.out _ _ hS1 ?_;clear hK K;have hb7':Below W2.heap.size W2 w7:=(brf _ _).drew.trans hb7;rw [<-hb7'.cell (p:=⟨g1,k*4,none⟩) hg1] at d0;rw [<-hb7'.cell (p:=⟨g1,_,none⟩) hg1] at d1 d2 d3;have fz7:∀ o,w7.frozen? ⟨g1,o,none⟩=false:=fun o=>by rw [hb7'.frozen (p:=⟨g1,o,none⟩) hg1]; exact fz o
    have HV:=hdq (hv.imp (Y:=fun x=>¬ G x) fun b _ hb hg=>by have:=(HI.out.gin b hg).2; have hb2:W2.heap.size<=b:=hb; omega);replace HI:=hdq ((HI.out.call hb7').put1 hlt HV.out);have hs7:=hb7'.size;refine tk1 8 ?_;intro K hK;go_simp;refine hK.out _ _ hS1 ?_;clear hK K;refine tk1 9 ?_;intro K hK;go_simp;refine hK.out _ _ (Sees.k4 hS1 (by simp)) ?_;clear hK K;refine zAf (by kernel_rfl) ?_ _;clear hS0 hS1 hb7 hb7' hv HV d0 d1 d2 d3 fz fz7 p1 c0;(try clear p0 p4);change Exit.then _ _ _ _ (put4 w7 g1 k v);generalize put4 w7 g1 k v=W8 at *;have p4:W8.cell? ⟨pb,4,none⟩=some (.slice uA k uc):=(by simp [World.cell?,HI.out.box]);have hpl:=zAa HI.out.box;have hg2:=zOw HI.out;obtain ⟨i0,hiI,hz0,hz1,hz2⟩:=info_parts zG1;(go_wp2_with (at_builtin; refine wpList_append_own_at _ rfl _ _ 29 rfl (g2+1) 3 i0 (.int .i64 0) 1 8 Tryz.underlying29 hiI hz0 hz1 hz2 rfl (by decide) (.slice uA k uc) k (iv (List.range k)) rfl (HI.out.own.alloc _) ⟨W8.heap.size,0,none⟩ 1 1 [.int .i64 (k:Int)] rfl rfl ?cells ?one ?b1 ?b2 ?b3 ?_));case cells=>exact cell_one_new _ _ _
    case one=>first | rfl | (intro u hu; simp at hu; subst hu; rfl)
    case b1=>simp [maxLen]; omega
    case b2=>omega
    case b3=>first | omega | (simp; omega)
    intro v' W9 hown9 hg9 hnil9 hat9;obtain ⟨g9,c9,rfl⟩:=ownsRow_succ hown9;have hlow:W9.heap[pb]?=W8.heap[pb]?:=(hg9.block pb (by simp; omega) fun e=>by have:=(zAc HI.out.own e.symm).1; omega).trans (Below.heap_alloc _ _ _ hpl);have q4:W9.cell? ⟨pb,4,none⟩=some (.slice uA k uc):=(cob (a:=⟨pb,4,none⟩) hlow).trans p4;have qf:∀ o,W9.frozen? ⟨pb,o,none⟩=false:=(fun o=>(World.frozen?_of_block (a:=⟨pb,o,none⟩) hlow).trans (by simp [World.frozen?,HI.out.box]));have Hfin:Hid (LmL w g1 go pb g2 s (.int .i64 ((k:Int)+1)) (W9.setCell ⟨pb,4,none⟩ (.slice (some ⟨g9,0,none⟩) (k+1) c9))):=hdq ⟨k+1,_,_,hlt,by simp,HI.out.push hown9 hg9 (hat9.imp id fun h=>h.trans (by simp))⟩;clear p4 hown9 hg9 hnil9 hat9 hlow HI;go_wp2;go_roundw;case rel=>exact fn_ Hfin.out
    case measure=>simp [intOf]; omega
   ·have hbi:(((s:Int) / 2 ^ k).tmod 2 == 1)=false:=by rw [zOS]; exact beq_false_of_ne fun e=>hbit (by omega)
    replace HI:=hdq (HI.out.skip2 hlt (zOK hbit));(go_upto_region 13 with fail);have hc7:-1-(k:Int)=lmC s k:=(by rw [zOJ hbit]);obtain ⟨o1,o2,o3,o4⟩:=HI.out.ord;have hpl:=zAa HI.out.box;have hgl:=zAa HI.out.obj;have hg1:=HI.out.r1.lt;have hd:¬ (pb=g1):=(by omega);have hd1:¬ (go=g1):=(by omega);have hgw:=HI.out.bel.size;obtain ⟨u1,⟨d0,d1,d2,d3⟩,-⟩:=HI.out.r1.elem k (by rw [zBj _ (by omega)]; exact hlt);have fz:=HI.out.r1.frozen;dsimp only at d1 d2 d3;refine zAp 1000 (fun _ w'=>Sees w.heap.size [g1] wr w') (by kernel_rfl) ?_;have hS0:Sees w.heap.size [g1] wr wr.drew:=Sees.st (by simp; omega) hgw;refine tx4 0 1 2 3 (hS0) ?_;refine tx3 4 5 6 (hS0) ?_;refine tk1 7 ?_;intro K hK;go_simp;clear hc7;refine (zDy (lmC s k) (zOv hlt).1 (zOv hlt).2.1 (zOv hlt).2.2).mono ?_;rintro e w7 ⟨⟨v,rfl,hv⟩,hb7⟩;have hS1:=Kept.call2 hb7 hS0;refine hK.out _ _ hS1 ?_;clear hK K;have hb7':Below wr.heap.size wr w7:=(brf _ _).drew.trans hb7;rw [<-hb7'.cell (p:=⟨g1,k*4,none⟩) hg1] at d0;rw [<-hb7'.cell (p:=⟨g1,_,none⟩) hg1] at d1 d2 d3;have fz7:∀ o,w7.frozen? ⟨g1,o,none⟩=false:=fun o=>by rw [hb7'.frozen (p:=⟨g1,o,none⟩) hg1]; exact fz o
    have HV:=hdq (hv.imp (Y:=fun x=>¬ G x) fun b _ hb hg=>by have:=(HI.out.gin b hg).2; have hb2:wr.heap.size<=b:=hb; omega);replace HI:=hdq ((HI.out.call hb7').put1 hlt HV.out);have hs7:=hb7'.size;refine tk1 8 ?_;intro K hK;go_simp;refine hK.out _ _ hS1 ?_;clear hK K;refine tk1 9 ?_;intro K hK;go_simp;refine hK.out _ _ (Sees.k4 hS1 (by simp)) ?_;clear hK K;refine zAf (by kernel_rfl) ?_ _;clear hS0 hS1 hb7 hb7' hv HV d0 d1 d2 d3 fz fz7 p1 c0;(try clear p0 p4);change Exit.then _ _ _ _ (put4 w7 g1 k v);generalize put4 w7 g1 k v=W8 at *;have p4:W8.cell? ⟨pb,4,none⟩=some (.slice uA k uc):=(by simp [World.cell?,HI.out.box]);have hpl:=zAa HI.out.box;have hg2:=zOw HI.out;obtain ⟨i0,hiI,hz0,hz1,hz2⟩:=info_parts zG1;(go_wp2_with (at_builtin; refine wpList_append_own_at _ rfl _ _ 29 rfl (g2+1) 3 i0 (.int .i64 0) 1 8 Tryz.underlying29 hiI hz0 hz1 hz2 rfl (by decide) (.slice uA k uc) k (iv (List.range k)) rfl (HI.out.own.alloc _) ⟨W8.heap.size,0,none⟩ 1 1 [.int .i64 (k:Int)] rfl rfl ?cells ?one ?b1 ?b2 ?b3 ?_));case cells=>exact cell_one_new _ _ _
    case one=>first | rfl | (intro u hu; simp at hu; subst hu; rfl)
    case b1=>simp [maxLen]; omega
    case b2=>omega
    case b3=>first | omega | (simp; omega)
    intro v' W9 hown9 hg9 hnil9 hat9;obtain ⟨g9,c9,rfl⟩:=ownsRow_succ hown9;have hlow:W9.heap[pb]?=W8.heap[pb]?:=(hg9.block pb (by simp; omega) fun e=>by have:=(zAc HI.out.own e.symm).1; omega).trans (Below.heap_alloc _ _ _ hpl);have q4:W9.cell? ⟨pb,4,none⟩=some (.slice uA k uc):=(cob (a:=⟨pb,4,none⟩) hlow).trans p4;have qf:∀ o,W9.frozen? ⟨pb,o,none⟩=false:=(fun o=>(World.frozen?_of_block (a:=⟨pb,o,none⟩) hlow).trans (by simp [World.frozen?,HI.out.box]));have Hfin:Hid (LmL w g1 go pb g2 s (.int .i64 ((k:Int)+1)) (W9.setCell ⟨pb,4,none⟩ (.slice (some ⟨g9,0,none⟩) (k+1) c9))):=hdq ⟨k+1,_,_,hlt,by simp,HI.out.push hown9 hg9 (hat9.imp id fun h=>h.trans (by simp))⟩;clear p4 hown9 hg9 hnil9 hat9 hlow HI;go_wp2;go_roundw;case rel=>exact fn_ Hfin.out
    case measure=>simp [intOf]; omega
  ·(obtain rfl:k=12:=by omega);have HS:=hdq (hI.solve);have HI:=hdq hI;have p2:wr.cell? ⟨pb,2,none⟩=some (.slice none 0 0):=(by simp [World.cell?,hI.box]);have p3:wr.cell? ⟨pb,3,none⟩=some (.slice none 0 0):=(by simp [World.cell?,hI.box]);clear hI;(go_wp2_with fail);refine HS.out.mono ?_;rintro e x1 ⟨⟨vA,vn,vc⟩,st,c,rfl,hx1,hcase⟩;(rcases hcase with ⟨rfl,hs1,-,x,hxS,-,hbest,hxv,-⟩ | ⟨-,-,-,hno⟩ | ⟨-,-,-,hray,-⟩);rotate_left
   ·exact absurd (zOP s) (hno _)
   ·exact absurd hray (zOY s)
   have hxl:VecIs x1 (fun _=>True) (fun _=>True) 200000000000 ⟨vA,vn,vc⟩ ((List.range 12).map (lmW s)):=by rw [<-zOW (zOU hxS (hbest _ (zOP s)))]; exact hxv
   have HXV:=hdq hxl;have hst:(1:Int)<=(st:Int):=(by omega);replace HI:=hdq (HI.out.call hx1);clear hs1 hxS hbest hxv hxl hx1 p0 p1 p2 p3 p4 c0 HS;have p0:x1.cell? ⟨pb,0,none⟩=some (.int .i64 12):=(by simp [World.cell?,HI.out.box]);have p1:x1.cell? ⟨pb,1,none⟩=some (.slice (some ⟨go,0,none⟩) 1 1):=(by simp [World.cell?,HI.out.box]);have p2:x1.cell? ⟨pb,2,none⟩=some (.slice none 0 0):=(by simp [World.cell?,HI.out.box]);have p3:x1.cell? ⟨pb,3,none⟩=some (.slice none 0 0):=(by simp [World.cell?,HI.out.box]);have p4:x1.cell? ⟨pb,4,none⟩=some (.slice uA 12 uc):=(by simp [World.cell?,HI.out.box]);have hpl:=zAa HI.out.box;dsimp only [SV.val];(go_upto_region 18 with fail);obtain ⟨W2,hW2⟩:∃ W2,W2=x1.alloc (.cells #[.int .i64 13,.slice (some ⟨go,0,none⟩) 1 1,.slice none 0 0,.slice none 0 0,.slice uA 12 uc] 31):=⟨_,rfl⟩;have al:Below x1.heap.size x1 W2:=by rw [hW2]; exact (brf _ _).alloc (nlr _) _
   have hcb:W2.heap[x1.heap.size]?=some (.cells #[.int .i64 13,.slice (some ⟨go,0,none⟩) 1 1,.slice none 0 0,.slice none 0 0,.slice uA 12 uc] 31 (0,0)):=by rw [hW2]; exact zAd _ _ rfl
   rw [<-hW2];clear hW2 p0 p1 p2 p3 p4;have HI2:=hdq (HI.out.call al);have p4:W2.cell? ⟨pb,4,none⟩=some (.slice uA 12 uc):=(by simp [World.cell?,HI2.out.box]);have hcl:=zAa hcb;obtain ⟨gi,ci,e⟩:=ownsRow_succ (k:=11) HI2.out.own;cases e
   have hsrc:∀ j u,(iv (List.range 12))[j]?=some u->W2.cell? ((⟨gi,0,none⟩:Addr).add j)=some u:=fun j u hu=>by
    have hj:j<12:=by
     obtain ⟨h,-⟩:=List.getElem?_eq_some_iff.1 hu;simpa [iv] using h
    obtain ⟨ad,ea,hc⟩:=HI2.out.ints.cell j hj;cases ea;rw [hc,zOB hj,<-hu];simp [iv,hj]
   have hone:∀ u ∈ iv (List.range 12),u.oneCell'=true:=fun u hu=>by
    obtain ⟨j,-,rfl⟩:=List.mem_map.1 hu;rfl
   have hsll:(iv (List.range 12)).length=12*1:=(by simp [iv]);obtain ⟨sl,hsl⟩:∃ sl:List Value,sl=iv (List.range 12):=⟨_,rfl⟩;rw [<-hsl] at hsrc hone hsll;clear hsl;have HSrc:=hdq (And.intro hsrc hone);clear hsrc hone;obtain ⟨i0,hiI,hz0,hz1,hz2⟩:=info_parts zG1;(go_wp2_with (at_builtin; refine wpList_append_own_at _ rfl _ _ 29 rfl (x1.heap.size+1) 3 i0 (.int .i64 0) 1 8 Tryz.underlying29 hiI hz0 hz1 hz2 rfl (by decide) (.slice none 0 0) 0 [] rfl (World.ownsRow_nil _ _ _ _) ⟨gi,0,none⟩ 12 uc sl rfl hsll ?cells ?one ?b1 ?b2 ?b3 ?_));case cells=>intro j u hu; have:=HSrc.out.1 j u hu; rw [zA4,Nat.zero_add] at this; exact this
   case one=>exact HSrc.out.2
   (all_goals try (first | (simp [maxLen]; done) | omega));intro v' W5 hown5 hg5 hnil5 hat5;obtain ⟨g5,c5,rfl⟩:=ownsRow_succ (k:=11) hown5;have hown5':W5.ownsRow (x1.heap.size+1) 3 1 (.slice (some ⟨g5,0,none⟩) 12 c5) 12 sl:=hown5;have hlow5:∀ y,y<W2.heap.size->W5.heap[y]?=W2.heap[y]?:=(fun y hy=>hg5.block y hy (by simp [Value.ownBlock]));have hs5:=hg5.size;clear hown5 hnil5 hat5 HSrc HI2;(go_wp2_with (at_builtin; go_loud (refine wpList_append_own_at _ rfl _ _ 29 rfl (x1.heap.size+1) 3 i0 (.int .i64 0) 1 8 Tryz.underlying29 hiI hz0 hz1 hz2 rfl (by decide) (.slice (some ⟨g5,0,none⟩) 12 c5) 12 sl rfl (hown5'.alloc _) ⟨W5.heap.size,0,none⟩ 1 1 [.int .i64 12] rfl rfl ?cells2 ?one2 ?b12 ?b22 ?b32 ?_)));case cells2=>exact cell_one_new _ _ _
   (all_goals try (first | (intro u hu; simp at hu; subst hu; rfl) | (simp [maxLen]; done) | omega | (simp; omega)));intro v' W7 hown7 hg7 hnil7 hat7;obtain ⟨g7,c7,rfl⟩:=ownsRow_succ (k:=12) hown7;have g5b:=(zAc hown5' rfl).1;have k7:W7.heap[x1.heap.size]?=some (.cells #[.int .i64 13,.slice (some ⟨go,0,none⟩) 1 1,.slice none 0 0,.slice none 0 0,.slice (some ⟨gi,0,none⟩) 12 uc] 31 (0,0)):=((hg7.block _ (by simp; omega) fun e=>by have:=Option.some.inj e; omega).trans (Below.heap_alloc _ _ _ (by omega))).trans ((hlow5 _ hcl).trans hcb)
   have hB:Below x1.heap.size x1 (W7.setCell ⟨x1.heap.size,4,none⟩ (.slice (some ⟨g7,0,none⟩) 13 c7)):=by
    have F2:Fr (fun y=>x1.heap.size<=y) x1 W5:=(Fr.of_below al).trans ⟨hg5.os,hg5.tape,hg5.output,hg5.size,fun b hb _=>hlow5 b hb⟩;have F3:Fr (fun y=>x1.heap.size<=y) W5 W7:=⟨hg7.os,hg7.tape,hg7.output,by have:=hg7.size; simp at this; omega,fun b hb hn=>(hg7.block b (by simp; omega) fun e=>hn (by have:=Option.some.inj e; omega)).trans (Below.heap_alloc _ _ _ hb)⟩;exact ((F2.trans F3).set (p:=⟨x1.heap.size,4,none⟩) (nlr _) _).below (nlr _) fun y e=>e
   have k8:(W7.setCell ⟨x1.heap.size,4,none⟩ (.slice (some ⟨g7,0,none⟩) 13 c7)).heap[x1.heap.size]?=some (.cells #[.int .i64 13,.slice (some ⟨go,0,none⟩) 1 1,.slice none 0 0,.slice none 0 0,.slice (some ⟨g7,0,none⟩) 13 c7] 31 (0,0)):=by rw [zAe _ k7]; simp
   have d4:W7.cell? ⟨x1.heap.size,4,none⟩=some (.slice (some ⟨gi,0,none⟩) 12 uc):=(by simp [World.cell?,k7]);have df:∀ o,W7.frozen? ⟨x1.heap.size,o,none⟩=false:=(fun o=>by simp [World.frozen?,k7]);clear hown7 hg7 hnil7 hat7 hown5' hlow5 hg5 k7 p4 al hcb g5b;(go_upto_region 19 with fail);clear d4 df;replace HI:=hdq (HI.out.call hB);replace HXV:=hdq (HXV.out.below hB);clear hB;generalize W7.setCell ⟨x1.heap.size,4,none⟩ (.slice (some ⟨g7,0,none⟩) 13 c7)=W8 at *;generalize x1.heap.size=cb at *;have q0:W8.cell? ⟨cb,0,none⟩=some (.int .i64 13):=(by simp [World.cell?,k8]);have q1:W8.cell? ⟨cb,1,none⟩=some (.slice (some ⟨go,0,none⟩) 1 1):=(by simp [World.cell?,k8]);have q2:W8.cell? ⟨cb,2,none⟩=some (.slice none 0 0):=(by simp [World.cell?,k8]);have q3:W8.cell? ⟨cb,3,none⟩=some (.slice none 0 0):=(by simp [World.cell?,k8]);have q4:W8.cell? ⟨cb,4,none⟩=some (.slice (some ⟨g7,0,none⟩) 13 c7):=(by simp [World.cell?,k8]);(go_wp2_with fail);refine (zOz (b:=⟨⟨13,⟨some ⟨go,0,none⟩,1,1⟩,⟨none,0,0⟩,⟨none,0,0⟩⟩,⟨some ⟨g7,0,none⟩,13,c7⟩⟩) fun w' hb=>HI.out.bad hb).mono ?_;rintro e y1 ⟨rfl,hy1⟩;replace HI:=hdq (HI.out.call hy1);replace HXV:=hdq (HXV.out.below hy1);replace k8:=(hy1.block _ (zAa k8)).trans k8;clear q0 q1 q2 q3 q4 hy1;have q0:y1.cell? ⟨cb,0,none⟩=some (.int .i64 13):=(by simp [World.cell?,k8]);have q1:y1.cell? ⟨cb,1,none⟩=some (.slice (some ⟨go,0,none⟩) 1 1):=(by simp [World.cell?,k8]);have q2:y1.cell? ⟨cb,2,none⟩=some (.slice none 0 0):=(by simp [World.cell?,k8]);have q3:y1.cell? ⟨cb,3,none⟩=some (.slice none 0 0):=(by simp [World.cell?,k8]);have q4:y1.cell? ⟨cb,4,none⟩=some (.slice (some ⟨g7,0,none⟩) 13 c7):=(by simp [World.cell?,k8]);have HW:=hdq HI.out.want;(go_wp2_with fail);refine (zOF (sa:=⟨vA,vn,vc⟩) (sb:=⟨some ⟨g2,0,none⟩,12,12⟩) HXV.out HW.out (by rw [zAZ]; decide) (by rw [zAZ]; decide) (by have:=HXV.out.len; simp at this; show vn<=_; omega) (show 12<=1000000 by decide)).mono ?_;rintro e y2 ⟨rfl,hy2⟩;replace HI:=hdq (HI.out.call hy2);replace HXV:=hdq (HXV.out.below hy2);replace k8:=(hy2.block _ (zAa k8)).trans k8;clear q0 q1 q2 q3 q4 hy2;have q0:y2.cell? ⟨cb,0,none⟩=some (.int .i64 13):=(by simp [World.cell?,k8]);have q1:y2.cell? ⟨cb,1,none⟩=some (.slice (some ⟨go,0,none⟩) 1 1):=(by simp [World.cell?,k8]);have q2:y2.cell? ⟨cb,2,none⟩=some (.slice none 0 0):=(by simp [World.cell?,k8]);have q3:y2.cell? ⟨cb,3,none⟩=some (.slice none 0 0):=(by simp [World.cell?,k8]);have q4:y2.cell? ⟨cb,4,none⟩=some (.slice (some ⟨g7,0,none⟩) 13 c7):=(by simp [World.cell?,k8]);clear HW;(go_wp2_with fail);refine (HI.out.bad (A:=some ⟨g7,0,none⟩) (c:=c7) (brf _ _)).mono ?_;rintro e y3 ⟨rfl,hy3⟩;replace HI:=hdq (HI.out.call hy3);replace HXV:=hdq (HXV.out.below hy3);replace k8:=(hy3.block _ (zAa k8)).trans k8;clear q0 q1 q2 q3 q4 hy3;clear k8 HXV;(go_wp2_with fail);refine zLi.mono ?_;rintro e y4 ⟨rfl,hy4⟩;have hbf:=HI.out.bel.trans (hy4.mono HI.out.bel.size);clear hy4 HI;go_wp2;go_ret;exact ⟨rfl,hbf⟩
end Go.Proofs.YtpjaodcimomaiaaGreat
