/- Texts Solved AliveM Alive2 Alive3 Scal1 Scal2 ScalB ScalC Dot MulVec LP1 LP2 LP3 PrD PrE PrF PrG of this claim. -/
import Derived.Test.YtbpngececjihlaaGreatY23
import Derived.Test.YtbpngececjihlaaGreatY21
set_option maxHeartbeats 4000000
set_option maxRecDepth 40000
namespace Go.Proofs.YtbpngececjihlaaGreat
variable {q:Rat} {L B b k V:Nat} {s:SV} {X Y:Nat->Prop} {w w' W W' W2:World} {bs:List Rat} {os rs:List (List Rat)} {p:LPV}
namespace Lin
end Lin
open Go.RowKit Go.Shelf
theorem zAR (h:QFit L q):Lin.Fits (32*L) q:=by
 have e:Num.base ^ L=2 ^ (32*L):=by rw [Nat.pow_mul]; rfl
 exact ⟨by rw [<-e]; exact Nat.le_of_lt h.1,by rw [<-e]; exact Nat.le_of_lt h.2⟩
theorem VecAt.fit {l:List Rat} (h:VecIs w X Y L s l) (k:Nat):QFit (L+1) (l.getD k 0):=by
 by_cases hk:k<s.n
 ·obtain ⟨_,v,_,_,_,hq⟩:=h.elem k hk;exact hq.fit
 ·rw [zAw _ _ _ (by rw [h.len]; omega)]; exact QFit.zero L
open Lin
theorem sum2 (f:Nat->Rat):Lin.sum 2 f=f 0+f 1:=by simp [Lin.sum]; grind
section
variable {w w':World} {P:Lin.Prob} {r:RV}
end
theorem LRet.lpis (ho:MatCan w' (New B) (New B) p.O os) (hr:MatCan w' (New B) (New B) p.R rs) (hb:VecCan w' (New B) (New B) p.B bs)
  (fo:∀ i k,QFit L ((os.getD i []).getD k 0)) (fr:∀ i k,QFit L ((rs.getD i []).getD k 0)) (fb:∀ k,QFit L (bs.getD k 0)):LPIs w' (New B) (New B) L p os rs bs:=
 ⟨⟨ho.len,ho.le,ho.cap,fun i hi=>by
   obtain ⟨ad,r,e,hx,hc,hv⟩:=ho.row i hi
   exact ⟨ad,r,e,hx,hc,hv.len,hv.le,hv.cap,fun k hk=>by
    obtain ⟨ad',v,e',hx',hc',hq⟩:=hv.elem k hk;exact ⟨ad',v,e',hx',hc',hq.qis (fo i k)⟩⟩⟩,
  ⟨hr.len,hr.le,hr.cap,fun i hi=>by
   obtain ⟨ad,r,e,hx,hc,hv⟩:=hr.row i hi
   exact ⟨ad,r,e,hx,hc,hv.len,hv.le,hv.cap,fun k hk=>by
    obtain ⟨ad',v,e',hx',hc',hq⟩:=hv.elem k hk;exact ⟨ad',v,e',hx',hc',hq.qis (fr i k)⟩⟩⟩,
  ⟨hb.len,hb.le,hb.cap,fun k hk=>by
   obtain ⟨ad',v,e',hx',hc',hq⟩:=hb.elem k hk;exact ⟨ad',v,e',hx',hc',hq.qis (fb k)⟩⟩⟩
theorem zHJ {z:Int} (h:z.natAbs<1000):QFit 1 (z:Rat):=by
 have e:Num.base ^ 1=4294967296:=by decide
 exact ⟨by rw [e]; simp; omega,by rw [e]; simp⟩
theorem zCZ {l:List Int} (h:∀ z ∈ l,z.natAbs<1000) (k:Nat):QFit 1 ((rats l).getD k 0):=by
 unfold rats;rw [gdd,List.getElem?_map]
 cases e:l[k]? with
 | none=>exact QFit.zero 0
 | some z=>exact zHJ (h z (List.mem_of_getElem? e))
theorem zDn {m:List (List Int)} (h:∀ l ∈ m,∀ z ∈ l,z.natAbs<1000) (i k:Nat):QFit 1 (((m.map rats).getD i []).getD k 0):=by
 have e:(m.map rats).getD i []=rats (m.getD i []):=by
  simp only [gdd,List.getElem?_map];cases m[i]? <;> rfl
 rw [e];refine zCZ (fun z hz=>?_) k;by_cases hi:i<m.length
 ·refine h _ (List.getElem_mem hi) z ?_;simpa [gdd,hi] using hz
 ·rw [zAw _ _ _ (by omega)] at hz; cases hz
theorem VecAt.loose {l:List Rat} (h:VecCan w X Y s l) (f:∀ k,QFit L (l.getD k 0)):VecIs w X Y L s l:=
 ⟨h.len,h.le,h.cap,fun k hk=>by
  obtain ⟨ad',v,e',hx',hc',hq⟩:=h.elem k hk;exact ⟨ad',v,e',hx',hc',hq.qis (f k)⟩⟩
namespace Lin
end Lin
open Lin
open Go.RowKit
section
variable {w W W':World} {d:Nat} {n:Int} {va vb vc:Value} {al:Nat->List Value} {cnt:Nat->Nat} {G:Nat->Prop}
end
theorem QIs.sizes {v:QV} (h:QIs w X L v q):v.num.n<=L/\v.den.n<=L:=by
 obtain ⟨x,y,⟨lx,hx,k1,ex⟩,⟨ly,hy,k2,ey⟩,e⟩:=h;exact ⟨k1,k2⟩
structure Put (W W':World) (b:Nat):Prop where
 size:W'.heap.size=W.heap.size
 keep:∀ c,c ≠ b->W'.heap[c]?=W.heap[c]?
 below:∀ B,B<=b->Below B W W'
theorem Put.one (b o:Nat) (x:Value):Put W (W.setCell ⟨b,o,none⟩ x) b:=
 ⟨by simp [World.setCell],fun c hc=>bhs _ _ _ _ hc,fun B hB=>(brf _ _).setCell (p:=⟨b,o,none⟩) hB _⟩
theorem Put.trans (h:Put W W' b) (k:Put W' W2 b):Put W W2 b:=
 ⟨k.size.trans h.size,fun c hc=>(k.keep c hc).trans (h.keep c hc),fun B hB=>(h.below B hB).trans (k.below B hB)⟩
theorem Put.four (b:Nat) (x0 x1 x2 x3:Value):Put W ((((W.setCell b x0).setCell ⟨b,1,none⟩ x1).setCell ⟨b,2,none⟩ x2).setCell ⟨b,3,none⟩ x3) b:=
 (((Put.one _ _ _).trans (Put.one _ _ _)).trans (Put.one _ _ _)).trans (Put.one _ _ _)
theorem zHY (h:Short6 w AllB AllB p os rs bs) (h2:mayB p os rs=true->p.n<=4/\p.R.n<=4) (hm:mayB p os rs=true) :
  0<=p.n/\p.n<=4/\1<=p.O.n/\p.O.n<=4/\p.R.n<=4/\p.B.n=p.R.n/\(colsOf os:Int)<=p.n/\(colsOf rs:Int)<=p.n/\LPIs w AllB AllB 6 p os rs bs:=by
 obtain ⟨a1,a2⟩:=h2 hm;simp only [mayB,decide_eq_true_eq] at hm;obtain ⟨b1,b2,b3,b4,b5,b6,b7,b8⟩:=hm;exact ⟨b1,a1,b3,b4,a2,b6,b7,b8,h.1,h.2.1 (by omega),h.2.2 (by omega)⟩
theorem zBn (h:Lin.Fits k q) (hk:k<32*L):QFit L q:=by
 have e:Num.base ^ L=2 ^ (32*L):=by rw [Nat.pow_mul]; rfl
 have h2:2 ^ k<2 ^ (32*L):=Nat.pow_lt_pow_right (by omega) hk;exact ⟨by rw [e]; exact Nat.lt_of_le_of_lt h.1 h2,by rw [e]; exact Nat.lt_of_le_of_lt h.2 h2⟩
section
variable {w W W1 W2:World} {p:LPV} {jv kv:QV} {jq kq:Rat} {d:Nat} {os rs:List (List Rat)} {bs:List Rat} {va vb vc v':Value} {G:Nat->Prop} {s1 s2:List SV} {s3:List QV} {o:Obj}
end
open Go.RowKit Go.Shelf Lin
theorem zBT (h:colsOf rs<=V) (c:Nat):(rs.getD c []).length<=V:=by
 by_cases hi:c<rs.length
 ·exact zAU.1 h _ (by simp [hi])
 ·rw [zAw rs _ _ (by omega)]; simp
attribute [local go_sem] Oper.semAt_some
abbrev QBlk (W:World) (b:Nat) (v:QV):Prop:=W.heap[b]?=some (.cells #[.bool v.num.ng,.slice v.num.A v.num.n v.num.c,.bool v.den.ng,.slice v.den.A v.den.n v.den.c] 30 (0,0))
theorem zAA {v:QV} (h:QBlk W b v):Box4 W b (.bool v.num.ng) (.slice v.num.A v.num.n v.num.c) (.bool v.den.ng) (.slice v.den.A v.den.n v.den.c):=by
 refine ⟨?_,?_,?_,?_,fun o=>?_⟩ <;> simp [World.cell?,World.frozen?,h]
theorem zFX (W:World) (X:Nat->Prop):QCan W X QV.zero 0:=⟨⟨rfl,by rw [show Num.words (0:Rat).num.natAbs=[] by simp [Num.words]]; exact WordsAt.nil _ _ _ _ (nzl _)⟩,⟨rfl,by rw [show Num.words (cden 0).natAbs=[] by simp [Num.words,cden]]; exact WordsAt.nil _ _ _ _ (nzl _)⟩⟩
theorem alk {x o:Obj} (h:w.heap[b]?=some x):(w.alloc o).heap[b]?=some x:=(Below.heap_alloc _ _ _ (zAa h)).trans h
end Go.Proofs.YtbpngececjihlaaGreat
namespace Go.Proofs.YtbpngececjihlaaGreat
open Go.RowKit Go.Shelf
variable {b n L V M E k kb:Nat} {w w':World} {ch:Option (Nat->Rat)} {bs:List Rat} {os rs:List (List Rat)} {p:LPV} {X Y:Nat->Prop}
def MBlk (w:World) (b:Nat) (m:List (List Rat)) (w':World):Prop:=
 w.heap.size<=b/\∃ (cs:Array Value) (sv:Nat->SV),w'.heap[b]?=some (.cells cs 23 (0,0))/\cs.size=m.length/\∀ j,j<m.length->cs[j]?=some (sv j).val/\VecCan w' (fun x=>w.heap.size<=x/\x ≠ b) (fun x=>w.heap.size<=x/\x ≠ b) (sv j) (m.getD j [])
def MPart (lo hi b:Nat) (m:List (List Rat)) (w:World):Prop:=
 lo<=b/\b<hi/\∃ (cs:Array Value) (sv:Nat->SV),w.heap[b]?=some (.cells cs 23 (0,0))/\cs.size=m.length/\∀ j,j<m.length->cs[j]?=some (sv j).val/\VecCan w (fun x=>lo<=x/\x<hi/\x ≠ b) (fun x=>lo<=x/\x<hi/\x ≠ b) (sv j) (m.getD j [])
def VPart (lo hi b:Nat) (l:List Rat) (w:World):Prop:=
 lo<=b/\b<hi/\RowAt w (fun x=>¬ (lo<=x/\x<hi/\x ≠ b)) b l
theorem MBlk.part {m:List (List Rat)} (h:MBlk w b m w'):MPart w w' b m w':=by
 obtain ⟨h1,cs,sv,h2,h3,h4⟩:=h;exact ⟨h1,zAa h2,cs,sv,h2,h3,fun j hj=>⟨(h4 j hj).1,(h4 j hj).2.imp (fun x hl hx=>⟨hx.1,hl,hx.2⟩) fun v q hq=>hq.imp fun x hl hx=>⟨hx.1,hl,hx.2⟩⟩⟩
theorem MPart.keep {lo hi:Nat} {m:List (List Rat)} (h:MPart lo hi b m w) (hk:∀ x,lo<=x->x<hi->w'.heap[x]?=w.heap[x]?):MPart lo hi b m w':=by
 obtain ⟨h1,h2,cs,sv,h3,h4,h5⟩:=h;exact ⟨h1,h2,cs,sv,(hk b h1 h2).trans h3,h4,fun j hj=>⟨(h5 j hj).1,(h5 j hj).2.keep (fun a ha _=>cob (hk _ ha.1 ha.2.1)) fun v q hq=>hq.keep fun a ha _=>cob (hk _ ha.1 ha.2.1)⟩⟩
theorem VPart.keep {lo hi:Nat} {l:List Rat} (h:VPart lo hi b l w) (hk:∀ x,lo<=x->x<hi->w'.heap[x]?=w.heap[x]?):VPart lo hi b l w':=by
 obtain ⟨h1,h2,h3⟩:=h;refine ⟨h1,h2,h3.mem,?_,fun k hkl=>?_⟩
 ·obtain ⟨cs,e,hs⟩:=h3.blk;exact ⟨cs,(hk b h1 h2).trans e,hs⟩
 ·obtain ⟨v,g1,g2⟩:=h3.elem k hkl;have hc:∀ o,w'.cell? ⟨b,o,none⟩=w.cell? ⟨b,o,none⟩:=fun o=>cob (hk b h1 h2)
  refine ⟨v,⟨(hc _).trans g1.1,(hc _).trans g1.2.1,(hc _).trans g1.2.2.1,(hc _).trans g1.2.2.2⟩,g2.keep fun a ha _=>cob ?_⟩;have ha':=Classical.not_not.1 ha;exact hk _ ha'.1 ha'.2.1
theorem VRow.part {l:List Rat} (h1:w.heap.size<=b) (h:RowAt w' (fun x=>x<w.heap.size\/x=b) b l):VPart w w' b l w':=
 ⟨h1,h.lt,by show ¬ _; omega,h.blk,fun k hk=>by
  obtain ⟨v,g1,g2⟩:=h.elem k hk;exact ⟨v,g1,g2.imp fun x hl hx=>by show ¬ ¬ _; omega⟩⟩
section
variable {w W W':World} {B d:Nat} {n:Int} {va vb vc:Value} {al:Nat->List Value} {cnt:Nat->Nat} {G:Nat->Prop}
end
section
variable {W W':World} {G G' K:Nat->Prop} {L:Nat}
end
section
variable {w W W1 W2:World} {n:Int} {B d L:Nat} {os rs:List (List Rat)} {bs:List Rat} {va vb vc v':Value} {G:Nat->Prop} {s1 s2:List SV} {s3:List QV} {o:Obj}
end
theorem zA1 (w:World) (v:QV):∀ j u,(cells4q v)[j]?=some u->(w.alloc (.cells #[.bool v.num.ng,.slice v.num.A v.num.n v.num.c,.bool v.den.ng,.slice v.den.A v.den.n v.den.c] 30)).cell? (Addr.add ⟨w,0,none⟩ j)=some u:=by
 intro j u h;rw [zA4,Nat.zero_add];have e:(w.alloc (.cells #[.bool v.num.ng,.slice v.num.A v.num.n v.num.c,.bool v.den.ng,.slice v.den.A v.den.n v.den.c] 30)).heap[w.heap.size]?=some (.cells #[.bool v.num.ng,.slice v.num.A v.num.n v.num.c,.bool v.den.ng,.slice v.den.A v.den.n v.den.c] 30 (0,0)):=zAd _ _ rfl;simp only [World.cell?,e];simpa [cells4q] using h
theorem zNR {l:List Rat} (h:l.length=n):resize l n=l:=by
 subst h;unfold resize;apply List.ext_getElem
 ·simp
 ·intro i h1 h2;simp [h2]
def cst0 (os:List (List Rat)) (V j:Nat):Rat:=if j<V then-((os.getD 0 []).getD j 0) else 0
def row0 (rs:List (List Rat)) (bs:List Rat) (cl:Nat->Rat) (V i j:Nat):Rat:=if j<V then (rs.getD i []).getD j 0 else if j=V then bs.getD i 0 else cl i
def ChIs (w:World) (v:Value) (M:Nat) (ch:Option (Nat->Rat)):Prop:=
 (v = .slice none 0 0/\ch=none)\/∃ (b c:Nat) (cl:Nat->Rat),v = .slice (some b) M c/\ch=some cl/\M<=c/\c<=9223372036854775807/\∀ i,i<M->∃ u:QV,QCell w ⟨b,i*4,none⟩ u/\QCan w (fun _=>True) u (cl i)
def PN1 (w:World) (p:LPV) (V E:Nat) (os:List (List Rat)) (rf:Nat->Nat->Rat) (t:Value) (W:World):Prop:=
 ∃ k:Nat,k<=V/\t = .int .i64 k/\LPBox W w p/\∃ (vb vd:Value) (G:Nat->Prop) (qs:List QV),qs.length=k/\PM w (w+1) (V:Int) [] (List.range k) [] qs E rf (cst0 os V) (.slice none 0 0) vb (.slice none 0 0) vd G W
def PN2 (w:World) (p:LPV) (V E:Nat) (os:List (List Rat)) (rf:Nat->Nat->Rat) (t:Value) (W:World):Prop:=
 ∃ i:Nat,i<=p.R.n/\t = .int .i64 i/\LPBox W w p/\∃ (va vb vc vd:Value) (G:Nat->Prop) (sr:List SV) (qs:List QV),sr.length=i/\qs.length=V+1/\PM w (w+1) (V:Int) ((List.range i).map (V+·)) (List.range V) sr qs E rf (cst0 os V) va vb vc vd G W
def PN3 (w wA:World) (V:Nat) (g:Nat->Rat) (v t:Value) (W:World):Prop:=
 ∃ (k:Nat) (s:List QV),k<=V/\t = .int .i64 k/\GRow (fun b=>b<w.heap.size\/wA.heap.size<=b) wA g k v s W
theorem zBV {chv:Value} (h:LPIs w X Y L p os rs bs) (hV:p.n=V) (hV2:V<=64) (ho:1<=p.O.n) (ho2:p.O.n<=4) (hM:p.R.n=M) (hr:M<=128) (hb:p.B.n=M) (hL:L+1<=LM)
  (hch:ChIs w chv M ch) (hE:E+1-V=Lin.given ch) (hVE:V<=E) :
  Calls Tryz.prog 49 #[p.val,chv] w fun e w'=>∃ x G,e = .returned (.pointer (some ⟨x.d,0,none⟩))/\PDA w' G x V M E ⟨fun i=>V+i,fun j=>j,row0 rs bs (ch.getD fun _=>0) V,fun _=>cst0 os V⟩/\Below w w w'/\∀ y,G y->w.heap.size<=y:=by
 obtain ⟨i0,hiI,hz0,hz1,hz2⟩:=info_parts zG1;obtain ⟨j0,hjI,hy0,hy1,hy2⟩:=info_parts zFA;obtain ⟨k0,hk0,hx0,hx1,hx2⟩:=info_parts zEv;have HL1:=hdq hL;have HL:Hid (L<=LM):=by show L<=LM; omega
 have HE:=hdq hE;clear hL hE;obtain ⟨pn,⟨OA,On,Oc⟩,⟨RA,Rn,Rc⟩,⟨BA,Bn,Bc⟩⟩:=p;dsimp only at hV ho ho2 hM hb;subst hV hM;have HB:=hdq hb;obtain ⟨rf,hrf⟩:∃ rf,rf=row0 rs bs (ch.getD fun _=>0) V:=⟨_,rfl⟩;have HRF:=hdq hrf;rw [<-hrf];clear hb hrf
 have H0:PN1 w ⟨V,⟨OA,On,Oc⟩,⟨RA,Rn,Rc⟩,⟨BA,Bn,Bc⟩⟩ V E os rf (.int .i64 0) ((w.alloc (.cells #[.int .i64 V,.slice OA On Oc,.slice RA Rn Rc,.slice BA Bn Bc] 25)).alloc (.cells #[.int .i64 V,.slice none 0 0,.slice none 0 0,.slice none 0 0,.slice none 0 0] 160)):=by
  have e1:∀ f,four (.slice none 0 0) (.slice none 0 0) (.slice none 0 0) (.slice none 0 0) f = .slice none 0 0:=fun f=>by unfold four; simp
  have e2:∀ f,lists (iv []) (iv (List.range 0)) (([]:List SV).map SV.val) (([]:List QV).flatMap cells4q) f=[]:=fun f=>by unfold lists; simp [iv]
  have e3:∀ f,quad ([]:List Nat).length (List.range 0).length ([]:List SV).length ([]:List QV).length f=0:=fun f=>by unfold quad; simp
  refine ⟨0,nzl _,rfl,bx4,.slice none 0 0,.slice none 0 0,fun x=>x=w.heap.size+1,[],rfl,⟨⟨(bal).alloc (by simp) _,zAd _ _ (by simp),fun f h1 h2=>?_,fun f g j _ _ _ _ _ hj=>?_,fun f j _ _ hj=>?_,fun x hx=>?_,rfl,fun f j _ _ hj=>?_,by omega,nlr _⟩,fun k hk=>absurd hk (Nat.not_lt_zero k),fun i hi=>absurd hi (Nat.not_lt_zero i),fun i j hi=>absurd hi (Nat.not_lt_zero i)⟩⟩
  ·rw [e1,e2,e3]; exact ⟨by simp,.inl ⟨rfl,rfl⟩⟩
  ·rw [e1] at hj; cases hj
  ·rw [e1] at hj; cases hj
  ·subst hx; simp
  ·rw [e1] at hj; cases hj
 show Calls _ _ #[.agg #[.int .i64 V,.slice OA On Oc,.slice RA Rn Rc,.slice BA Bn Bc],chv] _ _;go_enter Tryz.func49,Tryz.ntmps49
 go_wp2;generalize (w.alloc (.cells #[.int .i64 V,.slice OA On Oc,.slice RA Rn Rc,.slice BA Bn Bc] 25)).alloc (.cells #[.int .i64 V,.slice none 0 0,.slice none 0 0,.slice none 0 0,.slice none 0 0] 160)=W0 at *;go_loopw [16] (fun t W=>PN1 w ⟨V,⟨OA,On,Oc⟩,⟨RA,Rn,Rc⟩,⟨BA,Bn,Bc⟩⟩ V E os rf t W) (fun t _=>V-(intOf t).toNat)
 case atStart=>exact H0
 case round=>
  clear H0;obtain ⟨k,hk,rfl,bP,vb,vd,G,qs,hqs,hD⟩:=hrel;have HQS:=hdq hqs;clear hqs;by_cases hlt:k<V
  ·obtain ⟨c0,c1,c2,c3,c4,cf⟩:=hD.pt.cells;have hdl:=hD.pt.dlt;have hwr:=hD.pt.bel.size;have hG0:¬ G w.heap.size:=fun hg=>by have:=(hD.pt.gin _ hg).1; omega
   have hown:=hD.pt.own 2 (by omega) (by omega);rw [show four (.slice none 0 0) vb (.slice none 0 0) vd 2=vb from rfl,show lists (iv []) (iv (List.range k)) (([]:List SV).map SV.val) (qs.flatMap cells4q) 2=iv (List.range k) from rfl,show pft 2=3 from rfl,show pfw 2=1 from rfl,show quad ([]:List Nat).length (List.range k).length ([]:List SV).length qs.length 2=(List.range k).length from rfl,List.length_range] at hown;(go_wp2_with (at_builtin; refine wpList_append_own_at _ rfl _ _ 48 rfl (w+1) 3 i0 (.int .i64 0) 1 8 Tryz.underlying48 hiI hz0 hz1 hz2 rfl (by decide) vb k (iv (List.range k)) rfl (hown.alloc _) ⟨wr,0,none⟩ 1 1 (iv [k]) rfl rfl ?cells ?one ?b1 ?b2 ?b3 ?_));case cells=>exact cell_one_new _ _ _
   case one=>intro u hu; simp [iv] at hu; subst hu; rfl
   case b1=>simp [maxLen]; omega
   case b2=>omega
   case b3=>simp; omega
   intro v' W2 hown2 hg hnil hat;obtain ⟨g',c',rfl⟩:=ownsRow_succ hown2;obtain ⟨v',hv'⟩:∃ v',v'=Value.slice (some g') (k+1) c':=⟨_,rfl⟩;rw [<-hv'] at hown2 hnil hat ⊢;have hat2:v'.ownBlock=vb.ownBlock\/v'.ownBlock=some (wr.alloc (.cells #[.int .i64 (k:Int)] 3)).heap.size:=hat.imp id fun e=>by rw [e]; simp
   have hblk:=hD.pt.app_blk (f:=2) (by omega) (by omega) hg hdl (.inr rfl);have hlow:=hD.pt.app_blk (f:=2) (x:=w) (by omega) (by omega) hg (by omega) (.inl hG0);have hD2:=hD.addF (x:=k) (v':=v') (by rw [List.length_range]; exact hown2) hg hat2;have d2:W2.cell? ⟨w.heap.size+1,2,none⟩=some vb:=(cob (a:=⟨w.heap.size+1,2,none⟩) hblk).trans c2;have df:∀ o,W2.frozen? ⟨w.heap.size+1,o,none⟩=false:=(fun o=>(World.frozen?_of_block (a:=⟨w.heap.size+1,o,none⟩) hblk).trans (cf o));have bP2:LPBox (W2.setCell ⟨w.heap.size+1,2,none⟩ v') w ⟨V,⟨OA,On,Oc⟩,⟨RA,Rn,Rc⟩,⟨BA,Bn,Bc⟩⟩:=(bP.heap hlow).far4 (by omega) _;have HD2:=hdq hD2;clear c0 c1 c2 c3 c4 cf hD hown hown2 hg hat hat2 hnil hblk hlow hD2 bP;rw [hv'] at *;clear hv' v';go_wp2;clear d2 df;have hD:=HD2.out;obtain ⟨G4,HG4⟩:∃ G4:Nat->Prop,Hid (G4=fun y=>G y\/(Value.slice (some g') (k+1) c').ownBlock=some y):=⟨_,rfl⟩;rw [<-HG4.out] at hD;clear HD2 HG4;generalize W2.setCell ⟨w.heap.size+1,2,none⟩ (.slice (some g') (k+1) c')=W3 at *;generalize Value.slice (some g') (k+1) c'=vf at *;obtain ⟨-,-,-,-,c4,cf⟩:=hD.pt.cells;have hdl3:=hD.pt.dlt;have hG3:¬ G4 w.heap.size:=fun hg=>by have:=(hD.pt.gin _ hg).1; omega
   obtain ⟨p0,p1,p2,p3,p4⟩:=id bP2;have hown:=hD.pt.own 4 (by omega) (by omega);rw [show four (.slice none 0 0) vf (.slice none 0 0) vd 4=vd from rfl,show lists (iv []) (iv (List.range k++[k])) (([]:List SV).map SV.val) (qs.flatMap cells4q) 4=qs.flatMap cells4q from rfl,show pft 4=30 from rfl,show pfw 4=4 from rfl,show quad ([]:List Nat).length (List.range k++[k]).length ([]:List SV).length qs.length 4=qs.length from rfl] at hown;refine zAp 11 (fun f w'=>w'.cell? ⟨w.heap.size,1,none⟩=some (.slice OA On Oc)/\(f=false->w'.cell? ⟨w.heap.size+1,4,none⟩=some vd)) (by kernel_rfl) ?_;have hS0:W3.drew.cell? ⟨w.heap.size,1,none⟩=some (.slice OA On Oc)/\(false=false->W3.drew.cell? ⟨w.heap.size+1,4,none⟩=some vd):=⟨p1,fun _=>c4⟩;refine tx4 0 1 2 3 hS0 ?_;refine tkW 4 (vd) (fun w' hSw=>?_) (hS0) ?_
   ·have:=hSw.2 rfl; go_simp
   simp only [zz];refine tx1 5 hS0 ?_;refine tx1 6 hS0 ?_;refine tx1 7 hS0 ?_;refine tk1 8 ?_;intro K hK;go_simp;have hdr:Below W3 W3 W3.drew:=(brf _ _).drew;refine (zFd (s:=⟨OA,On,Oc⟩) ((h.obj.below hD.pt.bel).below hdr) 0 k (by show 0<On; omega) (by omega) HL.out).mono ?_; rintro e w3 ⟨⟨z,rfl,hz⟩,hb3⟩
   dsimp only;have h3:=hdr.trans hb3;refine hK.out _ _ ⟨(h3.cell (p:=⟨w.heap.size,1,none⟩) (by show w.heap.size<_; omega)).trans p1,fun _=>(h3.cell (p:=⟨w.heap.size+1,4,none⟩) hdl3).trans c4⟩ ?_;clear hK K;refine tk1 9 ?_;intro K hK;go_simp;refine (zHK (hz.qis (MatAt.fit h.obj 0 k)) HL1.out).mono ?_; rintro e w4 ⟨⟨y,rfl,hy⟩,hb4⟩
   dsimp only;have h4:Below W3 W3 w4:=h3.trans (hb4.mono h3.size);have hs4:=h4.size;refine hK.out _ _ ⟨(h4.cell (p:=⟨w.heap.size,1,none⟩) (by show w.heap.size<_; omega)).trans p1,fun _=>(h4.cell (p:=⟨w.heap.size+1,4,none⟩) hdl3).trans c4⟩ ?_;clear hK K;have hD4:=hD.call h4;have hyG:QCan w4 (fun b=>¬ G4 b) y (-((os.getD 0 []).getD k 0)):=hy.imp fun b _ hb hg=>by have:=(hD.pt.gin b hg).2; have:=h3.size; simp only [New] at hb; omega
   have hown4:=hD4.pt.own 4 (by omega) (by omega);rw [show four (.slice none 0 0) vf (.slice none 0 0) vd 4=vd from rfl,show lists (iv []) (iv (List.range k++[k])) (([]:List SV).map SV.val) (qs.flatMap cells4q) 4=qs.flatMap cells4q from rfl,show pft 4=30 from rfl,show pfw 4=4 from rfl,show quad ([]:List Nat).length (List.range k++[k]).length ([]:List SV).length qs.length 4=qs.length from rfl] at hown4;refine tk1 10 ?_;intro K hK;go_simp;have al:Below w4 w4 (w4.alloc (.cells #[.bool y.num.ng,.slice y.num.A y.num.n y.num.c,.bool y.den.ng,.slice y.den.A y.den.n y.den.c] 30)):=bal;have h5:=h4.trans (al.mono hs4);refine hK.out _ _ ⟨(h5.cell (p:=⟨w.heap.size,1,none⟩) (by show w.heap.size<_; omega)).trans p1,fun _=>(h5.cell (p:=⟨w.heap.size+1,4,none⟩) hdl3).trans c4⟩ ?_;clear hK K;refine tk1 11 ?_;intro K hK;refine zAq _ _ 23 rfl (w+1) 30 k0 (.agg #[.bool false,.slice none 0 0,.bool false,.slice none 0 0]) 4 64 Tryz.underlying23 hk0 hx0 hx1 hx2 rfl (by decide) vd qs.length (qs.flatMap cells4q) rfl (hown4.alloc _) ⟨w4,0,none⟩ 1 1 (cells4q y) rfl rfl (zA1 _ _) (by intro u hu; simp [cells4q] at hu; rcases hu with rfl | rfl | rfl | rfl <;> rfl) (by have:=HQS.out; simp [maxLen]; omega) (by have:=HQS.out; omega) (by simp; omega) ?_;intro v' W5 hown5 hg5 hnil5 hat5;obtain ⟨g5,c5,rfl⟩:=ownsRow_succ hown5;have hg:(w4.alloc (.cells #[.bool y.num.ng,.slice y.num.A y.num.n y.num.c,.bool y.den.ng,.slice y.den.A y.den.n y.den.c] 30)).grownBy W5 vd.ownBlock:=⟨hg5.1,hg5.2,hg5.3,hg5.size,hg5.block⟩;have hblk:=hD4.pt.app_blk (f:=4) (by omega) (by omega) hg hD4.pt.dlt (.inr rfl);have hlow:=hD4.pt.app_blk (f:=4) (x:=w) (by omega) (by omega) hg (by omega) (.inl hG3);have hD5:=hD4.addC (z:=y) hyG (by show cst0 os V qs.length=_; rw [HQS.out]; unfold cst0; rw [if_pos hlt]) hown5 hg hat5;have d4:W5.cell? ⟨w.heap.size+1,4,none⟩=some vd:=((cob (a:=⟨w.heap.size+1,4,none⟩) hblk).trans (h4.cell (p:=⟨w.heap.size+1,4,none⟩) hdl3)).trans c4;have df:∀ o,W5.frozen? ⟨w.heap.size+1,o,none⟩=false:=(fun o=>(World.frozen?_of_block (a:=⟨w.heap.size+1,o,none⟩) (hblk.trans (h4.block _ hdl3))).trans (cf o));have hl3:w.heap.size<W3.heap.size:=(by omega);have p5:W5.cell? ⟨w.heap.size,1,none⟩=some (.slice OA On Oc):=((cob (a:=⟨w.heap.size,1,none⟩) hlow).trans (h4.cell (p:=⟨w.heap.size,1,none⟩) hl3)).trans p1;simp only [Act.put,zz];refine hK.out _ _ ⟨p5,fun h=>absurd h (by decide)⟩ ?_;clear hK K;refine tk1 12 ?_;intro K hK;go_simp;refine hK.out _ _ ⟨p5,fun h=>absurd h (by decide)⟩ ?_;clear hK K;refine tk1 13 ?_;intro K hK;go_simp;refine hK.out _ _ ⟨p5,fun h=>absurd h (by decide)⟩ ?_;clear hK K;refine tk1 14 ?_;intro K hK;go_simp;refine hK.out _ _ ⟨(World.cell?_setCell_far _ _ _ _ (by simp)).trans p5,fun h=>absurd h (by decide)⟩ ?_;clear hK K;refine zAf (by kernel_rfl) ?_ _;rw [<-List.range_succ] at hD5;have HD5:=hdq hD5;have HP5:Hid (LPBox (W5.setCell ⟨w.heap.size+1,4,none⟩ (.slice (some g5) (qs.length+1) c5)) w ⟨V,⟨OA,On,Oc⟩,⟨RA,Rn,Rc⟩,⟨BA,Bn,Bc⟩⟩):=((bP2.below h4 hl3).heap hlow).far4 (by omega) _;clear hD5 hD hD4 hown hown4 hown5 hg hg5 hnil5 hat5 d4 df p5 hblk hlow c4 cf p0 p1 p2 p3 p4 al h3 h4 h5 hb3 hb4 hz hy hyG hS0 hdr;go_wp2;exact ⟨⟨k+1,by omega,by simp,HP5.out,_,_,_,qs++[y],by simp [HQS.out],HD5.out⟩,by first | (simp [intOf]; done) | (simp [intOf]; omega)⟩
  ·(obtain rfl:k=V:=by omega);obtain ⟨c0,c1,c2,c3,c4,cf⟩:=hD.pt.cells;have hdl:=hD.pt.dlt;have hwr:=hD.pt.bel.size;have hG0:¬ G w.heap.size:=fun hg=>by have:=(hD.pt.gin _ hg).1; omega
   have hown:=hD.pt.own 4 (by omega) (by omega);rw [show four (.slice none 0 0) vb (.slice none 0 0) vd 4=vd from rfl,show lists (iv []) (iv (List.range k)) (([]:List SV).map SV.val) (qs.flatMap cells4q) 4=qs.flatMap cells4q from rfl,show pft 4=30 from rfl,show pfw 4=4 from rfl,show quad ([]:List Nat).length (List.range k).length ([]:List SV).length qs.length 4=qs.length from rfl] at hown;(go_wp2_with (at_builtin; refine wpList_append_own_at _ rfl _ _ 23 rfl (w+1) 30 k0 (.agg #[.bool false,.slice none 0 0,.bool false,.slice none 0 0]) 4 64 Tryz.underlying23 hk0 hx0 hx1 hx2 rfl (by decide) vd qs.length (qs.flatMap cells4q) rfl (hown.alloc _) ⟨wr,0,none⟩ 1 1 (cells4q QV.zero) rfl rfl (zA1 _ _) (by intro u hu; simp [cells4q] at hu; rcases hu with rfl | rfl | rfl | rfl <;> rfl) (by have:=HQS.out; simp [maxLen]; omega) (by have:=HQS.out; omega) (by simp; omega) ?_));intro v' W2 hown2 hg hnil hat;obtain ⟨g',c',rfl⟩:=ownsRow_succ hown2;have hblk:=hD.pt.app_blk (f:=4) (by omega) (by omega) hg hdl (.inr rfl);have hlow:=hD.pt.app_blk (f:=4) (x:=w) (by omega) (by omega) hg (by omega) (.inl hG0);have hD2:=hD.addC (z:=QV.zero) (q:=0) (QCan.zero _ _) (by show cst0 os k qs.length=_; rw [HQS.out]; unfold cst0; rw [if_neg (by omega)]) hown2 hg (hat.imp id fun e=>by rw [e]; simp);have d2:W2.cell? ⟨w.heap.size+1,4,none⟩=some vd:=(cob (a:=⟨w.heap.size+1,4,none⟩) hblk).trans c4;have df:∀ o,W2.frozen? ⟨w.heap.size+1,o,none⟩=false:=(fun o=>(World.frozen?_of_block (a:=⟨w.heap.size+1,o,none⟩) hblk).trans (cf o));have bP2:LPBox (W2.setCell ⟨w.heap.size+1,4,none⟩ (.slice (some g') (qs.length+1) c')) w ⟨k,⟨OA,On,Oc⟩,⟨RA,Rn,Rc⟩,⟨BA,Bn,Bc⟩⟩:=(bP.heap hlow).far4 (by omega) _
   have H1:PN2 w ⟨k,⟨OA,On,Oc⟩,⟨RA,Rn,Rc⟩,⟨BA,Bn,Bc⟩⟩ k E os rf (.int .i64 0) (W2.setCell ⟨w.heap.size+1,4,none⟩ (.slice (some g') (qs.length+1) c')):=
    ⟨0,nzl _,rfl,bP2,_,_,_,_,_,[],qs++[QV.zero],rfl,by simp [HQS.out],hD2⟩
   obtain ⟨p0,p1,p2,p3,p4⟩:=id bP2;clear c0 c1 c2 c3 c4 cf hD hown hown2 hg hat hnil hblk hlow hD2 bP bP2;go_wp2;clear d2 df p0 p1 p2 p3 p4;generalize W2.setCell ⟨w.heap.size+1,4,none⟩ (.slice (some g') (qs.length+1) c')=W1 at *;(go_loopw [57] (fun t W=>PN2 w ⟨k,⟨OA,On,Oc⟩,⟨RA,Rn,Rc⟩,⟨BA,Bn,Bc⟩⟩ k E os rf t W) (fun t _=>Rn-(intOf t).toNat));case atStart=>exact H1
   case round=>
    clear H1;obtain ⟨i,hi',rfl,bP,va,vb,vc,vd,G,sr,qs,hsr,hqs,hD⟩:=hrel;have hi2:i<=Rn:=hi';have hdl:=hD.pt.dlt;have hG0:¬ G w.heap.size:=fun hg=>by have:=(hD.pt.gin _ hg).1; omega
    have HSR:=hdq hsr;have HQS:=hdq hqs;clear hsr hqs hi';by_cases hiR:i<Rn
    ·obtain ⟨p0,p1,p2,p3,p4⟩:=id bP;dsimp only at p0 p1 p2 p3;have hii:(i:Int)<(Rn:Int):=(by omega);have HD:=hdq hD;clear hD;go_wp2;obtain ⟨wA,hwA⟩:∃ wA:World,wA=wr:=⟨_,rfl⟩;have H2:PN3 w wA k (rf i) (.slice none 0 0) (.int .i64 0) wr:=⟨0,[],nzl _,rfl,by rw [hwA]; exact GRow.start _ _ _⟩;rw [<-hwA] at HD bP hdl p0 p1 p2 p3 p4;clear hwA;(go_loopw [8,62] (fun v t W=>PN3 w wA k (rf i) v t W) (fun _ t _=>k-(intOf t).toNat));case atStart=>exact H2
     case round=>
      clear H2;obtain ⟨j,s,hj,rfl,hGr⟩:=hrel;have hpl:w.heap.size<wA.heap.size:=(by omega);have bPr:=bP.below hGr.bel hpl;obtain ⟨r0,r1,r2,r3,r4⟩:=id bPr;dsimp only at r0 r1 r2 r3;have hAr:=hGr.bel.size;by_cases hlt2:j<k
      ·have hjk:(j:Int)<(k:Int):=(by omega);have HGr:=hdq hGr;clear hGr;(go_wp2_with fail);refine (zFd (s:=⟨RA,Rn,Rc⟩) (h.rows.below (HD.out.pt.bel.trans (HGr.out.bel.mono HD.out.pt.bel.size))) i j hiR (by omega) HL.out).mono ?_; rintro e w1 ⟨⟨z,rfl,hz⟩,hb1⟩
       have HO1:=hdq (HGr.out.own);have HS1:Hid (s.length=j):=HGr.out.len;have hsz1:=hb1.size
       go_wp2_with (at_builtin; refine wpList_append_own_at _ rfl _ _ 23 rfl wA 30 k0 (.agg #[.bool false,.slice none 0 0,.bool false,.slice none 0 0]) 4 64 Tryz.underlying23 hk0 hx0 hx1 hx2 rfl (by decide) _ (j) (s.flatMap cells4q) rfl ((zAr HO1.out fun j hj=>by
        obtain ⟨_,cs,hh⟩:=zAc HO1.out hj;exact hb1.block j (zAa hh)).alloc _) ⟨w1,0,none⟩ 1 1 (cells4q z) rfl rfl (zA1 _ _) (by intro u hu; simp [cells4q] at hu; rcases hu with rfl | rfl | rfl | rfl <;> rfl) (by simp [maxLen]; omega) (by omega) (by simp; omega) ?_)
       intro v' W2 hown1 hg1 hnil1 hat1
       have hz':QCan w1 (fun b=>Value.ownBlock u8 ≠ some b/\(b<w.heap.size\/wA.heap.size<=b)) z (rf i j):=by
        have e:rf i j=(rs.getD i []).getD j 0:=by rw [HRF.out]; unfold row0; rw [if_pos hlt2]
        rw [e]
        exact hz.imp fun b _ hb=>by
         simp only [New] at hb;refine ⟨fun e=>?_,.inr (by omega)⟩;obtain ⟨_,cs,hh⟩:=zAc HO1.out e;have:=zAa hh;omega
       have Hfin:Hid (PN3 w wA k (rf i) v' (.int .i64 ((j:Int)+1)) W2):=⟨j+1,s++[z],by omega,by simp,HGr.out.step hb1 hz' hown1 hg1 (hat1.imp id fun e=>by rw [e]; simp)⟩;clear hz hz' hown1 hg1 hnil1 hat1 hb1;go_wp2;go_roundw;case rel=>exact Hfin.out
       case measure=>simp [intOf]; omega
      ·(obtain rfl:j=k:=by omega);obtain ⟨ad,u,e,hx,hqc,hqv⟩:=h.bounds.elem i (by show i<Bn; rw [HB.out]; exact hiR);dsimp only at e;subst e;have q0:(ad.add (i*4)).block<w:=zAb hqc.1;have hbel:=HD.out.pt.bel.trans (hGr.bel.mono HD.out.pt.bel.size);obtain ⟨b0,b1,b2,b3⟩:=hqc.keep (w':=wr) (fun a ha hl=>hbel.cell (by rw [ha]; exact hl));have HU:=hdq (hqv.below hbel);have hcap:=h.bounds.cap;have hle:=h.bounds.le;dsimp only at hcap hle;have hin:i<Bn:=by rw [HB.out]; exact hiR
       have hinI:(i:Int)<(Bn:Int):=(by omega);have HGr:=hdq hGr;clear hqc hqv hGr;(go_wp2_with fail);refine (zAT HU.out HL.out).mono ?_; rintro e w1 ⟨⟨z,rfl,hz⟩,hb1⟩
       have HO1:=hdq (HGr.out.own);have HS1:Hid (s.length=j):=HGr.out.len;have hsz1:=hb1.size
       go_wp2_with (at_builtin; refine wpList_append_own_at _ rfl _ _ 23 rfl wA 30 k0 (.agg #[.bool false,.slice none 0 0,.bool false,.slice none 0 0]) 4 64 Tryz.underlying23 hk0 hx0 hx1 hx2 rfl (by decide) _ (j) (s.flatMap cells4q) rfl ((zAr HO1.out fun j hj=>by
        obtain ⟨_,cs,hh⟩:=zAc HO1.out hj;exact hb1.block j (zAa hh)).alloc _) ⟨w1,0,none⟩ 1 1 (cells4q z) rfl rfl (zA1 _ _) (by intro u hu; simp [cells4q] at hu; rcases hu with rfl | rfl | rfl | rfl <;> rfl) (by simp [maxLen]; omega) (by omega) (by simp; omega) ?_)
       intro v' W2 hown1 hg1 hnil1 hat1
       have hz':QCan w1 (fun b=>Value.ownBlock u8 ≠ some b/\(b<w.heap.size\/wA.heap.size<=b)) z (rf i j):=by
        have e:rf i j=bs.getD i 0:=by rw [HRF.out]; unfold row0; rw [if_neg (by omega),if_pos rfl]
        rw [e]
        exact hz.imp fun b _ hb=>by
         simp only [New] at hb;refine ⟨fun e=>?_,.inr (by omega)⟩;obtain ⟨_,cs,hh⟩:=zAc HO1.out e;have:=zAa hh;omega
       have HG2:=hdq (HGr.out.step hb1 hz' hown1 hg1 (hat1.imp id fun e=>by rw [e]; simp));obtain ⟨g1,c1,rfl⟩:=ownsRow_succ hown1;clear hz hz' hown1 hg1 hnil1 hat1 HO1;rcases hch with ⟨rfl,rfl⟩ | ⟨cb,cc,cl,rfl,rfl,hc1,hc2,hcl⟩
       ·obtain rfl:E=j:=by have:=HE.out; simp [Lin.given] at this; omega
        have hbl:=HG2.out.bel;have hWs:=hbl.size
        obtain ⟨rb,rc,hv,t1,t2,t3,t4,hRP⟩:=zFq (l:=rowL (E) (rf i)) (G:=fun y=>G y\/y=g1) HG2.out.own HG2.out.len (by rw [zAm]) (by omega) (fun x hx=>by
         rw [zAL _ (by omega)]
         exact (HG2.out.elem x hx).imp fun y _ hy hg=>by
          rcases hg with hg | rfl
          ·have:=HD.out.pt.gin y hg;rcases hy.2 with h1 | h1 <;> omega
          ·exact hy.1 rfl) (fun y e=>.inr (by cases e; rfl))
        cases hv;have hgl:=hRP.lt;have hDg:=HD.out.grow hbl (b:=g1) t3 hgl;have hdg:=hDg.pt.dlt;have hG1:¬ (G w.heap.size\/w.heap.size=g1):=(fun hg=>hg.elim hG0 fun e=>by omega);obtain ⟨c0,c1',c2,c3,c4,cf⟩:=hDg.pt.cells;have hown:=hDg.pt.own 3 (by omega) (by omega);rw [show four va vb vc vd 3=vc from rfl,show ∀ l:List Nat,lists (iv l) (iv (List.range E)) (sr.map SV.val) (qs.flatMap cells4q) 3=sr.map SV.val from fun _=>rfl,show pft 3=23 from rfl,show pfw 3=1 from rfl,show ∀ x y:Nat,quad x y sr.length qs.length 3=sr.length from fun _ _=>rfl] at hown
        have hbd:vd.ownBlock ≠ some g1:=fun e=>by
         obtain ⟨_,cs,hh⟩:=zAc (HD.out.pt.own 4 (by omega) (by omega)) (j:=g1) e;have:=zAa hh; omega
        have hne:∀ i',i'<sr.length->(sr.getD i' ⟨none,0,0⟩).A ≠ some ⟨g1,0,none⟩:=fun i' hi e=>by
         obtain ⟨b',c'',x1,_,_,x4,_⟩:=HD.out.row i' hi;rw [x1] at e; cases e
         have:=x4.lt; omega
        have bPw:=bP.below hbl hpl;(go_wp2_with (at_builtin; refine wpList_append_own_at _ rfl _ _ 22 rfl (w+1) 23 j0 (.slice none 0 0) 1 24 Tryz.underlying22 hjI hy0 hy1 hy2 rfl (by decide) vc sr.length (sr.map SV.val) rfl (hown.alloc _) ⟨W2,0,none⟩ 1 1 [.slice (some g1) (E+1) c1] rfl rfl (cell_one_new _ _ _) (by intro u hu; simp at hu; subst hu; rfl) (by have:=HSR.out; simp [maxLen]; omega) (by have:=HSR.out; omega) (by simp; omega) ?_));intro v3 W3 hown3 hg3 hnil3 hat3;obtain ⟨g3,c3',rfl⟩:=ownsRow_succ hown3;have hblk:=hDg.pt.app_blk (f:=3) (by omega) (by omega) hg3 hdg (.inr rfl);have hlow:=hDg.pt.app_blk (f:=3) (x:=w) (by omega) (by omega) hg3 (by omega) (.inl hG1);have hD3:=hDg.addR (b:=g1) t1 t2 (by rw [HSR.out]; exact hRP) hbd hne hown3 hg3 (hat3.imp id fun e=>by rw [e]; simp);have d3:W3.cell? ⟨w.heap.size+1,3,none⟩=some vc:=(cob (a:=⟨w.heap.size+1,3,none⟩) hblk).trans c3;have df:∀ o,W3.frozen? ⟨w.heap.size+1,o,none⟩=false:=(fun o=>(World.frozen?_of_block (a:=⟨w.heap.size+1,o,none⟩) hblk).trans (cf o));have bP3:LPBox (W3.setCell ⟨w.heap.size+1,3,none⟩ (.slice (some g3) (sr.length+1) c3')) w ⟨E,⟨OA,On,Oc⟩,⟨RA,Rn,Rc⟩,⟨some ad,Bn,Bc⟩⟩:=(bPw.heap hlow).far4 (by omega) _;have HD3:=hdq hD3;clear c0 c1' c2 c3 c4 cf hDg hown hown3 hg3 hat3 hnil3 hblk hlow hD3 hRP hbd hne bPw t4;go_wp2;clear d3 df;have hD:=HD3.out;obtain ⟨G5,HG5⟩:∃ G5:Nat->Prop,Hid (G5=fun y=>(G y\/y=g1)\/(Value.slice (some g3) (sr.length+1) c3').ownBlock=some y):=⟨_,rfl⟩;rw [<-HG5.out] at hD;clear HD3 HG5;generalize W3.setCell ⟨w.heap.size+1,3,none⟩ (.slice (some g3) (sr.length+1) c3')=W4 at *;generalize Value.slice (some g3) (sr.length+1) c3'=vr at *;obtain ⟨-,c1',-,-,-,cf⟩:=hD.pt.cells;have hdl4:=hD.pt.dlt;have hG4:¬ G5 w.heap.size:=fun hg=>by have:=(hD.pt.gin _ hg).1; omega
        obtain ⟨p0,p1,p2,p3,p4⟩:=id bP3;have hown:=hD.pt.own 1 (by omega) (by omega);rw [show four va vb vr vd 1=va from rfl,show ∀ (l:List Nat) (x y:List Value),lists (iv l) (iv (List.range E)) x y 1=iv l from fun _ _ _=>rfl,show pft 1=3 from rfl,show pfw 1=1 from rfl,show ∀ x y z t:Nat,quad x y z t 1=x from fun _ _ _ _=>rfl,List.length_map,List.length_range] at hown;have hsum:IntKind.i64.wrap ((E:Int)+(i:Int))=(E:Int)+(i:Int):=IntWalk.i64_in _ (by omega);refine zAp 10 (fun f w'=>w'.cell? w=some (.int .i64 E)/\(f=false->w'.cell? ⟨w.heap.size+1,1,none⟩=some va)) (by kernel_rfl) ?_;have hS0:W4.drew.cell? w=some (.int .i64 E)/\(false=false->W4.drew.cell? ⟨w.heap.size+1,1,none⟩=some va):=⟨p0,fun _=>c1'⟩;refine tx4 0 1 2 3 hS0 ?_;refine tkW 4 (va) (fun w' hSw=>?_) (hS0) ?_
        ·have:=hSw.2 rfl; go_simp
        simp only [zz];refine tx4 5 6 7 8 hS0 ?_;refine tk1 9 ?_;intro K hK;go_simp;have al:Below W4 W4 (W4.alloc (.cells #[.int .i64 ((E:Int)+(i:Int))] 3)).drew:=(bal).drew;refine hK.out _ _ ⟨(al.cell (p:=w) (by show w.heap.size<_; omega)).trans p0,fun _=>(al.cell (p:=⟨w.heap.size+1,1,none⟩) hdl4).trans c1'⟩ ?_;clear hK K;refine tk1 10 ?_;intro K hK;refine zAq _ _ 48 rfl (w+1) 3 i0 (.int .i64 0) 1 8 Tryz.underlying48 hiI hz0 hz1 hz2 rfl (by decide) va i (iv ((List.range i).map (E+·))) rfl (hown.alloc _) ⟨W4,0,none⟩ 1 1 [.int .i64 ((E:Int)+(i:Int))] rfl rfl (cell_one_new _ _ _) (by intro u hu; simp at hu; subst hu; rfl) (by simp [maxLen]; omega) (by omega) (by simp; omega) ?_;intro v' W5 hown5 hg5 hnil5 hat5;obtain ⟨g5,c5,rfl⟩:=ownsRow_succ hown5;have hg:(W4.alloc (.cells #[.int .i64 ((E:Int)+(i:Int))] 3)).grownBy W5 va.ownBlock:=⟨hg5.1,hg5.2,hg5.3,hg5.size,hg5.block⟩;have hblk:=hD.pt.app_blk (f:=1) (by omega) (by omega) hg hdl4 (.inr rfl);have hlow:=hD.pt.app_blk (f:=1) (x:=w) (by omega) (by omega) hg (by omega) (.inl hG4)
        have hD5:=hD.addB (x:=E+i) (by
         rw [List.length_map,List.length_range,show ((E+i:Nat):Int)=(E:Int)+(i:Int) by omega]; exact hown5) hg (by rcases hat5 with e | e; exact .inl e; exact .inr (by rw [e]; simp))
        rw [show (List.range i).map (E+·)++[E+i]=(List.range (i+1)).map (E+·) by simp [List.range_succ]] at hD5;have d1:W5.cell? ⟨w.heap.size+1,1,none⟩=some va:=(cob (a:=⟨w.heap.size+1,1,none⟩) hblk).trans c1';have df:∀ o,W5.frozen? ⟨w.heap.size+1,o,none⟩=false:=(fun o=>(World.frozen?_of_block (a:=⟨w.heap.size+1,o,none⟩) hblk).trans (cf o));have p5:W5.cell? w=some (.int .i64 E):=(cob (a:=w) hlow).trans p0;simp only [Act.put,zz];refine hK.out _ _ ⟨p5,fun h=>absurd h (by decide)⟩ ?_;clear hK K;refine tk1 11 ?_;intro K hK;go_simp;refine hK.out _ _ ⟨p5,fun h=>absurd h (by decide)⟩ ?_;clear hK K;refine tk1 12 ?_;intro K hK;go_simp;refine hK.out _ _ ⟨p5,fun h=>absurd h (by decide)⟩ ?_;clear hK K;refine tk1 13 ?_;intro K hK;go_simp;refine hK.out _ _ ⟨(World.cell?_setCell_far _ _ _ _ (by simp)).trans p5,fun h=>absurd h (by decide)⟩ ?_;clear hK K;refine zAf (by kernel_rfl) ?_ _;have HD5:=hdq hD5;have HP5:Hid (LPBox (W5.setCell ⟨w.heap.size+1,1,none⟩ (.slice (some g5) (i+1) c5)) w ⟨E,⟨OA,On,Oc⟩,⟨RA,Rn,Rc⟩,⟨some ad,Bn,Bc⟩⟩):=(bP3.heap hlow).far4 (by omega) _;clear hD5 hD hown hown5 hg hg5 hnil5 hat5 d1 df p5 hblk hlow c1' cf p0 p1 p2 p3 p4 hsum al hS0;go_wp2;exact ⟨⟨i+1,by show i+1<=Rn; omega,by simp,HP5.out,_,_,_,_,_,sr++[_],qs,by simp [HSR.out],HQS.out,HD5.out⟩,by first | (simp [intOf]; done) | (simp [intOf]; omega)⟩
       ·obtain rfl:E=j+1:=by have:=HE.out; simp [Lin.given] at this; omega
        have hbelw:Below w w W2:=HD.out.pt.bel.trans (HG2.out.bel.mono HD.out.pt.bel.size);obtain ⟨u',hqc,hqv⟩:=hcl i hiR;have q5:(⟨cb,i*4,none⟩:Addr).block<w:=zAb hqc.1;obtain ⟨m0,m1,m2,m3⟩:=hqc.keep (w':=W2) (fun a ha hl=>hbelw.cell (by rw [ha]; exact hl));dsimp only at m1 m2 m3
        have hz2:QCan W2 (fun b=>Value.ownBlock (.slice (some g1) (j+1) c1) ≠ some b/\(b<w.heap.size\/wA.heap.size<=b)) u' (rf i (j+1)):=by
         have e:rf i (j+1)=cl i:=by rw [HRF.out]; unfold row0; rw [if_neg (by omega),if_neg (by omega)]; rfl
         rw [e];(refine ((hqv.imp (Y:=fun b=>b<w.heap.size) fun b hb _=>hb).below hbelw).imp fun b _ hb=>⟨fun e=>?_,.inl hb⟩);have:=(zAc HG2.out.own e).1;omega
        have HZ2:=hdq hz2;have hb2:Below W2 W2 W2:=brf _ _;have hWW:=HG2.out.bel.size;clear hqc hqv hz2 hbelw;have HO2:=hdq (HG2.out.own);have HS2:Hid ((s++[z]).length=(j+1)):=HG2.out.len;have hsz2:=hb2.size
        go_wp2_with (at_builtin; refine wpList_append_own_at _ rfl _ _ 23 rfl wA 30 k0 (.agg #[.bool false,.slice none 0 0,.bool false,.slice none 0 0]) 4 64 Tryz.underlying23 hk0 hx0 hx1 hx2 rfl (by decide) _ ((j+1)) ((s++[z]).flatMap cells4q) rfl ((zAr HO2.out fun j hj=>by
         obtain ⟨_,cs,hh⟩:=zAc HO2.out hj;exact hb2.block j (zAa hh)).alloc _) ⟨W2,0,none⟩ 1 1 (cells4q u') rfl rfl (zA1 _ _) (by intro u hu; simp [cells4q] at hu; rcases hu with rfl | rfl | rfl | rfl <;> rfl) (by simp [maxLen]; omega) (by omega) (by simp; omega) ?_)
        intro v'' W7 hown2 hg2 hnil2 hat2;have HG7:=hdq (HG2.out.step hb2 HZ2.out (by simpa using hown2) hg2 (hat2.imp id fun e=>by rw [e]; simp));clear HG2;obtain ⟨g1,c1,rfl⟩:=ownsRow_succ hown2;clear hown2 hg2 hnil2 hat2 HO2;have hbl:=HG7.out.bel;have hWs:=hbl.size
        obtain ⟨rb,rc,hv,t1,t2,t3,t4,hRP⟩:=zFq (l:=rowL (j+1) (rf i)) (G:=fun y=>G y\/y=g1) HG7.out.own HG7.out.len (by rw [zAm]) (by omega) (fun x hx=>by
         rw [zAL _ (by omega)]
         exact (HG7.out.elem x hx).imp fun y _ hy hg=>by
          rcases hg with hg | rfl
          ·have:=HD.out.pt.gin y hg;rcases hy.2 with h1 | h1 <;> omega
          ·exact hy.1 rfl) (fun y e=>.inr (by cases e; rfl))
        cases hv;have hgl:=hRP.lt;have hDg:=HD.out.grow hbl (b:=g1) t3 hgl;have hdg:=hDg.pt.dlt;have hG1:¬ (G w.heap.size\/w.heap.size=g1):=(fun hg=>hg.elim hG0 fun e=>by omega);obtain ⟨c0,c1',c2,c3,c4,cf⟩:=hDg.pt.cells;have hown:=hDg.pt.own 3 (by omega) (by omega);rw [show four va vb vc vd 3=vc from rfl,show ∀ l:List Nat,lists (iv l) (iv (List.range j)) (sr.map SV.val) (qs.flatMap cells4q) 3=sr.map SV.val from fun _=>rfl,show pft 3=23 from rfl,show pfw 3=1 from rfl,show ∀ x y:Nat,quad x y sr.length qs.length 3=sr.length from fun _ _=>rfl] at hown
        have hbd:vd.ownBlock ≠ some g1:=fun e=>by
         obtain ⟨_,cs,hh⟩:=zAc (HD.out.pt.own 4 (by omega) (by omega)) (j:=g1) e;have:=zAa hh; omega
        have hne:∀ i',i'<sr.length->(sr.getD i' ⟨none,0,0⟩).A ≠ some ⟨g1,0,none⟩:=fun i' hi e=>by
         obtain ⟨b',c'',x1,_,_,x4,_⟩:=HD.out.row i' hi;rw [x1] at e; cases e
         have:=x4.lt; omega
        have bPw:=bP.below hbl hpl;(go_wp2_with (at_builtin; refine wpList_append_own_at _ rfl _ _ 22 rfl (w+1) 23 j0 (.slice none 0 0) 1 24 Tryz.underlying22 hjI hy0 hy1 hy2 rfl (by decide) vc sr.length (sr.map SV.val) rfl (hown.alloc _) ⟨W7,0,none⟩ 1 1 [.slice (some g1) (j+1+1) c1] rfl rfl (cell_one_new _ _ _) (by intro u hu; simp at hu; subst hu; rfl) (by have:=HSR.out; simp [maxLen]; omega) (by have:=HSR.out; omega) (by simp; omega) ?_));intro v3 W3 hown3 hg3 hnil3 hat3;obtain ⟨g3,c3',rfl⟩:=ownsRow_succ hown3;have hblk:=hDg.pt.app_blk (f:=3) (by omega) (by omega) hg3 hdg (.inr rfl);have hlow:=hDg.pt.app_blk (f:=3) (x:=w) (by omega) (by omega) hg3 (by omega) (.inl hG1);have hD3:=hDg.addR (b:=g1) t1 t2 (by rw [HSR.out]; exact hRP) hbd hne hown3 hg3 (hat3.imp id fun e=>by rw [e]; simp);have d3:W3.cell? ⟨w.heap.size+1,3,none⟩=some vc:=(cob (a:=⟨w.heap.size+1,3,none⟩) hblk).trans c3;have df:∀ o,W3.frozen? ⟨w.heap.size+1,o,none⟩=false:=(fun o=>(World.frozen?_of_block (a:=⟨w.heap.size+1,o,none⟩) hblk).trans (cf o));have bP3:LPBox (W3.setCell ⟨w.heap.size+1,3,none⟩ (.slice (some g3) (sr.length+1) c3')) w ⟨j,⟨OA,On,Oc⟩,⟨RA,Rn,Rc⟩,⟨some ad,Bn,Bc⟩⟩:=(bPw.heap hlow).far4 (by omega) _;have HD3:=hdq hD3;clear c0 c1' c2 c3 c4 cf hDg hown hown3 hg3 hat3 hnil3 hblk hlow hD3 hRP hbd hne bPw t4;go_wp2;clear d3 df;have hD:=HD3.out;obtain ⟨G5,HG5⟩:∃ G5:Nat->Prop,Hid (G5=fun y=>(G y\/y=g1)\/(Value.slice (some g3) (sr.length+1) c3').ownBlock=some y):=⟨_,rfl⟩;rw [<-HG5.out] at hD;clear HD3 HG5;generalize W3.setCell ⟨w.heap.size+1,3,none⟩ (.slice (some g3) (sr.length+1) c3')=W4 at *;generalize Value.slice (some g3) (sr.length+1) c3'=vr at *;obtain ⟨-,c1',-,-,-,cf⟩:=hD.pt.cells;have hdl4:=hD.pt.dlt;have hG4:¬ G5 w.heap.size:=fun hg=>by have:=(hD.pt.gin _ hg).1; omega
        obtain ⟨p0,p1,p2,p3,p4⟩:=id bP3;have hown:=hD.pt.own 1 (by omega) (by omega);rw [show four va vb vr vd 1=va from rfl,show ∀ (l:List Nat) (x y:List Value),lists (iv l) (iv (List.range j)) x y 1=iv l from fun _ _ _=>rfl,show pft 1=3 from rfl,show pfw 1=1 from rfl,show ∀ x y z t:Nat,quad x y z t 1=x from fun _ _ _ _=>rfl,List.length_map,List.length_range] at hown;have hsum:IntKind.i64.wrap ((j:Int)+(i:Int))=(j:Int)+(i:Int):=IntWalk.i64_in _ (by omega);refine zAp 10 (fun f w'=>w'.cell? w=some (.int .i64 j)/\(f=false->w'.cell? ⟨w.heap.size+1,1,none⟩=some va)) (by kernel_rfl) ?_;have hS0:W4.drew.cell? w=some (.int .i64 j)/\(false=false->W4.drew.cell? ⟨w.heap.size+1,1,none⟩=some va):=⟨p0,fun _=>c1'⟩;refine tx4 0 1 2 3 hS0 ?_;refine tkW 4 (va) (fun w' hSw=>?_) (hS0) ?_
        ·have:=hSw.2 rfl; go_simp
        simp only [zz];refine tx4 5 6 7 8 hS0 ?_;refine tk1 9 ?_;intro K hK;go_simp;have al:Below W4 W4 (W4.alloc (.cells #[.int .i64 ((j:Int)+(i:Int))] 3)).drew:=(bal).drew;refine hK.out _ _ ⟨(al.cell (p:=w) (by show w.heap.size<_; omega)).trans p0,fun _=>(al.cell (p:=⟨w.heap.size+1,1,none⟩) hdl4).trans c1'⟩ ?_;clear hK K;refine tk1 10 ?_;intro K hK;refine zAq _ _ 48 rfl (w+1) 3 i0 (.int .i64 0) 1 8 Tryz.underlying48 hiI hz0 hz1 hz2 rfl (by decide) va i (iv ((List.range i).map (j+·))) rfl (hown.alloc _) ⟨W4,0,none⟩ 1 1 [.int .i64 ((j:Int)+(i:Int))] rfl rfl (cell_one_new _ _ _) (by intro u hu; simp at hu; subst hu; rfl) (by simp [maxLen]; omega) (by omega) (by simp; omega) ?_;intro v' W5 hown5 hg5 hnil5 hat5;obtain ⟨g5,c5,rfl⟩:=ownsRow_succ hown5;have hg:(W4.alloc (.cells #[.int .i64 ((j:Int)+(i:Int))] 3)).grownBy W5 va.ownBlock:=⟨hg5.1,hg5.2,hg5.3,hg5.size,hg5.block⟩;have hblk:=hD.pt.app_blk (f:=1) (by omega) (by omega) hg hdl4 (.inr rfl);have hlow:=hD.pt.app_blk (f:=1) (x:=w) (by omega) (by omega) hg (by omega) (.inl hG4)
        have hD5:=hD.addB (x:=j+i) (by
         rw [List.length_map,List.length_range,show ((j+i:Nat):Int)=(j:Int)+(i:Int) by omega]; exact hown5) hg (by rcases hat5 with e | e; exact .inl e; exact .inr (by rw [e]; simp))
        rw [show (List.range i).map (j+·)++[j+i]=(List.range (i+1)).map (j+·) by simp [List.range_succ]] at hD5;have d1:W5.cell? ⟨w.heap.size+1,1,none⟩=some va:=(cob (a:=⟨w.heap.size+1,1,none⟩) hblk).trans c1';have df:∀ o,W5.frozen? ⟨w.heap.size+1,o,none⟩=false:=(fun o=>(World.frozen?_of_block (a:=⟨w.heap.size+1,o,none⟩) hblk).trans (cf o));have p5:W5.cell? w=some (.int .i64 j):=(cob (a:=w) hlow).trans p0;simp only [Act.put,zz];refine hK.out _ _ ⟨p5,fun h=>absurd h (by decide)⟩ ?_;clear hK K;refine tk1 11 ?_;intro K hK;go_simp;refine hK.out _ _ ⟨p5,fun h=>absurd h (by decide)⟩ ?_;clear hK K;refine tk1 12 ?_;intro K hK;go_simp;refine hK.out _ _ ⟨p5,fun h=>absurd h (by decide)⟩ ?_;clear hK K;refine tk1 13 ?_;intro K hK;go_simp;refine hK.out _ _ ⟨(World.cell?_setCell_far _ _ _ _ (by simp)).trans p5,fun h=>absurd h (by decide)⟩ ?_;clear hK K;refine zAf (by kernel_rfl) ?_ _;have HD5:=hdq hD5;have HP5:Hid (LPBox (W5.setCell ⟨w.heap.size+1,1,none⟩ (.slice (some g5) (i+1) c5)) w ⟨j,⟨OA,On,Oc⟩,⟨RA,Rn,Rc⟩,⟨some ad,Bn,Bc⟩⟩):=(bP3.heap hlow).far4 (by omega) _;clear hD5 hD hown hown5 hg hg5 hnil5 hat5 d1 df p5 hblk hlow c1' cf p0 p1 p2 p3 p4 hsum al hS0;go_wp2;exact ⟨⟨i+1,by show i+1<=Rn; omega,by simp,HP5.out,_,_,_,_,_,sr++[_],qs,by simp [HSR.out],HQS.out,HD5.out⟩,by first | (simp [intOf]; done) | (simp [intOf]; omega)⟩
    ·(obtain rfl:i=Rn:=by omega);have hSR:=HSR.out;obtain ⟨c0,c1,c2,c3,c4,cf⟩:=hD.pt.cells;rcases hch with ⟨rfl,rfl⟩ | ⟨cb,cc,cl,rfl,rfl,hc1,hc2,hcl⟩
     ·obtain rfl:E=k:=by have:=HE.out; simp [Lin.given] at this; omega
      obtain ⟨x,hx,hPD⟩:=hD.done (D:=⟨fun i=>E+i,fun j=>j,rf,fun _=>cst0 os E⟩) hSR HQS.out (fun _ _=>rfl) (fun _ _=>rfl) (fun _ _ _ _=>rfl) (fun _ _=>rfl);have HPD:=hdq hPD;have HX:=hdq hx;have HBel:=hdq hD.pt.bel;have HGin:Hid (∀ y,G y->w.heap.size<=y):=fun y hy=>by have:=(hD.pt.gin y hy).1; omega
      clear hPD hx c0 c1 c2 c3 c4 cf hD hSR;go_wp2;go_ret;exact ⟨x,G,by rw [HX.out]; rfl,HPD.out,HBel.out,HGin.out⟩
     ·obtain rfl:E=k+1:=by have:=HE.out; simp [Lin.given] at this; omega
      have hown:=hD.pt.own 4 (by omega) (by omega);rw [show four va vb vc vd 4=vd from rfl,show ∀ (l:List Nat) (x:List Value),lists (iv l) (iv (List.range k)) x (qs.flatMap cells4q) 4=qs.flatMap cells4q from fun _ _=>rfl,show pft 4=30 from rfl,show pfw 4=4 from rfl,show ∀ x y z t:Nat,quad x y z t 4=t from fun _ _ _ _=>rfl] at hown;(go_wp2_with (at_builtin; refine wpList_append_own_at _ rfl _ _ 23 rfl (w+1) 30 k0 (.agg #[.bool false,.slice none 0 0,.bool false,.slice none 0 0]) 4 64 Tryz.underlying23 hk0 hx0 hx1 hx2 rfl (by decide) vd qs.length (qs.flatMap cells4q) rfl (hown.alloc _) ⟨wr,0,none⟩ 1 1 (cells4q QV.zero) rfl rfl (zA1 _ _) (by intro u hu; simp [cells4q] at hu; rcases hu with rfl | rfl | rfl | rfl <;> rfl) (by have:=HQS.out; simp [maxLen]; omega) (by have:=HQS.out; omega) (by simp; omega) ?_));intro v' W2 hown2 hg hnil hat;obtain ⟨g',c',rfl⟩:=ownsRow_succ hown2;have hblk:=hD.pt.app_blk (f:=4) (by omega) (by omega) hg hdl (.inr rfl);have hD2:=hD.addC (z:=QV.zero) (q:=0) (QCan.zero _ _) (by show cst0 os k qs.length=_; rw [HQS.out]; unfold cst0; rw [if_neg (by omega)]) hown2 hg (hat.imp id fun e=>by rw [e]; simp);have d2:W2.cell? ⟨w.heap.size+1,4,none⟩=some vd:=(cob (a:=⟨w.heap.size+1,4,none⟩) hblk).trans c4;have df:∀ o,W2.frozen? ⟨w.heap.size+1,o,none⟩=false:=(fun o=>(World.frozen?_of_block (a:=⟨w.heap.size+1,o,none⟩) hblk).trans (cf o));obtain ⟨x,hx,hPD⟩:=hD2.done (D:=⟨fun i=>k+i,fun j=>j,rf,fun _=>cst0 os k⟩) hSR (by simp [HQS.out]) (fun _ _=>rfl) (fun _ _=>rfl) (fun _ _ _ _=>rfl) (fun _ _=>rfl);have HPD:=hdq hPD;have HX:=hdq hx;have HBel:=hdq hD2.pt.bel;have HGin:Hid (∀ y,(G y\/(Value.slice (some g') (qs.length+1) c').ownBlock=some y)->w.heap.size<=y):=fun y hy=>by have:=(hD2.pt.gin y hy).1; omega
      clear hPD hx c0 c1 c2 c3 c4 cf hD hown hown2 hg hat hnil hblk hD2 hSR;go_wp2;go_ret;exact ⟨x,_,by rw [HX.out]; rfl,HPD.out,HBel.out,HGin.out⟩
def prob1 (V:Nat) (os rs:List (List Rat)) (bs:List Rat):Lin.Prob:=⟨V,rs.length,1,fun i k=>(rs.getD i []).getD k 0,fun i=>bs.getD i 0,fun _ k=>(os.getD 0 []).getD k 0⟩
theorem Good.entries {P:Lin.Prob} {D D':Lin.Dict} (G:Lin.Good P D) (hb:D'.basic=D.basic) (hf:D'.free=D.free) (ha:∀ i j,i<P.m->j<=P.n->D'.a i j=D.a i j) (hc:∀ l j,l<P.K->j<=P.n->D'.c l j=D.c l j):Lin.Good P D':=by
 have hv:∀ (r r':Nat->Rat) (x:Nat->Rat),(∀ j,j<=P.n->r' j=r j)->Lin.val P.n D'.free r' x=Lin.val P.n D.free r x:=fun r r' x h=>by
  rw [Lin.val,Lin.val,hf,h P.n (nlr _),Lin.zAh fun j hj=>by rw [h j (by omega)]]
 refine ⟨by rw [hb]; exact G.bLt,by rw [hf]; exact G.fLt,by rw [hb]; exact G.bInj,by rw [hf]; exact G.fInj,by rw [hb,hf]; exact G.apart,by rw [hb,hf]; exact G.all,fun x=>?_,fun x hx l hl=>?_⟩
 ·rw [G.rows];refine forall_congr' fun i=>forall_congr' fun hi=>?_
  rw [hb,hv _ _ x fun j hj=>ha i j hi hj]
 ·rw [G.costs x hx l hl,hv _ _ x fun j hj=>hc l j hl hj]
def dict0 (V:Nat) (os rs:List (List Rat)) (bs:List Rat) (ch:Option (Nat->Rat)):Lin.Dict:=⟨fun i=>V+i,fun j=>j,row0 rs bs (ch.getD fun _=>0) V,fun _=>cst0 os V⟩
theorem zCh (V:Nat) (os rs:List (List Rat)) (bs:List Rat) (ch:Option (Nat->Rat)):PInv (prob1 V os rs bs) ch (dict0 V os rs bs ch):=by
 refine ⟨Good.entries (prob1 V os rs bs).start_good rfl rfl (fun i j _ hj=>?_) (fun l j _ hj=>?_),fun c hc=>⟨fun i hi=>?_,?_⟩⟩
 ·have hj:j<=V:=hj;show row0 rs bs _ V i j=if j<V then (rs.getD i []).getD j 0 else bs.getD i 0
  unfold row0;by_cases h:j<V
  ·rw [if_pos h,if_pos h]
  ·rw [if_neg h,if_neg h,if_pos (by omega)]
 ·show cst0 os V j=if j<V then-((os.getD 0 []).getD j 0) else 0
  rfl
 ·subst hc;show row0 rs bs c V i (V+1)=Lin.bb V c (V+i)+Lin.sum V fun j=>row0 rs bs c V i j*Lin.bb V c j
  rw [Lin.zAC fun j hj=>by rw [Lin.bb,if_pos hj]; grind,Lin.bb,if_neg (by omega),show V+i-V=i by omega];unfold row0;rw [if_neg (by omega),if_neg (by omega)]; grind
 ·show cst0 os V (V+1)=Lin.sum V fun j=>cst0 os V j*Lin.bb V c j
  rw [Lin.zAC fun j hj=>by rw [Lin.bb,if_pos hj]; grind];unfold cst0; rw [if_neg (by omega)]
theorem zBE (h:LPIs w X Y L p os rs bs) (hE:E+1-V=Lin.given ch) (hc:∀ c,ch=some c->∀ i,Lin.Fits (32*(L+1)) (c i)) (D:Lin.Dict) (hD:PInv (prob1 V os rs bs) ch D) :
  PFits V rs.length E (5 ^ V*(32*(L+1))) D:=by
 have fo:∀ j,Lin.Fits (32*(L+1)) ((os.getD 0 []).getD j 0):=fun j=>zAR (MatAt.fit h.obj 0 j)
 have fr:∀ i j,Lin.Fits (32*(L+1)) ((rs.getD i []).getD j 0):=fun i j=>zAR (MatAt.fit h.rows i j)
 have fb:∀ i,Lin.Fits (32*(L+1)) (bs.getD i 0):=fun i=>zAR (VecAt.fit h.bounds i)
 have fc:∀ l j,Lin.Fits (32*(L+1)) ((prob1 V os rs bs).start.c l j):=fun l j=>by
  show Lin.Fits _ (if j<V then-(os.getD 0 []).getD j 0 else 0)
  split
  ·exact (fo j).neg
  ·exact Lin.Fits.zero _
 refine hD.fits (P:=prob1 V os rs bs) hE Nat.one_pos (by omega) ⟨fun i j _ _=>?_,fun l j _ _=>fc l j⟩ fun c hcc=>⟨fun i j _ _=>?_,fun l j _ _=>fc l j⟩
 ·show Lin.Fits _ (if j<V then (rs.getD i []).getD j 0 else bs.getD i 0)
  split
  ·exact fr i j
  ·exact fb i
 ·show Lin.Fits _ (if j<V then (rs.getD i []).getD j 0 else c i)
  split
  ·exact fr i j
  ·exact hc c hcc i
def PricesRet (w:World) (P:Lin.Prob) (e:Ending) (w':World):Prop:=
 (∃ (D:Lin.Dict) (y:SV),PInv P none D/\Ends P none D 1/\e = .returned (.tuple #[y.val,.int .i64 0])/\VecCan w' (New w) (New w) y ((List.range P.m).map (D.dual P)))\/
 (∃ D:Lin.Dict,PInv P none D/\Ends P none D 2/\e = .returned (.tuple #[.slice none 0 0,.int .i64 8]))\/∃ D:Lin.Dict,PInv P none D/\Ends P none D 3/\e = .returned (.tuple #[.slice none 0 0,.int .i64 9])
theorem Ends.cases {P:Lin.Prob} {D:Lin.Dict} (h:Ends P ch D k):k=1\/k=2\/k=3:=by
 rcases h with ⟨h,_⟩ | ⟨h,_⟩ | ⟨h,_⟩ <;> simp [h]
theorem zFw (h:LPIs w X Y L p os rs bs) (hV:p.n=V) (hV2:V<=64) (ho1:1<=p.O.n) (ho2:p.O.n<=4) (hr:p.R.n<=128) (hb:p.B.n=p.R.n) (hco:colsOf os<=V) (hcr:colsOf rs<=V) (hL:L+1<=LM)
  (hfit:∀ D,PInv (prob1 V os rs bs) none D->PFits V rs.length V kb D) (hk:2*kb+1<=LM) :
  Calls Tryz.prog 11 #[p.val] w fun e w'=>PricesRet w (prob1 V os rs bs) e w'/\Below w w w':=by
 have HKB:=hdq hk;have HL1:=hdq hL;have HFit:=hdq hfit;have HLen:Hid (rs.length=p.R.n):=h.rows.len;clear hk hL hfit;obtain ⟨n,O,R,⟨BA,Bn,Bc⟩⟩:=p;dsimp only at hV ho1 ho2 hr hb HLen;subst hV hb;go_enter Tryz.func11,Tryz.ntmps11
 go_wp2_with fail
 refine zAg (fun W=>Below w w W/\Box4 W w (.int .i64 V) (.slice O.A O.n O.c) (.slice R.A R.n R.c) (.slice BA R.n Bc)/\w.heap.size<W.heap.size) ⟨(az (brf _ _)),bx4,by simp <;> omega⟩ ?_;rintro W ⟨hbW,bP,s0⟩;have hBW:=hbW.size;refine (zBv (h.below hbW) rfl (by omega) ho1 ho2 hr rfl hco hcr).mono ?_; rintro e w1 ⟨rfl,hb1⟩
 have hb01:=hbW.trans (hb1.mono hBW);obtain ⟨p0,p1,p2,p3,p4⟩:=bP.below hb1 s0;go_wp2_with fail
 refine (zBV (p:=⟨V,O,R,⟨BA,R.n,Bc⟩⟩) (ch:=none) (chv:=.slice none 0 0) (E:=V) (h.below hb01) rfl (by omega) ho1 ho2 rfl hr rfl HL1.out (.inl ⟨rfl,rfl⟩) (by simp [Lin.given]) (nlr _)).mono ?_;rintro e w2 ⟨x,G,rfl,hD,hb2,hG⟩;have hGw:∀ y,G y->w.heap.size<=y:=fun y hy=>nlt hb01.size (hG y hy)
 have hb02:=hb01.trans (hb2.mono hb01.size);go_wp2_with fail
 refine (zBy (P:=prob1 V os rs bs) (ch:=none) hD rfl HLen.out Nat.one_pos (zCh V os rs bs none) (nlr _) (by omega) (by omega) (by simp [Lin.given]) (by rw [<-HLen.out]; exact HFit.out) HKB.out).mono ?_;rintro e w3 ⟨D',k,rfl,hD3,hI,hF3,hE⟩;have hb03:=hb02.trans (hF3.below hb02.size hGw);go_wp2_with fail
 refine (zB5 k hE.cases).mono ?_; rintro e w4 ⟨rfl,hb4⟩
 have hb04:=hb03.trans (hb4.mono hb03.size);have hD4:=hD3.call hb4;have HI:=hdq hI;have HE:=hdq hE;clear hb1 hb2 hF3 hb4 hD hD3 hG hE hI p0 p1 p2 p3 p4 bP hbW hBW s0;rcases HE.out.cases with rfl | rfl | rfl
 ·have hfit:=HFit.out D' HI.out;have hg:=HI.out.1;go_wp2_with fail
  refine (zCp hD4 (fun i j hi hj=>hg.fInj i j hi hj) (fun j hj=>by have:=hg.fLt j hj; rw [<-HLen.out]; exact this) (nlr _) (by omega) (by omega) hfit.c HKB.out).mono ?_;rintro e w5 ⟨⟨y,rfl,hy⟩,hb5⟩;have hb05:=hb04.trans (hb5.mono hb04.size)
  have HY:Hid (VecCan w5 (New w) (New w) y ((List.range (prob1 V os rs bs).m).map (D'.dual (prob1 V os rs bs)))):=by
   have e:(List.range (prob1 V os rs bs).m).map (D'.dual (prob1 V os rs bs))=(List.range R.n).map (dl D' V V):=by
    rw [show (prob1 V os rs bs).m=R.n from HLen.out];exact List.map_congr_left fun i _=>(zGq hg i).symm
   rw [e];exact hy.imp (fun b _ hb=>nlt hb04.size hb) fun v q hq=>hq.lower hb04.size
  have HB:=hdq hb05;clear hy hb5 hb05 hb04 hD4 hfit hg;go_wp2;exact bodyPost_ret (v:=.tuple #[y.val,.int .i64 0]) (by simp [results,Tryz.results11,go_sem]) rfl ⟨.inl ⟨D',y,HI.out,HE.out,rfl,HY.out⟩,HB.out⟩
 ·have HB:=hdq hb04;clear hb04 hD4;go_wp2;try rw [Exit.noGoto_ret]
  exact bodyPost_ret (v:=.tuple #[.slice none 0 0,.int .i64 8]) (by simp [results,Tryz.results11,go_sem]) rfl ⟨.inr (.inl ⟨D',HI.out,HE.out,rfl⟩),HB.out⟩
 ·have HB:=hdq hb04;clear hb04 hD4;go_wp2;try rw [Exit.noGoto_ret]
  exact bodyPost_ret (v:=.tuple #[.slice none 0 0,.int .i64 9]) (by simp [results,Tryz.results11,go_sem]) rfl ⟨.inr (.inr ⟨D',HI.out,HE.out,rfl⟩),HB.out⟩
theorem zDZ (hV:V<=8) (hL:L<=100):2*(5 ^ V*(32*(L+1)))+1<=LM:=by
 have h5:5 ^ V<=390625:=nlt (Nat.pow_le_pow_right (by omega) hV) (by decide);have h6:5 ^ V*(32*(L+1))<=390625*(32*101):=Nat.mul_le_mul h5 (by omega);rw [zAZ]; omega
theorem zDb (h:LPIs w X Y L p os rs bs) (hV:p.n=V) (hV2:V<=8) (ho1:1<=p.O.n) (ho2:p.O.n<=4) (hr:p.R.n<=128) (hb:p.B.n=p.R.n) (hco:colsOf os<=V) (hcr:colsOf rs<=V) (hL:L<=100) :
  Calls Tryz.prog 11 #[p.val] w fun e w'=>PricesRet w (prob1 V os rs bs) e w'/\Below w w w':=
 zFw (kb:=5 ^ V*(32*(L+1))) h hV (by omega) ho1 ho2 hr hb hco hcr (by rw [zAZ]; omega) (fun D hD=>zBE h (by simp [Lin.given]) (fun c hc=>by cases hc) D hD) (zDZ hV2 hL)
def OptimumRet (w:World) (P:Lin.Prob) (e:Ending) (w':World):Prop:=
 (∃ (D:Lin.Dict) (z:QV),PInv P none D/\Ends P none D 1/\e = .returned (.tuple #[z.val,.int .i64 0])/\QCan w' (New w) z (D.c 0 P.n))\/
 (∃ D:Lin.Dict,PInv P none D/\Ends P none D 2/\e = .returned (.tuple #[.agg #[.bool false,.slice none 0 0,.bool false,.slice none 0 0],.int .i64 8]))\/
 ∃ D:Lin.Dict,PInv P none D/\Ends P none D 3/\e = .returned (.tuple #[.agg #[.bool false,.slice none 0 0,.bool false,.slice none 0 0],.int .i64 9])
theorem zEH (h:LPIs w X Y L p os rs bs) (hV:p.n=V) (hV2:V<=64) (ho1:1<=p.O.n) (ho2:p.O.n<=4) (hr:p.R.n<=128) (hb:p.B.n=p.R.n) (hco:colsOf os<=V) (hcr:colsOf rs<=V) (hL:L+1<=LM)
  (hfit:∀ D,PInv (prob1 V os rs bs) none D->PFits V rs.length V kb D) (hk:2*kb+1<=LM) :
  Calls Tryz.prog 53 #[p.val] w fun e w'=>OptimumRet w (prob1 V os rs bs) e w'/\Below w w w':=by
 have HKB:=hdq hk;have HL1:=hdq hL;have HFit:=hdq hfit;have HLen:Hid (rs.length=p.R.n):=h.rows.len;clear hk hL hfit;obtain ⟨n,O,R,⟨BA,Bn,Bc⟩⟩:=p;dsimp only at hV ho1 ho2 hr hb HLen;subst hV hb;go_enter Tryz.func53,Tryz.ntmps53
 go_wp2_with fail
 refine zAg (fun W=>Below w w W/\Box4 W w (.int .i64 V) (.slice O.A O.n O.c) (.slice R.A R.n R.c) (.slice BA R.n Bc)/\Box4 W (w+1) (.bool false) (.slice none 0 0) (.bool false) (.slice none 0 0)/\w.heap.size<W.heap.size/\w.heap.size+1<W.heap.size) ⟨(az (az (brf _ _))),bx4,bx4,by simp <;> omega,by simp <;> omega⟩ ?_;rintro W ⟨hbW,bP,bR,s0,s1⟩;have hBW:=hbW.size;refine (zBv (h.below hbW) rfl (by omega) ho1 ho2 hr rfl hco hcr).mono ?_; rintro e w1 ⟨rfl,hb1⟩
 have hb01:=hbW.trans (hb1.mono hBW);obtain ⟨p0,p1,p2,p3,p4⟩:=bP.below hb1 s0;have bR1:=bR.below hb1 s1;have s11:w.heap.size+1<w1.heap.size:=ltl s1 hb1.size;go_wp2_with fail
 refine (zBV (p:=⟨V,O,R,⟨BA,R.n,Bc⟩⟩) (ch:=none) (chv:=.slice none 0 0) (E:=V) (h.below hb01) rfl (by omega) ho1 ho2 rfl hr rfl HL1.out (.inl ⟨rfl,rfl⟩) (by simp [Lin.given]) (nlr _)).mono ?_;rintro e w2 ⟨x,G,rfl,hD,hb2,hG⟩;have hGw:∀ y,G y->w.heap.size<=y:=fun y hy=>nlt hb01.size (hG y hy)
 have hb02:=hb01.trans (hb2.mono hb01.size);have bR2:=bR1.below hb2 s11;have s12:=ltl s11 hb2.size;go_wp2_with fail
 refine (zBy (P:=prob1 V os rs bs) (ch:=none) hD rfl HLen.out Nat.one_pos (zCh V os rs bs none) (nlr _) (by omega) (by omega) (by simp [Lin.given]) (by rw [<-HLen.out]; exact HFit.out) HKB.out).mono ?_;rintro e w3 ⟨D',k,rfl,hD3,hI,hF3,hE⟩;have hG1:¬ G (w+1):=fun hg=>by have:=hG _ hg; omega
 have bR3:=bR2.heap (hF3.block _ s12 hG1);have s13:=ltl s12 hF3.size;have hb03:=hb02.trans (hF3.below hb02.size hGw);go_wp2_with fail
 refine (zB5 k hE.cases).mono ?_; rintro e w4 ⟨rfl,hb4⟩
 have hb04:=hb03.trans (hb4.mono hb03.size);have hD4:=hD3.call hb4;have bR4:=bR3.below hb4 s13;have s14:=ltl s13 hb4.size;have HI:=hdq hI;have HE:=hdq hE;clear hb1 hb2 hF3 hb4 hD hD3 hG hE hI p0 p1 p2 p3 p4 bP hbW hBW s0 bR bR1 bR2 bR3 s1 s11 s12 s13 hG1;rcases HE.out.cases with rfl | rfl | rfl
 ·have hfit:=HFit.out D' HI.out;have hg:=HI.out.1;go_wp2_with fail
  refine (zGN hD4 (nlr _) (by omega) hfit.c HKB.out).mono ?_;rintro e w5 ⟨⟨z,rfl,hz⟩,hb5⟩;have hb05:=hb04.trans (hb5.mono hb04.size);have bR5:=bR4.below hb5 s14;obtain ⟨v0,v1,v2,v3,-⟩:=bR5.stored (.bool z.num.ng) (.slice z.num.A z.num.n z.num.c) (.bool z.den.ng) (.slice z.den.A z.den.n z.den.c);have hbf:=zAl (x0:=.bool z.num.ng) (x1:=.slice z.num.A z.num.n z.num.c) (x2:=.bool z.den.ng) (x3:=.slice z.den.A z.den.n z.den.c) (b:=w+1) hb05 (by omega);have HZ:=hdq ((hz.set4 (b:=w+1) (x0:=.bool z.num.ng) (x1:=.slice z.num.A z.num.n z.num.c) (x2:=.bool z.den.ng) (x3:=.slice z.den.A z.den.n z.den.c) s14).lower hb04.size);have HB:=hdq hbf;clear hbf hb5 hb05 hb04 hD4 hfit hg hz bR4;go_wp2;exact bodyPost_ret (v:=.tuple #[z.val,.int .i64 0]) (by simp [results,Tryz.results53,go_sem,v0,v1,v2,v3]) rfl ⟨.inl ⟨D',z,HI.out,HE.out,rfl,HZ.out⟩,HB.out⟩
 ·obtain ⟨v0,v1,v2,v3,-⟩:=bR4.stored (.bool false) (.slice none 0 0) (.bool false) (.slice none 0 0);have HB:=hdq (zAl (x0:=.bool false) (x1:=.slice none 0 0) (x2:=.bool false) (x3:=.slice none 0 0) (b:=w+1) hb04 (by omega));clear hb04 hD4;go_wp2;try rw [Exit.noGoto_ret]
  exact bodyPost_ret (v:=.tuple #[.agg #[.bool false,.slice none 0 0,.bool false,.slice none 0 0],.int .i64 8]) (by simp [results,Tryz.results53,go_sem,v0,v1,v2,v3]) rfl ⟨.inr (.inl ⟨D',HI.out,HE.out,rfl⟩),HB.out⟩
 ·obtain ⟨v0,v1,v2,v3,-⟩:=bR4.stored (.bool false) (.slice none 0 0) (.bool false) (.slice none 0 0);have HB:=hdq (zAl (x0:=.bool false) (x1:=.slice none 0 0) (x2:=.bool false) (x3:=.slice none 0 0) (b:=w+1) hb04 (by omega));clear hb04 hD4;go_wp2;try rw [Exit.noGoto_ret]
  exact bodyPost_ret (v:=.tuple #[.agg #[.bool false,.slice none 0 0,.bool false,.slice none 0 0],.int .i64 9]) (by simp [results,Tryz.results53,go_sem,v0,v1,v2,v3]) rfl ⟨.inr (.inr ⟨D',HI.out,HE.out,rfl⟩),HB.out⟩
theorem zBd (h:LPIs w X Y L p os rs bs) (hV:p.n=V) (hV2:V<=8) (ho1:1<=p.O.n) (ho2:p.O.n<=4) (hr:p.R.n<=128) (hb:p.B.n=p.R.n) (hco:colsOf os<=V) (hcr:colsOf rs<=V) (hL:L<=100) :
  Calls Tryz.prog 53 #[p.val] w fun e w'=>OptimumRet w (prob1 V os rs bs) e w'/\Below w w w':=
 zEH (kb:=5 ^ V*(32*(L+1))) h hV (by omega) ho1 ho2 hr hb hco hcr (by rw [zAZ]; omega) (fun D hD=>zBE h (by simp [Lin.given]) (fun c hc=>by cases hc) D hD) (zDZ hV2 hL)
end Go.Proofs.YtbpngececjihlaaGreat
