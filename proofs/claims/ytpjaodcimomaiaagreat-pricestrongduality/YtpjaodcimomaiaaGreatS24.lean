/- Texts Solved AliveM Alive2 Alive3 Scal1 Scal2 ScalB ScalC Dot MulVec LP1 LP2 LP3 PrD PrE PrF PrG of this claim. -/
import Derived.Test.YtpjaodcimomaiaaGreatS23
import Derived.Test.YtpjaodcimomaiaaGreatS21
set_option maxHeartbeats 4000000
set_option maxRecDepth 100000
namespace Go.Proofs.YtpjaodcimomaiaaGreat
variable {q:Rat} {L V B b k M K n m c kb:Nat} {s sa sb:SV} {X Y Z X' Y':Nat->Prop} {w w' W W' W2:World} {bs la lb:List Rat} {os rs:List (List Rat)} {p:LPV} {z:Int} {P:Lin.Prob} {f:Nat->Rat} {A:Option Addr}
namespace Lin
theorem Prob.Feasible.congr {P:Prob} {x y:Nat->Rat} (h:P.Feasible x) (e:∀ k,k<P.n->x k=y k):P.Feasible y:=
 ⟨fun k hk=>by rw [<-e k hk]; exact h.1 k hk,fun i hi=>by rw [zAh (g:=fun k=>P.A i k*x k) fun k hk=>by rw [e k hk]]; exact h.2 i hi⟩
theorem Prob.Better.congr {P:Prob} {x x' y y':Nat->Rat} (h:P.Better x y) (e:∀ k,k<P.n->x k=x' k) (e':∀ k,k<P.n->y k=y' k):P.Better x' y':=
 LexPos.congr h fun l hl=>by rw [zCo e hl,zCo e' hl]
theorem Prob.Optimal.congr {P:Prob} {x y:Nat->Rat} (h:P.Optimal x) (e:∀ k,k<P.n->x k=y k):P.Optimal y:=
 ⟨h.1.congr e,fun z hz=>(h.2 z hz).elim (fun hb=>.inl (hb.congr e fun _ _=>rfl)) fun hs=>.inr fun k hk=>by rw [hs k hk,e k hk]⟩
theorem Prob.Unbounded.congr {P:Prob} {x y d d':Nat->Rat} (h:P.Unbounded x d) (e:∀ k,k<P.n->x k=y k) (e':∀ k,k<P.n->d k=d' k):P.Unbounded y d':=
 ⟨h.1.congr e,fun k hk=>by rw [<-e' k hk]; exact h.2.1 k hk,fun i hi=>by rw [zAh (g:=fun k=>P.A i k*d k) fun k hk=>by rw [e' k hk]]; exact h.2.2.1 i hi,LexPos.congr h.2.2.2 fun l _=>zAh fun k hk=>by rw [e' k hk]⟩
end Lin
open Go.RowKit Go.Shelf
theorem zAR (h:QFit L q):Lin.Fits (32*L) q:=by
 have e:Num.base ^ L=2 ^ (32*L):=by rw [Nat.pow_mul]; rfl
 exact ⟨by rw [<-e]; exact Nat.le_of_lt h.1,by rw [<-e]; exact Nat.le_of_lt h.2⟩
theorem VecAt.fit {l:List Rat} (h:VecIs w X Y L s l) (k:Nat):QFit (L+1) (l.getD k 0):=by
 by_cases hk:k<s.n
 ·obtain ⟨_,v,_,_,_,hq⟩:=h.elem k hk;exact hq.fit
 ·rw [zAw _ _ _ (by rw [h.len]; omega)]; exact QFit.zero L
def Solved (w:World) (P:Lin.Prob) (r:RV) (w':World):Prop:=
 (r.kind=1/\∃ (D:Lin.Dict) (l:List Rat),Lin.Good P D/\Lin.Feas P D/\(∀ j,j<P.n->¬ CandP P D j)/\l.length=P.n/\P.Optimal (fun k=>l.getD k 0)/\VecCan w' (New w) (New w) r.X l/\MatCan w' (New w) (New w) r.Y ((List.range P.m).map fun i=>(List.range (P.K+P.n)).map (priceTo D P.n P.m P.K P.n i)))\/
 (r.kind=2/\∃ (D:Lin.Dict) (k:Nat),Lin.Good P D/\k<P.m/\D.a k P.n<0/\(∀ j,j<P.n->0<=D.a k j)/\(∀ x,¬ P.Feasible x)/\VecCan w' (New w) (New w) r.F ((List.range P.m).map (farkasOf D P.n k)))\/
 (r.kind=3/\∃ l l':List Rat,l.length=P.n/\l'.length=P.n/\P.Unbounded (fun k=>l.getD k 0) (fun k=>l'.getD k 0)/\VecCan w' (New w) (New w) r.X l/\VecCan w' (New w) (New w) r.R l'/\∃ (D:Lin.Dict) (s:Nat),Lin.Good P D/\s<P.n/\l=(List.range P.n).map (D.point P)/\l'=(List.range P.n).map (D.dir P s))
theorem zPK {P:Lin.Prob} {e:Ending} (h:SolveRet w P e w'):∃ r:RV,e = .returned (.tuple #[r.val,.int .i64 0])/\Solved w P r w':=by
 obtain ⟨r,he,hr⟩:=h;refine ⟨r,he,?_⟩;rcases hr with ⟨hk,D,l,hg,hf,ho,rfl,hx,hy,_,_⟩ | ⟨hk,D,k,l,hg,h1,h2,h3,rfl,hF,_,_,_⟩ | ⟨hk,D,s,l,l',hg,hf,hs,hc,hn,rfl,rfl,hx,hr,_,_⟩
 ·exact .inl ⟨hk,D,_,hg,hf,ho,by simp,(Lin.zPC hg hf ho).congr fun k hk=>by rw [zAS _ _ hk],hx,hy⟩
 ·exact .inr (.inl ⟨hk,D,k,hg,h1,h2,h3,fun x=>Lin.zB6 hg h1 h2 h3 x,hF⟩)
 ·exact .inr (.inr ⟨hk,_,_,by simp,by simp,(Lin.zLG hg hf hs hc (fun i hi=>by have:=hn i hi; grind)).congr (fun k hk=>by rw [zAS _ _ hk]) fun k hk=>by rw [zAS _ _ hk],hx,hr,D,s,hg,hs,rfl,rfl⟩)
theorem zPN (h:LPIs w X Y L p os rs bs) (hV:p.n=V) (hV2:V<=8) (ho1:1<=p.O.n) (ho2:p.O.n<=4) (hr:p.R.n<=128) (hb:p.B.n=p.R.n) (hco:colsOf os<=V) (hcr:colsOf rs<=V) (hL:L<=100) :
  Calls Tryz.prog 51 #[p.val] w fun e w'=>(∃ r:RV,e = .returned (.tuple #[r.val,.int .i64 0])/\Solved w (probOf V os rs bs) r w')/\Below w w w':=by
 have h5:5 ^ V<=390625:=nlt (Nat.pow_le_pow_right (by omega) hV2) (by decide);have h6:5 ^ V*(32*(L+1))<=390625*(32*101):=Nat.mul_le_mul h5 (by omega);refine (zPz (kb:=5 ^ V*(32*(L+1))) h hV (by omega) ho1 ho2 hr hb hco hcr (by rw [zAZ]; omega) (fun D hD=>?_) (by rw [zAZ]; omega)).mono ?_
 ·refine hD.fits (by omega) ⟨fun i j hi hj=>?_,fun l j hl hj=>?_⟩
  ·show Lin.Fits _ (if j<V then (rs.getD i []).getD j 0 else bs.getD i 0)
   split
   ·exact zAR (h.rows.fit i j)
   ·exact zAR (h.bounds.fit i)
  ·show Lin.Fits _ (if j<V then-(os.getD l []).getD j 0 else 0)
   split
   ·exact (zAR (h.obj.fit l j)).neg
   ·exact Lin.Fits.zero _
 ·rintro e w' ⟨hs,hb⟩;exact ⟨zPK hs,hb⟩
open Lin
theorem sum1 (f:Nat->Rat):Lin.sum 1 f=f 0:=by simp [Lin.sum]; grind
theorem sum2 (f:Nat->Rat):Lin.sum 2 f=f 0+f 1:=by simp [Lin.sum]; grind
section
variable {w w':World} {P:Lin.Prob} {r:RV}
end
theorem LRet.lpis (ho:MatCan w' (New B) (New B) p.O os) (hr:MatCan w' (New B) (New B) p.R rs) (hb:VecCan w' (New B) (New B) p.B bs)
  (fo:∀ i k,QFit L ((os.getD i []).getD k 0)) (fr:∀ i k,QFit L ((rs.getD i []).getD k 0)) (fb:∀ k,QFit L (bs.getD k 0)):LPIs w' (New B) (New B) L p os rs bs:=
 ⟨⟨ho.len,ho.le,ho.cap,fun i hi=>by
   obtain ⟨ad,r,e,hx,hc,hv⟩:=ho.row i hi
   exact ⟨ad,r,e,hx,hc,hv.len,hv.le,hv.cap,fun k hk=>by
    obtain ⟨ad',v,e',hx',hc',hq⟩:=hv.elem k hk;exact ⟨ad',v,e',hx',hc',hq.qis (fo i k)⟩⟩⟩,
  ⟨hr.len,hr.le,hr.cap,fun i hi=>by
   obtain ⟨ad,r,e,hx,hc,hv⟩:=hr.row i hi
   exact ⟨ad,r,e,hx,hc,hv.len,hv.le,hv.cap,fun k hk=>by
    obtain ⟨ad',v,e',hx',hc',hq⟩:=hv.elem k hk;exact ⟨ad',v,e',hx',hc',hq.qis (fr i k)⟩⟩⟩,
  ⟨hb.len,hb.le,hb.cap,fun k hk=>by
   obtain ⟨ad',v,e',hx',hc',hq⟩:=hb.elem k hk;exact ⟨ad',v,e',hx',hc',hq.qis (fb k)⟩⟩⟩
theorem zHJ (h:z.natAbs<1000):QFit 1 (z:Rat):=by
 have e:Num.base ^ 1=4294967296:=by decide
 exact ⟨by rw [e]; simp; omega,by rw [e]; simp⟩
theorem zCZ {l:List Int} (h:∀ z ∈ l,z.natAbs<1000) (k:Nat):QFit 1 ((rats l).getD k 0):=by
 unfold rats;rw [gdd,List.getElem?_map]
 cases e:l[k]? with
 | none=>exact QFit.zero 0
 | some z=>exact zHJ (h z (List.mem_of_getElem? e))
theorem zDn {m:List (List Int)} (h:∀ l ∈ m,∀ z ∈ l,z.natAbs<1000) (i k:Nat):QFit 1 (((m.map rats).getD i []).getD k 0):=by
 have e:(m.map rats).getD i []=rats (m.getD i []):=by
  simp only [gdd,List.getElem?_map];cases m[i]? <;> rfl
 rw [e];refine zCZ (fun z hz=>?_) k;by_cases hi:i<m.length
 ·refine h _ (List.getElem_mem hi) z ?_;simpa [gdd,hi] using hz
 ·rw [zAw _ _ _ (by omega)] at hz; cases hz
abbrev rcells (k:Int) (r:RV):Array Value:=#[.int .u8 k,.slice r.X.A r.X.n r.X.c,.slice r.Y.A r.Y.n r.Y.c,.slice r.R.A r.R.n r.R.c,.slice r.F.A r.F.n r.F.c,.int .i64 r.pv]
abbrev RBox (W:World) (b:Nat) (k:Int) (r:RV):Prop:=W.heap[b]?=some (.cells (rcells k r) 80 (0,0))
theorem zQt {k:Int} {r:RV} (h:RBox w b k r):w.cell? b=some (.int .u8 k)/\w.cell? ⟨b,1,none⟩=some (.slice r.X.A r.X.n r.X.c)/\w.cell? ⟨b,4,none⟩=some (.slice r.F.A r.F.n r.F.c):=by
 simp only [World.cell?,h]; exact ⟨rfl,rfl,rfl⟩
theorem VecAt.loose {l:List Rat} (h:VecCan w X Y s l) (f:∀ k,QFit L (l.getD k 0)):VecIs w X Y L s l:=
 ⟨h.len,h.le,h.cap,fun k hk=>by
  obtain ⟨ad',v,e',hx',hc',hq⟩:=h.elem k hk;exact ⟨ad',v,e',hx',hc',hq.qis (f k)⟩⟩
namespace Lin
end Lin
open Lin
open Go.RowKit
section
variable {w W W':World} {d:Nat} {n:Int} {va vb vc:Value} {al:Nat->List Value} {cnt:Nat->Nat} {G:Nat->Prop}
end
theorem fits_one:Lin.Fits 1 ((1:Int):Rat):=Lin.Fits.ofInt (by decide)
structure Put (W W':World) (b:Nat):Prop where
 size:W'=(W:Nat)
 keep:∀ c,c ≠ b->W'.heap[c]?=W.heap[c]?
 below:∀ B,B<=b->Below B W W'
theorem Put.one (b o:Nat) (x:Value):Put W (W.setCell ⟨b,o,none⟩ x) b:=
 ⟨by simp [World.setCell],fun c hc=>bhs _ _ _ _ hc,fun B hB=>(brf _ _).setCell (p:=⟨b,o,none⟩) hB _⟩
theorem Put.trans (h:Put W W' b) (k:Put W' W2 b):Put W W2 b:=
 ⟨k.size.trans h.size,fun c hc=>(k.keep c hc).trans (h.keep c hc),fun B hB=>(h.below B hB).trans (k.below B hB)⟩
theorem Put.four (b:Nat) (x0 x1 x2 x3:Value):Put W ((((W.setCell b x0).setCell ⟨b,1,none⟩ x1).setCell ⟨b,2,none⟩ x2).setCell ⟨b,3,none⟩ x3) b:=
 (((Put.one _ _ _).trans (Put.one _ _ _)).trans (Put.one _ _ _)).trans (Put.one _ _ _)
theorem Put.qcan (h:Put W W' b) (hb:b<B) {v:QV} (hq:QCan W (New B) v q):QCan W' (New B) v q:=
 hq.keep fun a ha _=>cob (h.keep _ (by simp only [New] at ha; omega))
theorem zHY (h:Short6 w AllB AllB p os rs bs) (h2:mayB p os rs=true->p.n<=4/\p.R.n<=4) (hm:mayB p os rs=true) :
  0<=p.n/\p.n<=4/\1<=p.O.n/\p.O.n<=4/\p.R.n<=4/\p.B.n=p.R.n/\(colsOf os:Int)<=p.n/\(colsOf rs:Int)<=p.n/\LPIs w AllB AllB 6 p os rs bs:=by
 obtain ⟨a1,a2⟩:=h2 hm;simp only [mayB,decide_eq_true_eq] at hm;obtain ⟨b1,b2,b3,b4,b5,b6,b7,b8⟩:=hm;exact ⟨b1,a1,b3,b4,a2,b6,b7,b8,h.1,h.2.1 (by omega),h.2.2 (by omega)⟩
theorem zBn (h:Lin.Fits k q) (hk:k<32*L):QFit L q:=by
 have e:Num.base ^ L=2 ^ (32*L):=by rw [Nat.pow_mul]; rfl
 have h2:2 ^ k<2 ^ (32*L):=Nat.pow_lt_pow_right (by omega) hk;exact ⟨by rw [e]; exact Nat.lt_of_le_of_lt h.1 h2,by rw [e]; exact Nat.lt_of_le_of_lt h.2 h2⟩
section
variable {w W W1 W2:World} {p:LPV} {jv kv:QV} {jq kq:Rat} {d:Nat} {os rs:List (List Rat)} {bs:List Rat} {va vb vc v':Value} {G:Nat->Prop} {s1 s2:List SV} {s3:List QV} {o:Obj}
end
open Go.RowKit Go.Shelf Lin
theorem zQF (h:LPIs w X Y L p os rs bs):(probOf V os rs bs).start.Fits (probOf V os rs bs) (32*(L+1)):=by
 refine ⟨fun i j hi hj=>?_,fun l j hl hj=>?_⟩
 ·show Lin.Fits _ (if j<V then (rs.getD i []).getD j 0 else bs.getD i 0)
  split
  ·exact zAR (h.rows.fit i j)
  ·exact zAR (h.bounds.fit i)
 ·show Lin.Fits _ (if j<V then-(os.getD l []).getD j 0 else 0)
  split
  ·exact (zAR (h.obj.fit l j)).neg
  ·exact Lin.Fits.zero _
theorem zPY {D:Dict} (h:D.Fits P k) (v:Nat):Lin.Fits k (D.point P v):=by
 unfold Dict.point
 split
 ·rename_i hf; exact h.1 _ _ hf (nlr _)
 ·exact Lin.Fits.zero _
theorem zP9 {r:RV} (h:Solved w P r w') (hk:r.kind=1) (h1:1<=k) (h0:P.start.Fits P k) {l:List Rat} (hl:l.length=P.n) (ho:P.Optimal fun k=>l.getD k 0) (v:Nat):Lin.Fits (5 ^ P.n*k) (l.getD v 0):=by
 rcases h with ⟨_,D,l',hg,hf,hc,hl',hopt,hx,_⟩ | ⟨hk',_⟩ | ⟨hk',_⟩
 ·by_cases hv:v<P.n
  ·have e:=ho.unique (zPC hg hf hc) hv;rw [e];exact zPY (hg.fits h1 h0) v
  ·rw [zAw _ _ _ (by omega)]; exact Lin.Fits.zero _
 ·rw [hk] at hk'; cases hk'
 ·rw [hk] at hk'; cases hk'
theorem zBT (h:colsOf rs<=V) (c:Nat):(rs.getD c []).length<=V:=by
 by_cases hi:c<rs.length
 ·exact zAU.1 h _ (by simp [hi])
 ·rw [zAw rs _ _ (by omega)]; simp
attribute [local go_sem] Oper.semAt_some
theorem zBX :qsign q=0 ↔ q=0:=by
 unfold qsign; grind
abbrev QBlk (W:World) (b:Nat) (v:QV):Prop:=W.heap[b]?=some (.cells #[.bool v.num.ng,.slice v.num.A v.num.n v.num.c,.bool v.den.ng,.slice v.den.A v.den.n v.den.c] 37 (0,0))
theorem zAA {v:QV} (h:QBlk W b v):Box4 W b (.bool v.num.ng) (.slice v.num.A v.num.n v.num.c) (.bool v.den.ng) (.slice v.den.A v.den.n v.den.c):=by
 refine ⟨?_,?_,?_,?_,fun o=>?_⟩ <;> simp [World.cell?,World.frozen?,h]
theorem zHh {v t:QV} (h:QBlk W b v):QBlk ((((W.setCell b (.bool t.num.ng)).setCell ⟨b,1,none⟩ (.slice t.num.A t.num.n t.num.c)).setCell ⟨b,2,none⟩ (.bool t.den.ng)).setCell ⟨b,3,none⟩ (.slice t.den.A t.den.n t.den.c)) b t:=by
 unfold QBlk;rw [zAe _ (zAe _ (zAe _ (zAe _ h)))];simp
def DotPost (w:World) (S:Nat) (Z:Nat->Prop) (t:Rat) (e:Ending) (w':World):Prop:=
 e = .returned (.tuple #[])/\∃ s2:QV,QBlk w' S s2/\QCan w' (fun b=>Z b\/w.heap.size<=b) s2 t/\Fr (fun b=>b=S) w w'
theorem zHt {S:Nat} {x y s:QV} {p r:Rat} (hx:QIs w X L x p) (hy:QIs w Y M y q) (hs:QCan w Z s r) (hS0:QBlk w S s) (hL:L<=LM) (hM:M<=LM) (hK:K<=LM) (hr:QFit K r) (hp:QFit K (p*q)) :
  Calls Tryz.prog 82 #[x.val,y.val,.pointer (some S)] w fun e w'=>DotPost w S Z (r+p*q) e w':=by
 have HX:=hdq hx;have HY:=hdq hy;have HS:=hdq hs;have hSl:=zAa hS0;have hS:=zAA hS0;have HB:=hdq hS0;clear hS0;have HL:=hdq hL;have HM:=hdq hM;have HK:=hdq hK;have HR:=hdq hr;have HP:=hdq hp;clear hx hy hs hL hM hK hr hp;go_enter Tryz.func82,Tryz.ntmps82
 go_upto_region 1 with fail
 refine zAo (fun W=>Below w w W/\Box4 W w (.bool x.num.ng) (.slice x.num.A x.num.n x.num.c) (.bool x.den.ng) (.slice x.den.A x.den.n x.den.c)/\Box4 W (w+1) (.bool y.num.ng) (.slice y.num.A y.num.n y.num.c) (.bool y.den.ng) (.slice y.den.A y.den.n y.den.c)/\w<(W:Nat)/\w+1<(W:Nat)) ⟨(az (az (brf _ _))),bx4,bx4,by simp <;> omega,by simp <;> omega⟩ ?_;rintro W ⟨hbW,bX,bY,s0,s1⟩;have hBW:=hbW.size;obtain ⟨x0,x1,x2,x3,-⟩:=id bX;obtain ⟨y0,y1,y2,y3,-⟩:=id bY;go_wp2_with fail
 refine (zAn (v:=x) (HX.out.below hbW)).mono ?_;rintro e w1 ⟨rfl,hb1⟩;have bS:=hS.below hbW hSl;have sS:=ltl hSl hbW.size;clear hS hBW;replace bX:=bX.below hb1 s0;replace bY:=bY.below hb1 s1;replace bS:=bS.below hb1 sS;replace s0:=ltl s0 hb1.size;replace s1:=ltl s1 hb1.size;replace sS:=ltl sS hb1.size;replace hbW:=hbW.trans (hb1.mono hbW.size);clear x0 x1 x2 x3 y0 y1 y2 y3;obtain ⟨x0,x1,x2,x3,-⟩:=id bX;obtain ⟨y0,y1,y2,y3,-⟩:=id bY;by_cases hp0:p=0
 ·have e0:qsign p=0:=zBX.2 hp0;have Hz:Hid (p*q=0):=by show p*q=0; rw [hp0,Rat.zero_mul]
  rw [e0];clear e0 hp0;go_wp2;go_end0;refine ⟨rfl,s,(hbW.block _ hSl).trans HB.out,?_,Fr.of_below hbW⟩;rw [Hz.out,Rat.add_zero];exact (HS.out.below hbW).imp fun b _ hb=>.inl hb
 ·have e0:¬ (qsign p=0):=fun h=>hp0 (zBX.1 h)
  have e1:(qsign p != 0)=true:=by simpa using e0
  clear hp0 e0;go_wp2_with fail
  refine (zAn (v:=y) (HY.out.below hbW)).mono ?_;rintro e w2 ⟨rfl,hb2⟩;replace bX:=bX.below hb2 s0;replace bY:=bY.below hb2 s1;replace bS:=bS.below hb2 sS;replace s0:=ltl s0 hb2.size;replace s1:=ltl s1 hb2.size;replace sS:=ltl sS hb2.size;replace hbW:=hbW.trans (hb2.mono hbW.size);clear x0 x1 x2 x3 y0 y1 y2 y3;obtain ⟨x0,x1,x2,x3,-⟩:=id bX;obtain ⟨y0,y1,y2,y3,-⟩:=id bY;by_cases hq0:q=0
  ·have e2:qsign q=0:=zBX.2 hq0;have Hz:Hid (p*q=0):=by show p*q=0; rw [hq0,Rat.mul_zero]
   rw [e2];clear e2 hq0;go_wp2;go_end0;refine ⟨rfl,s,(hbW.block _ hSl).trans HB.out,?_,Fr.of_below hbW⟩;rw [Hz.out,Rat.add_zero];exact (HS.out.below hbW).imp fun b _ hb=>.inl hb
  ·have e2:¬ (qsign q=0):=(fun h=>hq0 (zBX.1 h));have e3:(qsign q != 0)=true:=(by simpa using e2);clear hq0 e2;obtain ⟨z0,z1,z2,z3,-⟩:=id bS;(go_upto_region 2 with fail);refine zAp 5 (fun f w'=>f=false->Sees w [] w2 w') (by kernel_rfl) ?_;have hS0:Sees w [] w2 w2.drew:=Sees.st (by simp) hbW.size;refine tkW 0 (s.val) (fun w' hSw=>?_) (fun _=>hS0) ?_
   ·(replace hSw:=hSw rfl; go_simp; try with_reducible rfl)
   simp only [zz];refine tkW 1 (x.val) (fun w' hSw=>?_) (fun _=>hS0) ?_
   ·(replace hSw:=hSw rfl; go_simp; try with_reducible rfl)
   simp only [zz];refine tkW 2 (y.val) (fun w' hSw=>?_) (fun _=>hS0) ?_
   ·(replace hSw:=hSw rfl; go_simp; try with_reducible rfl)
   simp only [zz];refine tk1 3 ?_;intro K hK;go_simp;(with_reducible refine (zBb (a:=x) (b:=y) (HX.out.below hbW.drew) (HY.out.below hbW.drew) HL.out HM.out).mono ?_);rintro e v1 ⟨⟨u,rfl,hu⟩,hc1⟩;have hS1:=Kept.call2 hc1 hS0;refine hK.out _ _ (fun _=>hS1) ?_;clear hK K hS0;refine tk1 4 ?_;intro K hK;go_simp;(with_reducible refine (zCD (a:=s) (b:=u) ((HS.out.below (hbW.trans (hS1.kept.whole.mono hbW.size))).qis HR.out) (hu.qis HP.out) HK.out HK.out).mono ?_);rintro e v2 ⟨⟨t,rfl,ht⟩,hc2⟩;have hS2:=Kept.call2 hc2 hS1;refine hK.out _ _ (fun _=>hS2) ?_;have hb2':=hS2.kept.whole;have bS2:=bS.below hb2' sS;have ht2:=ht.lower hS1.kept.size;clear hK K hS1 hu ht hc1 hc2;clear z0 z1 z2 z3;obtain ⟨z0,z1,z2,z3,z4⟩:=id bS2;refine tk1 5 ?_;intro K hK;go_simp;refine hK.out _ _ (fun h=>absurd h (by decide)) ?_;clear hK K;have P8:=Put.four (W:=v2) S (.bool t.num.ng) (.slice t.num.A t.num.n t.num.c) (.bool t.den.ng) (.slice t.den.A t.den.n t.den.c);have bS8:=zHh (t:=t) ((hb2'.block _ sS).trans ((hbW.block _ hSl).trans HB.out));have F8:Fr (fun b=>b=S) v2 _:=((((Fr.refl (fun b=>b=S) v2).set (p:=S) rfl (.bool t.num.ng)).set (p:=⟨S,1,none⟩) rfl (.slice t.num.A t.num.n t.num.c)).set (p:=⟨S,2,none⟩) rfl (.bool t.den.ng)).set (p:=⟨S,3,none⟩) rfl (.slice t.den.A t.den.n t.den.c);generalize (((v2.setCell S (.bool t.num.ng)).setCell ⟨S,1,none⟩ (.slice t.num.A t.num.n t.num.c)).setCell ⟨S,2,none⟩ (.bool t.den.ng)).setCell ⟨S,3,none⟩ (.slice t.den.A t.den.n t.den.c)=y8 at *;have ht8:=P8.qcan (B:=w2) sS ht2;have hF:Fr (fun b=>b=S) w y8:=(Fr.of_below (hbW.trans (hb2'.mono hbW.size))).trans F8;clear z0 z1 z2 z3 z4 P8 F8 ht2 bS2 hS2;refine zAf (by kernel_rfl) ?_ _;go_wp2;go_end0;exact ⟨rfl,t,bS8,ht8.imp fun b _ hb=>.inr (nlt hbW.size hb),hF⟩
def lsum (f:Nat->Rat) (l:List Nat):Rat:=l.foldl (fun s i=>s+f i) 0
theorem zEk (f:Nat->Rat) (l:List Nat) (x:Nat):lsum f (l++[x])=lsum f l+f x:=by simp [lsum,List.foldl_append]
theorem zDt (f:Nat->Rat):∀ n,lsum f (List.range n)=Lin.sum n f
 | 0=>rfl
 | n+1=>by rw [List.range_succ,zEk,zDt f n]; rfl
theorem zFR (h:∀ i,Lin.Fits k (f i)):∀ l:List Nat,Lin.Fits (l.length*(k+1)) (lsum f l):=by
 intro l;obtain ⟨r,rfl⟩:∃ r:List Nat,r.reverse=l:=⟨l.reverse,List.reverse_reverse l⟩
 induction r with
 | nil=>exact Lin.Fits.zero _
 | cons x r ih=>
  rw [List.reverse_cons,zEk];refine (ih.add (h x)).mono ?_;simp only [List.length_append,List.length_reverse,List.length_cons,List.length_nil];have:(r.length+(0+1))*(k+1)=r.length*(k+1)+(k+1):=by rw [Nat.add_mul]; omega
  omega
theorem VecAt.take {R:QV->Rat->Prop} {l:List Rat} (h:VecAt w X R ⟨A,m,c⟩ l) (hn:n<=m):VecAt w X R ⟨A,n,c⟩ (l.take n):=by
 have h1:l.length=m:=h.len;have h2:m<=c:=h.le;refine ⟨by rw [List.length_take,h1]; show min n m=n; omega,nlt hn h2,h.cap,fun k hk=>?_⟩;obtain ⟨ad,v,e,hx,hc,hr⟩:=h.elem k (ltl hk hn);refine ⟨ad,v,e,hx,hc,?_⟩;have hk':k<n:=hk
 rwa [show (l.take n).getD k 0=l.getD k 0 by simp [List.getElem?_take_of_lt hk']]
theorem zFX (W:World) (X:Nat->Prop):QCan W X QV.zero 0:=⟨⟨rfl,by rw [show Num.words (0:Rat).num.natAbs=[] by simp [Num.words]]; exact WordsAt.nil _ _ _ _ (nzl _)⟩,⟨rfl,by rw [show Num.words (cden 0).natAbs=[] by simp [Num.words,cden]]; exact WordsAt.nil _ _ _ _ (nzl _)⟩⟩
theorem alk {x o:Obj} (h:w.heap[b]?=some x):(w.alloc o).heap[b]?=some x:=(Below.heap_alloc _ _ _ (zAa h)).trans h
theorem drk {x:Obj} (h:w.heap[b]?=some x):w.drew.heap[b]?=some x:=h
def DotInv (w:World) (f:Nat->Rat) (pre:List Nat) (W:World):Prop:=
 (∃ s:QV,QBlk W (w+1) s/\QCan W (fun b=>w.heap.size+1<b) s (lsum f pre))/\QBlk W w QV.zero/\
 Boxed W (w+1+1) 126 (.func (.func 82) #[] #[.pointer (some ⟨w+1,0,none⟩)])/\Carry (fun y=>y ≠ w.heap.size+1) w W
theorem DotInv.own :Own (DotInv w f):=fun _ _ _ _ hs hg hr=>by
 obtain ⟨⟨s,h1,h2⟩,h3,h4,h5⟩:=hs;exact ⟨⟨s,zAi hg hr h1,h2.carry (Carry.grown hg hr)⟩,zAi hg hr h3,zAi hg hr h4,h5.trans (Carry.grown hg hr)⟩
theorem zEb (ha:VecIs w X Y L sa la) (hb:VecIs w X' Y' M sb lb) (hL:L<=LM) (hM:M<=LM) (hna:sa.n<=1000000) (hkb:1000000*(kb+1)<32*LM) (hf:∀ i,Lin.Fits kb (la.getD i 0*lb.getD i 0)) :
  Calls Tryz.prog 31 #[sa.val,sb.val] w fun e w'=>QRet w (Lin.sum (min sa.n sb.n) fun i=>la.getD i 0*lb.getD i 0) e w'/\Below w w w':=by
 refine (callsIn_wide (n:=6)).1 ?_;obtain ⟨A,la',ca⟩:=sa;obtain ⟨B,lb',cb⟩:=sb;obtain ⟨N,hN⟩:∃ N,N=min la' lb':=⟨_,rfl⟩;have hNa:N<=la':=by omega
 have hNb:N<=lb':=by omega
 have cpa:la'<=ca:=ha.le;have cpb:lb'<=cb:=hb.le;have cpa2:ca<=9223372036854775807:=ha.cap;have cpb2:cb<=9223372036854775807:=hb.cap;have hmin:min (la':Int) (lb':Int)=(N:Int):=by omega
 have HL:=hdq hL;have HM:=hdq hM;have h0a:QIs w (fun _=>True) L QV.zero 0:=⟨0,0,⟨[],WordsAt.nil _ _ _ _ (nzl _),nzl _,rfl⟩,⟨[],WordsAt.nil _ _ _ _ (nzl _),nzl _,rfl⟩,by simp [qv]⟩;have h0b:QIs w (fun _=>True) M QV.zero 0:=⟨0,0,⟨[],WordsAt.nil _ _ _ _ (nzl _),nzl _,rfl⟩,⟨[],WordsAt.nil _ _ _ _ (nzl _),nzl _,rfl⟩,by simp [qv]⟩;obtain ⟨va,hva,hqa⟩:=((ha.take hNa).imp (X':=fun y=>y<w.heap.size) (R':=QIs w (fun _=>True) L) (fun b hb _=>hb) (fun _ _ h=>h.any)).elems h0a;obtain ⟨vb,hvb,hqb⟩:=((hb.take hNb).imp (X':=fun y=>y<w.heap.size) (R':=QIs w (fun _=>True) M) (fun b hb _=>hb) (fun _ _ h=>h.any)).elems h0b;have HA:=hdq hva;have HB:=hdq hvb;have HQA:Hid (∀ i,QIs w (fun y=>y<w.heap.size) L (va i) ((la.take N).getD i 0)):=fun i=>(hqa i).imp fun b hb _=>hb
 have HQB:Hid (∀ i,QIs w (fun y=>y<w.heap.size) M (vb i) ((lb.take N).getD i 0)):=fun i=>(hqb i).imp fun b hb _=>hb
 obtain ⟨f,hfd⟩:∃ f:Nat->Rat,f=fun i=>(la.take N).getD i 0*(lb.take N).getD i 0:=⟨_,rfl⟩
 have HF:Hid (∀ i,Lin.Fits kb (f i)):=fun i=>by
  rw [hfd];by_cases hi:i<N
  ·simpa [gdd,List.getElem?_take_of_lt hi] using hf i
  ·have:(la.take N).getD i 0=0:=zAw _ _ _ (by rw [List.length_take]; omega);dsimp only;rw [this,Rat.zero_mul]; exact Lin.Fits.zero _
 have HE:Hid (Lin.sum N f=Lin.sum N fun i=>la.getD i 0*lb.getD i 0):=by
  rw [hfd];exact Lin.zAh fun i hi=>by simp [List.getElem?_take_of_lt hi]
 have HKB:=hdq hkb;dsimp only [SV.val] at hna ⊢;rw [<-hN];clear ha hb hL hM h0a h0b hva hvb hqa hqb hf hkb hN;have HFD:=hdq hfd;clear hfd;refine callsIn_of_wp_marks Tryz.func31 rfl trivial ?_ rfl;simp only [Tryz.ntmps31,List.size_toArray,List.length_cons,List.length_nil,Nat.reduceAdd,Nat.reduceSub,Array.replicate_succ,Array.replicate_zero,List.push_toArray,List.append_toArray,List.nil_append,List.cons_append];gi_wp2;refine zCW 1000 (fun _ _=>True) (by kernel_rfl) ?_;refine tx1 0 trivial ?_;refine tx1 1 trivial ?_;refine takeA (i:=2) (.slice A N ca) rfl rfl (by kernel_rfl) (by kernel_rfl) (by kernel_rfl) (by decide) (fun _ _ _ h=>h) (by rfl) (fun w' hSw=>?_) trivial ?_
 ·go_simp;intro h; omega
 simp only [zz];refine tx1 3 trivial ?_;refine tx1 4 trivial ?_;refine takeA (i:=5) (.slice B N cb) rfl rfl (by kernel_rfl) (by kernel_rfl) (by kernel_rfl) (by decide) (fun _ _ _ h=>h) (by rfl) (fun w' hSw=>?_) trivial ?_
 ·go_simp;intro h; omega
 simp only [zz];obtain ⟨W1,hW1⟩:∃ W1,(((w.alloc (.cells #[.bool false,.slice none 0 0,.bool false,.slice none 0 0] 37)).alloc (.cells #[.bool false,.slice none 0 0,.bool false,.slice none 0 0] 37)).alloc (.cells #[.func (.func 82) #[] #[.pointer (some ⟨w+1,0,none⟩)]] 126)).drew=W1:=⟨_,rfl⟩;rw [hW1];have hz1:W1=(w+1+1+1:Nat):=by rw [<-hW1]; simp [World.drew]
 have HW1:=hdq hW1;clear hW1;refine tk1 6 ?_;intro K hK;go_simp;refine ((callsIn_wide (n:=6)).1 (zFZ A B N ca N cb)).mono ?_;rintro e w2 ⟨rfl,rfl⟩;refine hK.out _ _ trivial ?_;clear hK K;refine zAf (by kernel_rfl) (NoPanic.normal ?_) _;rw [hz1];gi_wp2;obtain ⟨W0,hW0⟩:∃ W0,((W1.alloc (.cells #[.slice A N ca] 24)).alloc (.cells #[.slice B N cb] 24))=W0:=⟨_,rfl⟩;rw [hW0];have y0:QBlk W1 w QV.zero:=by rw [<-HW1.out]; exact drk (alk (alk (zAd _ _ rfl)))
 have y1:QBlk W1 (w+1) QV.zero:=by rw [<-HW1.out]; exact drk (alk (zAd _ _ (by simp)))
 have y2:Boxed W1 (w+1+1) 126 (.func (.func 82) #[] #[.pointer (some ⟨w+1,0,none⟩)]):=by rw [<-HW1.out]; exact drk (zAd _ _ (by simp))
 have yb:Below w w W1:=by rw [<-HW1.out]; exact ((((brf _ w).alloc (nlr _) _).alloc (by simp) _).alloc (by simp; omega) _).drew
 have hk0:Below w w W0:=by rw [<-hW0]; exact (yb.alloc yb.size _).alloc (by simp; omega) _
 have hs0:W0=(w+5:Nat):=by rw [<-hW0]; simp; omega
 have x0:QBlk W0 w QV.zero:=by rw [<-hW0]; exact alk (alk y0)
 have x1:QBlk W0 (w+1) QV.zero:=by rw [<-hW0]; exact alk (alk y1)
 have x2:Boxed W0 (w+1+1) 126 (.func (.func 82) #[] #[.pointer (some ⟨w+1,0,none⟩)]):=by rw [<-hW0]; exact alk (alk y2)
 have x3:Boxed W0 (w+1+1+1) 24 (.slice A N ca):=by rw [<-hW0]; exact alk (zAd _ _ hz1.symm)
 have x4:Boxed W0 (w+1+1+1+1) 24 (.slice B N cb):=by rw [<-hW0]; exact zAd _ _ (by simp; omega)
 clear y0 y1 y2 yb HW1 hz1;clear hW0
 refine wpIn_rangeFunc_ownH (F:=Fence.wide) rfl (by omega) (gf:=143) (lb:=#[.pointer (some ⟨w+1+1+1,0,none⟩),.pointer (some ⟨w+1+1+1+1,0,none⟩)]) rfl trivial (enters_of Tryz.func143 (by kernel_rfl) rfl)
  (zDL (X:=fun y=>y ≠ w.heap.size+1) (sa:=⟨A,N,ca⟩) (sb:=⟨B,N,cb⟩) (va:=va) (vb:=vb) (N:=N) (by omega) x3 x4 (by omega) (by omega)
   ((HA.out.carry (Carry.of_below hk0)).imp fun b hb=>by omega) ((HB.out.carry (Carry.of_below hk0)).imp fun b hb=>by omega) (by simp) (by omega))
  (fun h k=>h.trans k) (fun W l o o' _ hl ho _=>Carry.putObj o' hl ho) (brf _ _) (fun _=>rfl)
  (fun pre W=>DotInv w f pre W/\Below w w W)
  (fun _ _ _=>False)
  (OwnFrom.and (Own.from DotInv.own _) (ownFrom_below (nlr _) (by omega)))
  (fun _ _ _ _ _ hs _ _=>hs)
  ⟨⟨⟨QV.zero,x1,zFX _ _⟩,x0,x2,Carry.of_below hk0⟩,hk0⟩
  (fun x a' W=>∃ g,a'={tmps:=#[.slice A la' ca,.slice B lb' cb,undef,undef,.pointer (some w),.pointer (some ⟨w+1,0,none⟩),.pointer (some ⟨w+1+1,0,none⟩),.int .i64 N,.pointer (some ⟨g,0,none⟩),.pointer (some ⟨g+1,0,none⟩),.func (.func 82) #[] #[.pointer (some ⟨w+1,0,none⟩)],.slice A la' ca,.int .i64 la',.slice B lb' cb,.int .i64 lb',.int .i64 N,.slice A la' ca,.int .i64 N,.slice A N ca,.slice B lb' cb,.int .i64 N,.slice B N cb,.func (.func 143) #[] #[.pointer (some ⟨w+1+1+1,0,none⟩),.pointer (some ⟨w+1+1+1+1,0,none⟩)],(va x).val,(vb x).val,undef,undef,undef,undef,undef],defers:=[]}/\QBlk W g (va x)/\QBlk W (g+1) (vb x))
  (fun x a' _ W W' row hs hg hr=>?hAx) ?assign ?body ?done ?stop
 case hAx=>
  obtain ⟨g,e,g1,g2⟩:=hs;exact ⟨g,e,zAi hg (fun r e=>(hr r e).2) g1,zAi hg (fun r e=>(hr r e).2) g2⟩
 case stop=>
  rintro D c pre W _ _ h _;exact h.elim
 case assign=>
  intro l pre x W K hI hK;gi_wp2;have al:Below W W ((W.alloc (.cells #[.bool (va x).num.ng,.slice (va x).num.A (va x).num.n (va x).num.c,.bool (va x).den.ng,.slice (va x).den.A (va x).den.n (va x).den.c] 37)).alloc (.cells #[.bool (vb x).num.ng,.slice (vb x).num.A (vb x).num.n (vb x).num.c,.bool (vb x).den.ng,.slice (vb x).den.A (vb x).den.n (vb x).den.c] 37)):=(bal).alloc (by simp) _;obtain ⟨⟨⟨s,i1,i2⟩,i3,i4,i5⟩,hB⟩:=hI;exact hK _ _ ⟨al.size,fun k o _ hk _=>(al.block k (zAa hk)).trans hk⟩ (Carry.of_below al) ⟨⟨⟨s,(al.block _ (zAa i1)).trans i1,i2.below al⟩,(al.block _ (zAa i3)).trans i3,(al.block _ (zAa i4)).trans i4,i5.trans (Carry.of_below al)⟩,hB.trans (al.mono hB.size)⟩ ⟨W.heap.size,rfl,alk (zAd _ _ rfl),zAd _ _ (by simp)⟩
 case body=>
  rintro l pre x a' W _ _ ⟨⟨⟨s,i1,i2⟩,i3,i4,i5⟩,hB⟩ ⟨g,rfl,g1,g2⟩ hlt;have hqa:=(HQA.out x).carry (i5.mono fun y hy=>by omega);have hqb:=(HQB.out x).carry (i5.mono fun y hy=>by omega);obtain ⟨a0,a1,a2,a3,-⟩:=zAA g1;obtain ⟨b0,b1,b2,b3,-⟩:=zAA g2;have c4:=i4.cell;have Hs:=hdq hs0;have I2:=hdq i2;clear hs0 x0 x1 x2 x3 x4 hk0 i2;gi_wp2;refine ⟨trivial,?_⟩;refine CallsIn.inRound l (callsIn_wide.2 ((zHt (K:=LM) (x:=va x) (y:=vb x) (s:=s) hqa hqb I2.out i1 HL.out HM.out (nlr _) ?fr ?fp).mono ?_));case fr=>exact zBn (zFR HF.out pre) (Nat.lt_of_le_of_lt (Nat.mul_le_mul_right _ (by omega)) HKB.out)
  case fp=>
   have:=HF.out x;rw [HFD.out] at this;exact zBn this (by have:=HKB.out; omega)
  rintro e w3 ⟨rfl,s2,j1,j2,j3⟩;clear a0 a1 a2 a3 b0 b1 b2 b3 c4 hqa hqb;have hcw:Carry (fun y=>y ≠ w.heap.size+1) W w3:=⟨j3.size,fun k cs t f hx hk=>(j3.block k (zAa hk) hx).trans hk⟩;have hB3:=hB.trans (j3.below hB.size (fun b e=>by omega));gi_wp2;refine ⟨⟨j3.size,fun k o _ hk ho=>(j3.block k (zAa hk) (fun e=>by subst e; rw [show W.heap[w.heap.size+1]?=_ from i1] at hk; cases hk; cases ho)).trans hk⟩,hcw,⟨⟨s2,j1,?_⟩,(j3.block _ (zAa i3) (by omega)).trans i3,(j3.block _ (zAa i4) (by omega)).trans i4,i5.trans hcw⟩,hB3⟩;rw [zEk,HFD.out];rw [HFD.out] at j2;have hz:=zAa i1
  exact j2.imp fun b _ hb=>by
   rcases hb with hb | hb
   ·exact hb
   ·omega
 case done=>
  rintro Dd ys W hDd rfl ⟨⟨⟨s,i1,i2⟩,i3,i4,i5⟩,hB⟩ hK0;obtain ⟨z0,z1,z2,z3,-⟩:=zAA i1;obtain ⟨r0,r1,r2,r3,rf⟩:=zAA i3;dsimp only [QV.zero] at r0 r1 r2 r3;have Hs:=hdq hs0;have I2:=hdq i2;clear hs0 x0 x1 x2 x3 x4 i2 i4 i5;have hne:Dd ≠ w.heap.size:=by have:=Hs.out; omega
  gi_wp2;have P8:=Put.four (W:=W) w (.bool s.num.ng) (.slice s.num.A s.num.n s.num.c) (.bool s.den.ng) (.slice s.den.A s.den.n s.den.c);have b8:=zHh (t:=s) i3;generalize (((W.setCell w (.bool s.num.ng)).setCell ⟨w,1,none⟩ (.slice s.num.A s.num.n s.num.c)).setCell ⟨w,2,none⟩ (.bool s.den.ng)).setCell ⟨w,3,none⟩ (.slice s.den.A s.den.n s.den.c)=y8 at *;have hK1:y8.heap[Dd]?=some (.deferred (some [])):=(P8.keep _ hne).trans hK0;refine ⟨by simp,.inl ⟨_,_,rfl,run_takeDeferred hK1,?_⟩⟩;have g1:=zAi (grownBy_putObj' y8 Dd (.deferred none)) (fun r e=>by cases e; exact ⟨_,hK1,rfl⟩) b8;obtain ⟨g10,g11,g12,g13,-⟩:=zAA g1;have q8:QCan y8 (fun b=>w.heap.size+1<b) s (lsum f (List.range N)):=I2.out.keep fun a ha _=>cob (P8.keep _ (by omega))
  have q9:=q8.carry (Carry.grown (grownBy_putObj' y8 Dd (.deferred none)) (fun r e=>by cases e; exact ⟨_,hK1,rfl⟩));rw [zDt,HE.out] at q9;refine ⟨s.val,by simp [results,Tryz.results31,go_sem,g10,g11,g12,g13],⟨s,rfl,q9.imp fun b _ hb=>by show w.heap.size<=b; omega⟩,?_⟩;exact (hB.trans (P8.below _ (nlr _))).trans (belowK_b (w:=w) (nlr _) _ Dd _ _ (by have:=Hs.out; omega) hK1 rfl rfl)
end Go.Proofs.YtpjaodcimomaiaaGreat
namespace Go.Proofs.YtpjaodcimomaiaaGreat
open Go.RowKit Go.Shelf
variable {s:SV} {L M kb b base n B V E k row:Nat} {X Y X' Y' Z:Nat->Prop} {w w' W:World} {bs:List Rat} {os rs:List (List Rat)} {p:LPV} {q:Rat} {v:Value} {ch:Option (Nat->Rat)} {D:Lin.Dict}
def dotL (r x:List Rat):Rat:=Lin.sum (min r.length x.length) fun i=>r.getD i 0*x.getD i 0
theorem zNM {sx:SV} {m:List (List Rat)} {x:List Rat} (h:MatIs w X Y L s m) (hx:VecIs w X' Y' M sx x) (hn:s.n<=1000000) (hr:∀ i,(m.getD i []).length<=1000000) (hL:L<=LM) (hM:M<=LM) (hkb:1000000*(kb+1)<32*LM) (hf:∀ i k,Lin.Fits kb ((m.getD i []).getD k 0*x.getD k 0)) :
  Calls Tryz.prog 136 #[s.val,sx.val] w fun e w'=>VRet w (m.map fun r=>dotL r x) e w'/\Below w w w':=by
 obtain ⟨A,n,c⟩:=s;obtain ⟨xA,xn,xc⟩:=sx;dsimp only at hn;have hmk:=zBZ n hn;have HL:=hdq hL;have HM:=hdq hM;have HR:=hdq hr;have HK:=hdq hkb;have HF:=hdq hf;have HX:=hdq hx;have HLen:Hid (m.length=n):=h.len;have hle:n<=c:=h.le;have hcap:c<=9223372036854775807:=h.cap;clear hL hM hr hkb hf hx;show Calls _ _ #[.slice A n c,.slice xA xn xc] _ _;go_enter Tryz.func136,Tryz.ntmps136
 go_wp2;obtain ⟨f,hfd⟩:∃ f:Nat->Rat,f=fun i=>dotL (m.getD i []) x:=⟨_,rfl⟩
 have HD:=hdq hfd
 have HE:Hid ((List.range n).map f=m.map fun r=>dotL r x):=by
  show _=_;rw [hfd,<-HLen.out];apply List.ext_getElem
  ·simp
  ·intro i h1 h2;simp at h1;simp [h1]
 clear hfd;have hb0:Below w w (w.alloc (.cells (zeroQ n) 37)):=bal
 have H0:FillLoop w w f n n (fun _=>True) (.int .i64 0) (w.alloc (.cells (zeroQ n) 37)):=
  ⟨0,nzl _,rfl,by
   rw [zEe];exact RowAt.made w n (fun x=>x<w.heap.size\/x=w.heap.size) (.inr rfl),hb0,trivial⟩
 clear hmk hb0;generalize w.alloc (.cells (zeroQ n) 37)=W0 at *;go_loopw [13] (fun t W=>FillLoop w w f n n (fun _=>True) t W) (fun t _=>n-(intOf t).toNat)
 case atStart=>exact H0
 case round=>
  clear H0;obtain ⟨i,hi,rfl,hR,hB,-⟩:=hrel;have hRl:=hR.lt;by_cases hlt:i<n
  ·obtain ⟨ad,r,e,-,r0,hr⟩:=(h.below hB).row i hlt;dsimp only at e;subst e;obtain ⟨rA,rn,rc⟩:=r;have HW:=hdq hr;have hrn:(m.getD i []).length=rn:=hr.len;have Hrn:=hdq hrn;clear hr hrn;(go_wp2_with fail);refine (zEb (kb:=kb) (sa:=⟨rA,rn,rc⟩) (sb:=⟨xA,xn,xc⟩) HW.out (HX.out.below hB) HL.out HM.out (by have:=HR.out i; rw [Hrn.out] at this; exact this) HK.out (HF.out i)).mono ?_;rintro e w1 ⟨⟨z,rfl,hz⟩,hb1⟩;have hR1:=hR.below hb1
   have hz2:QCan w1 (New wr) z (f i):=by
    rw [HD.out];unfold dotL;dsimp only;have e2:x.length=xn:=HX.out.len;rw [Hrn.out,e2];exact hz
   clear hz r0;obtain ⟨zv,⟨d0,d1,d2,d3⟩,-⟩:=hR1.elem i (by rw [zBj _ hi]; exact hlt);have fz:=hR1.frozen;dsimp only at d1 d2 d3;go_wp2;go_roundw;case rel=>exact FillLoop.step (B:=wr) hlt (nlr _) hR hB hb1 hB.size hRl (nlr _) hz2 trivial
   case measure=>simp [intOf]; omega
  ·(obtain rfl:i=n:=by omega);rw [zGv,HE.out] at hR;go_wp2;go_ret;exact ⟨VRet.of (by rw [List.length_map]; exact HLen.out) hn (nlr _) hR,hB⟩
theorem zNt {sx:SV} {x:List Rat} (h:LPIs w X Y L p os rs bs) (hx:VecIs w X' Y' M sx x) (hn:p.O.n<=1000000) (hr:∀ i,(os.getD i []).length<=1000000) (hL:L<=LM) (hM:M<=LM) (hkb:1000000*(kb+1)<32*LM) (hf:∀ i k,Lin.Fits kb ((os.getD i []).getD k 0*x.getD k 0)) :
  Calls Tryz.prog 72 #[p.val,sx.val] w fun e w'=>VRet w (os.map fun r=>dotL r x) e w'/\Below w w w':=by
 obtain ⟨pn,⟨oA,on,oc⟩,⟨rA,rn,rc⟩,⟨bA,bn,bc⟩⟩:=p;obtain ⟨xA,xn,xc⟩:=sx;have H:=hdq h.obj;have HX:=hdq hx;have HF:=hdq hf;have HK:=hdq hkb;have HL:=hdq hL;have HM:=hdq hM;have HR:=hdq hr;have Hn:=hdq hn;clear h hx hf hkb hL hM hr hn;dsimp only [LPV.val,SV.val] at *;go_enter Tryz.func72,Tryz.ntmps72
 go_wp2_with fail
 have al:Below w w (w.alloc (.cells #[.int .i64 pn,.slice oA on oc,.slice rA rn rc,.slice bA bn bc] 28)):=bal;refine (zNM (kb:=kb) (s:=⟨oA,on,oc⟩) (sx:=⟨xA,xn,xc⟩) (H.out.below al) (HX.out.below al) Hn.out HR.out HL.out HM.out HK.out HF.out).mono ?_;rintro e w1 ⟨⟨z,rfl,hz⟩,hb1⟩;go_wp2;go_ret;exact ⟨⟨z,rfl,hz.low al.size⟩,al.trans (hb1.mono al.size)⟩
theorem zEa {r x:List Rat} (hr:r.length<=1000000) (hkb:1000000*(kb+1)<32*LM) (hf:∀ k,Lin.Fits kb (r.getD k 0*x.getD k 0)):QFit LM (dotL r x):=by
 unfold dotL;rw [<-zDt];exact zBn (zFR hf _) (Nat.lt_of_le_of_lt (Nat.mul_le_mul_right _ (by rw [List.length_range]; omega)) hkb)
def MBlk (w:World) (b:Nat) (m:List (List Rat)) (w':World):Prop:=
 w<=b/\∃ (cs:Array Value) (sv:Nat->SV),w'.heap[b]?=some (.cells cs 24 (0,0))/\cs.size=m.length/\∀ j,j<m.length->cs[j]?=some (sv j).val/\VecCan w' (fun x=>w.heap.size<=x/\x ≠ b) (fun x=>w.heap.size<=x/\x ≠ b) (sv j) (m.getD j [])
def MSLoop (w:World) (k:QV) (q:Rat) (m:List (List Rat)) (n:Nat) (t:Value) (W:World):Prop:=
 ∃ i:Nat,i<=n/\t = .int .i64 i/\Below w w W/\Box4 W w (.bool k.num.ng) (.slice k.num.A k.num.n k.num.c) (.bool k.den.ng) (.slice k.den.A k.den.n k.den.c)/\∃ (cs:Array Value) (sv:Nat->SV),W.heap[w.heap.size+1]?=some (.cells cs 24 (0,0))/\cs.size=n/\∀ j,j<i->cs[j]?=some (sv j).val/\VecCan W (New (w+1+1)) (New (w+1+1)) (sv j) ((m.getD j []).map (q*·))
theorem zNu {k:QV} {m:List (List Rat)} (hk:QIs w Z M k q) (h:MatIs w X Y L s m) (hn:s.n<=1000000) (hr:∀ i,(m.getD i []).length<=1000000) (hL:L<=LM) (hM:M<=LM) :
  Calls Tryz.prog 173 #[k.val,s.val] w fun e w'=>(∃ b,e = .returned (.slice (some ⟨b,0,none⟩) m.length m.length)/\MBlk w b (m.map fun l=>l.map (q*·)) w')/\Below w w w':=by
 obtain ⟨A,n,c⟩:=s;dsimp only at hn;have HLen:Hid (m.length=n):=h.len;have hle:n<=c:=h.le;have hcap:c<=9223372036854775807:=h.cap;have hmk:=zHV n (by omega);have HL:=hdq hL;have HM:=hdq hM;have HR:=hdq hr;have HK:=hdq hk;clear hL hM hr hk;show Calls _ _ #[k.val,.slice A n c] _ _;go_enter Tryz.func173,Tryz.ntmps173
 go_wp2
 have H0:MSLoop w k q m n (.int .i64 0) ((w.alloc (.cells #[.bool k.num.ng,.slice k.num.A k.num.n k.num.c,.bool k.den.ng,.slice k.den.A k.den.n k.den.c] 37)).alloc (.cells (zeroS n) 24)):=
  ⟨0,nzl _,rfl,(bal).alloc (by simp) _,bx4,zeroS n,fun _=>⟨none,0,0⟩,zAd _ _ (by simp),zIb n,fun j hj=>absurd hj (by omega)⟩
 clear hmk;generalize (w.alloc (.cells #[.bool k.num.ng,.slice k.num.A k.num.n k.num.c,.bool k.den.ng,.slice k.den.A k.den.n k.den.c] 37)).alloc (.cells (zeroS n) 24)=W0 at *;go_loopw [13] (fun t W=>MSLoop w k q m n t W) (fun t _=>n-(intOf t).toNat)
 case atStart=>exact H0
 case round=>
  clear H0;obtain ⟨i,hi,rfl,hB,bK,cs,sv,h1,h2,h3⟩:=hrel;by_cases hlt:i<n
  ·obtain ⟨ad,r,e,-,r0,hr⟩:=(h.below hB).row i hlt;dsimp only at e;subst e;obtain ⟨rA,rn,rc⟩:=r;have HW:=hdq hr;have hrn:Hid ((m.getD i []).length=rn):=hr.len;clear hr;have hyl:=zAa h1;obtain ⟨k0,k1,k2,k3,-⟩:=id bK;(go_wp2_with fail);refine (zLH (k:=k) (s:=⟨rA,rn,rc⟩) (HK.out.below hB) HW.out (by have:=HR.out i; rw [hrn.out] at this; exact this) HL.out HM.out).mono ?_; rintro e w1 ⟨⟨z,rfl,hz⟩,hb1⟩
   obtain ⟨zA,zn,zc⟩:=z;have h1':w1.heap[w.heap.size+1]?=some (.cells cs 24 (0,0)):=(hb1.block _ hyl).trans h1;have y0:(w1.cell? ⟨w+1,i,none⟩).isSome=true:=by simp only [World.cell?,h1']; simp [h2,hlt]
   obtain ⟨yv,hyv⟩:=Option.isSome_iff_exists.1 y0;have yf:∀ o,w1.frozen? ⟨w+1,o,none⟩=false:=fun o=>by simp [World.frozen?,h1']
   have Hfin:Hid (MSLoop w k q m n (.int .i64 ((i:Int)+1)) (w1.setCell ⟨w+1,i,none⟩ (.slice zA zn zc))):=by
    have kk:∀ p:Addr,New (w+1+1) p.block->(w1.setCell ⟨w+1,i,none⟩ (.slice zA zn zc)).cell? p=w1.cell? p:=(fun p hp=>cob (bhs _ _ _ _ (by simp only [New] at hp; show p.block ≠ w.heap.size+1; omega)));have kv:∀ {s:SV} {l:List Rat},VecCan w1 (New (w+1+1)) (New (w+1+1)) s l->VecCan (w1.setCell ⟨w+1,i,none⟩ (.slice zA zn zc)) (New (w+1+1)) (New (w+1+1)) s l:=(fun hv=>hv.keep (fun a ha _=>kk a ha) fun v q hq=>hq.keep fun p hp _=>kk p hp);refine ⟨i+1,by omega,by simp,(hB.trans (hb1.mono hB.size)).setCell (p:=⟨w+1,i,none⟩) (by show w<=(w+1:Nat); omega) _,(bK.below hb1 (by omega)).far4 (by omega) _,cs.setIfInBounds i (.slice zA zn zc),fun j=>if j=i then ⟨zA,zn,zc⟩ else sv j,zAe _ h1',by simpa using h2,fun j hj=>?_⟩;rw [Array.getElem?_setIfInBounds];by_cases e:i=j
    ·subst e;rw [if_pos rfl,if_pos (by omega)];dsimp only;rw [if_pos rfl];exact ⟨rfl,kv (hz.imp (fun b _ hb=>by simp only [New] at hb ⊢; omega) fun v q hq=>hq.imp fun b _ hb=>by simp only [New] at hb ⊢; omega)⟩
    ·rw [if_neg e];dsimp only;rw [if_neg (Ne.symm e)];obtain ⟨g1,g2⟩:=h3 j (by omega);exact ⟨g1,kv (g2.belowC hb1)⟩
   clear h1 h2 h3 h1' hz hb1 hB r0 y0 bK k0 k1 k2 k3;go_wp2;go_roundw;case rel=>exact fn_ Hfin.out
   case measure=>simp [intOf]; omega
  ·have hin:i=n:=(by omega);rw [hin] at h3
   have HF:Hid (MBlk w (w+1) (m.map fun l=>l.map (q*·)) wr):=by
    refine ⟨by omega,cs,sv,h1,by rw [List.length_map,HLen.out]; exact h2,fun j hj=>?_⟩;rw [List.length_map,HLen.out] at hj;obtain ⟨g1,g2⟩:=h3 j hj
    have e:(m.map fun l=>l.map (q*·)).getD j []=(m.getD j []).map (q*·):=by
     have:=HLen.out;simp [List.getElem?_map,gge (show j<m.length by omega)]
    rw [e];exact ⟨g1,g2.imp (fun b _ hb=>by simp only [New] at hb ⊢; omega) fun v q hq=>hq.imp fun b _ hb=>by simp only [New] at hb ⊢; omega⟩
   clear h1 h2 h3;go_wp2;go_ret;exact ⟨⟨_,by rw [HLen.out]; rfl,HF.out⟩,hB⟩
def MPart (lo hi b:Nat) (m:List (List Rat)) (w:World):Prop:=
 lo<=b/\b<hi/\∃ (cs:Array Value) (sv:Nat->SV),w.heap[b]?=some (.cells cs 24 (0,0))/\cs.size=m.length/\∀ j,j<m.length->cs[j]?=some (sv j).val/\VecCan w (fun x=>lo<=x/\x<hi/\x ≠ b) (fun x=>lo<=x/\x<hi/\x ≠ b) (sv j) (m.getD j [])
def VPart (lo hi b:Nat) (l:List Rat) (w:World):Prop:=
 lo<=b/\b<hi/\RowAt w (fun x=>¬ (lo<=x/\x<hi/\x ≠ b)) b l
theorem MBlk.part {m:List (List Rat)} (h:MBlk w b m w'):MPart w w' b m w':=by
 obtain ⟨h1,cs,sv,h2,h3,h4⟩:=h;exact ⟨h1,zAa h2,cs,sv,h2,h3,fun j hj=>⟨(h4 j hj).1,(h4 j hj).2.imp (fun x hl hx=>⟨hx.1,hl,hx.2⟩) fun v q hq=>hq.imp fun x hl hx=>⟨hx.1,hl,hx.2⟩⟩⟩
theorem MPart.keep {lo hi:Nat} {m:List (List Rat)} (h:MPart lo hi b m w) (hk:∀ x,lo<=x->x<hi->w'.heap[x]?=w.heap[x]?):MPart lo hi b m w':=by
 obtain ⟨h1,h2,cs,sv,h3,h4,h5⟩:=h;exact ⟨h1,h2,cs,sv,(hk b h1 h2).trans h3,h4,fun j hj=>⟨(h5 j hj).1,(h5 j hj).2.keep (fun a ha _=>cob (hk _ ha.1 ha.2.1)) fun v q hq=>hq.keep fun a ha _=>cob (hk _ ha.1 ha.2.1)⟩⟩
theorem VPart.keep {lo hi:Nat} {l:List Rat} (h:VPart lo hi b l w) (hk:∀ x,lo<=x->x<hi->w'.heap[x]?=w.heap[x]?):VPart lo hi b l w':=by
 obtain ⟨h1,h2,h3⟩:=h;refine ⟨h1,h2,h3.mem,?_,fun k hkl=>?_⟩
 ·obtain ⟨cs,e,hs⟩:=h3.blk;exact ⟨cs,(hk b h1 h2).trans e,hs⟩
 ·obtain ⟨v,g1,g2⟩:=h3.elem k hkl;have hc:∀ o,w'.cell? ⟨b,o,none⟩=w.cell? ⟨b,o,none⟩:=fun o=>cob (hk b h1 h2)
  refine ⟨v,⟨(hc _).trans g1.1,(hc _).trans g1.2.1,(hc _).trans g1.2.2.1,(hc _).trans g1.2.2.2⟩,g2.keep fun a ha _=>cob ?_⟩;have ha':=Classical.not_not.1 ha;exact hk _ ha'.1 ha'.2.1
theorem VRow.part {l:List Rat} (h1:w<=b) (h:RowAt w' (fun x=>x<w.heap.size\/x=b) b l):VPart w w' b l w':=
 ⟨h1,h.lt,by show ¬ _; omega,h.blk,fun k hk=>by
  obtain ⟨v,g1,g2⟩:=h.elem k hk;exact ⟨v,g1,g2.imp fun x hl hx=>by show ¬ ¬ _; omega⟩⟩
def CopyRet (w:World) (n:Int) (os rs:List (List Rat)) (bs:List Rat) (e:Ending) (w':World):Prop:=
 ∃ k0 k1 k2 k3 b1 b2 b3,w.heap.size<=k0/\k3<=w'.heap.size/\e = .returned (.agg #[.int .i64 n,.slice (some ⟨b1,0,none⟩) os.length os.length,.slice (some ⟨b2,0,none⟩) rs.length rs.length,.slice (some ⟨b3,0,none⟩) bs.length bs.length])/\
  MPart k0 k1 b1 os w'/\MPart k1 k2 b2 rs w'/\VPart k2 k3 b3 bs w'
theorem zNT (m:List (List Rat)):(m.map fun l=>l.map ((((1:Int):Rat))*·))=m:=by simp
theorem zOg (l:List Rat):l.map ((((1:Int):Rat))*·)=l:=by simp
theorem zQr (k:Bool) (h:LPIs w X Y L p os rs bs) (hn:p.O.n<=1000000) (hn2:p.R.n<=1000000) (hn3:p.B.n<=1000000) (hr:∀ i,(os.getD i []).length<=1000000) (hr2:∀ i,(rs.getD i []).length<=1000000) (hL:L<=LM) :
  Calls Tryz.prog (if k then 114 else 102) #[p.val] w fun e w'=>CopyRet w p.n os rs bs e w'/\Below w w w':=by
 obtain ⟨pn,⟨oA,on,oc⟩,⟨rA,rn,rc⟩,⟨bA,bn,bc⟩⟩:=p;have H:=hdq h;have HL:=hdq hL;have HR:=hdq hr;have HR2:=hdq hr2;have Hn:=hdq hn;have Hn2:=hdq hn2;have Hn3:=hdq hn3;clear h hL hr hr2 hn hn2 hn3;dsimp only [LPV.val] at *;cases k
 focus
  go_enter Tryz.func102,Tryz.ntmps102
 rotate_left
 focus
  go_enter Tryz.func114,Tryz.ntmps114
 all_goals
  go_upto_region 1 with fail
  refine zAo (fun W=>Below w w W/\Box4 W w (.int .i64 pn) (.slice oA on oc) (.slice rA rn rc) (.slice bA bn bc)/\Box4 W (w+1) (.int .i64 0) (.slice none 0 0) (.slice none 0 0) (.slice none 0 0)/\w<(W:Nat)/\w+1<(W:Nat)) ⟨(az (az (brf _ _))),bx4,bx4,by simp <;> omega,by simp <;> omega⟩ ?_;rintro W ⟨hbW,bP,bR,s0,s1⟩;have hBW:=hbW.size;go_wp2_with fail
  refine (zAN 1 (by decide) (by decide) _).mono ?_;rintro e w1 ⟨⟨u,rfl,hu⟩,hb1⟩;replace bP:=bP.below hb1 s0;replace bR:=bR.below hb1 s1;replace s0:=ltl s0 hb1.size;replace s1:=ltl s1 hb1.size;replace hbW:=hbW.trans (hb1.mono hbW.size);clear hb1 hBW;go_upto_region 2 with fail
  have al:Below w1 w1 (w1.alloc (.cells #[.bool u.num.ng,.slice u.num.A u.num.n u.num.c,.bool u.den.ng,.slice u.den.A u.den.n u.den.c] 37)):=bal;have bU:=zAA (zAd w1 (.cells #[.bool u.num.ng,.slice u.num.A u.num.n u.num.c,.bool u.den.ng,.slice u.den.A u.den.n u.den.c] 37) rfl);replace bP:=bP.below al s0;replace bR:=bR.below al s1;replace s0:=ltl s0 al.size;replace hu:=(hu.below al).qis (zAv fits_one);have s2:w1.heap.size<(w1.alloc (.cells #[.bool u.num.ng,.slice u.num.A u.num.n u.num.c,.bool u.den.ng,.slice u.den.A u.den.n u.den.c] 37)).heap.size:=by simp
  replace hbW:=hbW.trans (al.mono hbW.size);clear al;generalize w1.alloc (.cells #[.bool u.num.ng,.slice u.num.A u.num.n u.num.c,.bool u.den.ng,.slice u.den.A u.den.n u.den.c] 37)=W2 at *;obtain ⟨u0,u1,u2,u3,-⟩:=id bU;obtain ⟨p0,p1,p2,p3,-⟩:=id bP;have HU:=hdq hu;clear hu;refine zAp 15 (fun f w'=>f=false->Sees w [] W2 w') (by kernel_rfl) ?_;have hS0:Sees w [] W2 W2.drew:=Sees.st (by simp) hbW.size;refine tx4 0 3 7 11 (fun _=>hS0) ?_;refine tkW 1 (.int .i64 pn) (fun w' hSw=>?_) (fun _=>hS0) ?_
  ·(replace hSw:=hSw rfl; go_simp; try with_reducible rfl)
  simp only [zz];refine tkW 2 (u.val) (fun w' hSw=>?_) (fun _=>hS0) ?_
  ·(replace hSw:=hSw rfl; go_simp; try with_reducible rfl)
  simp only [zz];refine tkW 4 (.slice oA on oc) (fun w' hSw=>?_) (fun _=>hS0) ?_
  ·(replace hSw:=hSw rfl; go_simp; try with_reducible rfl)
  simp only [zz];refine tkW 6 (u.val) (fun w' hSw=>?_) (fun _=>hS0) ?_
  ·(replace hSw:=hSw rfl; go_simp; try with_reducible rfl)
  simp only [zz];refine tkW 8 (.slice rA rn rc) (fun w' hSw=>?_) (fun _=>hS0) ?_
  ·(replace hSw:=hSw rfl; go_simp; try with_reducible rfl)
  simp only [zz];refine tkW 10 (u.val) (fun w' hSw=>?_) (fun _=>hS0) ?_
  ·(replace hSw:=hSw rfl; go_simp; try with_reducible rfl)
  simp only [zz];refine tkW 12 (.slice bA bn bc) (fun w' hSw=>?_) (fun _=>hS0) ?_
  ·(replace hSw:=hSw rfl; go_simp; try with_reducible rfl)
  simp only [zz];refine tk1 5 ?_;intro K hK;go_simp;with_reducible refine (zNu (k:=u) (s:=⟨oA,on,oc⟩) (HU.out.below (Sees.kept (by assumption)).whole) (H.out.obj.below (hbW.trans ((Sees.kept (by assumption)).whole.mono hbW.size))) Hn.out HR.out HL.out (by rw [zAZ]; omega)).mono ?_
  rintro e v1 ⟨⟨b1,rfl,hm1⟩,hc1⟩;rw [zNT] at hm1;replace hm1:=hm1.part;have hS1:=Kept.call2 hc1 hS0;refine hK.out _ _ (fun _=>hS1) ?_;clear hK K;refine tk1 9 ?_;intro K hK;go_simp;with_reducible refine (zNu (k:=u) (s:=⟨rA,rn,rc⟩) (HU.out.below hS1.kept.whole) (H.out.rows.below (hbW.trans (hS1.kept.whole.mono hbW.size))) Hn2.out HR2.out HL.out (by rw [zAZ]; omega)).mono ?_
  rintro e v2 ⟨⟨b2,rfl,hm2⟩,hc2⟩;rw [zNT] at hm2;replace hm2:=hm2.part;replace hm1:=hm1.keep (w':=v2) fun x _ hx=>hc2.block x hx
  have hS2:=Kept.call2 hc2 hS1;refine hK.out _ _ (fun _=>hS2) ?_;clear hK K;refine tk1 13 ?_;intro K hK;go_simp;with_reducible refine (zKV (k:=u) (s:=⟨bA,bn,bc⟩) (HU.out.below hS2.kept.whole) (H.out.bounds.below (hbW.trans (hS2.kept.whole.mono hbW.size))) Hn3.out HL.out (by rw [zAZ]; omega)).mono ?_
  rintro e v3 ⟨⟨b3,rfl,hk3,hv3⟩,hc3⟩;rw [zOg] at hv3 ⊢;replace hv3:=VRow.part hk3 hv3;replace hm1:=hm1.keep (w':=v3) fun x _ hx=>hc3.block x (ltl hx hc2.size)
  replace hm2:=hm2.keep (w':=v3) fun x _ hx=>hc3.block x hx
  have hS3:=Kept.call2 hc3 hS2;refine hK.out _ _ (fun _=>hS3) ?_;clear hK K;refine tk1 14 ?_;intro K hK;go_simp;refine hK.out _ _ (fun _=>hS3) ?_;clear hK K;have h23:=hS3.kept.whole;have bR3:=bR.below h23 (by omega);have hbz:=hS0.kept.size;have hsz1:=hS1.kept.size;clear hS0 hS1 hS2 hS3 u0 u1 u2 u3 p0 p1 p2 p3;obtain ⟨r0,r1,r2,r3,rf⟩:=id bR3;refine tk1 15 ?_;intro K hK;go_simp;refine hK.out _ _ (fun h=>absurd h (by decide)) ?_;clear hK K;have P8:=Put.four (W:=v3) (w+1) (.int .i64 pn) (.slice (some b1) os.length os.length) (.slice (some b2) rs.length rs.length) (.slice (some b3) bs.length bs.length);have bR8:=bR3.stored (.int .i64 pn) (.slice (some b1) os.length os.length) (.slice (some b2) rs.length rs.length) (.slice (some b3) bs.length bs.length);generalize (((v3.setCell ⟨w+1,0,none⟩ (.int .i64 pn)).setCell ⟨w+1,1,none⟩ (.slice (some b1) os.length os.length)).setCell ⟨w+1,2,none⟩ (.slice (some b2) rs.length rs.length)).setCell ⟨w+1,3,none⟩ (.slice (some b3) bs.length bs.length)=y8 at *;clear r0 r1 r2 r3 rf;obtain ⟨r0,r1,r2,r3,-⟩:=id bR8;have hc1s:=hc1.size;have hc2s:=hc2.size;refine zAf (by kernel_rfl) ?_ _;go_wp2;refine bodyPost_ret (v:=.agg #[.int .i64 pn,.slice (some b1) os.length os.length,.slice (some b2) rs.length rs.length,.slice (some b3) bs.length bs.length]) (by first | simp [results,Tryz.results102,go_sem,r0,r1,r2,r3] | simp [results,Tryz.results114,go_sem,r0,r1,r2,r3]) rfl ⟨⟨_,_,_,_,b1,b2,b3,?_,Nat.le_of_eq P8.size.symm,rfl,hm1.keep fun x hx _=>P8.keep x ?_,hm2.keep fun x hx _=>P8.keep x ?_,hv3.keep fun x hx _=>P8.keep x ?_⟩,?_⟩
  ·show w.heap.size<=W2.drew.heap.size; exact nlt hbW.size hbz
  ·have hx':W2.drew.heap.size<=x:=hx; omega
  ·omega
  ·omega
  ·exact (hbW.trans (h23.mono hbW.size)).trans (P8.below _ (by omega))
theorem zNJ (h:LPIs w X Y L p os rs bs) (hn:p.O.n<=1000000) (hn2:p.R.n<=1000000) (hn3:p.B.n<=1000000) (hr:∀ i,(os.getD i []).length<=1000000) (hr2:∀ i,(rs.getD i []).length<=1000000) (hL:L<=LM) :
  Calls Tryz.prog 102 #[p.val] w fun e w'=>CopyRet w p.n os rs bs e w'/\Below w w w':=zQr false h hn hn2 hn3 hr hr2 hL
section
variable {w W W':World} {B d:Nat} {n:Int} {va vb vc:Value} {al:Nat->List Value} {cnt:Nat->Nat} {G:Nat->Prop}
end
section
variable {W W':World} {G G' K:Nat->Prop} {L:Nat}
end
theorem zNU {ss:List SV} {m:List (List Rat)} (h:W.ownsRow base 24 1 v n (ss.map SV.val)) (hl:ss.length=n) (hm:m.length=n) (he:∀ k,k<n->VecIs W (fun b=>base<=b) (fun b=>base<=b) L (ss.getD k ⟨none,0,0⟩) (m.getD k [])) :
  ∃ s:SV,v=s.val/\s.n=n/\MatIs W (fun b=>base<=b) (fun b=>base<=b) L s m:=by
 rcases h.2 with ⟨rfl,rfl⟩ | ⟨g,cap,cur,rfl,hbg,hh,hnc,hcap,hcur,ht⟩
 ·exact ⟨⟨none,0,0⟩,rfl,rfl,hm,nlr _,nzl _,fun k hk=>absurd hk (Nat.not_lt_zero k)⟩
 ·refine ⟨⟨some ⟨g,0,none⟩,n,cap⟩,rfl,rfl,hm,hnc,(by show cap<=_; exact nlt ‹_› (show maxLen<=9223372036854775807 by decide)),fun k hk=>⟨⟨g,0,none⟩,ss.getD k ⟨none,0,0⟩,rfl,hbg,?_,he k hk⟩⟩;have hk':k<n:=hk;rw [zA4,Nat.zero_add];have e2:(cur.toList.take (n*1))[k]?=(ss.map SV.val)[k]?:=by rw [ht]
  rw [Nat.mul_one,List.getElem?_take_of_lt hk'] at e2;simp only [World.cell?,hh];have e3:cur[k]?=(ss.map SV.val)[k]?:=by simpa using e2
  rw [List.getElem?_map,gge (by omega)] at e3;have e4:ss.getD k ⟨none,0,0⟩=ss[k]'(by omega):=by simp [gge (show k<ss.length by omega)]
  rw [e4];simpa using e3
theorem zN6 {qs:List QV} {l:List Rat} (h:W.ownsRow base 37 4 v n (qs.flatMap cells4q)) (hl:qs.length=n) (hm:l.length=n) (he:∀ k,k<n->QIs W (fun b=>base<=b) L (qs.getD k ⟨⟨false,none,0,0⟩,⟨false,none,0,0⟩⟩) (l.getD k 0)) :
  ∃ s:SV,v=s.val/\s.n=n/\VecIs W (fun b=>base<=b) (fun b=>base<=b) L s l:=by
 rcases h.2 with ⟨rfl,rfl⟩ | ⟨g,cap,cur,rfl,hbg,hh,hnc,hcap,hcur,ht⟩
 ·exact ⟨⟨none,0,0⟩,rfl,rfl,hm,nlr _,nzl _,fun k hk=>absurd hk (Nat.not_lt_zero k)⟩
 ·refine ⟨⟨some ⟨g,0,none⟩,n,cap⟩,rfl,rfl,hm,hnc,(by show cap<=_; exact nlt ‹_› (show maxLen<=9223372036854775807 by decide)),fun k hk=>⟨⟨g,0,none⟩,qs.getD k ⟨⟨false,none,0,0⟩,⟨false,none,0,0⟩⟩,rfl,hbg,?_,he k hk⟩⟩;have hk':k<n:=hk
  have ec:∀ o,o<4->W.cell? ⟨g,k*4+o,none⟩=(cells4q (qs.getD k ⟨⟨false,none,0,0⟩,⟨false,none,0,0⟩⟩))[o]?:=fun o ho=>by
   have e2:(cur.toList.take (n*4))[k*4+o]?=(qs.flatMap cells4q)[k*4+o]?:=(by rw [ht]);rw [List.getElem?_take_of_lt (by omega),zCy qs k o (by omega) ho ⟨⟨false,none,0,0⟩,⟨false,none,0,0⟩⟩] at e2;simp only [World.cell?,hh];simpa using e2
  rw [zA4,Nat.zero_add];exact ⟨ec 0 (by omega),ec 1 (by omega),ec 2 (by omega),ec 3 (by omega)⟩
section
variable {w W W1 W2:World} {n:Int} {B d L:Nat} {os rs:List (List Rat)} {bs:List Rat} {va vb vc v':Value} {G:Nat->Prop} {s1 s2:List SV} {s3:List QV} {o:Obj}
end
theorem MPart.own {lo hi:Nat} {m:List (List Rat)} (h:MPart lo hi b m W) (hB:B<=lo) (hn:m.length<=1000000) :
  ∃ ss:List SV,ss.length=m.length/\W.ownsRow B 24 1 (.slice (some b) m.length m.length) m.length (ss.map SV.val)/\∀ k,k<m.length->VecCan W (fun x=>lo<=x/\x<hi/\x ≠ b) (fun x=>lo<=x/\x<hi/\x ≠ b) (ss.getD k ⟨none,0,0⟩) (m.getD k []):=by
 obtain ⟨h1,h2,cs,sv,h3,h4,h5⟩:=h;refine ⟨(List.range m.length).map sv,by simp,⟨by simp,.inr ⟨b,m.length,cs,rfl,by omega,h3,nlr _,by simp only [maxLen]; omega,by omega,?_⟩⟩,fun k hk=>?_⟩
 ·rw [Nat.mul_one,List.take_of_length_le (by simp; omega)];apply List.ext_getElem
  ·simp [h4]
  ·intro i g1 g2;have hi':i<m.length:=by simp at g2; exact g2
   have:=(h5 i hi').1;rw [Array.getElem?_eq_getElem (by omega)] at this;simpa using this
 ·rw [zA6 _ _ _ _ hk];exact (h5 k hk).2
theorem VPart.own {lo hi:Nat} {l:List Rat} (h:VPart lo hi b l W) (hB:B<=lo) (hn:l.length<=1000000) :
  ∃ ss:List QV,ss.length=l.length/\W.ownsRow B 37 4 (.slice (some b) l.length l.length) l.length (ss.flatMap cells4q)/\∀ k,k<l.length->QCan W (fun x=>lo<=x/\x<hi/\x ≠ b) (ss.getD k ⟨⟨false,none,0,0⟩,⟨false,none,0,0⟩⟩) (l.getD k 0):=by
 obtain ⟨h1,h2,h3⟩:=h;obtain ⟨f,hf⟩:=Deep.choose_lt (α:=QV) (n:=l.length) (p:=fun k v=>QCell W ⟨b,k*4,none⟩ v/\QCan W (fun x=>¬ ¬ (lo<=x/\x<hi/\x ≠ b)) v (l.getD k 0)) (fun k hk=>h3.elem k hk);obtain ⟨cs,e,hs⟩:=h3.blk
 have hfl:∀ n,(((List.range n).map f).flatMap cells4q).length=n*4:=fun n=>by
  induction n with
  | zero=>rfl
  | succ n ih=>rw [List.range_succ,List.map_append,List.flatMap_append,List.length_append,ih]; simp [cells4q]; omega
 refine ⟨(List.range l.length).map f,by simp,⟨hfl _,.inr ⟨b,l.length,cs,rfl,by omega,e,nlr _,by simp only [maxLen]; omega,by omega,?_⟩⟩,fun k hk=>?_⟩
 ·rw [List.take_of_length_le (by simp; omega)];apply List.ext_getElem?;intro i;by_cases hi':i<l.length*4
  ·have hk:i / 4<l.length:=(by omega);have e1:=zCy ((List.range l.length).map f) (i / 4) (i % 4) (by simpa using hk) (by omega) ⟨⟨false,none,0,0⟩,⟨false,none,0,0⟩⟩;rw [show i / 4*4+i % 4=i by omega,zA6 _ _ _ _ hk] at e1;rw [e1];obtain ⟨q0,q1,q2,q3⟩:=(hf (i / 4) hk).1;simp only [World.cell?,e] at q0 q1 q2 q3;have ei:i=i / 4*4+i % 4:=(by omega);have ho:i % 4<4:=(by omega);generalize i / 4=k at *;generalize i % 4=o at *;subst ei;rcases (by omega:o=0\/o=1\/o=2\/o=3) with rfl | rfl | rfl | rfl <;> simp only [cells4q,List.getElem?_cons_zero,List.getElem?_cons_succ,Array.getElem?_toList]
   ·simpa using q0
   ·simpa using q1
   ·simpa using q2
   ·simpa using q3
  ·rw [List.getElem?_eq_none (by simp; omega),List.getElem?_eq_none (by rw [hfl]; omega)]
 ·rw [zA6 _ _ _ _ hk];exact (hf k hk).2.imp fun x _ hx=>Classical.not_not.1 hx
def LPRet (w:World) (n:Int) (L:Nat) (os rs:List (List Rat)) (bs:List Rat) (e:Ending) (w':World):Prop:=
 ∃ q:LPV,e = .returned (.tuple #[q.val,.int .i64 0])/\q.n=n/\LPIs w' (fun x=>w.heap.size<=x) (fun x=>w.heap.size<=x) L q os rs bs
theorem zA1 (w:World) (v:QV):∀ j u,(cells4q v)[j]?=some u->(w.alloc (.cells #[.bool v.num.ng,.slice v.num.A v.num.n v.num.c,.bool v.den.ng,.slice v.den.A v.den.n v.den.c] 37)).cell? (Addr.add ⟨w,0,none⟩ j)=some u:=by
 intro j u h;rw [zA4,Nat.zero_add];have e:(w.alloc (.cells #[.bool v.num.ng,.slice v.num.A v.num.n v.num.c,.bool v.den.ng,.slice v.den.A v.den.n v.den.c] 37)).heap[w.heap.size]?=some (.cells #[.bool v.num.ng,.slice v.num.A v.num.n v.num.c,.bool v.den.ng,.slice v.den.A v.den.n v.den.c] 37 (0,0)):=zAd _ _ rfl;simp only [World.cell?,e];simpa [cells4q] using h
def cst0 (os:List (List Rat)) (V j:Nat):Rat:=if j<V then-((os.getD 0 []).getD j 0) else 0
def row0 (rs:List (List Rat)) (bs:List Rat) (cl:Nat->Rat) (V i j:Nat):Rat:=if j<V then (rs.getD i []).getD j 0 else if j=V then bs.getD i 0 else cl i
def ChIs (w:World) (v:Value) (M:Nat) (ch:Option (Nat->Rat)):Prop:=
 (v = .slice none 0 0/\ch=none)\/∃ (b c:Nat) (cl:Nat->Rat),v = .slice (some b) M c/\ch=some cl/\M<=c/\c<=9223372036854775807/\∀ i,i<M->∃ u:QV,QCell w ⟨b,i*4,none⟩ u/\QCan w (fun _=>True) u (cl i)
def PN1 (w:World) (p:LPV) (V E:Nat) (os:List (List Rat)) (rf:Nat->Nat->Rat) (t:Value) (W:World):Prop:=
 ∃ k:Nat,k<=V/\t = .int .i64 k/\LPBox W w p/\∃ (vb vd:Value) (G:Nat->Prop) (qs:List QV),qs.length=k/\PM w (w+1) (V:Int) [] (List.range k) [] qs E rf (cst0 os V) (.slice none 0 0) vb (.slice none 0 0) vd G W
def PN2 (w:World) (p:LPV) (V E:Nat) (os:List (List Rat)) (rf:Nat->Nat->Rat) (t:Value) (W:World):Prop:=
 ∃ i:Nat,i<=p.R.n/\t = .int .i64 i/\LPBox W w p/\∃ (va vb vc vd:Value) (G:Nat->Prop) (sr:List SV) (qs:List QV),sr.length=i/\qs.length=V+1/\PM w (w+1) (V:Int) ((List.range i).map (V+·)) (List.range V) sr qs E rf (cst0 os V) va vb vc vd G W
def PN3 (w wA:World) (V:Nat) (g:Nat->Rat) (v t:Value) (W:World):Prop:=
 ∃ (k:Nat) (s:List QV),k<=V/\t = .int .i64 k/\GRow (fun b=>b<w.heap.size\/wA.heap.size<=b) wA g k v s W
theorem zBV {chv:Value} (h:LPIs w X Y L p os rs bs) (hV:p.n=V) (hV2:V<=64) (ho:1<=p.O.n) (ho2:p.O.n<=4) (hM:p.R.n=M) (hr:M<=128) (hb:p.B.n=M) (hL:L+1<=LM)
  (hch:ChIs w chv M ch) (hE:E+1-V=Lin.given ch) (hVE:V<=E) :
  Calls Tryz.prog 89 #[p.val,chv] w fun e w'=>∃ x G,e = .returned (.pointer (some ⟨x.d,0,none⟩))/\PDA w' G x V M E ⟨fun i=>V+i,fun j=>j,row0 rs bs (ch.getD fun _=>0) V,fun _=>cst0 os V⟩/\Below w w w'/\∀ y,G y->w.heap.size<=y:=by
 obtain ⟨i0,hiI,hz0,hz1,hz2⟩:=info_parts zG1;obtain ⟨j0,hjI,hy0,hy1,hy2⟩:=info_parts zFA;obtain ⟨k0,hk0,hx0,hx1,hx2⟩:=info_parts zEv;have HL1:=hdq hL;have HL:Hid (L<=LM):=by show L<=LM; omega
 have HE:=hdq hE;clear hL hE;obtain ⟨pn,⟨OA,On,Oc⟩,⟨RA,Rn,Rc⟩,⟨BA,Bn,Bc⟩⟩:=p;dsimp only at hV ho ho2 hM hb;subst hV hM;have HB:=hdq hb;obtain ⟨rf,hrf⟩:∃ rf,rf=row0 rs bs (ch.getD fun _=>0) V:=⟨_,rfl⟩;have HRF:=hdq hrf;rw [<-hrf];clear hb hrf
 have H0:PN1 w ⟨V,⟨OA,On,Oc⟩,⟨RA,Rn,Rc⟩,⟨BA,Bn,Bc⟩⟩ V E os rf (.int .i64 0) ((w.alloc (.cells #[.int .i64 V,.slice OA On Oc,.slice RA Rn Rc,.slice BA Bn Bc] 28)).alloc (.cells #[.int .i64 V,.slice none 0 0,.slice none 0 0,.slice none 0 0,.slice none 0 0] 191)):=by
  have e1:∀ f,four (.slice none 0 0) (.slice none 0 0) (.slice none 0 0) (.slice none 0 0) f = .slice none 0 0:=fun f=>by unfold four; simp
  have e2:∀ f,lists (iv []) (iv (List.range 0)) (([]:List SV).map SV.val) (([]:List QV).flatMap cells4q) f=[]:=fun f=>by unfold lists; simp [iv]
  have e3:∀ f,quad ([]:List Nat).length (List.range 0).length ([]:List SV).length ([]:List QV).length f=0:=fun f=>by unfold quad; simp
  refine ⟨0,nzl _,rfl,bx4,.slice none 0 0,.slice none 0 0,fun x=>x=w.heap.size+1,[],rfl,⟨⟨(bal).alloc (by simp) _,zAd _ _ (by simp),fun f h1 h2=>?_,fun f g j _ _ _ _ _ hj=>?_,fun f j _ _ hj=>?_,fun x hx=>?_,rfl,fun f j _ _ hj=>?_,by omega,nlr _⟩,fun k hk=>absurd hk (Nat.not_lt_zero k),fun i hi=>absurd hi (Nat.not_lt_zero i),fun i j hi=>absurd hi (Nat.not_lt_zero i)⟩⟩
  ·rw [e1,e2,e3]; exact ⟨by simp,.inl ⟨rfl,rfl⟩⟩
  ·rw [e1] at hj; cases hj
  ·rw [e1] at hj; cases hj
  ·subst hx; simp
  ·rw [e1] at hj; cases hj
 show Calls _ _ #[.agg #[.int .i64 V,.slice OA On Oc,.slice RA Rn Rc,.slice BA Bn Bc],chv] _ _;go_enter Tryz.func89,Tryz.ntmps89
 go_wp2;generalize (w.alloc (.cells #[.int .i64 V,.slice OA On Oc,.slice RA Rn Rc,.slice BA Bn Bc] 28)).alloc (.cells #[.int .i64 V,.slice none 0 0,.slice none 0 0,.slice none 0 0,.slice none 0 0] 191)=W0 at *;go_loopw [16] (fun t W=>PN1 w ⟨V,⟨OA,On,Oc⟩,⟨RA,Rn,Rc⟩,⟨BA,Bn,Bc⟩⟩ V E os rf t W) (fun t _=>V-(intOf t).toNat)
 case atStart=>exact H0
 case round=>
  clear H0;obtain ⟨k,hk,rfl,bP,vb,vd,G,qs,hqs,hD⟩:=hrel;have HQS:=hdq hqs;clear hqs;by_cases hlt:k<V
  ·obtain ⟨c0,c1,c2,c3,c4,cf⟩:=hD.pt.cells;have hdl:=hD.pt.dlt;have hwr:=hD.pt.bel.size;have hG0:¬ G w.heap.size:=fun hg=>by have:=(hD.pt.gin _ hg).1; omega
   have hown:=hD.pt.own 2 (by omega) (by omega);rw [show four (.slice none 0 0) vb (.slice none 0 0) vd 2=vb from rfl,show lists (iv []) (iv (List.range k)) (([]:List SV).map SV.val) (qs.flatMap cells4q) 2=iv (List.range k) from rfl,show pft 2=3 from rfl,show pfw 2=1 from rfl,show quad ([]:List Nat).length (List.range k).length ([]:List SV).length qs.length 2=(List.range k).length from rfl,List.length_range] at hown;(go_wp2_with (at_builtin; refine wpList_append_own_at _ rfl _ _ 29 rfl (w+1) 3 i0 (.int .i64 0) 1 8 Tryz.underlying29 hiI hz0 hz1 hz2 rfl (by decide) vb k (iv (List.range k)) rfl (hown.alloc _) ⟨wr,0,none⟩ 1 1 (iv [k]) rfl rfl ?cells ?one ?b1 ?b2 ?b3 ?_));case cells=>exact cell_one_new _ _ _
   case one=>intro u hu; simp [iv] at hu; subst hu; rfl
   case b1=>simp [maxLen]; omega
   case b2=>omega
   case b3=>simp; omega
   intro v' W2 hown2 hg hnil hat;obtain ⟨g',c',rfl⟩:=ownsRow_succ hown2;obtain ⟨v',hv'⟩:∃ v',v'=Value.slice (some g') (k+1) c':=⟨_,rfl⟩;rw [<-hv'] at hown2 hnil hat ⊢;have hat2:v'.ownBlock=vb.ownBlock\/v'.ownBlock=some (wr.alloc (.cells #[.int .i64 (k:Int)] 3)).heap.size:=hat.imp id fun e=>by rw [e]; simp
   have hblk:=hD.pt.app_blk (f:=2) (by omega) (by omega) hg hdl (.inr rfl);have hlow:=hD.pt.app_blk (f:=2) (x:=w) (by omega) (by omega) hg (by omega) (.inl hG0);have hD2:=hD.addF (x:=k) (v':=v') (by rw [List.length_range]; exact hown2) hg hat2;have d2:W2.cell? ⟨w+1,2,none⟩=some vb:=(cob (a:=⟨w+1,2,none⟩) hblk).trans c2;have df:∀ o,W2.frozen? ⟨w+1,o,none⟩=false:=(fun o=>(World.frozen?_of_block (a:=⟨w+1,o,none⟩) hblk).trans (cf o));have bP2:LPBox (W2.setCell ⟨w+1,2,none⟩ v') w ⟨V,⟨OA,On,Oc⟩,⟨RA,Rn,Rc⟩,⟨BA,Bn,Bc⟩⟩:=(bP.heap hlow).far4 (by omega) _;have HD2:=hdq hD2;clear c0 c1 c2 c3 c4 cf hD hown hown2 hg hat hat2 hnil hblk hlow hD2 bP;rw [hv'] at *;clear hv' v';go_wp2;clear d2 df;have hD:=HD2.out;obtain ⟨G4,HG4⟩:∃ G4:Nat->Prop,Hid (G4=fun y=>G y\/(Value.slice (some g') (k+1) c').ownBlock=some y):=⟨_,rfl⟩;rw [<-HG4.out] at hD;clear HD2 HG4;generalize W2.setCell ⟨w+1,2,none⟩ (.slice (some g') (k+1) c')=W3 at *;generalize Value.slice (some g') (k+1) c'=vf at *;obtain ⟨-,-,-,-,c4,cf⟩:=hD.pt.cells;have hdl3:=hD.pt.dlt;have hG3:¬ G4 w.heap.size:=fun hg=>by have:=(hD.pt.gin _ hg).1; omega
   obtain ⟨p0,p1,p2,p3,p4⟩:=id bP2;have hown:=hD.pt.own 4 (by omega) (by omega);rw [show four (.slice none 0 0) vf (.slice none 0 0) vd 4=vd from rfl,show lists (iv []) (iv (List.range k++[k])) (([]:List SV).map SV.val) (qs.flatMap cells4q) 4=qs.flatMap cells4q from rfl,show pft 4=37 from rfl,show pfw 4=4 from rfl,show quad ([]:List Nat).length (List.range k++[k]).length ([]:List SV).length qs.length 4=qs.length from rfl] at hown;refine zAp 11 (fun f w'=>w'.cell? ⟨w,1,none⟩=some (.slice OA On Oc)/\(f=false->w'.cell? ⟨w+1,4,none⟩=some vd)) (by kernel_rfl) ?_;have hS0:W3.drew.cell? ⟨w,1,none⟩=some (.slice OA On Oc)/\(false=false->W3.drew.cell? ⟨w+1,4,none⟩=some vd):=⟨p1,fun _=>c4⟩;refine tx4 0 1 2 3 hS0 ?_;refine tkW 4 (vd) (fun w' hSw=>?_) (hS0) ?_
   ·have:=hSw.2 rfl; go_simp
   simp only [zz];refine tx1 5 hS0 ?_;refine tx1 6 hS0 ?_;refine tx1 7 hS0 ?_;refine tk1 8 ?_;intro K hK;go_simp;have hdr:Below W3 W3 W3.drew:=(brf _ _).drew;refine (zFd (s:=⟨OA,On,Oc⟩) ((h.obj.below hD.pt.bel).below hdr) 0 k (by show 0<On; omega) (by omega) HL.out).mono ?_; rintro e w3 ⟨⟨z,rfl,hz⟩,hb3⟩
   dsimp only;have h3:=hdr.trans hb3;refine hK.out _ _ ⟨(h3.cell (p:=⟨w,1,none⟩) (by show w.heap.size<_; omega)).trans p1,fun _=>(h3.cell (p:=⟨w+1,4,none⟩) hdl3).trans c4⟩ ?_;clear hK K;refine tk1 9 ?_;intro K hK;go_simp;refine (zHK (hz.qis (MatAt.fit h.obj 0 k)) HL1.out).mono ?_; rintro e w4 ⟨⟨y,rfl,hy⟩,hb4⟩
   dsimp only;have h4:Below W3 W3 w4:=h3.trans (hb4.mono h3.size);have hs4:=h4.size;refine hK.out _ _ ⟨(h4.cell (p:=⟨w,1,none⟩) (by show w.heap.size<_; omega)).trans p1,fun _=>(h4.cell (p:=⟨w+1,4,none⟩) hdl3).trans c4⟩ ?_;clear hK K;have hD4:=hD.call h4;have hyG:QCan w4 (fun b=>¬ G4 b) y (-((os.getD 0 []).getD k 0)):=hy.imp fun b _ hb hg=>by have:=(hD.pt.gin b hg).2; have:=h3.size; simp only [New] at hb; omega
   have hown4:=hD4.pt.own 4 (by omega) (by omega);rw [show four (.slice none 0 0) vf (.slice none 0 0) vd 4=vd from rfl,show lists (iv []) (iv (List.range k++[k])) (([]:List SV).map SV.val) (qs.flatMap cells4q) 4=qs.flatMap cells4q from rfl,show pft 4=37 from rfl,show pfw 4=4 from rfl,show quad ([]:List Nat).length (List.range k++[k]).length ([]:List SV).length qs.length 4=qs.length from rfl] at hown4;refine tk1 10 ?_;intro K hK;go_simp;have al:Below w4 w4 (w4.alloc (.cells #[.bool y.num.ng,.slice y.num.A y.num.n y.num.c,.bool y.den.ng,.slice y.den.A y.den.n y.den.c] 37)):=bal;have h5:=h4.trans (al.mono hs4);refine hK.out _ _ ⟨(h5.cell (p:=⟨w,1,none⟩) (by show w.heap.size<_; omega)).trans p1,fun _=>(h5.cell (p:=⟨w+1,4,none⟩) hdl3).trans c4⟩ ?_;clear hK K;refine tk1 11 ?_;intro K hK;refine zAq _ _ 24 rfl (w+1) 37 k0 (.agg #[.bool false,.slice none 0 0,.bool false,.slice none 0 0]) 4 64 Tryz.underlying24 hk0 hx0 hx1 hx2 rfl (by decide) vd qs.length (qs.flatMap cells4q) rfl (hown4.alloc _) ⟨w4,0,none⟩ 1 1 (cells4q y) rfl rfl (zA1 _ _) (by intro u hu; simp [cells4q] at hu; rcases hu with rfl | rfl | rfl | rfl <;> rfl) (by have:=HQS.out; simp [maxLen]; omega) (by have:=HQS.out; omega) (by simp; omega) ?_;intro v' W5 hown5 hg5 hnil5 hat5;obtain ⟨g5,c5,rfl⟩:=ownsRow_succ hown5;have hg:(w4.alloc (.cells #[.bool y.num.ng,.slice y.num.A y.num.n y.num.c,.bool y.den.ng,.slice y.den.A y.den.n y.den.c] 37)).grownBy W5 vd.ownBlock:=⟨hg5.1,hg5.2,hg5.3,hg5.size,hg5.block⟩;have hblk:=hD4.pt.app_blk (f:=4) (by omega) (by omega) hg hD4.pt.dlt (.inr rfl);have hlow:=hD4.pt.app_blk (f:=4) (x:=w) (by omega) (by omega) hg (by omega) (.inl hG3);have hD5:=hD4.addC (z:=y) hyG (by show cst0 os V qs.length=_; rw [HQS.out]; unfold cst0; rw [if_pos hlt]) hown5 hg hat5;have d4:W5.cell? ⟨w+1,4,none⟩=some vd:=((cob (a:=⟨w+1,4,none⟩) hblk).trans (h4.cell (p:=⟨w+1,4,none⟩) hdl3)).trans c4;have df:∀ o,W5.frozen? ⟨w+1,o,none⟩=false:=(fun o=>(World.frozen?_of_block (a:=⟨w+1,o,none⟩) (hblk.trans (h4.block _ hdl3))).trans (cf o));have hl3:w<(W3:Nat):=(by omega);have p5:W5.cell? ⟨w,1,none⟩=some (.slice OA On Oc):=((cob (a:=⟨w,1,none⟩) hlow).trans (h4.cell (p:=⟨w,1,none⟩) hl3)).trans p1;simp only [Act.put,zz];refine hK.out _ _ ⟨p5,fun h=>absurd h (by decide)⟩ ?_;clear hK K;refine tk1 12 ?_;intro K hK;go_simp;refine hK.out _ _ ⟨p5,fun h=>absurd h (by decide)⟩ ?_;clear hK K;refine tk1 13 ?_;intro K hK;go_simp;refine hK.out _ _ ⟨p5,fun h=>absurd h (by decide)⟩ ?_;clear hK K;refine tk1 14 ?_;intro K hK;go_simp;refine hK.out _ _ ⟨(World.cell?_setCell_far _ _ _ _ (by simp)).trans p5,fun h=>absurd h (by decide)⟩ ?_;clear hK K;refine zAf (by kernel_rfl) ?_ _;rw [<-List.range_succ] at hD5;have HD5:=hdq hD5;have HP5:Hid (LPBox (W5.setCell ⟨w+1,4,none⟩ (.slice (some g5) (qs.length+1) c5)) w ⟨V,⟨OA,On,Oc⟩,⟨RA,Rn,Rc⟩,⟨BA,Bn,Bc⟩⟩):=((bP2.below h4 hl3).heap hlow).far4 (by omega) _;clear hD5 hD hD4 hown hown4 hown5 hg hg5 hnil5 hat5 d4 df p5 hblk hlow c4 cf p0 p1 p2 p3 p4 al h3 h4 h5 hb3 hb4 hz hy hyG hS0 hdr;go_wp2;exact ⟨⟨k+1,by omega,by simp,HP5.out,_,_,_,qs++[y],by simp [HQS.out],HD5.out⟩,by first | (simp [intOf]; done) | (simp [intOf]; omega)⟩
  ·(obtain rfl:k=V:=by omega);obtain ⟨c0,c1,c2,c3,c4,cf⟩:=hD.pt.cells;have hdl:=hD.pt.dlt;have hwr:=hD.pt.bel.size;have hG0:¬ G w.heap.size:=fun hg=>by have:=(hD.pt.gin _ hg).1; omega
   have hown:=hD.pt.own 4 (by omega) (by omega);rw [show four (.slice none 0 0) vb (.slice none 0 0) vd 4=vd from rfl,show lists (iv []) (iv (List.range k)) (([]:List SV).map SV.val) (qs.flatMap cells4q) 4=qs.flatMap cells4q from rfl,show pft 4=37 from rfl,show pfw 4=4 from rfl,show quad ([]:List Nat).length (List.range k).length ([]:List SV).length qs.length 4=qs.length from rfl] at hown;(go_wp2_with (at_builtin; refine wpList_append_own_at _ rfl _ _ 24 rfl (w+1) 37 k0 (.agg #[.bool false,.slice none 0 0,.bool false,.slice none 0 0]) 4 64 Tryz.underlying24 hk0 hx0 hx1 hx2 rfl (by decide) vd qs.length (qs.flatMap cells4q) rfl (hown.alloc _) ⟨wr,0,none⟩ 1 1 (cells4q QV.zero) rfl rfl (zA1 _ _) (by intro u hu; simp [cells4q] at hu; rcases hu with rfl | rfl | rfl | rfl <;> rfl) (by have:=HQS.out; simp [maxLen]; omega) (by have:=HQS.out; omega) (by simp; omega) ?_));intro v' W2 hown2 hg hnil hat;obtain ⟨g',c',rfl⟩:=ownsRow_succ hown2;have hblk:=hD.pt.app_blk (f:=4) (by omega) (by omega) hg hdl (.inr rfl);have hlow:=hD.pt.app_blk (f:=4) (x:=w) (by omega) (by omega) hg (by omega) (.inl hG0);have hD2:=hD.addC (z:=QV.zero) (q:=0) (QCan.zero _ _) (by show cst0 os k qs.length=_; rw [HQS.out]; unfold cst0; rw [if_neg (by omega)]) hown2 hg (hat.imp id fun e=>by rw [e]; simp);have d2:W2.cell? ⟨w+1,4,none⟩=some vd:=(cob (a:=⟨w+1,4,none⟩) hblk).trans c4;have df:∀ o,W2.frozen? ⟨w+1,o,none⟩=false:=(fun o=>(World.frozen?_of_block (a:=⟨w+1,o,none⟩) hblk).trans (cf o));have bP2:LPBox (W2.setCell ⟨w+1,4,none⟩ (.slice (some g') (qs.length+1) c')) w ⟨k,⟨OA,On,Oc⟩,⟨RA,Rn,Rc⟩,⟨BA,Bn,Bc⟩⟩:=(bP.heap hlow).far4 (by omega) _
   have H1:PN2 w ⟨k,⟨OA,On,Oc⟩,⟨RA,Rn,Rc⟩,⟨BA,Bn,Bc⟩⟩ k E os rf (.int .i64 0) (W2.setCell ⟨w+1,4,none⟩ (.slice (some g') (qs.length+1) c')):=
    ⟨0,nzl _,rfl,bP2,_,_,_,_,_,[],qs++[QV.zero],rfl,by simp [HQS.out],hD2⟩
   obtain ⟨p0,p1,p2,p3,p4⟩:=id bP2;clear c0 c1 c2 c3 c4 cf hD hown hown2 hg hat hnil hblk hlow hD2 bP bP2;go_wp2;clear d2 df p0 p1 p2 p3 p4;generalize W2.setCell ⟨w+1,4,none⟩ (.slice (some g') (qs.length+1) c')=W1 at *;(go_loopw [57] (fun t W=>PN2 w ⟨k,⟨OA,On,Oc⟩,⟨RA,Rn,Rc⟩,⟨BA,Bn,Bc⟩⟩ k E os rf t W) (fun t _=>Rn-(intOf t).toNat));case atStart=>exact H1
   case round=>
    clear H1;obtain ⟨i,hi',rfl,bP,va,vb,vc,vd,G,sr,qs,hsr,hqs,hD⟩:=hrel;have hi2:i<=Rn:=hi';have hdl:=hD.pt.dlt;have hG0:¬ G w.heap.size:=fun hg=>by have:=(hD.pt.gin _ hg).1; omega
    have HSR:=hdq hsr;have HQS:=hdq hqs;clear hsr hqs hi';by_cases hiR:i<Rn
    ·obtain ⟨p0,p1,p2,p3,p4⟩:=id bP;dsimp only at p0 p1 p2 p3;have hii:(i:Int)<(Rn:Int):=(by omega);have HD:=hdq hD;clear hD;go_wp2;obtain ⟨wA,hwA⟩:∃ wA:World,wA=wr:=⟨_,rfl⟩;have H2:PN3 w wA k (rf i) (.slice none 0 0) (.int .i64 0) wr:=⟨0,[],nzl _,rfl,by rw [hwA]; exact GRow.start _ _ _⟩;rw [<-hwA] at HD bP hdl p0 p1 p2 p3 p4;clear hwA;(go_loopw [8,62] (fun v t W=>PN3 w wA k (rf i) v t W) (fun _ t _=>k-(intOf t).toNat));case atStart=>exact H2
     case round=>
      clear H2;obtain ⟨j,s,hj,rfl,hGr⟩:=hrel;have hpl:w<(wA:Nat):=(by omega);have bPr:=bP.below hGr.bel hpl;obtain ⟨r0,r1,r2,r3,r4⟩:=id bPr;dsimp only at r0 r1 r2 r3;have hAr:=hGr.bel.size;by_cases hlt2:j<k
      ·have hjk:(j:Int)<(k:Int):=(by omega);have HGr:=hdq hGr;clear hGr;(go_wp2_with fail);refine (zFd (s:=⟨RA,Rn,Rc⟩) (h.rows.below (HD.out.pt.bel.trans (HGr.out.bel.mono HD.out.pt.bel.size))) i j hiR (by omega) HL.out).mono ?_; rintro e w1 ⟨⟨z,rfl,hz⟩,hb1⟩
       have HO1:=hdq (HGr.out.own);have HS1:Hid (s.length=j):=HGr.out.len;have hsz1:=hb1.size
       go_wp2_with (at_builtin; refine wpList_append_own_at _ rfl _ _ 24 rfl wA 37 k0 (.agg #[.bool false,.slice none 0 0,.bool false,.slice none 0 0]) 4 64 Tryz.underlying24 hk0 hx0 hx1 hx2 rfl (by decide) _ (j) (s.flatMap cells4q) rfl ((zAr HO1.out fun j hj=>by
        obtain ⟨_,cs,hh⟩:=zAc HO1.out hj;exact hb1.block j (zAa hh)).alloc _) ⟨w1,0,none⟩ 1 1 (cells4q z) rfl rfl (zA1 _ _) (by intro u hu; simp [cells4q] at hu; rcases hu with rfl | rfl | rfl | rfl <;> rfl) (by simp [maxLen]; omega) (by omega) (by simp; omega) ?_)
       intro v' W2 hown1 hg1 hnil1 hat1
       have hz':QCan w1 (fun b=>Value.ownBlock u8 ≠ some b/\(b<w.heap.size\/wA.heap.size<=b)) z (rf i j):=by
        have e:rf i j=(rs.getD i []).getD j 0:=by rw [HRF.out]; unfold row0; rw [if_pos hlt2]
        rw [e]
        exact hz.imp fun b _ hb=>by
         simp only [New] at hb;refine ⟨fun e=>?_,.inr (by omega)⟩;obtain ⟨_,cs,hh⟩:=zAc HO1.out e;have:=zAa hh;omega
       have Hfin:Hid (PN3 w wA k (rf i) v' (.int .i64 ((j:Int)+1)) W2):=⟨j+1,s++[z],by omega,by simp,HGr.out.step hb1 hz' hown1 hg1 (hat1.imp id fun e=>by rw [e]; simp)⟩;clear hz hz' hown1 hg1 hnil1 hat1 hb1;go_wp2;go_roundw;case rel=>exact Hfin.out
       case measure=>simp [intOf]; omega
      ·(obtain rfl:j=k:=by omega);obtain ⟨ad,u,e,hx,hqc,hqv⟩:=h.bounds.elem i (by show i<Bn; rw [HB.out]; exact hiR);dsimp only at e;subst e;have q0:(ad.add (i*4)).block<w:=zAb hqc.1;have hbel:=HD.out.pt.bel.trans (hGr.bel.mono HD.out.pt.bel.size);obtain ⟨b0,b1,b2,b3⟩:=hqc.keep (w':=wr) (fun a ha hl=>hbel.cell (by rw [ha]; exact hl));have HU:=hdq (hqv.below hbel);have hcap:=h.bounds.cap;have hle:=h.bounds.le;dsimp only at hcap hle;have hin:i<Bn:=by rw [HB.out]; exact hiR
       have hinI:(i:Int)<(Bn:Int):=(by omega);have HGr:=hdq hGr;clear hqc hqv hGr;(go_wp2_with fail);refine (zAT HU.out HL.out).mono ?_; rintro e w1 ⟨⟨z,rfl,hz⟩,hb1⟩
       have HO1:=hdq (HGr.out.own);have HS1:Hid (s.length=j):=HGr.out.len;have hsz1:=hb1.size
       go_wp2_with (at_builtin; refine wpList_append_own_at _ rfl _ _ 24 rfl wA 37 k0 (.agg #[.bool false,.slice none 0 0,.bool false,.slice none 0 0]) 4 64 Tryz.underlying24 hk0 hx0 hx1 hx2 rfl (by decide) _ (j) (s.flatMap cells4q) rfl ((zAr HO1.out fun j hj=>by
        obtain ⟨_,cs,hh⟩:=zAc HO1.out hj;exact hb1.block j (zAa hh)).alloc _) ⟨w1,0,none⟩ 1 1 (cells4q z) rfl rfl (zA1 _ _) (by intro u hu; simp [cells4q] at hu; rcases hu with rfl | rfl | rfl | rfl <;> rfl) (by simp [maxLen]; omega) (by omega) (by simp; omega) ?_)
       intro v' W2 hown1 hg1 hnil1 hat1
       have hz':QCan w1 (fun b=>Value.ownBlock u8 ≠ some b/\(b<w.heap.size\/wA.heap.size<=b)) z (rf i j):=by
        have e:rf i j=bs.getD i 0:=by rw [HRF.out]; unfold row0; rw [if_neg (by omega),if_pos rfl]
        rw [e]
        exact hz.imp fun b _ hb=>by
         simp only [New] at hb;refine ⟨fun e=>?_,.inr (by omega)⟩;obtain ⟨_,cs,hh⟩:=zAc HO1.out e;have:=zAa hh;omega
       have HG2:=hdq (HGr.out.step hb1 hz' hown1 hg1 (hat1.imp id fun e=>by rw [e]; simp));obtain ⟨g1,c1,rfl⟩:=ownsRow_succ hown1;clear hz hz' hown1 hg1 hnil1 hat1 HO1;rcases hch with ⟨rfl,rfl⟩ | ⟨cb,cc,cl,rfl,rfl,hc1,hc2,hcl⟩
       ·obtain rfl:E=j:=by have:=HE.out; simp [Lin.given] at this; omega
        have hbl:=HG2.out.bel;have hWs:=hbl.size
        obtain ⟨rb,rc,hv,t1,t2,t3,t4,hRP⟩:=zFq (l:=rowL (E) (rf i)) (G:=fun y=>G y\/y=g1) HG2.out.own HG2.out.len (by rw [zAm]) (by omega) (fun x hx=>by
         rw [zAL _ (by omega)]
         exact (HG2.out.elem x hx).imp fun y _ hy hg=>by
          rcases hg with hg | rfl
          ·have:=HD.out.pt.gin y hg;rcases hy.2 with h1 | h1 <;> omega
          ·exact hy.1 rfl) (fun y e=>.inr (by cases e; rfl))
        cases hv;have hgl:=hRP.lt;have hDg:=HD.out.grow hbl (b:=g1) t3 hgl;have hdg:=hDg.pt.dlt;have hG1:¬ (G w.heap.size\/w.heap.size=g1):=(fun hg=>hg.elim hG0 fun e=>by omega);obtain ⟨c0,c1',c2,c3,c4,cf⟩:=hDg.pt.cells;have hown:=hDg.pt.own 3 (by omega) (by omega);rw [show four va vb vc vd 3=vc from rfl,show ∀ l:List Nat,lists (iv l) (iv (List.range E)) (sr.map SV.val) (qs.flatMap cells4q) 3=sr.map SV.val from fun _=>rfl,show pft 3=24 from rfl,show pfw 3=1 from rfl,show ∀ x y:Nat,quad x y sr.length qs.length 3=sr.length from fun _ _=>rfl] at hown
        have hbd:vd.ownBlock ≠ some g1:=fun e=>by
         obtain ⟨_,cs,hh⟩:=zAc (HD.out.pt.own 4 (by omega) (by omega)) (j:=g1) e;have:=zAa hh; omega
        have hne:∀ i',i'<sr.length->(sr.getD i' ⟨none,0,0⟩).A ≠ some ⟨g1,0,none⟩:=fun i' hi e=>by
         obtain ⟨b',c'',x1,_,_,x4,_⟩:=HD.out.row i' hi;rw [x1] at e; cases e
         have:=x4.lt; omega
        have bPw:=bP.below hbl hpl;(go_wp2_with (at_builtin; refine wpList_append_own_at _ rfl _ _ 26 rfl (w+1) 24 j0 (.slice none 0 0) 1 24 Tryz.underlying26 hjI hy0 hy1 hy2 rfl (by decide) vc sr.length (sr.map SV.val) rfl (hown.alloc _) ⟨W2,0,none⟩ 1 1 [.slice (some g1) (E+1) c1] rfl rfl (cell_one_new _ _ _) (by intro u hu; simp at hu; subst hu; rfl) (by have:=HSR.out; simp [maxLen]; omega) (by have:=HSR.out; omega) (by simp; omega) ?_));intro v3 W3 hown3 hg3 hnil3 hat3;obtain ⟨g3,c3',rfl⟩:=ownsRow_succ hown3;have hblk:=hDg.pt.app_blk (f:=3) (by omega) (by omega) hg3 hdg (.inr rfl);have hlow:=hDg.pt.app_blk (f:=3) (x:=w) (by omega) (by omega) hg3 (by omega) (.inl hG1);have hD3:=hDg.addR (b:=g1) t1 t2 (by rw [HSR.out]; exact hRP) hbd hne hown3 hg3 (hat3.imp id fun e=>by rw [e]; simp);have d3:W3.cell? ⟨w+1,3,none⟩=some vc:=(cob (a:=⟨w+1,3,none⟩) hblk).trans c3;have df:∀ o,W3.frozen? ⟨w+1,o,none⟩=false:=(fun o=>(World.frozen?_of_block (a:=⟨w+1,o,none⟩) hblk).trans (cf o));have bP3:LPBox (W3.setCell ⟨w+1,3,none⟩ (.slice (some g3) (sr.length+1) c3')) w ⟨E,⟨OA,On,Oc⟩,⟨RA,Rn,Rc⟩,⟨some ad,Bn,Bc⟩⟩:=(bPw.heap hlow).far4 (by omega) _;have HD3:=hdq hD3;clear c0 c1' c2 c3 c4 cf hDg hown hown3 hg3 hat3 hnil3 hblk hlow hD3 hRP hbd hne bPw t4;go_wp2;clear d3 df;have hD:=HD3.out;obtain ⟨G5,HG5⟩:∃ G5:Nat->Prop,Hid (G5=fun y=>(G y\/y=g1)\/(Value.slice (some g3) (sr.length+1) c3').ownBlock=some y):=⟨_,rfl⟩;rw [<-HG5.out] at hD;clear HD3 HG5;generalize W3.setCell ⟨w+1,3,none⟩ (.slice (some g3) (sr.length+1) c3')=W4 at *;generalize Value.slice (some g3) (sr.length+1) c3'=vr at *;obtain ⟨-,c1',-,-,-,cf⟩:=hD.pt.cells;have hdl4:=hD.pt.dlt;have hG4:¬ G5 w.heap.size:=fun hg=>by have:=(hD.pt.gin _ hg).1; omega
        obtain ⟨p0,p1,p2,p3,p4⟩:=id bP3;have hown:=hD.pt.own 1 (by omega) (by omega);rw [show four va vb vr vd 1=va from rfl,show ∀ (l:List Nat) (x y:List Value),lists (iv l) (iv (List.range E)) x y 1=iv l from fun _ _ _=>rfl,show pft 1=3 from rfl,show pfw 1=1 from rfl,show ∀ x y z t:Nat,quad x y z t 1=x from fun _ _ _ _=>rfl,List.length_map,List.length_range] at hown;have hsum:IntKind.i64.wrap ((E:Int)+(i:Int))=(E:Int)+(i:Int):=IntWalk.i64_in _ (by omega);refine zAp 10 (fun f w'=>w'.cell? w=some (.int .i64 E)/\(f=false->w'.cell? ⟨w+1,1,none⟩=some va)) (by kernel_rfl) ?_;have hS0:W4.drew.cell? w=some (.int .i64 E)/\(false=false->W4.drew.cell? ⟨w+1,1,none⟩=some va):=⟨p0,fun _=>c1'⟩;refine tx4 0 1 2 3 hS0 ?_;refine tkW 4 (va) (fun w' hSw=>?_) (hS0) ?_
        ·have:=hSw.2 rfl; go_simp
        simp only [zz];refine tx4 5 6 7 8 hS0 ?_;refine tk1 9 ?_;intro K hK;go_simp;have al:Below W4 W4 (W4.alloc (.cells #[.int .i64 ((E:Int)+(i:Int))] 3)).drew:=(bal).drew;refine hK.out _ _ ⟨(al.cell (p:=w) (by show w.heap.size<_; omega)).trans p0,fun _=>(al.cell (p:=⟨w+1,1,none⟩) hdl4).trans c1'⟩ ?_;clear hK K;refine tk1 10 ?_;intro K hK;refine zAq _ _ 29 rfl (w+1) 3 i0 (.int .i64 0) 1 8 Tryz.underlying29 hiI hz0 hz1 hz2 rfl (by decide) va i (iv ((List.range i).map (E+·))) rfl (hown.alloc _) ⟨W4,0,none⟩ 1 1 [.int .i64 ((E:Int)+(i:Int))] rfl rfl (cell_one_new _ _ _) (by intro u hu; simp at hu; subst hu; rfl) (by simp [maxLen]; omega) (by omega) (by simp; omega) ?_;intro v' W5 hown5 hg5 hnil5 hat5;obtain ⟨g5,c5,rfl⟩:=ownsRow_succ hown5;have hg:(W4.alloc (.cells #[.int .i64 ((E:Int)+(i:Int))] 3)).grownBy W5 va.ownBlock:=⟨hg5.1,hg5.2,hg5.3,hg5.size,hg5.block⟩;have hblk:=hD.pt.app_blk (f:=1) (by omega) (by omega) hg hdl4 (.inr rfl);have hlow:=hD.pt.app_blk (f:=1) (x:=w) (by omega) (by omega) hg (by omega) (.inl hG4)
        have hD5:=hD.addB (x:=E+i) (by
         rw [List.length_map,List.length_range,show ((E+i:Nat):Int)=(E:Int)+(i:Int) by omega]; exact hown5) hg (by rcases hat5 with e | e; exact .inl e; exact .inr (by rw [e]; simp))
        rw [show (List.range i).map (E+·)++[E+i]=(List.range (i+1)).map (E+·) by simp [List.range_succ]] at hD5;have d1:W5.cell? ⟨w+1,1,none⟩=some va:=(cob (a:=⟨w+1,1,none⟩) hblk).trans c1';have df:∀ o,W5.frozen? ⟨w+1,o,none⟩=false:=(fun o=>(World.frozen?_of_block (a:=⟨w+1,o,none⟩) hblk).trans (cf o));have p5:W5.cell? w=some (.int .i64 E):=(cob (a:=w) hlow).trans p0;simp only [Act.put,zz];refine hK.out _ _ ⟨p5,fun h=>absurd h (by decide)⟩ ?_;clear hK K;refine tk1 11 ?_;intro K hK;go_simp;refine hK.out _ _ ⟨p5,fun h=>absurd h (by decide)⟩ ?_;clear hK K;refine tk1 12 ?_;intro K hK;go_simp;refine hK.out _ _ ⟨p5,fun h=>absurd h (by decide)⟩ ?_;clear hK K;refine tk1 13 ?_;intro K hK;go_simp;refine hK.out _ _ ⟨(World.cell?_setCell_far _ _ _ _ (by simp)).trans p5,fun h=>absurd h (by decide)⟩ ?_;clear hK K;refine zAf (by kernel_rfl) ?_ _;have HD5:=hdq hD5;have HP5:Hid (LPBox (W5.setCell ⟨w+1,1,none⟩ (.slice (some g5) (i+1) c5)) w ⟨E,⟨OA,On,Oc⟩,⟨RA,Rn,Rc⟩,⟨some ad,Bn,Bc⟩⟩):=(bP3.heap hlow).far4 (by omega) _;clear hD5 hD hown hown5 hg hg5 hnil5 hat5 d1 df p5 hblk hlow c1' cf p0 p1 p2 p3 p4 hsum al hS0;go_wp2;exact ⟨⟨i+1,by show i+1<=Rn; omega,by simp,HP5.out,_,_,_,_,_,sr++[_],qs,by simp [HSR.out],HQS.out,HD5.out⟩,by first | (simp [intOf]; done) | (simp [intOf]; omega)⟩
       ·obtain rfl:E=j+1:=by have:=HE.out; simp [Lin.given] at this; omega
        have hbelw:Below w w W2:=HD.out.pt.bel.trans (HG2.out.bel.mono HD.out.pt.bel.size);obtain ⟨u',hqc,hqv⟩:=hcl i hiR;have q5:(⟨cb,i*4,none⟩:Addr).block<w:=zAb hqc.1;obtain ⟨m0,m1,m2,m3⟩:=hqc.keep (w':=W2) (fun a ha hl=>hbelw.cell (by rw [ha]; exact hl));dsimp only at m1 m2 m3
        have hz2:QCan W2 (fun b=>Value.ownBlock (.slice (some g1) (j+1) c1) ≠ some b/\(b<w.heap.size\/wA.heap.size<=b)) u' (rf i (j+1)):=by
         have e:rf i (j+1)=cl i:=by rw [HRF.out]; unfold row0; rw [if_neg (by omega),if_neg (by omega)]; rfl
         rw [e];(refine ((hqv.imp (Y:=fun b=>b<w.heap.size) fun b hb _=>hb).below hbelw).imp fun b _ hb=>⟨fun e=>?_,.inl hb⟩);have:=(zAc HG2.out.own e).1;omega
        have HZ2:=hdq hz2;have hb2:Below W2 W2 W2:=brf _ _;have hWW:=HG2.out.bel.size;clear hqc hqv hz2 hbelw;have HO2:=hdq (HG2.out.own);have HS2:Hid ((s++[z]).length=(j+1)):=HG2.out.len;have hsz2:=hb2.size
        go_wp2_with (at_builtin; refine wpList_append_own_at _ rfl _ _ 24 rfl wA 37 k0 (.agg #[.bool false,.slice none 0 0,.bool false,.slice none 0 0]) 4 64 Tryz.underlying24 hk0 hx0 hx1 hx2 rfl (by decide) _ ((j+1)) ((s++[z]).flatMap cells4q) rfl ((zAr HO2.out fun j hj=>by
         obtain ⟨_,cs,hh⟩:=zAc HO2.out hj;exact hb2.block j (zAa hh)).alloc _) ⟨W2,0,none⟩ 1 1 (cells4q u') rfl rfl (zA1 _ _) (by intro u hu; simp [cells4q] at hu; rcases hu with rfl | rfl | rfl | rfl <;> rfl) (by simp [maxLen]; omega) (by omega) (by simp; omega) ?_)
        intro v'' W7 hown2 hg2 hnil2 hat2;have HG7:=hdq (HG2.out.step hb2 HZ2.out (by simpa using hown2) hg2 (hat2.imp id fun e=>by rw [e]; simp));clear HG2;obtain ⟨g1,c1,rfl⟩:=ownsRow_succ hown2;clear hown2 hg2 hnil2 hat2 HO2;have hbl:=HG7.out.bel;have hWs:=hbl.size
        obtain ⟨rb,rc,hv,t1,t2,t3,t4,hRP⟩:=zFq (l:=rowL (j+1) (rf i)) (G:=fun y=>G y\/y=g1) HG7.out.own HG7.out.len (by rw [zAm]) (by omega) (fun x hx=>by
         rw [zAL _ (by omega)]
         exact (HG7.out.elem x hx).imp fun y _ hy hg=>by
          rcases hg with hg | rfl
          ·have:=HD.out.pt.gin y hg;rcases hy.2 with h1 | h1 <;> omega
          ·exact hy.1 rfl) (fun y e=>.inr (by cases e; rfl))
        cases hv;have hgl:=hRP.lt;have hDg:=HD.out.grow hbl (b:=g1) t3 hgl;have hdg:=hDg.pt.dlt;have hG1:¬ (G w.heap.size\/w.heap.size=g1):=(fun hg=>hg.elim hG0 fun e=>by omega);obtain ⟨c0,c1',c2,c3,c4,cf⟩:=hDg.pt.cells;have hown:=hDg.pt.own 3 (by omega) (by omega);rw [show four va vb vc vd 3=vc from rfl,show ∀ l:List Nat,lists (iv l) (iv (List.range j)) (sr.map SV.val) (qs.flatMap cells4q) 3=sr.map SV.val from fun _=>rfl,show pft 3=24 from rfl,show pfw 3=1 from rfl,show ∀ x y:Nat,quad x y sr.length qs.length 3=sr.length from fun _ _=>rfl] at hown
        have hbd:vd.ownBlock ≠ some g1:=fun e=>by
         obtain ⟨_,cs,hh⟩:=zAc (HD.out.pt.own 4 (by omega) (by omega)) (j:=g1) e;have:=zAa hh; omega
        have hne:∀ i',i'<sr.length->(sr.getD i' ⟨none,0,0⟩).A ≠ some ⟨g1,0,none⟩:=fun i' hi e=>by
         obtain ⟨b',c'',x1,_,_,x4,_⟩:=HD.out.row i' hi;rw [x1] at e; cases e
         have:=x4.lt; omega
        have bPw:=bP.below hbl hpl;(go_wp2_with (at_builtin; refine wpList_append_own_at _ rfl _ _ 26 rfl (w+1) 24 j0 (.slice none 0 0) 1 24 Tryz.underlying26 hjI hy0 hy1 hy2 rfl (by decide) vc sr.length (sr.map SV.val) rfl (hown.alloc _) ⟨W7,0,none⟩ 1 1 [.slice (some g1) (j+1+1) c1] rfl rfl (cell_one_new _ _ _) (by intro u hu; simp at hu; subst hu; rfl) (by have:=HSR.out; simp [maxLen]; omega) (by have:=HSR.out; omega) (by simp; omega) ?_));intro v3 W3 hown3 hg3 hnil3 hat3;obtain ⟨g3,c3',rfl⟩:=ownsRow_succ hown3;have hblk:=hDg.pt.app_blk (f:=3) (by omega) (by omega) hg3 hdg (.inr rfl);have hlow:=hDg.pt.app_blk (f:=3) (x:=w) (by omega) (by omega) hg3 (by omega) (.inl hG1);have hD3:=hDg.addR (b:=g1) t1 t2 (by rw [HSR.out]; exact hRP) hbd hne hown3 hg3 (hat3.imp id fun e=>by rw [e]; simp);have d3:W3.cell? ⟨w+1,3,none⟩=some vc:=(cob (a:=⟨w+1,3,none⟩) hblk).trans c3;have df:∀ o,W3.frozen? ⟨w+1,o,none⟩=false:=(fun o=>(World.frozen?_of_block (a:=⟨w+1,o,none⟩) hblk).trans (cf o));have bP3:LPBox (W3.setCell ⟨w+1,3,none⟩ (.slice (some g3) (sr.length+1) c3')) w ⟨j,⟨OA,On,Oc⟩,⟨RA,Rn,Rc⟩,⟨some ad,Bn,Bc⟩⟩:=(bPw.heap hlow).far4 (by omega) _;have HD3:=hdq hD3;clear c0 c1' c2 c3 c4 cf hDg hown hown3 hg3 hat3 hnil3 hblk hlow hD3 hRP hbd hne bPw t4;go_wp2;clear d3 df;have hD:=HD3.out;obtain ⟨G5,HG5⟩:∃ G5:Nat->Prop,Hid (G5=fun y=>(G y\/y=g1)\/(Value.slice (some g3) (sr.length+1) c3').ownBlock=some y):=⟨_,rfl⟩;rw [<-HG5.out] at hD;clear HD3 HG5;generalize W3.setCell ⟨w+1,3,none⟩ (.slice (some g3) (sr.length+1) c3')=W4 at *;generalize Value.slice (some g3) (sr.length+1) c3'=vr at *;obtain ⟨-,c1',-,-,-,cf⟩:=hD.pt.cells;have hdl4:=hD.pt.dlt;have hG4:¬ G5 w.heap.size:=fun hg=>by have:=(hD.pt.gin _ hg).1; omega
        obtain ⟨p0,p1,p2,p3,p4⟩:=id bP3;have hown:=hD.pt.own 1 (by omega) (by omega);rw [show four va vb vr vd 1=va from rfl,show ∀ (l:List Nat) (x y:List Value),lists (iv l) (iv (List.range j)) x y 1=iv l from fun _ _ _=>rfl,show pft 1=3 from rfl,show pfw 1=1 from rfl,show ∀ x y z t:Nat,quad x y z t 1=x from fun _ _ _ _=>rfl,List.length_map,List.length_range] at hown;have hsum:IntKind.i64.wrap ((j:Int)+(i:Int))=(j:Int)+(i:Int):=IntWalk.i64_in _ (by omega);refine zAp 10 (fun f w'=>w'.cell? w=some (.int .i64 j)/\(f=false->w'.cell? ⟨w+1,1,none⟩=some va)) (by kernel_rfl) ?_;have hS0:W4.drew.cell? w=some (.int .i64 j)/\(false=false->W4.drew.cell? ⟨w+1,1,none⟩=some va):=⟨p0,fun _=>c1'⟩;refine tx4 0 1 2 3 hS0 ?_;refine tkW 4 (va) (fun w' hSw=>?_) (hS0) ?_
        ·have:=hSw.2 rfl; go_simp
        simp only [zz];refine tx4 5 6 7 8 hS0 ?_;refine tk1 9 ?_;intro K hK;go_simp;have al:Below W4 W4 (W4.alloc (.cells #[.int .i64 ((j:Int)+(i:Int))] 3)).drew:=(bal).drew;refine hK.out _ _ ⟨(al.cell (p:=w) (by show w.heap.size<_; omega)).trans p0,fun _=>(al.cell (p:=⟨w+1,1,none⟩) hdl4).trans c1'⟩ ?_;clear hK K;refine tk1 10 ?_;intro K hK;refine zAq _ _ 29 rfl (w+1) 3 i0 (.int .i64 0) 1 8 Tryz.underlying29 hiI hz0 hz1 hz2 rfl (by decide) va i (iv ((List.range i).map (j+·))) rfl (hown.alloc _) ⟨W4,0,none⟩ 1 1 [.int .i64 ((j:Int)+(i:Int))] rfl rfl (cell_one_new _ _ _) (by intro u hu; simp at hu; subst hu; rfl) (by simp [maxLen]; omega) (by omega) (by simp; omega) ?_;intro v' W5 hown5 hg5 hnil5 hat5;obtain ⟨g5,c5,rfl⟩:=ownsRow_succ hown5;have hg:(W4.alloc (.cells #[.int .i64 ((j:Int)+(i:Int))] 3)).grownBy W5 va.ownBlock:=⟨hg5.1,hg5.2,hg5.3,hg5.size,hg5.block⟩;have hblk:=hD.pt.app_blk (f:=1) (by omega) (by omega) hg hdl4 (.inr rfl);have hlow:=hD.pt.app_blk (f:=1) (x:=w) (by omega) (by omega) hg (by omega) (.inl hG4)
        have hD5:=hD.addB (x:=j+i) (by
         rw [List.length_map,List.length_range,show ((j+i:Nat):Int)=(j:Int)+(i:Int) by omega]; exact hown5) hg (by rcases hat5 with e | e; exact .inl e; exact .inr (by rw [e]; simp))
        rw [show (List.range i).map (j+·)++[j+i]=(List.range (i+1)).map (j+·) by simp [List.range_succ]] at hD5;have d1:W5.cell? ⟨w+1,1,none⟩=some va:=(cob (a:=⟨w+1,1,none⟩) hblk).trans c1';have df:∀ o,W5.frozen? ⟨w+1,o,none⟩=false:=(fun o=>(World.frozen?_of_block (a:=⟨w+1,o,none⟩) hblk).trans (cf o));have p5:W5.cell? w=some (.int .i64 j):=(cob (a:=w) hlow).trans p0;simp only [Act.put,zz];refine hK.out _ _ ⟨p5,fun h=>absurd h (by decide)⟩ ?_;clear hK K;refine tk1 11 ?_;intro K hK;go_simp;refine hK.out _ _ ⟨p5,fun h=>absurd h (by decide)⟩ ?_;clear hK K;refine tk1 12 ?_;intro K hK;go_simp;refine hK.out _ _ ⟨p5,fun h=>absurd h (by decide)⟩ ?_;clear hK K;refine tk1 13 ?_;intro K hK;go_simp;refine hK.out _ _ ⟨(World.cell?_setCell_far _ _ _ _ (by simp)).trans p5,fun h=>absurd h (by decide)⟩ ?_;clear hK K;refine zAf (by kernel_rfl) ?_ _;have HD5:=hdq hD5;have HP5:Hid (LPBox (W5.setCell ⟨w+1,1,none⟩ (.slice (some g5) (i+1) c5)) w ⟨j,⟨OA,On,Oc⟩,⟨RA,Rn,Rc⟩,⟨some ad,Bn,Bc⟩⟩):=(bP3.heap hlow).far4 (by omega) _;clear hD5 hD hown hown5 hg hg5 hnil5 hat5 d1 df p5 hblk hlow c1' cf p0 p1 p2 p3 p4 hsum al hS0;go_wp2;exact ⟨⟨i+1,by show i+1<=Rn; omega,by simp,HP5.out,_,_,_,_,_,sr++[_],qs,by simp [HSR.out],HQS.out,HD5.out⟩,by first | (simp [intOf]; done) | (simp [intOf]; omega)⟩
    ·(obtain rfl:i=Rn:=by omega);have hSR:=HSR.out;obtain ⟨c0,c1,c2,c3,c4,cf⟩:=hD.pt.cells;rcases hch with ⟨rfl,rfl⟩ | ⟨cb,cc,cl,rfl,rfl,hc1,hc2,hcl⟩
     ·obtain rfl:E=k:=by have:=HE.out; simp [Lin.given] at this; omega
      obtain ⟨x,hx,hPD⟩:=hD.done (D:=⟨fun i=>E+i,fun j=>j,rf,fun _=>cst0 os E⟩) hSR HQS.out (fun _ _=>rfl) (fun _ _=>rfl) (fun _ _ _ _=>rfl) (fun _ _=>rfl);have HPD:=hdq hPD;have HX:=hdq hx;have HBel:=hdq hD.pt.bel;have HGin:Hid (∀ y,G y->w.heap.size<=y):=fun y hy=>by have:=(hD.pt.gin y hy).1; omega
      clear hPD hx c0 c1 c2 c3 c4 cf hD hSR;go_wp2;go_ret;exact ⟨x,G,by rw [HX.out]; rfl,HPD.out,HBel.out,HGin.out⟩
     ·obtain rfl:E=k+1:=by have:=HE.out; simp [Lin.given] at this; omega
      have hown:=hD.pt.own 4 (by omega) (by omega);rw [show four va vb vc vd 4=vd from rfl,show ∀ (l:List Nat) (x:List Value),lists (iv l) (iv (List.range k)) x (qs.flatMap cells4q) 4=qs.flatMap cells4q from fun _ _=>rfl,show pft 4=37 from rfl,show pfw 4=4 from rfl,show ∀ x y z t:Nat,quad x y z t 4=t from fun _ _ _ _=>rfl] at hown;(go_wp2_with (at_builtin; refine wpList_append_own_at _ rfl _ _ 24 rfl (w+1) 37 k0 (.agg #[.bool false,.slice none 0 0,.bool false,.slice none 0 0]) 4 64 Tryz.underlying24 hk0 hx0 hx1 hx2 rfl (by decide) vd qs.length (qs.flatMap cells4q) rfl (hown.alloc _) ⟨wr,0,none⟩ 1 1 (cells4q QV.zero) rfl rfl (zA1 _ _) (by intro u hu; simp [cells4q] at hu; rcases hu with rfl | rfl | rfl | rfl <;> rfl) (by have:=HQS.out; simp [maxLen]; omega) (by have:=HQS.out; omega) (by simp; omega) ?_));intro v' W2 hown2 hg hnil hat;obtain ⟨g',c',rfl⟩:=ownsRow_succ hown2;have hblk:=hD.pt.app_blk (f:=4) (by omega) (by omega) hg hdl (.inr rfl);have hD2:=hD.addC (z:=QV.zero) (q:=0) (QCan.zero _ _) (by show cst0 os k qs.length=_; rw [HQS.out]; unfold cst0; rw [if_neg (by omega)]) hown2 hg (hat.imp id fun e=>by rw [e]; simp);have d2:W2.cell? ⟨w+1,4,none⟩=some vd:=(cob (a:=⟨w+1,4,none⟩) hblk).trans c4;have df:∀ o,W2.frozen? ⟨w+1,o,none⟩=false:=(fun o=>(World.frozen?_of_block (a:=⟨w+1,o,none⟩) hblk).trans (cf o));obtain ⟨x,hx,hPD⟩:=hD2.done (D:=⟨fun i=>k+i,fun j=>j,rf,fun _=>cst0 os k⟩) hSR (by simp [HQS.out]) (fun _ _=>rfl) (fun _ _=>rfl) (fun _ _ _ _=>rfl) (fun _ _=>rfl);have HPD:=hdq hPD;have HX:=hdq hx;have HBel:=hdq hD2.pt.bel;have HGin:Hid (∀ y,(G y\/(Value.slice (some g') (qs.length+1) c').ownBlock=some y)->w.heap.size<=y):=fun y hy=>by have:=(hD2.pt.gin y hy).1; omega
      clear hPD hx c0 c1 c2 c3 c4 cf hD hown hown2 hg hat hnil hblk hD2 hSR;go_wp2;go_ret;exact ⟨x,_,by rw [HX.out]; rfl,HPD.out,HBel.out,HGin.out⟩
def prob1 (V:Nat) (os rs:List (List Rat)) (bs:List Rat):Lin.Prob:=⟨V,rs.length,1,fun i k=>(rs.getD i []).getD k 0,fun i=>bs.getD i 0,fun _ k=>(os.getD 0 []).getD k 0⟩
theorem Good.entries {P:Lin.Prob} {D':Lin.Dict} (G:Lin.Good P D) (hb:D'.basic=D.basic) (hf:D'.free=D.free) (ha:∀ i j,i<P.m->j<=P.n->D'.a i j=D.a i j) (hc:∀ l j,l<P.K->j<=P.n->D'.c l j=D.c l j):Lin.Good P D':=by
 have hv:∀ (r r':Nat->Rat) (x:Nat->Rat),(∀ j,j<=P.n->r' j=r j)->Lin.val P.n D'.free r' x=Lin.val P.n D.free r x:=fun r r' x h=>by
  rw [Lin.val,Lin.val,hf,h P.n (nlr _),Lin.zAh fun j hj=>by rw [h j (by omega)]]
 refine ⟨by rw [hb]; exact G.bLt,by rw [hf]; exact G.fLt,by rw [hb]; exact G.bInj,by rw [hf]; exact G.fInj,by rw [hb,hf]; exact G.apart,by rw [hb,hf]; exact G.all,fun x=>?_,fun x hx l hl=>?_⟩
 ·rw [G.rows];refine forall_congr' fun i=>forall_congr' fun hi=>?_
  rw [hb,hv _ _ x fun j hj=>ha i j hi hj]
 ·rw [G.costs x hx l hl,hv _ _ x fun j hj=>hc l j hl hj]
def dict0 (V:Nat) (os rs:List (List Rat)) (bs:List Rat) (ch:Option (Nat->Rat)):Lin.Dict:=⟨fun i=>V+i,fun j=>j,row0 rs bs (ch.getD fun _=>0) V,fun _=>cst0 os V⟩
theorem zCh (V:Nat) (os rs:List (List Rat)) (bs:List Rat) (ch:Option (Nat->Rat)):PInv (prob1 V os rs bs) ch (dict0 V os rs bs ch):=by
 refine ⟨Good.entries (prob1 V os rs bs).start_good rfl rfl (fun i j _ hj=>?_) (fun l j _ hj=>?_),fun c hc=>⟨fun i hi=>?_,?_⟩⟩
 ·have hj:j<=V:=hj;show row0 rs bs _ V i j=if j<V then (rs.getD i []).getD j 0 else bs.getD i 0
  unfold row0;by_cases h:j<V
  ·rw [if_pos h,if_pos h]
  ·rw [if_neg h,if_neg h,if_pos (by omega)]
 ·show cst0 os V j=if j<V then-((os.getD 0 []).getD j 0) else 0
  rfl
 ·subst hc;show row0 rs bs c V i (V+1)=Lin.bb V c (V+i)+Lin.sum V fun j=>row0 rs bs c V i j*Lin.bb V c j
  rw [Lin.zAC fun j hj=>by rw [Lin.bb,if_pos hj]; grind,Lin.bb,if_neg (by omega),show V+i-V=i by omega];unfold row0;rw [if_neg (by omega),if_neg (by omega)]; grind
 ·show cst0 os V (V+1)=Lin.sum V fun j=>cst0 os V j*Lin.bb V c j
  rw [Lin.zAC fun j hj=>by rw [Lin.bb,if_pos hj]; grind];unfold cst0; rw [if_neg (by omega)]
theorem zBE (h:LPIs w X Y L p os rs bs) (hE:E+1-V=Lin.given ch) (hc:∀ c,ch=some c->∀ i,Lin.Fits (32*(L+1)) (c i)) (D:Lin.Dict) (hD:PInv (prob1 V os rs bs) ch D) :
  PFits V rs.length E (5 ^ V*(32*(L+1))) D:=by
 have fo:∀ j,Lin.Fits (32*(L+1)) ((os.getD 0 []).getD j 0):=fun j=>zAR (MatAt.fit h.obj 0 j)
 have fr:∀ i j,Lin.Fits (32*(L+1)) ((rs.getD i []).getD j 0):=fun i j=>zAR (MatAt.fit h.rows i j)
 have fb:∀ i,Lin.Fits (32*(L+1)) (bs.getD i 0):=fun i=>zAR (VecAt.fit h.bounds i)
 have fc:∀ l j,Lin.Fits (32*(L+1)) ((prob1 V os rs bs).start.c l j):=fun l j=>by
  show Lin.Fits _ (if j<V then-(os.getD 0 []).getD j 0 else 0)
  split
  ·exact (fo j).neg
  ·exact Lin.Fits.zero _
 refine hD.fits (P:=prob1 V os rs bs) hE Nat.one_pos (by omega) ⟨fun i j _ _=>?_,fun l j _ _=>fc l j⟩ fun c hcc=>⟨fun i j _ _=>?_,fun l j _ _=>fc l j⟩
 ·show Lin.Fits _ (if j<V then (rs.getD i []).getD j 0 else bs.getD i 0)
  split
  ·exact fr i j
  ·exact fb i
 ·show Lin.Fits _ (if j<V then (rs.getD i []).getD j 0 else c i)
  split
  ·exact fr i j
  ·exact hc c hcc i
def PricesRet (w:World) (P:Lin.Prob) (e:Ending) (w':World):Prop:=
 (∃ (D:Lin.Dict) (y:SV),PInv P none D/\Ends P none D 1/\e = .returned (.tuple #[y.val,.int .i64 0])/\VecCan w' (New w) (New w) y ((List.range P.m).map (D.dual P)))\/
 (∃ D:Lin.Dict,PInv P none D/\Ends P none D 2/\e = .returned (.tuple #[.slice none 0 0,.int .i64 8]))\/∃ D:Lin.Dict,PInv P none D/\Ends P none D 3/\e = .returned (.tuple #[.slice none 0 0,.int .i64 9])
theorem Ends.cases {P:Lin.Prob} (h:Ends P ch D k):k=1\/k=2\/k=3:=by
 rcases h with ⟨h,_⟩ | ⟨h,_⟩ | ⟨h,_⟩ <;> simp [h]
theorem zFw (h:LPIs w X Y L p os rs bs) (hV:p.n=V) (hV2:V<=64) (ho1:1<=p.O.n) (ho2:p.O.n<=4) (hr:p.R.n<=128) (hb:p.B.n=p.R.n) (hco:colsOf os<=V) (hcr:colsOf rs<=V) (hL:L+1<=LM)
  (hfit:∀ D,PInv (prob1 V os rs bs) none D->PFits V rs.length V kb D) (hk:2*kb+1<=LM) :
  Calls Tryz.prog 35 #[p.val] w fun e w'=>PricesRet w (prob1 V os rs bs) e w'/\Below w w w':=by
 have HKB:=hdq hk;have HL1:=hdq hL;have HFit:=hdq hfit;have HLen:Hid (rs.length=p.R.n):=h.rows.len;clear hk hL hfit;obtain ⟨n,O,R,⟨BA,Bn,Bc⟩⟩:=p;dsimp only at hV ho1 ho2 hr hb HLen;subst hV hb;go_enter Tryz.func35,Tryz.ntmps35
 go_wp2_with fail
 refine zAg (fun W=>Below w w W/\Box4 W w (.int .i64 V) (.slice O.A O.n O.c) (.slice R.A R.n R.c) (.slice BA R.n Bc)/\w<(W:Nat)) ⟨(az (brf _ _)),bx4,by simp <;> omega⟩ ?_;rintro W ⟨hbW,bP,s0⟩;have hBW:=hbW.size;refine (zBv (h.below hbW) rfl (by omega) ho1 ho2 hr rfl hco hcr).mono ?_; rintro e w1 ⟨rfl,hb1⟩
 have hb01:=hbW.trans (hb1.mono hBW);obtain ⟨p0,p1,p2,p3,p4⟩:=bP.below hb1 s0;go_wp2_with fail
 refine (zBV (p:=⟨V,O,R,⟨BA,R.n,Bc⟩⟩) (ch:=none) (chv:=.slice none 0 0) (E:=V) (h.below hb01) rfl (by omega) ho1 ho2 rfl hr rfl HL1.out (.inl ⟨rfl,rfl⟩) (by simp [Lin.given]) (nlr _)).mono ?_;rintro e w2 ⟨x,G,rfl,hD,hb2,hG⟩;have hGw:∀ y,G y->w.heap.size<=y:=fun y hy=>nlt hb01.size (hG y hy)
 have hb02:=hb01.trans (hb2.mono hb01.size);go_wp2_with fail
 refine (zBy (P:=prob1 V os rs bs) (ch:=none) hD rfl HLen.out Nat.one_pos (zCh V os rs bs none) (nlr _) (by omega) (by omega) (by simp [Lin.given]) (by rw [<-HLen.out]; exact HFit.out) HKB.out).mono ?_;rintro e w3 ⟨D',k,rfl,hD3,hI,hF3,hE⟩;have hb03:=hb02.trans (hF3.below hb02.size hGw);go_wp2_with fail
 refine (zB5 k hE.cases).mono ?_; rintro e w4 ⟨rfl,hb4⟩
 have hb04:=hb03.trans (hb4.mono hb03.size);have hD4:=hD3.call hb4;have HI:=hdq hI;have HE:=hdq hE;clear hb1 hb2 hF3 hb4 hD hD3 hG hE hI p0 p1 p2 p3 p4 bP hbW hBW s0;rcases HE.out.cases with rfl | rfl | rfl
 ·have hfit:=HFit.out D' HI.out;have hg:=HI.out.1;go_wp2_with fail
  refine (zCp hD4 (fun i j hi hj=>hg.fInj i j hi hj) (fun j hj=>by have:=hg.fLt j hj; rw [<-HLen.out]; exact this) (nlr _) (by omega) (by omega) hfit.c HKB.out).mono ?_;rintro e w5 ⟨⟨y,rfl,hy⟩,hb5⟩;have hb05:=hb04.trans (hb5.mono hb04.size)
  have HY:Hid (VecCan w5 (New w) (New w) y ((List.range (prob1 V os rs bs).m).map (D'.dual (prob1 V os rs bs)))):=by
   have e:(List.range (prob1 V os rs bs).m).map (D'.dual (prob1 V os rs bs))=(List.range R.n).map (dl D' V V):=by
    rw [show (prob1 V os rs bs).m=R.n from HLen.out];exact List.map_congr_left fun i _=>(zGq hg i).symm
   rw [e];exact hy.imp (fun b _ hb=>nlt hb04.size hb) fun v q hq=>hq.lower hb04.size
  have HB:=hdq hb05;clear hy hb5 hb05 hb04 hD4 hfit hg;go_wp2;exact bodyPost_ret (v:=.tuple #[y.val,.int .i64 0]) (by simp [results,Tryz.results35,go_sem]) rfl ⟨.inl ⟨D',y,HI.out,HE.out,rfl,HY.out⟩,HB.out⟩
 ·have HB:=hdq hb04;clear hb04 hD4;go_wp2;try rw [Exit.noGoto_ret]
  exact bodyPost_ret (v:=.tuple #[.slice none 0 0,.int .i64 8]) (by simp [results,Tryz.results35,go_sem]) rfl ⟨.inr (.inl ⟨D',HI.out,HE.out,rfl⟩),HB.out⟩
 ·have HB:=hdq hb04;clear hb04 hD4;go_wp2;try rw [Exit.noGoto_ret]
  exact bodyPost_ret (v:=.tuple #[.slice none 0 0,.int .i64 9]) (by simp [results,Tryz.results35,go_sem]) rfl ⟨.inr (.inr ⟨D',HI.out,HE.out,rfl⟩),HB.out⟩
theorem zDZ (hV:V<=8) (hL:L<=100):2*(5 ^ V*(32*(L+1)))+1<=LM:=by
 have h5:5 ^ V<=390625:=nlt (Nat.pow_le_pow_right (by omega) hV) (by decide);have h6:5 ^ V*(32*(L+1))<=390625*(32*101):=Nat.mul_le_mul h5 (by omega);rw [zAZ]; omega
theorem zDb (h:LPIs w X Y L p os rs bs) (hV:p.n=V) (hV2:V<=8) (ho1:1<=p.O.n) (ho2:p.O.n<=4) (hr:p.R.n<=128) (hb:p.B.n=p.R.n) (hco:colsOf os<=V) (hcr:colsOf rs<=V) (hL:L<=100) :
  Calls Tryz.prog 35 #[p.val] w fun e w'=>PricesRet w (prob1 V os rs bs) e w'/\Below w w w':=
 zFw (kb:=5 ^ V*(32*(L+1))) h hV (by omega) ho1 ho2 hr hb hco hcr (by rw [zAZ]; omega) (fun D hD=>zBE h (by simp [Lin.given]) (fun c hc=>by cases hc) D hD) (zDZ hV2 hL)
def OptimumRet (w:World) (P:Lin.Prob) (e:Ending) (w':World):Prop:=
 (∃ (D:Lin.Dict) (z:QV),PInv P none D/\Ends P none D 1/\e = .returned (.tuple #[z.val,.int .i64 0])/\QCan w' (New w) z (D.c 0 P.n))\/
 (∃ D:Lin.Dict,PInv P none D/\Ends P none D 2/\e = .returned (.tuple #[.agg #[.bool false,.slice none 0 0,.bool false,.slice none 0 0],.int .i64 8]))\/
 ∃ D:Lin.Dict,PInv P none D/\Ends P none D 3/\e = .returned (.tuple #[.agg #[.bool false,.slice none 0 0,.bool false,.slice none 0 0],.int .i64 9])
theorem zEH (h:LPIs w X Y L p os rs bs) (hV:p.n=V) (hV2:V<=64) (ho1:1<=p.O.n) (ho2:p.O.n<=4) (hr:p.R.n<=128) (hb:p.B.n=p.R.n) (hco:colsOf os<=V) (hcr:colsOf rs<=V) (hL:L+1<=LM)
  (hfit:∀ D,PInv (prob1 V os rs bs) none D->PFits V rs.length V kb D) (hk:2*kb+1<=LM) :
  Calls Tryz.prog 45 #[p.val] w fun e w'=>OptimumRet w (prob1 V os rs bs) e w'/\Below w w w':=by
 have HKB:=hdq hk;have HL1:=hdq hL;have HFit:=hdq hfit;have HLen:Hid (rs.length=p.R.n):=h.rows.len;clear hk hL hfit;obtain ⟨n,O,R,⟨BA,Bn,Bc⟩⟩:=p;dsimp only at hV ho1 ho2 hr hb HLen;subst hV hb;go_enter Tryz.func45,Tryz.ntmps45
 go_wp2_with fail
 refine zAg (fun W=>Below w w W/\Box4 W w (.int .i64 V) (.slice O.A O.n O.c) (.slice R.A R.n R.c) (.slice BA R.n Bc)/\Box4 W (w+1) (.bool false) (.slice none 0 0) (.bool false) (.slice none 0 0)/\w<(W:Nat)/\w+1<(W:Nat)) ⟨(az (az (brf _ _))),bx4,bx4,by simp <;> omega,by simp <;> omega⟩ ?_;rintro W ⟨hbW,bP,bR,s0,s1⟩;have hBW:=hbW.size;refine (zBv (h.below hbW) rfl (by omega) ho1 ho2 hr rfl hco hcr).mono ?_; rintro e w1 ⟨rfl,hb1⟩
 have hb01:=hbW.trans (hb1.mono hBW);obtain ⟨p0,p1,p2,p3,p4⟩:=bP.below hb1 s0;have bR1:=bR.below hb1 s1;have s11:w+1<(w1:Nat):=ltl s1 hb1.size;go_wp2_with fail
 refine (zBV (p:=⟨V,O,R,⟨BA,R.n,Bc⟩⟩) (ch:=none) (chv:=.slice none 0 0) (E:=V) (h.below hb01) rfl (by omega) ho1 ho2 rfl hr rfl HL1.out (.inl ⟨rfl,rfl⟩) (by simp [Lin.given]) (nlr _)).mono ?_;rintro e w2 ⟨x,G,rfl,hD,hb2,hG⟩;have hGw:∀ y,G y->w.heap.size<=y:=fun y hy=>nlt hb01.size (hG y hy)
 have hb02:=hb01.trans (hb2.mono hb01.size);have bR2:=bR1.below hb2 s11;have s12:=ltl s11 hb2.size;go_wp2_with fail
 refine (zBy (P:=prob1 V os rs bs) (ch:=none) hD rfl HLen.out Nat.one_pos (zCh V os rs bs none) (nlr _) (by omega) (by omega) (by simp [Lin.given]) (by rw [<-HLen.out]; exact HFit.out) HKB.out).mono ?_;rintro e w3 ⟨D',k,rfl,hD3,hI,hF3,hE⟩;have hG1:¬ G (w+1):=fun hg=>by have:=hG _ hg; omega
 have bR3:=bR2.heap (hF3.block _ s12 hG1);have s13:=ltl s12 hF3.size;have hb03:=hb02.trans (hF3.below hb02.size hGw);go_wp2_with fail
 refine (zB5 k hE.cases).mono ?_; rintro e w4 ⟨rfl,hb4⟩
 have hb04:=hb03.trans (hb4.mono hb03.size);have hD4:=hD3.call hb4;have bR4:=bR3.below hb4 s13;have s14:=ltl s13 hb4.size;have HI:=hdq hI;have HE:=hdq hE;clear hb1 hb2 hF3 hb4 hD hD3 hG hE hI p0 p1 p2 p3 p4 bP hbW hBW s0 bR bR1 bR2 bR3 s1 s11 s12 s13 hG1;rcases HE.out.cases with rfl | rfl | rfl
 ·have hfit:=HFit.out D' HI.out;have hg:=HI.out.1;go_wp2_with fail
  refine (zGN hD4 (nlr _) (by omega) hfit.c HKB.out).mono ?_;rintro e w5 ⟨⟨z,rfl,hz⟩,hb5⟩;have hb05:=hb04.trans (hb5.mono hb04.size);have bR5:=bR4.below hb5 s14;obtain ⟨v0,v1,v2,v3,-⟩:=bR5.stored (.bool z.num.ng) (.slice z.num.A z.num.n z.num.c) (.bool z.den.ng) (.slice z.den.A z.den.n z.den.c);have hbf:=zAl (x0:=.bool z.num.ng) (x1:=.slice z.num.A z.num.n z.num.c) (x2:=.bool z.den.ng) (x3:=.slice z.den.A z.den.n z.den.c) (b:=w+1) hb05 (by omega);have HZ:=hdq ((hz.set4 (b:=w+1) (x0:=.bool z.num.ng) (x1:=.slice z.num.A z.num.n z.num.c) (x2:=.bool z.den.ng) (x3:=.slice z.den.A z.den.n z.den.c) s14).lower hb04.size);have HB:=hdq hbf;clear hbf hb5 hb05 hb04 hD4 hfit hg hz bR4;go_wp2;exact bodyPost_ret (v:=.tuple #[z.val,.int .i64 0]) (by simp [results,Tryz.results45,go_sem,v0,v1,v2,v3]) rfl ⟨.inl ⟨D',z,HI.out,HE.out,rfl,HZ.out⟩,HB.out⟩
 ·obtain ⟨v0,v1,v2,v3,-⟩:=bR4.stored (.bool false) (.slice none 0 0) (.bool false) (.slice none 0 0);have HB:=hdq (zAl (x0:=.bool false) (x1:=.slice none 0 0) (x2:=.bool false) (x3:=.slice none 0 0) (b:=w+1) hb04 (by omega));clear hb04 hD4;go_wp2;try rw [Exit.noGoto_ret]
  exact bodyPost_ret (v:=.tuple #[.agg #[.bool false,.slice none 0 0,.bool false,.slice none 0 0],.int .i64 8]) (by simp [results,Tryz.results45,go_sem,v0,v1,v2,v3]) rfl ⟨.inr (.inl ⟨D',HI.out,HE.out,rfl⟩),HB.out⟩
 ·obtain ⟨v0,v1,v2,v3,-⟩:=bR4.stored (.bool false) (.slice none 0 0) (.bool false) (.slice none 0 0);have HB:=hdq (zAl (x0:=.bool false) (x1:=.slice none 0 0) (x2:=.bool false) (x3:=.slice none 0 0) (b:=w+1) hb04 (by omega));clear hb04 hD4;go_wp2;try rw [Exit.noGoto_ret]
  exact bodyPost_ret (v:=.tuple #[.agg #[.bool false,.slice none 0 0,.bool false,.slice none 0 0],.int .i64 9]) (by simp [results,Tryz.results45,go_sem,v0,v1,v2,v3]) rfl ⟨.inr (.inr ⟨D',HI.out,HE.out,rfl⟩),HB.out⟩
theorem zBd (h:LPIs w X Y L p os rs bs) (hV:p.n=V) (hV2:V<=8) (ho1:1<=p.O.n) (ho2:p.O.n<=4) (hr:p.R.n<=128) (hb:p.B.n=p.R.n) (hco:colsOf os<=V) (hcr:colsOf rs<=V) (hL:L<=100) :
  Calls Tryz.prog 45 #[p.val] w fun e w'=>OptimumRet w (prob1 V os rs bs) e w'/\Below w w w':=
 zEH (kb:=5 ^ V*(32*(L+1))) h hV (by omega) ho1 ho2 hr hb hco hcr (by rw [zAZ]; omega) (fun D hD=>zBE h (by simp [Lin.given]) (fun c hc=>by cases hc) D hD) (zDZ hV2 hL)
def mch (row:Nat) (up:Bool) (i:Nat):Rat:=if i=row then (if up then 1 else -1) else 0
def MargRet (w:World) (P:Lin.Prob) (row:Nat) (up:Bool) (e:Ending) (w':World):Prop:=
 (∃ D:Lin.Dict,PInv P none D/\Ends P none D 2/\e = .returned (.tuple #[.agg #[.bool false,.slice none 0 0,.bool false,.slice none 0 0],.int .i64 8]))\/
 (∃ D:Lin.Dict,PInv P none D/\Ends P none D 3/\e = .returned (.tuple #[.agg #[.bool false,.slice none 0 0,.bool false,.slice none 0 0],.int .i64 9]))\/
 ∃ D0:Lin.Dict,PInv P none D0/\Ends P none D0 1/\∃ (D:Lin.Dict) (k:Nat),PInv P (some (mch row up)) D/\Ends P (some (mch row up)) D k/\
  ((k ≠ 1/\e = .returned (.tuple #[.agg #[.bool false,.slice none 0 0,.bool false,.slice none 0 0],.int .i64 9]))\/
   (k=1/\∃ z:QV,e = .returned (.tuple #[z.val,.int .i64 0])/\QCan w' (New w) z (D.dual P row)))
theorem zEl {up:Bool} (h:LPIs w X Y L p os rs bs) (hV:p.n=V) (hV2:V<=64) (ho1:1<=p.O.n) (ho2:p.O.n<=4) (hr:p.R.n<=128) (hb:p.B.n=p.R.n) (hco:colsOf os<=V) (hcr:colsOf rs<=V) (hL:L+1<=LM)
  (hrow:row<p.R.n) (hfit:∀ D,PInv (prob1 V os rs bs) none D->PFits V rs.length V kb D) (hfit2:∀ D,PInv (prob1 V os rs bs) (some (mch row up)) D->PFits V rs.length (V+1) kb D) (hk:2*kb+1<=LM) :
  Calls Tryz.prog 100 #[p.val,.int .i64 (row:Int),.bool up] w fun e w'=>MargRet w (prob1 V os rs bs) row up e w'/\Below w w w':=by
 have HKB:=hdq hk;have HL1:=hdq hL;have HFit:=hdq hfit;have HFit2:=hdq hfit2;have HLen:Hid (rs.length=p.R.n):=h.rows.len;clear hk hL hfit hfit2;obtain ⟨n,O,R,⟨BA,Bn,Bc⟩⟩:=p;dsimp only at hV ho1 ho2 hr hb HLen hrow;subst hV hb;have hrow0:¬ (row:Int)<0:=by omega
 have hrowM:¬ (R.n:Int)<=(row:Int):=by omega
 go_enter Tryz.func100,Tryz.ntmps100
 go_wp2_with fail
 refine zAg (fun W=>Below w w W/\Box4 W w (.int .i64 V) (.slice O.A O.n O.c) (.slice R.A R.n R.c) (.slice BA R.n Bc)/\Box4 W (w+1) (.bool false) (.slice none 0 0) (.bool false) (.slice none 0 0)/\w<(W:Nat)/\w+1<(W:Nat)) ⟨(az (az (brf _ _))),bx4,bx4,by simp <;> omega,by simp <;> omega⟩ ?_;rintro W ⟨hbW,bP,bR,s0,s1⟩;have hBW:=hbW.size;refine (zBv (h.below hbW) rfl (by omega) ho1 ho2 hr rfl hco hcr).mono ?_; rintro e w1 ⟨rfl,hb1⟩
 have hb01:=hbW.trans (hb1.mono hBW);have bP1:=bP.below hb1 s0;have s01:w<(w1:Nat):=ltl s0 hb1.size;obtain ⟨p0,p1,p2,p3,p4⟩:=id bP1;have bR1:=bR.below hb1 s1;have s11:w+1<(w1:Nat):=ltl s1 hb1.size;go_wp2_with fail
 refine (zBV (p:=⟨V,O,R,⟨BA,R.n,Bc⟩⟩) (ch:=none) (chv:=.slice none 0 0) (E:=V) (h.below hb01) rfl (by omega) ho1 ho2 rfl hr rfl HL1.out (.inl ⟨rfl,rfl⟩) (by simp [Lin.given]) (nlr _)).mono ?_;rintro e w2 ⟨x,G,rfl,hD,hb2,hG⟩;have hGw:∀ y,G y->w.heap.size<=y:=fun y hy=>nlt hb01.size (hG y hy)
 have hb02:=hb01.trans (hb2.mono hb01.size);have bR2:=bR1.below hb2 s11;have s12:=ltl s11 hb2.size;go_wp2_with fail
 refine (zBy (P:=prob1 V os rs bs) (ch:=none) hD rfl HLen.out Nat.one_pos (zCh V os rs bs none) (nlr _) (by omega) (by omega) (by simp [Lin.given]) (by rw [<-HLen.out]; exact HFit.out) HKB.out).mono ?_;rintro e w3 ⟨D',k,rfl,hD3,hI,hF3,hE⟩;have hG1:¬ G (w+1):=fun hg=>by have:=hG _ hg; omega
 have bR3:=bR2.heap (hF3.block _ s12 hG1);have s13:=ltl s12 hF3.size;have hb03:=hb02.trans (hF3.below hb02.size hGw);go_wp2_with fail
 refine (zB5 k hE.cases).mono ?_; rintro e w4 ⟨rfl,hb4⟩
 have hb04:=hb03.trans (hb4.mono hb03.size);have hD4:=hD3.call hb4;have bR4:=bR3.below hb4 s13;have s14:=ltl s13 hb4.size;have HI:=hdq hI;have HE:=hdq hE;have bP4:=bP1.below (((hb2.trans (hF3.below hb2.size hG)).trans (hb4.mono (hb2.trans (hF3.below hb2.size hG)).size))) s01;clear hb1 hb2 hF3 hb4 hD hD3 hG hE hI p0 p1 p2 p3 p4 bP bP1 hbW hBW s0 s01 bR bR1 bR2 bR3 s1 s11 s12 s13 hG1;rcases HE.out.cases with rfl | rfl | rfl
 ·have hb4s:=hb04.size;have hmk:=zBZ R.n (by omega);obtain ⟨p0,p1,p2,p3,p4⟩:=id bP4;have s04:=zAb p0;dsimp only at s04;have hriM:(row:Int)<(R.n:Int):=by omega
  have hri0:(0:Int)<=(row:Int):=by omega
  have hR0:=RowAt.made w4 R.n (fun y=>y=w4.heap.size) rfl;have al:Below w4 w4 (w4.alloc (.cells (zeroQ R.n) 37)):=bal;clear hD4;go_wp2_with fail
  refine (zAN 1 (by decide) (by decide) _).mono ?_; rintro e w5 ⟨⟨y,rfl,hy⟩,hb5⟩
  have h45:Below w4 w4 w5:=al.trans (hb5.mono al.size);have hR5:=hR0.below hb5;have hb05:=hb04.trans (h45.mono hb4s);obtain ⟨u,⟨q0,q1,q2,q3⟩,-⟩:=hR5.elem row (by rw [List.length_replicate]; exact hrow);have fz5:=hR5.frozen;dsimp only at q1 q2 q3;have hR6:=hR5.put4 (k:=row) (v:=y) (q:=1) (by rw [List.length_replicate]; exact hrow) (hy.imp fun b _ hb hg=>by simp only [New,World.size_alloc] at hb; omega);have n0:w ≠ (w4:Nat):=by omega
  have n1:w+1 ≠ (w4:Nat):=by omega
  have bP6:=(bP4.below h45 s04).heap (zAx w5 w4 row y n0);have bR6:=(bR4.below h45 s14).heap (zAx w5 w4 row y n1);have hb06:=zBq hb05 hb4s row y;have s06:w.heap.size+1<(put4 w5 w4 row y).heap.size:=by rw [zBI]; have:=h45.size; omega
  obtain ⟨b,hbb⟩:∃ b,b=w4.heap.size:=⟨_,rfl⟩;have hbw:w.heap.size+1<b:=by omega
  have HBB:=hdq hbb;clear hbb;obtain ⟨mf,hmf⟩:∃ mf,mf=mch row up:=⟨_,rfl⟩;have HMf:=hdq hmf;clear hmf;cases up
  focus
   clear hmk hR0 al hR5 hy hb5 h45 hb05 bP4 bR4 hb04 p0 p1 p2 p3 p4;(go_upto_region 8 with fail);clear q0 q1 q2 q3 fz5;show Code.wp _ _ _ _ (put4 w5 w4 row y);rw [<-HBB.out] at hR6 bP6 bR6 hb06 s06 ⊢;generalize put4 w5 b row y=Wb at *;have hb06s:=hb06.size;have hRl6:=hR6.lt;(go_wp2_with fail);refine (zAN (-1) (by decide) (by decide) _).mono ?_; rintro e wc ⟨⟨y',rfl,hy'⟩,hbc⟩
   have hR7:=hR6.below hbc;obtain ⟨u,⟨q0,q1,q2,q3⟩,-⟩:=hR7.elem row (by simpa using hrow);have fz5:=hR7.frozen;dsimp only at q1 q2 q3;have hR8:=hR7.put4 (k:=row) (v:=y') (q:=-1) (by simpa using hrow) (hy'.imp fun x _ hx hg=>by simp only [New] at hx; omega);have n0':w.heap.size ≠ b:=(by omega);have n1':w.heap.size+1 ≠ b:=(by omega);have bP8:=(bP6.below hbc (by omega)).heap (zAx wc b row y' n0');have bR8:=(bR6.below hbc s06).heap (zAx wc b row y' n1');have hb08:=zBq (hb06.trans (hbc.mono hb06s)) (show w<=b by omega) row y';have s08:w.heap.size+1<(put4 wc b row y').heap.size:=by rw [zBI]; have:=hbc.size; omega
   clear hbc hR7 hy' hR6 bP6 bR6 hb06 s06;(go_upto_region 10 with fail);clear q0 q1 q2 q3 fz5;show Code.wp _ _ _ _ (put4 wc b row y')
   have HLst:Hid (∀ i,i<R.n->(((List.replicate R.n (0:Rat)).set row 1).set row (-1)).getD i 0=mf i):=fun i hi=>by
    rw [HMf.out];unfold mch;by_cases e:i=row
    ·subst e; simp [hi]
    ·simp [e,hi,Ne.symm e]
   have hR6:=hR8;have bP6:=bP8;have bR6:=bR8;have hb06:=hb08;have s06:=s08;clear hR8 bP8 bR8 hb08 s08;generalize put4 wc b row y'=Wc at *;have HLL:Hid ((((List.replicate R.n (0:Rat)).set row 1).set row (-1)).length=R.n):=by show _=_; simp
   generalize ((List.replicate R.n (0:Rat)).set row 1).set row (-1)=lst at *
  rotate_left
  focus
   have HLst:Hid (∀ i,i<R.n->((List.replicate R.n (0:Rat)).set row 1).getD i 0=mf i):=fun i hi=>by
    rw [HMf.out];unfold mch;by_cases e:i=row
    ·subst e; simp [hi]
    ·simp [e,hi,Ne.symm e]
   clear hmk hR0 al hR5 hy hb5 h45 hb05 bP4 bR4 hb04 p0 p1 p2 p3 p4;(go_upto_region 8 with fail);clear q0 q1 q2 q3 fz5;show Code.wp _ _ _ _ (put4 w5 w4 row y);rw [<-HBB.out] at hR6 bP6 bR6 hb06 s06 ⊢;generalize put4 w5 b row y=Wc at *;have HLL:Hid (((List.replicate R.n (0:Rat)).set row 1).length=R.n):=by show _=_; simp
   generalize (List.replicate R.n (0:Rat)).set row 1=lst at *
  all_goals
   obtain ⟨p0,p1,p2,p3,p4⟩:=id bP6;have hRl:=hR6.lt;go_wp2_with fail
   refine (zBV (p:=⟨V,O,R,⟨BA,R.n,Bc⟩⟩) (ch:=some (mf)) (chv:=.slice (some b) R.n R.n) (E:=V+1) (h.below hb06) rfl (by omega) ho1 ho2 rfl hr rfl HL1.out (.inr ⟨b,R.n,mf,rfl,rfl,nlr _,by omega,fun i hi=>by
    obtain ⟨u,h1,h2⟩:=hR6.elem i (by rw [HLL.out]; exact hi);rw [HLst.out i hi] at h2;exact ⟨u,h1,h2.any⟩⟩) (by simp [Lin.given]; omega) (by omega)).mono ?_
   rintro e w7 ⟨x2,G2,rfl,hD7,hb7,hG2⟩;have s7:=ltl s06 hb7.size;have bR7:=bR6.below hb7 s06;have hb07:=hb06.trans (hb7.mono hb06.size);(go_wp2_with fail);refine (zBy (P:=prob1 V os rs bs) (ch:=some (mf)) hD7 rfl HLen.out Nat.one_pos (zCh V os rs bs _) (by omega) (by omega) (by omega) (by simp [Lin.given]; omega) (by rw [<-HLen.out,HMf.out]; exact HFit2.out) HKB.out).mono ?_;rintro e w8 ⟨D2,k2,rfl,hD8,hI8,hF8,hE8⟩;have bR8:=bR7.heap (hF8.block _ s7 (fun hg=>by have:=hG2 _ hg; omega));have s8:=ltl s7 hF8.size;have hb08:=hb07.trans (hF8.below hb07.size (fun y hy=>nlt hb06.size (hG2 y hy)));rw [HMf.out] at hI8 hE8;have HI8:=hdq hI8;have HE8:=hdq hE8;clear p0 p1 p2 p3 p4 hD7 hb7 hG2 hI8 hE8 hF8 bR7 hb07 s7 bR6 bP6 hb06 s06 hR6 hRl;rcases HE8.out.cases with rfl | rfl | rfl
   focus
    have hfit:=HFit2.out D2 HI8.out;have hg:=HI8.out.1;(go_wp2_with fail);refine (zCp hD8 (fun i j hi hj=>hg.fInj i j hi hj) (fun j hj=>by have:=hg.fLt j hj; rw [<-HLen.out]; exact this) (by omega) (by omega) (by omega) hfit.c HKB.out).mono ?_;rintro e w9 ⟨⟨⟨yA,yn,yc⟩,rfl,hy⟩,hb9⟩;have hyn:yn=R.n:=by have:=hy.len; simpa using this.symm
    subst hyn;obtain ⟨ad,un,hA,-,⟨m0,m1,m2,m3⟩,hu⟩:=hy.elem row hrow;dsimp only at hA;subst hA;have hle:=hy.le;have hcap:=hy.cap;dsimp only at hle hcap;rw [zAS _ _ hrow,show dl D2 V V row=D2.dual (prob1 V os rs bs) row from zGq hg row] at hu;have hb09:=hb08.trans (hb9.mono hb08.size);have bR9:=bR8.below hb9 s8;obtain ⟨v0,v1,v2,v3,-⟩:=bR9.stored (.bool un.num.ng) (.slice un.num.A un.num.n un.num.c) (.bool un.den.ng) (.slice un.den.A un.den.n un.den.c);have HB:=hdq (zAl (x0:=.bool un.num.ng) (x1:=.slice un.num.A un.num.n un.num.c) (x2:=.bool un.den.ng) (x3:=.slice un.den.A un.den.n un.den.c) (b:=w+1) hb09 (by omega));have HZ:=hdq ((hu.set4 (b:=w+1) (x0:=.bool un.num.ng) (x1:=.slice un.num.A un.num.n un.num.c) (x2:=.bool un.den.ng) (x3:=.slice un.den.A un.den.n un.den.c) s8).lower hb08.size);clear hb9 hb09 hb08 hD8 hfit hg hu bR8 hy;dsimp only [SV.val];go_wp2;exact bodyPost_ret (v:=.tuple #[un.val,.int .i64 0]) (by simp [results,Tryz.results100,go_sem,v0,v1,v2,v3]) rfl ⟨.inr (.inr ⟨D',HI.out,HE.out,D2,1,HI8.out,HE8.out,.inr ⟨rfl,un,rfl,HZ.out⟩⟩),HB.out⟩
   all_goals
    obtain ⟨v0,v1,v2,v3,-⟩:=bR8.stored (.bool false) (.slice none 0 0) (.bool false) (.slice none 0 0);have HB:=hdq (zAl (x0:=.bool false) (x1:=.slice none 0 0) (x2:=.bool false) (x3:=.slice none 0 0) (b:=w+1) hb08 (by omega));clear hb08 hD8;go_wp2;(try rw [Exit.noGoto_ret]);exact bodyPost_ret (v:=.tuple #[.agg #[.bool false,.slice none 0 0,.bool false,.slice none 0 0],.int .i64 9]) (by simp [results,Tryz.results100,go_sem,v0,v1,v2,v3]) rfl ⟨.inr (.inr ⟨D',HI.out,HE.out,D2,_,HI8.out,HE8.out,.inl ⟨by decide,rfl⟩⟩),HB.out⟩
 ·obtain ⟨v0,v1,v2,v3,-⟩:=bR4.stored (.bool false) (.slice none 0 0) (.bool false) (.slice none 0 0);have HB:=hdq (zAl (x0:=.bool false) (x1:=.slice none 0 0) (x2:=.bool false) (x3:=.slice none 0 0) (b:=w+1) hb04 (by omega));clear hb04 hD4;go_wp2;try rw [Exit.noGoto_ret]
  exact bodyPost_ret (v:=.tuple #[.agg #[.bool false,.slice none 0 0,.bool false,.slice none 0 0],.int .i64 8]) (by simp [results,Tryz.results100,go_sem,v0,v1,v2,v3]) rfl ⟨.inl ⟨D',HI.out,HE.out,rfl⟩,HB.out⟩
 ·obtain ⟨v0,v1,v2,v3,-⟩:=bR4.stored (.bool false) (.slice none 0 0) (.bool false) (.slice none 0 0);have HB:=hdq (zAl (x0:=.bool false) (x1:=.slice none 0 0) (x2:=.bool false) (x3:=.slice none 0 0) (b:=w+1) hb04 (by omega));clear hb04 hD4;go_wp2;try rw [Exit.noGoto_ret]
  exact bodyPost_ret (v:=.tuple #[.agg #[.bool false,.slice none 0 0,.bool false,.slice none 0 0],.int .i64 9]) (by simp [results,Tryz.results100,go_sem,v0,v1,v2,v3]) rfl ⟨.inr (.inl ⟨D',HI.out,HE.out,rfl⟩),HB.out⟩
theorem zBm {up:Bool} (h:LPIs w X Y L p os rs bs) (hV:p.n=V) (hV2:V<=8) (ho1:1<=p.O.n) (ho2:p.O.n<=4) (hr:p.R.n<=128) (hb:p.B.n=p.R.n) (hco:colsOf os<=V) (hcr:colsOf rs<=V) (hL:L<=100) (hrow:row<p.R.n) :
  Calls Tryz.prog 100 #[p.val,.int .i64 (row:Int),.bool up] w fun e w'=>MargRet w (prob1 V os rs bs) row up e w'/\Below w w w':=
 zEl (kb:=5 ^ V*(32*(L+1))) h hV (by omega) ho1 ho2 hr hb hco hcr (by rw [zAZ]; omega) hrow (fun D hD=>zBE h (by simp [Lin.given]) (fun c hc=>by cases hc) D hD)
  (fun D hD=>zBE h (by simp [Lin.given]; omega) (fun c hc i=>by
   cases hc; unfold mch
   split
   ·split
    ·exact Lin.Fits.one _
    ·exact (Lin.Fits.one _).neg
   ·exact Lin.Fits.zero _) D hD) (zDZ hV2 hL)
end Go.Proofs.YtpjaodcimomaiaaGreat
