/- Texts Solved AliveM Alive2 Alive3 Scal1 Scal2 ScalB ScalC Dot MulVec LP1 LP2 LP3 LP4 RestrM Restr Comb of this claim. -/
import Derived.Test.YtpjaodcimomaiaaGreatI23
import Derived.Test.YtpjaodcimomaiaaGreatI21
set_option maxHeartbeats 4000000
set_option maxRecDepth 100000
namespace Go.Proofs.YtpjaodcimomaiaaGreat
variable {q:Rat} {L V B b k M K n m c kb:Nat} {s sa sb:SV} {X Y Z X' Y':Nat->Prop} {w w' W W' W2:World} {bs la lb:List Rat} {os rs:List (List Rat)} {p:LPV} {z:Int} {P:Lin.Prob} {f:Nat->Rat} {A:Option Addr}
namespace Lin
theorem Prob.Feasible.congr {P:Prob} {x y:Nat->Rat} (h:P.Feasible x) (e:∀ k,k<P.n->x k=y k):P.Feasible y:=
 ⟨fun k hk=>by rw [<-e k hk]; exact h.1 k hk,fun i hi=>by rw [zAh (g:=fun k=>P.A i k*x k) fun k hk=>by rw [e k hk]]; exact h.2 i hi⟩
theorem Prob.Better.congr {P:Prob} {x x' y y':Nat->Rat} (h:P.Better x y) (e:∀ k,k<P.n->x k=x' k) (e':∀ k,k<P.n->y k=y' k):P.Better x' y':=
 LexPos.congr h fun l hl=>by rw [zCo e hl,zCo e' hl]
theorem Prob.Optimal.congr {P:Prob} {x y:Nat->Rat} (h:P.Optimal x) (e:∀ k,k<P.n->x k=y k):P.Optimal y:=
 ⟨h.1.congr e,fun z hz=>(h.2 z hz).elim (fun hb=>.inl (hb.congr e fun _ _=>rfl)) fun hs=>.inr fun k hk=>by rw [hs k hk,e k hk]⟩
theorem Prob.Unbounded.congr {P:Prob} {x y d d':Nat->Rat} (h:P.Unbounded x d) (e:∀ k,k<P.n->x k=y k) (e':∀ k,k<P.n->d k=d' k):P.Unbounded y d':=
 ⟨h.1.congr e,fun k hk=>by rw [<-e' k hk]; exact h.2.1 k hk,fun i hi=>by rw [zAh (g:=fun k=>P.A i k*d k) fun k hk=>by rw [e' k hk]]; exact h.2.2.1 i hi,LexPos.congr h.2.2.2 fun l _=>zAh fun k hk=>by rw [e' k hk]⟩
end Lin
open Go.RowKit Go.Shelf
theorem zAR (h:QFit L q):Lin.Fits (32*L) q:=by
 have e:Num.base ^ L=2 ^ (32*L):=by rw [Nat.pow_mul]; rfl
 exact ⟨by rw [<-e]; exact Nat.le_of_lt h.1,by rw [<-e]; exact Nat.le_of_lt h.2⟩
theorem VecAt.fit {l:List Rat} (h:VecIs w X Y L s l) (k:Nat):QFit (L+1) (l.getD k 0):=by
 by_cases hk:k<s.n
 ·obtain ⟨_,v,_,_,_,hq⟩:=h.elem k hk;exact hq.fit
 ·rw [zAw _ _ _ (by rw [h.len]; omega)]; exact QFit.zero L
def Solved (w:World) (P:Lin.Prob) (r:RV) (w':World):Prop:=
 (r.kind=1/\∃ (D:Lin.Dict) (l:List Rat),Lin.Good P D/\Lin.Feas P D/\(∀ j,j<P.n->¬ CandP P D j)/\l.length=P.n/\P.Optimal (fun k=>l.getD k 0)/\VecCan w' (New w) (New w) r.X l/\MatCan w' (New w) (New w) r.Y ((List.range P.m).map fun i=>(List.range (P.K+P.n)).map (priceTo D P.n P.m P.K P.n i)))\/
 (r.kind=2/\∃ (D:Lin.Dict) (k:Nat),Lin.Good P D/\k<P.m/\D.a k P.n<0/\(∀ j,j<P.n->0<=D.a k j)/\(∀ x,¬ P.Feasible x)/\VecCan w' (New w) (New w) r.F ((List.range P.m).map (farkasOf D P.n k)))\/
 (r.kind=3/\∃ l l':List Rat,l.length=P.n/\l'.length=P.n/\P.Unbounded (fun k=>l.getD k 0) (fun k=>l'.getD k 0)/\VecCan w' (New w) (New w) r.X l/\VecCan w' (New w) (New w) r.R l'/\∃ (D:Lin.Dict) (s:Nat),Lin.Good P D/\s<P.n/\l=(List.range P.n).map (D.point P)/\l'=(List.range P.n).map (D.dir P s))
theorem zPK {P:Lin.Prob} {e:Ending} (h:SolveRet w P e w'):∃ r:RV,e = .returned (.tuple #[r.val,.int .i64 0])/\Solved w P r w':=by
 obtain ⟨r,he,hr⟩:=h;refine ⟨r,he,?_⟩;rcases hr with ⟨hk,D,l,hg,hf,ho,rfl,hx,hy,_,_⟩ | ⟨hk,D,k,l,hg,h1,h2,h3,rfl,hF,_,_,_⟩ | ⟨hk,D,s,l,l',hg,hf,hs,hc,hn,rfl,rfl,hx,hr,_,_⟩
 ·exact .inl ⟨hk,D,_,hg,hf,ho,by simp,(Lin.zPC hg hf ho).congr fun k hk=>by rw [zAS _ _ hk],hx,hy⟩
 ·exact .inr (.inl ⟨hk,D,k,hg,h1,h2,h3,fun x=>Lin.zB6 hg h1 h2 h3 x,hF⟩)
 ·exact .inr (.inr ⟨hk,_,_,by simp,by simp,(Lin.zLG hg hf hs hc (fun i hi=>by have:=hn i hi; grind)).congr (fun k hk=>by rw [zAS _ _ hk]) fun k hk=>by rw [zAS _ _ hk],hx,hr,D,s,hg,hs,rfl,rfl⟩)
theorem zPN (h:LPIs w X Y L p os rs bs) (hV:p.n=V) (hV2:V<=8) (ho1:1<=p.O.n) (ho2:p.O.n<=4) (hr:p.R.n<=128) (hb:p.B.n=p.R.n) (hco:colsOf os<=V) (hcr:colsOf rs<=V) (hL:L<=100) :
  Calls Tryz.prog 51 #[p.val] w fun e w'=>(∃ r:RV,e = .returned (.tuple #[r.val,.int .i64 0])/\Solved w (probOf V os rs bs) r w')/\Below w w w':=by
 have h5:5 ^ V<=390625:=nlt (Nat.pow_le_pow_right (by omega) hV2) (by decide);have h6:5 ^ V*(32*(L+1))<=390625*(32*101):=Nat.mul_le_mul h5 (by omega);refine (zPz (kb:=5 ^ V*(32*(L+1))) h hV (by omega) ho1 ho2 hr hb hco hcr (by rw [zAZ]; omega) (fun D hD=>?_) (by rw [zAZ]; omega)).mono ?_
 ·refine hD.fits (by omega) ⟨fun i j hi hj=>?_,fun l j hl hj=>?_⟩
  ·show Lin.Fits _ (if j<V then (rs.getD i []).getD j 0 else bs.getD i 0)
   split
   ·exact zAR (h.rows.fit i j)
   ·exact zAR (h.bounds.fit i)
  ·show Lin.Fits _ (if j<V then-(os.getD l []).getD j 0 else 0)
   split
   ·exact (zAR (h.obj.fit l j)).neg
   ·exact Lin.Fits.zero _
 ·rintro e w' ⟨hs,hb⟩;exact ⟨zPK hs,hb⟩
open Lin
theorem sum1 (f:Nat->Rat):Lin.sum 1 f=f 0:=by simp [Lin.sum]; grind
theorem sum2 (f:Nat->Rat):Lin.sum 2 f=f 0+f 1:=by simp [Lin.sum]; grind
section
variable {w w':World} {P:Lin.Prob} {r:RV}
end
theorem LRet.lpis (ho:MatCan w' (New B) (New B) p.O os) (hr:MatCan w' (New B) (New B) p.R rs) (hb:VecCan w' (New B) (New B) p.B bs)
  (fo:∀ i k,QFit L ((os.getD i []).getD k 0)) (fr:∀ i k,QFit L ((rs.getD i []).getD k 0)) (fb:∀ k,QFit L (bs.getD k 0)):LPIs w' (New B) (New B) L p os rs bs:=
 ⟨⟨ho.len,ho.le,ho.cap,fun i hi=>by
   obtain ⟨ad,r,e,hx,hc,hv⟩:=ho.row i hi
   exact ⟨ad,r,e,hx,hc,hv.len,hv.le,hv.cap,fun k hk=>by
    obtain ⟨ad',v,e',hx',hc',hq⟩:=hv.elem k hk;exact ⟨ad',v,e',hx',hc',hq.qis (fo i k)⟩⟩⟩,
  ⟨hr.len,hr.le,hr.cap,fun i hi=>by
   obtain ⟨ad,r,e,hx,hc,hv⟩:=hr.row i hi
   exact ⟨ad,r,e,hx,hc,hv.len,hv.le,hv.cap,fun k hk=>by
    obtain ⟨ad',v,e',hx',hc',hq⟩:=hv.elem k hk;exact ⟨ad',v,e',hx',hc',hq.qis (fr i k)⟩⟩⟩,
  ⟨hb.len,hb.le,hb.cap,fun k hk=>by
   obtain ⟨ad',v,e',hx',hc',hq⟩:=hb.elem k hk;exact ⟨ad',v,e',hx',hc',hq.qis (fb k)⟩⟩⟩
theorem zHJ (h:z.natAbs<1000):QFit 1 (z:Rat):=by
 have e:Num.base ^ 1=4294967296:=by decide
 exact ⟨by rw [e]; simp; omega,by rw [e]; simp⟩
theorem zCZ {l:List Int} (h:∀ z ∈ l,z.natAbs<1000) (k:Nat):QFit 1 ((rats l).getD k 0):=by
 unfold rats;rw [gdd,List.getElem?_map]
 cases e:l[k]? with
 | none=>exact QFit.zero 0
 | some z=>exact zHJ (h z (List.mem_of_getElem? e))
theorem zDn {m:List (List Int)} (h:∀ l ∈ m,∀ z ∈ l,z.natAbs<1000) (i k:Nat):QFit 1 (((m.map rats).getD i []).getD k 0):=by
 have e:(m.map rats).getD i []=rats (m.getD i []):=by
  simp only [gdd,List.getElem?_map];cases m[i]? <;> rfl
 rw [e];refine zCZ (fun z hz=>?_) k;by_cases hi:i<m.length
 ·refine h _ (List.getElem_mem hi) z ?_;simpa [gdd,hi] using hz
 ·rw [zAw _ _ _ (by omega)] at hz; cases hz
abbrev rcells (k:Int) (r:RV):Array Value:=#[.int .u8 k,.slice r.X.A r.X.n r.X.c,.slice r.Y.A r.Y.n r.Y.c,.slice r.R.A r.R.n r.R.c,.slice r.F.A r.F.n r.F.c,.int .i64 r.pv]
abbrev RBox (W:World) (b:Nat) (k:Int) (r:RV):Prop:=W.heap[b]?=some (.cells (rcells k r) 80 (0,0))
theorem zQt {k:Int} {r:RV} (h:RBox w b k r):w.cell? b=some (.int .u8 k)/\w.cell? ⟨b,1,none⟩=some (.slice r.X.A r.X.n r.X.c)/\w.cell? ⟨b,4,none⟩=some (.slice r.F.A r.F.n r.F.c):=by
 simp only [World.cell?,h]; exact ⟨rfl,rfl,rfl⟩
theorem VecAt.loose {l:List Rat} (h:VecCan w X Y s l) (f:∀ k,QFit L (l.getD k 0)):VecIs w X Y L s l:=
 ⟨h.len,h.le,h.cap,fun k hk=>by
  obtain ⟨ad',v,e',hx',hc',hq⟩:=h.elem k hk;exact ⟨ad',v,e',hx',hc',hq.qis (f k)⟩⟩
namespace Lin
end Lin
open Lin
open Go.RowKit
def three (a b c:Value) (f:Nat):Value:=if f=1 then a else if f=2 then b else c
def qft (f:Nat):TypeId:=if f<=2 then 24 else 37
def qfw (f:Nat):Nat:=if f<=2 then 1 else 4
section
variable {w W W':World} {d:Nat} {n:Int} {va vb vc:Value} {al:Nat->List Value} {cnt:Nat->Nat} {G:Nat->Prop}
theorem zBc (a b c v:Value) (f g:Nat) (h1:1<=f) (h2:f<=3) (h3:1<=g) (h4:g<=3) :
  three (if f=1 then v else a) (if f=2 then v else b) (if f=3 then v else c) g=if g=f then v else three a b c g:=by
 unfold three;rcases (by omega:f=1\/f=2\/f=3) with rfl | rfl | rfl <;> rcases (by omega:g=1\/g=2\/g=3) with rfl | rfl | rfl <;> simp
end
def pick3 {α:Type} (z a b c:α) (f:Nat):α:=if f=1 then a else if f=2 then b else if f=3 then c else z
theorem QIs.sizes {v:QV} (h:QIs w X L v q):v.num.n<=L/\v.den.n<=L:=by
 obtain ⟨x,y,⟨lx,hx,k1,ex⟩,⟨ly,hy,k2,ey⟩,e⟩:=h;exact ⟨k1,k2⟩
theorem fits_one:Lin.Fits 1 ((1:Int):Rat):=Lin.Fits.ofInt (by decide)
structure Put (W W':World) (b:Nat):Prop where
 size:W'=(W:Nat)
 keep:∀ c,c ≠ b->W'.heap[c]?=W.heap[c]?
 below:∀ B,B<=b->Below B W W'
theorem Put.one (b o:Nat) (x:Value):Put W (W.setCell ⟨b,o,none⟩ x) b:=
 ⟨by simp [World.setCell],fun c hc=>bhs _ _ _ _ hc,fun B hB=>(brf _ _).setCell (p:=⟨b,o,none⟩) hB _⟩
theorem Put.trans (h:Put W W' b) (k:Put W' W2 b):Put W W2 b:=
 ⟨k.size.trans h.size,fun c hc=>(k.keep c hc).trans (h.keep c hc),fun B hB=>(h.below B hB).trans (k.below B hB)⟩
theorem Put.four (b:Nat) (x0 x1 x2 x3:Value):Put W ((((W.setCell b x0).setCell ⟨b,1,none⟩ x1).setCell ⟨b,2,none⟩ x2).setCell ⟨b,3,none⟩ x3) b:=
 (((Put.one _ _ _).trans (Put.one _ _ _)).trans (Put.one _ _ _)).trans (Put.one _ _ _)
theorem Put.qcan (h:Put W W' b) (hb:b<B) {v:QV} (hq:QCan W (New B) v q):QCan W' (New B) v q:=
 hq.keep fun a ha _=>cob (h.keep _ (by simp only [New] at ha; omega))
theorem zHY (h:Short6 w AllB AllB p os rs bs) (h2:mayB p os rs=true->p.n<=4/\p.R.n<=4) (hm:mayB p os rs=true) :
  0<=p.n/\p.n<=4/\1<=p.O.n/\p.O.n<=4/\p.R.n<=4/\p.B.n=p.R.n/\(colsOf os:Int)<=p.n/\(colsOf rs:Int)<=p.n/\LPIs w AllB AllB 6 p os rs bs:=by
 obtain ⟨a1,a2⟩:=h2 hm;simp only [mayB,decide_eq_true_eq] at hm;obtain ⟨b1,b2,b3,b4,b5,b6,b7,b8⟩:=hm;exact ⟨b1,a1,b3,b4,a2,b6,b7,b8,h.1,h.2.1 (by omega),h.2.2 (by omega)⟩
theorem zBn (h:Lin.Fits k q) (hk:k<32*L):QFit L q:=by
 have e:Num.base ^ L=2 ^ (32*L):=by rw [Nat.pow_mul]; rfl
 have h2:2 ^ k<2 ^ (32*L):=Nat.pow_lt_pow_right (by omega) hk;exact ⟨by rw [e]; exact Nat.lt_of_le_of_lt h.1 h2,by rw [e]; exact Nat.lt_of_le_of_lt h.2 h2⟩
theorem zHj {α β:Type} {R:α->β->Prop} {a:List α} {b:List β} {x y:α} {l z:β} (hl:a.length=b.length) (h:∀ m,m<b.length->R (a.getD m y) (b.getD m z)) (hx:R x l):∀ m,m<(b++[l]).length->R ((a++[x]).getD m y) ((b++[l]).getD m z):=by
 intro m hm;rw [List.length_append] at hm;simp only [List.length_cons,List.length_nil,Nat.zero_add] at hm;rw [zBG,zBG,hl];by_cases h1:m<b.length
 ·rw [if_pos h1,if_pos h1]; exact h m h1
 ·rw [if_neg h1,if_neg h1,if_pos (by omega),if_pos (by omega)]; exact hx
section
variable {w W W1 W2:World} {p:LPV} {jv kv:QV} {jq kq:Rat} {d:Nat} {os rs:List (List Rat)} {bs:List Rat} {va vb vc v':Value} {G:Nat->Prop} {s1 s2:List SV} {s3:List QV} {o:Obj}
end
open Go.RowKit Go.Shelf Lin
theorem zQF (h:LPIs w X Y L p os rs bs):(probOf V os rs bs).start.Fits (probOf V os rs bs) (32*(L+1)):=by
 refine ⟨fun i j hi hj=>?_,fun l j hl hj=>?_⟩
 ·show Lin.Fits _ (if j<V then (rs.getD i []).getD j 0 else bs.getD i 0)
  split
  ·exact zAR (h.rows.fit i j)
  ·exact zAR (h.bounds.fit i)
 ·show Lin.Fits _ (if j<V then-(os.getD l []).getD j 0 else 0)
  split
  ·exact (zAR (h.obj.fit l j)).neg
  ·exact Lin.Fits.zero _
theorem zPY {D:Dict} (h:D.Fits P k) (v:Nat):Lin.Fits k (D.point P v):=by
 unfold Dict.point
 split
 ·rename_i hf; exact h.1 _ _ hf (nlr _)
 ·exact Lin.Fits.zero _
theorem zP9 {r:RV} (h:Solved w P r w') (hk:r.kind=1) (h1:1<=k) (h0:P.start.Fits P k) {l:List Rat} (hl:l.length=P.n) (ho:P.Optimal fun k=>l.getD k 0) (v:Nat):Lin.Fits (5 ^ P.n*k) (l.getD v 0):=by
 rcases h with ⟨_,D,l',hg,hf,hc,hl',hopt,hx,_⟩ | ⟨hk',_⟩ | ⟨hk',_⟩
 ·by_cases hv:v<P.n
  ·have e:=ho.unique (zPC hg hf hc) hv;rw [e];exact zPY (hg.fits h1 h0) v
  ·rw [zAw _ _ _ (by omega)]; exact Lin.Fits.zero _
 ·rw [hk] at hk'; cases hk'
 ·rw [hk] at hk'; cases hk'
theorem zBT (h:colsOf rs<=V) (c:Nat):(rs.getD c []).length<=V:=by
 by_cases hi:c<rs.length
 ·exact zAU.1 h _ (by simp [hi])
 ·rw [zAw rs _ _ (by omega)]; simp
attribute [local go_sem] Oper.semAt_some
theorem zBX :qsign q=0 ↔ q=0:=by
 unfold qsign; grind
abbrev QBlk (W:World) (b:Nat) (v:QV):Prop:=W.heap[b]?=some (.cells #[.bool v.num.ng,.slice v.num.A v.num.n v.num.c,.bool v.den.ng,.slice v.den.A v.den.n v.den.c] 37 (0,0))
theorem zAA {v:QV} (h:QBlk W b v):Box4 W b (.bool v.num.ng) (.slice v.num.A v.num.n v.num.c) (.bool v.den.ng) (.slice v.den.A v.den.n v.den.c):=by
 refine ⟨?_,?_,?_,?_,fun o=>?_⟩ <;> simp [World.cell?,World.frozen?,h]
theorem zHh {v t:QV} (h:QBlk W b v):QBlk ((((W.setCell b (.bool t.num.ng)).setCell ⟨b,1,none⟩ (.slice t.num.A t.num.n t.num.c)).setCell ⟨b,2,none⟩ (.bool t.den.ng)).setCell ⟨b,3,none⟩ (.slice t.den.A t.den.n t.den.c)) b t:=by
 unfold QBlk;rw [zAe _ (zAe _ (zAe _ (zAe _ h)))];simp
def DotPost (w:World) (S:Nat) (Z:Nat->Prop) (t:Rat) (e:Ending) (w':World):Prop:=
 e = .returned (.tuple #[])/\∃ s2:QV,QBlk w' S s2/\QCan w' (fun b=>Z b\/w.heap.size<=b) s2 t/\Fr (fun b=>b=S) w w'
theorem zHt {S:Nat} {x y s:QV} {p r:Rat} (hx:QIs w X L x p) (hy:QIs w Y M y q) (hs:QCan w Z s r) (hS0:QBlk w S s) (hL:L<=LM) (hM:M<=LM) (hK:K<=LM) (hr:QFit K r) (hp:QFit K (p*q)) :
  Calls Tryz.prog 82 #[x.val,y.val,.pointer (some S)] w fun e w'=>DotPost w S Z (r+p*q) e w':=by
 have HX:=hdq hx;have HY:=hdq hy;have HS:=hdq hs;have hSl:=zAa hS0;have hS:=zAA hS0;have HB:=hdq hS0;clear hS0;have HL:=hdq hL;have HM:=hdq hM;have HK:=hdq hK;have HR:=hdq hr;have HP:=hdq hp;clear hx hy hs hL hM hK hr hp;go_enter Tryz.func82,Tryz.ntmps82
 go_upto_region 1 with fail
 refine zAo (fun W=>Below w w W/\Box4 W w (.bool x.num.ng) (.slice x.num.A x.num.n x.num.c) (.bool x.den.ng) (.slice x.den.A x.den.n x.den.c)/\Box4 W (w+1) (.bool y.num.ng) (.slice y.num.A y.num.n y.num.c) (.bool y.den.ng) (.slice y.den.A y.den.n y.den.c)/\w<(W:Nat)/\w+1<(W:Nat)) ⟨(az (az (brf _ _))),bx4,bx4,by simp <;> omega,by simp <;> omega⟩ ?_;rintro W ⟨hbW,bX,bY,s0,s1⟩;have hBW:=hbW.size;obtain ⟨x0,x1,x2,x3,-⟩:=id bX;obtain ⟨y0,y1,y2,y3,-⟩:=id bY;go_wp2_with fail
 refine (zAn (v:=x) (HX.out.below hbW)).mono ?_;rintro e w1 ⟨rfl,hb1⟩;have bS:=hS.below hbW hSl;have sS:=ltl hSl hbW.size;clear hS hBW;replace bX:=bX.below hb1 s0;replace bY:=bY.below hb1 s1;replace bS:=bS.below hb1 sS;replace s0:=ltl s0 hb1.size;replace s1:=ltl s1 hb1.size;replace sS:=ltl sS hb1.size;replace hbW:=hbW.trans (hb1.mono hbW.size);clear x0 x1 x2 x3 y0 y1 y2 y3;obtain ⟨x0,x1,x2,x3,-⟩:=id bX;obtain ⟨y0,y1,y2,y3,-⟩:=id bY;by_cases hp0:p=0
 ·have e0:qsign p=0:=zBX.2 hp0;have Hz:Hid (p*q=0):=by show p*q=0; rw [hp0,Rat.zero_mul]
  rw [e0];clear e0 hp0;go_wp2;go_end0;refine ⟨rfl,s,(hbW.block _ hSl).trans HB.out,?_,Fr.of_below hbW⟩;rw [Hz.out,Rat.add_zero];exact (HS.out.below hbW).imp fun b _ hb=>.inl hb
 ·have e0:¬ (qsign p=0):=fun h=>hp0 (zBX.1 h)
  have e1:(qsign p != 0)=true:=by simpa using e0
  clear hp0 e0;go_wp2_with fail
  refine (zAn (v:=y) (HY.out.below hbW)).mono ?_;rintro e w2 ⟨rfl,hb2⟩;replace bX:=bX.below hb2 s0;replace bY:=bY.below hb2 s1;replace bS:=bS.below hb2 sS;replace s0:=ltl s0 hb2.size;replace s1:=ltl s1 hb2.size;replace sS:=ltl sS hb2.size;replace hbW:=hbW.trans (hb2.mono hbW.size);clear x0 x1 x2 x3 y0 y1 y2 y3;obtain ⟨x0,x1,x2,x3,-⟩:=id bX;obtain ⟨y0,y1,y2,y3,-⟩:=id bY;by_cases hq0:q=0
  ·have e2:qsign q=0:=zBX.2 hq0;have Hz:Hid (p*q=0):=by show p*q=0; rw [hq0,Rat.mul_zero]
   rw [e2];clear e2 hq0;go_wp2;go_end0;refine ⟨rfl,s,(hbW.block _ hSl).trans HB.out,?_,Fr.of_below hbW⟩;rw [Hz.out,Rat.add_zero];exact (HS.out.below hbW).imp fun b _ hb=>.inl hb
  ·have e2:¬ (qsign q=0):=(fun h=>hq0 (zBX.1 h));have e3:(qsign q != 0)=true:=(by simpa using e2);clear hq0 e2;obtain ⟨z0,z1,z2,z3,-⟩:=id bS;(go_upto_region 2 with fail);refine zAp 5 (fun f w'=>f=false->Sees w [] w2 w') (by kernel_rfl) ?_;have hS0:Sees w [] w2 w2.drew:=Sees.st (by simp) hbW.size;refine tkW 0 (s.val) (fun w' hSw=>?_) (fun _=>hS0) ?_
   ·(replace hSw:=hSw rfl; go_simp; try with_reducible rfl)
   simp only [zz];refine tkW 1 (x.val) (fun w' hSw=>?_) (fun _=>hS0) ?_
   ·(replace hSw:=hSw rfl; go_simp; try with_reducible rfl)
   simp only [zz];refine tkW 2 (y.val) (fun w' hSw=>?_) (fun _=>hS0) ?_
   ·(replace hSw:=hSw rfl; go_simp; try with_reducible rfl)
   simp only [zz];refine tk1 3 ?_;intro K hK;go_simp;(with_reducible refine (zBb (a:=x) (b:=y) (HX.out.below hbW.drew) (HY.out.below hbW.drew) HL.out HM.out).mono ?_);rintro e v1 ⟨⟨u,rfl,hu⟩,hc1⟩;have hS1:=Kept.call2 hc1 hS0;refine hK.out _ _ (fun _=>hS1) ?_;clear hK K hS0;refine tk1 4 ?_;intro K hK;go_simp;(with_reducible refine (zCD (a:=s) (b:=u) ((HS.out.below (hbW.trans (hS1.kept.whole.mono hbW.size))).qis HR.out) (hu.qis HP.out) HK.out HK.out).mono ?_);rintro e v2 ⟨⟨t,rfl,ht⟩,hc2⟩;have hS2:=Kept.call2 hc2 hS1;refine hK.out _ _ (fun _=>hS2) ?_;have hb2':=hS2.kept.whole;have bS2:=bS.below hb2' sS;have ht2:=ht.lower hS1.kept.size;clear hK K hS1 hu ht hc1 hc2;clear z0 z1 z2 z3;obtain ⟨z0,z1,z2,z3,z4⟩:=id bS2;refine tk1 5 ?_;intro K hK;go_simp;refine hK.out _ _ (fun h=>absurd h (by decide)) ?_;clear hK K;have P8:=Put.four (W:=v2) S (.bool t.num.ng) (.slice t.num.A t.num.n t.num.c) (.bool t.den.ng) (.slice t.den.A t.den.n t.den.c);have bS8:=zHh (t:=t) ((hb2'.block _ sS).trans ((hbW.block _ hSl).trans HB.out));have F8:Fr (fun b=>b=S) v2 _:=((((Fr.refl (fun b=>b=S) v2).set (p:=S) rfl (.bool t.num.ng)).set (p:=⟨S,1,none⟩) rfl (.slice t.num.A t.num.n t.num.c)).set (p:=⟨S,2,none⟩) rfl (.bool t.den.ng)).set (p:=⟨S,3,none⟩) rfl (.slice t.den.A t.den.n t.den.c);generalize (((v2.setCell S (.bool t.num.ng)).setCell ⟨S,1,none⟩ (.slice t.num.A t.num.n t.num.c)).setCell ⟨S,2,none⟩ (.bool t.den.ng)).setCell ⟨S,3,none⟩ (.slice t.den.A t.den.n t.den.c)=y8 at *;have ht8:=P8.qcan (B:=w2) sS ht2;have hF:Fr (fun b=>b=S) w y8:=(Fr.of_below (hbW.trans (hb2'.mono hbW.size))).trans F8;clear z0 z1 z2 z3 z4 P8 F8 ht2 bS2 hS2;refine zAf (by kernel_rfl) ?_ _;go_wp2;go_end0;exact ⟨rfl,t,bS8,ht8.imp fun b _ hb=>.inr (nlt hbW.size hb),hF⟩
def lsum (f:Nat->Rat) (l:List Nat):Rat:=l.foldl (fun s i=>s+f i) 0
theorem zEk (f:Nat->Rat) (l:List Nat) (x:Nat):lsum f (l++[x])=lsum f l+f x:=by simp [lsum,List.foldl_append]
theorem zDt (f:Nat->Rat):∀ n,lsum f (List.range n)=Lin.sum n f
 | 0=>rfl
 | n+1=>by rw [List.range_succ,zEk,zDt f n]; rfl
theorem zFR (h:∀ i,Lin.Fits k (f i)):∀ l:List Nat,Lin.Fits (l.length*(k+1)) (lsum f l):=by
 intro l;obtain ⟨r,rfl⟩:∃ r:List Nat,r.reverse=l:=⟨l.reverse,List.reverse_reverse l⟩
 induction r with
 | nil=>exact Lin.Fits.zero _
 | cons x r ih=>
  rw [List.reverse_cons,zEk];refine (ih.add (h x)).mono ?_;simp only [List.length_append,List.length_reverse,List.length_cons,List.length_nil];have:(r.length+(0+1))*(k+1)=r.length*(k+1)+(k+1):=by rw [Nat.add_mul]; omega
  omega
theorem VecAt.take {R:QV->Rat->Prop} {l:List Rat} (h:VecAt w X R ⟨A,m,c⟩ l) (hn:n<=m):VecAt w X R ⟨A,n,c⟩ (l.take n):=by
 have h1:l.length=m:=h.len;have h2:m<=c:=h.le;refine ⟨by rw [List.length_take,h1]; show min n m=n; omega,nlt hn h2,h.cap,fun k hk=>?_⟩;obtain ⟨ad,v,e,hx,hc,hr⟩:=h.elem k (ltl hk hn);refine ⟨ad,v,e,hx,hc,?_⟩;have hk':k<n:=hk
 rwa [show (l.take n).getD k 0=l.getD k 0 by simp [List.getElem?_take_of_lt hk']]
theorem zFX (W:World) (X:Nat->Prop):QCan W X QV.zero 0:=⟨⟨rfl,by rw [show Num.words (0:Rat).num.natAbs=[] by simp [Num.words]]; exact WordsAt.nil _ _ _ _ (nzl _)⟩,⟨rfl,by rw [show Num.words (cden 0).natAbs=[] by simp [Num.words,cden]]; exact WordsAt.nil _ _ _ _ (nzl _)⟩⟩
theorem alk {x o:Obj} (h:w.heap[b]?=some x):(w.alloc o).heap[b]?=some x:=(Below.heap_alloc _ _ _ (zAa h)).trans h
theorem drk {x:Obj} (h:w.heap[b]?=some x):w.drew.heap[b]?=some x:=h
def DotInv (w:World) (f:Nat->Rat) (pre:List Nat) (W:World):Prop:=
 (∃ s:QV,QBlk W (w+1) s/\QCan W (fun b=>w.heap.size+1<b) s (lsum f pre))/\QBlk W w QV.zero/\
 Boxed W (w+1+1) 126 (.func (.func 82) #[] #[.pointer (some ⟨w+1,0,none⟩)])/\Carry (fun y=>y ≠ w.heap.size+1) w W
theorem DotInv.own :Own (DotInv w f):=fun _ _ _ _ hs hg hr=>by
 obtain ⟨⟨s,h1,h2⟩,h3,h4,h5⟩:=hs;exact ⟨⟨s,zAi hg hr h1,h2.carry (Carry.grown hg hr)⟩,zAi hg hr h3,zAi hg hr h4,h5.trans (Carry.grown hg hr)⟩
theorem zEb (ha:VecIs w X Y L sa la) (hb:VecIs w X' Y' M sb lb) (hL:L<=LM) (hM:M<=LM) (hna:sa.n<=1000000) (hkb:1000000*(kb+1)<32*LM) (hf:∀ i,Lin.Fits kb (la.getD i 0*lb.getD i 0)) :
  Calls Tryz.prog 31 #[sa.val,sb.val] w fun e w'=>QRet w (Lin.sum (min sa.n sb.n) fun i=>la.getD i 0*lb.getD i 0) e w'/\Below w w w':=by
 refine (callsIn_wide (n:=6)).1 ?_;obtain ⟨A,la',ca⟩:=sa;obtain ⟨B,lb',cb⟩:=sb;obtain ⟨N,hN⟩:∃ N,N=min la' lb':=⟨_,rfl⟩;have hNa:N<=la':=by omega
 have hNb:N<=lb':=by omega
 have cpa:la'<=ca:=ha.le;have cpb:lb'<=cb:=hb.le;have cpa2:ca<=9223372036854775807:=ha.cap;have cpb2:cb<=9223372036854775807:=hb.cap;have hmin:min (la':Int) (lb':Int)=(N:Int):=by omega
 have HL:=hdq hL;have HM:=hdq hM;have h0a:QIs w (fun _=>True) L QV.zero 0:=⟨0,0,⟨[],WordsAt.nil _ _ _ _ (nzl _),nzl _,rfl⟩,⟨[],WordsAt.nil _ _ _ _ (nzl _),nzl _,rfl⟩,by simp [qv]⟩;have h0b:QIs w (fun _=>True) M QV.zero 0:=⟨0,0,⟨[],WordsAt.nil _ _ _ _ (nzl _),nzl _,rfl⟩,⟨[],WordsAt.nil _ _ _ _ (nzl _),nzl _,rfl⟩,by simp [qv]⟩;obtain ⟨va,hva,hqa⟩:=((ha.take hNa).imp (X':=fun y=>y<w.heap.size) (R':=QIs w (fun _=>True) L) (fun b hb _=>hb) (fun _ _ h=>h.any)).elems h0a;obtain ⟨vb,hvb,hqb⟩:=((hb.take hNb).imp (X':=fun y=>y<w.heap.size) (R':=QIs w (fun _=>True) M) (fun b hb _=>hb) (fun _ _ h=>h.any)).elems h0b;have HA:=hdq hva;have HB:=hdq hvb;have HQA:Hid (∀ i,QIs w (fun y=>y<w.heap.size) L (va i) ((la.take N).getD i 0)):=fun i=>(hqa i).imp fun b hb _=>hb
 have HQB:Hid (∀ i,QIs w (fun y=>y<w.heap.size) M (vb i) ((lb.take N).getD i 0)):=fun i=>(hqb i).imp fun b hb _=>hb
 obtain ⟨f,hfd⟩:∃ f:Nat->Rat,f=fun i=>(la.take N).getD i 0*(lb.take N).getD i 0:=⟨_,rfl⟩
 have HF:Hid (∀ i,Lin.Fits kb (f i)):=fun i=>by
  rw [hfd];by_cases hi:i<N
  ·simpa [gdd,List.getElem?_take_of_lt hi] using hf i
  ·have:(la.take N).getD i 0=0:=zAw _ _ _ (by rw [List.length_take]; omega);dsimp only;rw [this,Rat.zero_mul]; exact Lin.Fits.zero _
 have HE:Hid (Lin.sum N f=Lin.sum N fun i=>la.getD i 0*lb.getD i 0):=by
  rw [hfd];exact Lin.zAh fun i hi=>by simp [List.getElem?_take_of_lt hi]
 have HKB:=hdq hkb;dsimp only [SV.val] at hna ⊢;rw [<-hN];clear ha hb hL hM h0a h0b hva hvb hqa hqb hf hkb hN;have HFD:=hdq hfd;clear hfd;refine callsIn_of_wp_marks Tryz.func31 rfl trivial ?_ rfl;simp only [Tryz.ntmps31,List.size_toArray,List.length_cons,List.length_nil,Nat.reduceAdd,Nat.reduceSub,Array.replicate_succ,Array.replicate_zero,List.push_toArray,List.append_toArray,List.nil_append,List.cons_append];gi_wp2;refine zCW 1000 (fun _ _=>True) (by kernel_rfl) ?_;refine tx1 0 trivial ?_;refine tx1 1 trivial ?_;refine takeA (i:=2) (.slice A N ca) rfl rfl (by kernel_rfl) (by kernel_rfl) (by kernel_rfl) (by decide) (fun _ _ _ h=>h) (by rfl) (fun w' hSw=>?_) trivial ?_
 ·go_simp;intro h; omega
 simp only [zz];refine tx1 3 trivial ?_;refine tx1 4 trivial ?_;refine takeA (i:=5) (.slice B N cb) rfl rfl (by kernel_rfl) (by kernel_rfl) (by kernel_rfl) (by decide) (fun _ _ _ h=>h) (by rfl) (fun w' hSw=>?_) trivial ?_
 ·go_simp;intro h; omega
 simp only [zz];obtain ⟨W1,hW1⟩:∃ W1,(((w.alloc (.cells #[.bool false,.slice none 0 0,.bool false,.slice none 0 0] 37)).alloc (.cells #[.bool false,.slice none 0 0,.bool false,.slice none 0 0] 37)).alloc (.cells #[.func (.func 82) #[] #[.pointer (some ⟨w+1,0,none⟩)]] 126)).drew=W1:=⟨_,rfl⟩;rw [hW1];have hz1:W1=(w+1+1+1:Nat):=by rw [<-hW1]; simp [World.drew]
 have HW1:=hdq hW1;clear hW1;refine tk1 6 ?_;intro K hK;go_simp;refine ((callsIn_wide (n:=6)).1 (zFZ A B N ca N cb)).mono ?_;rintro e w2 ⟨rfl,rfl⟩;refine hK.out _ _ trivial ?_;clear hK K;refine zAf (by kernel_rfl) (NoPanic.normal ?_) _;rw [hz1];gi_wp2;obtain ⟨W0,hW0⟩:∃ W0,((W1.alloc (.cells #[.slice A N ca] 24)).alloc (.cells #[.slice B N cb] 24))=W0:=⟨_,rfl⟩;rw [hW0];have y0:QBlk W1 w QV.zero:=by rw [<-HW1.out]; exact drk (alk (alk (zAd _ _ rfl)))
 have y1:QBlk W1 (w+1) QV.zero:=by rw [<-HW1.out]; exact drk (alk (zAd _ _ (by simp)))
 have y2:Boxed W1 (w+1+1) 126 (.func (.func 82) #[] #[.pointer (some ⟨w+1,0,none⟩)]):=by rw [<-HW1.out]; exact drk (zAd _ _ (by simp))
 have yb:Below w w W1:=by rw [<-HW1.out]; exact ((((brf _ w).alloc (nlr _) _).alloc (by simp) _).alloc (by simp; omega) _).drew
 have hk0:Below w w W0:=by rw [<-hW0]; exact (yb.alloc yb.size _).alloc (by simp; omega) _
 have hs0:W0=(w+5:Nat):=by rw [<-hW0]; simp; omega
 have x0:QBlk W0 w QV.zero:=by rw [<-hW0]; exact alk (alk y0)
 have x1:QBlk W0 (w+1) QV.zero:=by rw [<-hW0]; exact alk (alk y1)
 have x2:Boxed W0 (w+1+1) 126 (.func (.func 82) #[] #[.pointer (some ⟨w+1,0,none⟩)]):=by rw [<-hW0]; exact alk (alk y2)
 have x3:Boxed W0 (w+1+1+1) 24 (.slice A N ca):=by rw [<-hW0]; exact alk (zAd _ _ hz1.symm)
 have x4:Boxed W0 (w+1+1+1+1) 24 (.slice B N cb):=by rw [<-hW0]; exact zAd _ _ (by simp; omega)
 clear y0 y1 y2 yb HW1 hz1;clear hW0
 refine wpIn_rangeFunc_ownH (F:=Fence.wide) rfl (by omega) (gf:=143) (lb:=#[.pointer (some ⟨w+1+1+1,0,none⟩),.pointer (some ⟨w+1+1+1+1,0,none⟩)]) rfl trivial (enters_of Tryz.func143 (by kernel_rfl) rfl)
  (zDL (X:=fun y=>y ≠ w.heap.size+1) (sa:=⟨A,N,ca⟩) (sb:=⟨B,N,cb⟩) (va:=va) (vb:=vb) (N:=N) (by omega) x3 x4 (by omega) (by omega)
   ((HA.out.carry (Carry.of_below hk0)).imp fun b hb=>by omega) ((HB.out.carry (Carry.of_below hk0)).imp fun b hb=>by omega) (by simp) (by omega))
  (fun h k=>h.trans k) (fun W l o o' _ hl ho _=>Carry.putObj o' hl ho) (brf _ _) (fun _=>rfl)
  (fun pre W=>DotInv w f pre W/\Below w w W)
  (fun _ _ _=>False)
  (OwnFrom.and (Own.from DotInv.own _) (ownFrom_below (nlr _) (by omega)))
  (fun _ _ _ _ _ hs _ _=>hs)
  ⟨⟨⟨QV.zero,x1,zFX _ _⟩,x0,x2,Carry.of_below hk0⟩,hk0⟩
  (fun x a' W=>∃ g,a'={tmps:=#[.slice A la' ca,.slice B lb' cb,undef,undef,.pointer (some w),.pointer (some ⟨w+1,0,none⟩),.pointer (some ⟨w+1+1,0,none⟩),.int .i64 N,.pointer (some ⟨g,0,none⟩),.pointer (some ⟨g+1,0,none⟩),.func (.func 82) #[] #[.pointer (some ⟨w+1,0,none⟩)],.slice A la' ca,.int .i64 la',.slice B lb' cb,.int .i64 lb',.int .i64 N,.slice A la' ca,.int .i64 N,.slice A N ca,.slice B lb' cb,.int .i64 N,.slice B N cb,.func (.func 143) #[] #[.pointer (some ⟨w+1+1+1,0,none⟩),.pointer (some ⟨w+1+1+1+1,0,none⟩)],(va x).val,(vb x).val,undef,undef,undef,undef,undef],defers:=[]}/\QBlk W g (va x)/\QBlk W (g+1) (vb x))
  (fun x a' _ W W' row hs hg hr=>?hAx) ?assign ?body ?done ?stop
 case hAx=>
  obtain ⟨g,e,g1,g2⟩:=hs;exact ⟨g,e,zAi hg (fun r e=>(hr r e).2) g1,zAi hg (fun r e=>(hr r e).2) g2⟩
 case stop=>
  rintro D c pre W _ _ h _;exact h.elim
 case assign=>
  intro l pre x W K hI hK;gi_wp2;have al:Below W W ((W.alloc (.cells #[.bool (va x).num.ng,.slice (va x).num.A (va x).num.n (va x).num.c,.bool (va x).den.ng,.slice (va x).den.A (va x).den.n (va x).den.c] 37)).alloc (.cells #[.bool (vb x).num.ng,.slice (vb x).num.A (vb x).num.n (vb x).num.c,.bool (vb x).den.ng,.slice (vb x).den.A (vb x).den.n (vb x).den.c] 37)):=(bal).alloc (by simp) _;obtain ⟨⟨⟨s,i1,i2⟩,i3,i4,i5⟩,hB⟩:=hI;exact hK _ _ ⟨al.size,fun k o _ hk _=>(al.block k (zAa hk)).trans hk⟩ (Carry.of_below al) ⟨⟨⟨s,(al.block _ (zAa i1)).trans i1,i2.below al⟩,(al.block _ (zAa i3)).trans i3,(al.block _ (zAa i4)).trans i4,i5.trans (Carry.of_below al)⟩,hB.trans (al.mono hB.size)⟩ ⟨W.heap.size,rfl,alk (zAd _ _ rfl),zAd _ _ (by simp)⟩
 case body=>
  rintro l pre x a' W _ _ ⟨⟨⟨s,i1,i2⟩,i3,i4,i5⟩,hB⟩ ⟨g,rfl,g1,g2⟩ hlt;have hqa:=(HQA.out x).carry (i5.mono fun y hy=>by omega);have hqb:=(HQB.out x).carry (i5.mono fun y hy=>by omega);obtain ⟨a0,a1,a2,a3,-⟩:=zAA g1;obtain ⟨b0,b1,b2,b3,-⟩:=zAA g2;have c4:=i4.cell;have Hs:=hdq hs0;have I2:=hdq i2;clear hs0 x0 x1 x2 x3 x4 hk0 i2;gi_wp2;refine ⟨trivial,?_⟩;refine CallsIn.inRound l (callsIn_wide.2 ((zHt (K:=LM) (x:=va x) (y:=vb x) (s:=s) hqa hqb I2.out i1 HL.out HM.out (nlr _) ?fr ?fp).mono ?_));case fr=>exact zBn (zFR HF.out pre) (Nat.lt_of_le_of_lt (Nat.mul_le_mul_right _ (by omega)) HKB.out)
  case fp=>
   have:=HF.out x;rw [HFD.out] at this;exact zBn this (by have:=HKB.out; omega)
  rintro e w3 ⟨rfl,s2,j1,j2,j3⟩;clear a0 a1 a2 a3 b0 b1 b2 b3 c4 hqa hqb;have hcw:Carry (fun y=>y ≠ w.heap.size+1) W w3:=⟨j3.size,fun k cs t f hx hk=>(j3.block k (zAa hk) hx).trans hk⟩;have hB3:=hB.trans (j3.below hB.size (fun b e=>by omega));gi_wp2;refine ⟨⟨j3.size,fun k o _ hk ho=>(j3.block k (zAa hk) (fun e=>by subst e; rw [show W.heap[w.heap.size+1]?=_ from i1] at hk; cases hk; cases ho)).trans hk⟩,hcw,⟨⟨s2,j1,?_⟩,(j3.block _ (zAa i3) (by omega)).trans i3,(j3.block _ (zAa i4) (by omega)).trans i4,i5.trans hcw⟩,hB3⟩;rw [zEk,HFD.out];rw [HFD.out] at j2;have hz:=zAa i1
  exact j2.imp fun b _ hb=>by
   rcases hb with hb | hb
   ·exact hb
   ·omega
 case done=>
  rintro Dd ys W hDd rfl ⟨⟨⟨s,i1,i2⟩,i3,i4,i5⟩,hB⟩ hK0;obtain ⟨z0,z1,z2,z3,-⟩:=zAA i1;obtain ⟨r0,r1,r2,r3,rf⟩:=zAA i3;dsimp only [QV.zero] at r0 r1 r2 r3;have Hs:=hdq hs0;have I2:=hdq i2;clear hs0 x0 x1 x2 x3 x4 i2 i4 i5;have hne:Dd ≠ w.heap.size:=by have:=Hs.out; omega
  gi_wp2;have P8:=Put.four (W:=W) w (.bool s.num.ng) (.slice s.num.A s.num.n s.num.c) (.bool s.den.ng) (.slice s.den.A s.den.n s.den.c);have b8:=zHh (t:=s) i3;generalize (((W.setCell w (.bool s.num.ng)).setCell ⟨w,1,none⟩ (.slice s.num.A s.num.n s.num.c)).setCell ⟨w,2,none⟩ (.bool s.den.ng)).setCell ⟨w,3,none⟩ (.slice s.den.A s.den.n s.den.c)=y8 at *;have hK1:y8.heap[Dd]?=some (.deferred (some [])):=(P8.keep _ hne).trans hK0;refine ⟨by simp,.inl ⟨_,_,rfl,run_takeDeferred hK1,?_⟩⟩;have g1:=zAi (grownBy_putObj' y8 Dd (.deferred none)) (fun r e=>by cases e; exact ⟨_,hK1,rfl⟩) b8;obtain ⟨g10,g11,g12,g13,-⟩:=zAA g1;have q8:QCan y8 (fun b=>w.heap.size+1<b) s (lsum f (List.range N)):=I2.out.keep fun a ha _=>cob (P8.keep _ (by omega))
  have q9:=q8.carry (Carry.grown (grownBy_putObj' y8 Dd (.deferred none)) (fun r e=>by cases e; exact ⟨_,hK1,rfl⟩));rw [zDt,HE.out] at q9;refine ⟨s.val,by simp [results,Tryz.results31,go_sem,g10,g11,g12,g13],⟨s,rfl,q9.imp fun b _ hb=>by show w.heap.size<=b; omega⟩,?_⟩;exact (hB.trans (P8.below _ (nlr _))).trans (belowK_b (w:=w) (nlr _) _ Dd _ _ (by have:=Hs.out; omega) hK1 rfl rfl)
end Go.Proofs.YtpjaodcimomaiaaGreat
namespace Go.Proofs.YtpjaodcimomaiaaGreat
open Go.RowKit Go.Shelf
variable {s sa sb:SV} {L M kb b x base n B d V k N:Nat} {X Y X' Y' Z G:Nat->Prop} {w w' W2 W W1 W':World} {bs la lb:List Rat} {os rs:List (List Rat)} {p:LPV} {q:Rat} {v' v va vb vc:Value} {xs:List Value} {P:Lin.Prob}
def dotL (r x:List Rat):Rat:=Lin.sum (min r.length x.length) fun i=>r.getD i 0*x.getD i 0
theorem zNM {sx:SV} {m:List (List Rat)} {x:List Rat} (h:MatIs w X Y L s m) (hx:VecIs w X' Y' M sx x) (hn:s.n<=1000000) (hr:∀ i,(m.getD i []).length<=1000000) (hL:L<=LM) (hM:M<=LM) (hkb:1000000*(kb+1)<32*LM) (hf:∀ i k,Lin.Fits kb ((m.getD i []).getD k 0*x.getD k 0)) :
  Calls Tryz.prog 136 #[s.val,sx.val] w fun e w'=>VRet w (m.map fun r=>dotL r x) e w'/\Below w w w':=by
 obtain ⟨A,n,c⟩:=s;obtain ⟨xA,xn,xc⟩:=sx;dsimp only at hn;have hmk:=zBZ n hn;have HL:=hdq hL;have HM:=hdq hM;have HR:=hdq hr;have HK:=hdq hkb;have HF:=hdq hf;have HX:=hdq hx;have HLen:Hid (m.length=n):=h.len;have hle:n<=c:=h.le;have hcap:c<=9223372036854775807:=h.cap;clear hL hM hr hkb hf hx;show Calls _ _ #[.slice A n c,.slice xA xn xc] _ _;go_enter Tryz.func136,Tryz.ntmps136
 go_wp2;obtain ⟨f,hfd⟩:∃ f:Nat->Rat,f=fun i=>dotL (m.getD i []) x:=⟨_,rfl⟩
 have HD:=hdq hfd
 have HE:Hid ((List.range n).map f=m.map fun r=>dotL r x):=by
  show _=_;rw [hfd,<-HLen.out];apply List.ext_getElem
  ·simp
  ·intro i h1 h2;simp at h1;simp [h1]
 clear hfd;have hb0:Below w w (w.alloc (.cells (zeroQ n) 37)):=bal
 have H0:FillLoop w w f n n (fun _=>True) (.int .i64 0) (w.alloc (.cells (zeroQ n) 37)):=
  ⟨0,nzl _,rfl,by
   rw [zEe];exact RowAt.made w n (fun x=>x<w.heap.size\/x=w.heap.size) (.inr rfl),hb0,trivial⟩
 clear hmk hb0;generalize w.alloc (.cells (zeroQ n) 37)=W0 at *;go_loopw [13] (fun t W=>FillLoop w w f n n (fun _=>True) t W) (fun t _=>n-(intOf t).toNat)
 case atStart=>exact H0
 case round=>
  clear H0;obtain ⟨i,hi,rfl,hR,hB,-⟩:=hrel;have hRl:=hR.lt;by_cases hlt:i<n
  ·obtain ⟨ad,r,e,-,r0,hr⟩:=(h.below hB).row i hlt;dsimp only at e;subst e;obtain ⟨rA,rn,rc⟩:=r;have HW:=hdq hr;have hrn:(m.getD i []).length=rn:=hr.len;have Hrn:=hdq hrn;clear hr hrn;(go_wp2_with fail);refine (zEb (kb:=kb) (sa:=⟨rA,rn,rc⟩) (sb:=⟨xA,xn,xc⟩) HW.out (HX.out.below hB) HL.out HM.out (by have:=HR.out i; rw [Hrn.out] at this; exact this) HK.out (HF.out i)).mono ?_;rintro e w1 ⟨⟨z,rfl,hz⟩,hb1⟩;have hR1:=hR.below hb1
   have hz2:QCan w1 (New wr) z (f i):=by
    rw [HD.out];unfold dotL;dsimp only;have e2:x.length=xn:=HX.out.len;rw [Hrn.out,e2];exact hz
   clear hz r0;obtain ⟨zv,⟨d0,d1,d2,d3⟩,-⟩:=hR1.elem i (by rw [zBj _ hi]; exact hlt);have fz:=hR1.frozen;dsimp only at d1 d2 d3;go_wp2;go_roundw;case rel=>exact FillLoop.step (B:=wr) hlt (nlr _) hR hB hb1 hB.size hRl (nlr _) hz2 trivial
   case measure=>simp [intOf]; omega
  ·(obtain rfl:i=n:=by omega);rw [zGv,HE.out] at hR;go_wp2;go_ret;exact ⟨VRet.of (by rw [List.length_map]; exact HLen.out) hn (nlr _) hR,hB⟩
theorem zNt {sx:SV} {x:List Rat} (h:LPIs w X Y L p os rs bs) (hx:VecIs w X' Y' M sx x) (hn:p.O.n<=1000000) (hr:∀ i,(os.getD i []).length<=1000000) (hL:L<=LM) (hM:M<=LM) (hkb:1000000*(kb+1)<32*LM) (hf:∀ i k,Lin.Fits kb ((os.getD i []).getD k 0*x.getD k 0)) :
  Calls Tryz.prog 72 #[p.val,sx.val] w fun e w'=>VRet w (os.map fun r=>dotL r x) e w'/\Below w w w':=by
 obtain ⟨pn,⟨oA,on,oc⟩,⟨rA,rn,rc⟩,⟨bA,bn,bc⟩⟩:=p;obtain ⟨xA,xn,xc⟩:=sx;have H:=hdq h.obj;have HX:=hdq hx;have HF:=hdq hf;have HK:=hdq hkb;have HL:=hdq hL;have HM:=hdq hM;have HR:=hdq hr;have Hn:=hdq hn;clear h hx hf hkb hL hM hr hn;dsimp only [LPV.val,SV.val] at *;go_enter Tryz.func72,Tryz.ntmps72
 go_wp2_with fail
 have al:Below w w (w.alloc (.cells #[.int .i64 pn,.slice oA on oc,.slice rA rn rc,.slice bA bn bc] 28)):=bal;refine (zNM (kb:=kb) (s:=⟨oA,on,oc⟩) (sx:=⟨xA,xn,xc⟩) (H.out.below al) (HX.out.below al) Hn.out HR.out HL.out HM.out HK.out HF.out).mono ?_;rintro e w1 ⟨⟨z,rfl,hz⟩,hb1⟩;go_wp2;go_ret;exact ⟨⟨z,rfl,hz.low al.size⟩,al.trans (hb1.mono al.size)⟩
theorem zEa {r x:List Rat} (hr:r.length<=1000000) (hkb:1000000*(kb+1)<32*LM) (hf:∀ k,Lin.Fits kb (r.getD k 0*x.getD k 0)):QFit LM (dotL r x):=by
 unfold dotL;rw [<-zDt];exact zBn (zFR hf _) (Nat.lt_of_le_of_lt (Nat.mul_le_mul_right _ (by rw [List.length_range]; omega)) hkb)
def MBlk (w:World) (b:Nat) (m:List (List Rat)) (w':World):Prop:=
 w<=b/\∃ (cs:Array Value) (sv:Nat->SV),w'.heap[b]?=some (.cells cs 24 (0,0))/\cs.size=m.length/\∀ j,j<m.length->cs[j]?=some (sv j).val/\VecCan w' (fun x=>w.heap.size<=x/\x ≠ b) (fun x=>w.heap.size<=x/\x ≠ b) (sv j) (m.getD j [])
def MSLoop (w:World) (k:QV) (q:Rat) (m:List (List Rat)) (n:Nat) (t:Value) (W:World):Prop:=
 ∃ i:Nat,i<=n/\t = .int .i64 i/\Below w w W/\Box4 W w (.bool k.num.ng) (.slice k.num.A k.num.n k.num.c) (.bool k.den.ng) (.slice k.den.A k.den.n k.den.c)/\∃ (cs:Array Value) (sv:Nat->SV),W.heap[w.heap.size+1]?=some (.cells cs 24 (0,0))/\cs.size=n/\∀ j,j<i->cs[j]?=some (sv j).val/\VecCan W (New (w+1+1)) (New (w+1+1)) (sv j) ((m.getD j []).map (q*·))
theorem zNu {k:QV} {m:List (List Rat)} (hk:QIs w Z M k q) (h:MatIs w X Y L s m) (hn:s.n<=1000000) (hr:∀ i,(m.getD i []).length<=1000000) (hL:L<=LM) (hM:M<=LM) :
  Calls Tryz.prog 173 #[k.val,s.val] w fun e w'=>(∃ b,e = .returned (.slice (some ⟨b,0,none⟩) m.length m.length)/\MBlk w b (m.map fun l=>l.map (q*·)) w')/\Below w w w':=by
 obtain ⟨A,n,c⟩:=s;dsimp only at hn;have HLen:Hid (m.length=n):=h.len;have hle:n<=c:=h.le;have hcap:c<=9223372036854775807:=h.cap;have hmk:=zHV n (by omega);have HL:=hdq hL;have HM:=hdq hM;have HR:=hdq hr;have HK:=hdq hk;clear hL hM hr hk;show Calls _ _ #[k.val,.slice A n c] _ _;go_enter Tryz.func173,Tryz.ntmps173
 go_wp2
 have H0:MSLoop w k q m n (.int .i64 0) ((w.alloc (.cells #[.bool k.num.ng,.slice k.num.A k.num.n k.num.c,.bool k.den.ng,.slice k.den.A k.den.n k.den.c] 37)).alloc (.cells (zeroS n) 24)):=
  ⟨0,nzl _,rfl,(bal).alloc (by simp) _,bx4,zeroS n,fun _=>⟨none,0,0⟩,zAd _ _ (by simp),zIb n,fun j hj=>absurd hj (by omega)⟩
 clear hmk;generalize (w.alloc (.cells #[.bool k.num.ng,.slice k.num.A k.num.n k.num.c,.bool k.den.ng,.slice k.den.A k.den.n k.den.c] 37)).alloc (.cells (zeroS n) 24)=W0 at *;go_loopw [13] (fun t W=>MSLoop w k q m n t W) (fun t _=>n-(intOf t).toNat)
 case atStart=>exact H0
 case round=>
  clear H0;obtain ⟨i,hi,rfl,hB,bK,cs,sv,h1,h2,h3⟩:=hrel;by_cases hlt:i<n
  ·obtain ⟨ad,r,e,-,r0,hr⟩:=(h.below hB).row i hlt;dsimp only at e;subst e;obtain ⟨rA,rn,rc⟩:=r;have HW:=hdq hr;have hrn:Hid ((m.getD i []).length=rn):=hr.len;clear hr;have hyl:=zAa h1;obtain ⟨k0,k1,k2,k3,-⟩:=id bK;(go_wp2_with fail);refine (zLH (k:=k) (s:=⟨rA,rn,rc⟩) (HK.out.below hB) HW.out (by have:=HR.out i; rw [hrn.out] at this; exact this) HL.out HM.out).mono ?_; rintro e w1 ⟨⟨z,rfl,hz⟩,hb1⟩
   obtain ⟨zA,zn,zc⟩:=z;have h1':w1.heap[w.heap.size+1]?=some (.cells cs 24 (0,0)):=(hb1.block _ hyl).trans h1;have y0:(w1.cell? ⟨w+1,i,none⟩).isSome=true:=by simp only [World.cell?,h1']; simp [h2,hlt]
   obtain ⟨yv,hyv⟩:=Option.isSome_iff_exists.1 y0;have yf:∀ o,w1.frozen? ⟨w+1,o,none⟩=false:=fun o=>by simp [World.frozen?,h1']
   have Hfin:Hid (MSLoop w k q m n (.int .i64 ((i:Int)+1)) (w1.setCell ⟨w+1,i,none⟩ (.slice zA zn zc))):=by
    have kk:∀ p:Addr,New (w+1+1) p.block->(w1.setCell ⟨w+1,i,none⟩ (.slice zA zn zc)).cell? p=w1.cell? p:=(fun p hp=>cob (bhs _ _ _ _ (by simp only [New] at hp; show p.block ≠ w.heap.size+1; omega)));have kv:∀ {s:SV} {l:List Rat},VecCan w1 (New (w+1+1)) (New (w+1+1)) s l->VecCan (w1.setCell ⟨w+1,i,none⟩ (.slice zA zn zc)) (New (w+1+1)) (New (w+1+1)) s l:=(fun hv=>hv.keep (fun a ha _=>kk a ha) fun v q hq=>hq.keep fun p hp _=>kk p hp);refine ⟨i+1,by omega,by simp,(hB.trans (hb1.mono hB.size)).setCell (p:=⟨w+1,i,none⟩) (by show w<=(w+1:Nat); omega) _,(bK.below hb1 (by omega)).far4 (by omega) _,cs.setIfInBounds i (.slice zA zn zc),fun j=>if j=i then ⟨zA,zn,zc⟩ else sv j,zAe _ h1',by simpa using h2,fun j hj=>?_⟩;rw [Array.getElem?_setIfInBounds];by_cases e:i=j
    ·subst e;rw [if_pos rfl,if_pos (by omega)];dsimp only;rw [if_pos rfl];exact ⟨rfl,kv (hz.imp (fun b _ hb=>by simp only [New] at hb ⊢; omega) fun v q hq=>hq.imp fun b _ hb=>by simp only [New] at hb ⊢; omega)⟩
    ·rw [if_neg e];dsimp only;rw [if_neg (Ne.symm e)];obtain ⟨g1,g2⟩:=h3 j (by omega);exact ⟨g1,kv (g2.belowC hb1)⟩
   clear h1 h2 h3 h1' hz hb1 hB r0 y0 bK k0 k1 k2 k3;go_wp2;go_roundw;case rel=>exact fn_ Hfin.out
   case measure=>simp [intOf]; omega
  ·have hin:i=n:=(by omega);rw [hin] at h3
   have HF:Hid (MBlk w (w+1) (m.map fun l=>l.map (q*·)) wr):=by
    refine ⟨by omega,cs,sv,h1,by rw [List.length_map,HLen.out]; exact h2,fun j hj=>?_⟩;rw [List.length_map,HLen.out] at hj;obtain ⟨g1,g2⟩:=h3 j hj
    have e:(m.map fun l=>l.map (q*·)).getD j []=(m.getD j []).map (q*·):=by
     have:=HLen.out;simp [List.getElem?_map,gge (show j<m.length by omega)]
    rw [e];exact ⟨g1,g2.imp (fun b _ hb=>by simp only [New] at hb ⊢; omega) fun v q hq=>hq.imp fun b _ hb=>by simp only [New] at hb ⊢; omega⟩
   clear h1 h2 h3;go_wp2;go_ret;exact ⟨⟨_,by rw [HLen.out]; rfl,HF.out⟩,hB⟩
def MPart (lo hi b:Nat) (m:List (List Rat)) (w:World):Prop:=
 lo<=b/\b<hi/\∃ (cs:Array Value) (sv:Nat->SV),w.heap[b]?=some (.cells cs 24 (0,0))/\cs.size=m.length/\∀ j,j<m.length->cs[j]?=some (sv j).val/\VecCan w (fun x=>lo<=x/\x<hi/\x ≠ b) (fun x=>lo<=x/\x<hi/\x ≠ b) (sv j) (m.getD j [])
def VPart (lo hi b:Nat) (l:List Rat) (w:World):Prop:=
 lo<=b/\b<hi/\RowAt w (fun x=>¬ (lo<=x/\x<hi/\x ≠ b)) b l
theorem MBlk.part {m:List (List Rat)} (h:MBlk w b m w'):MPart w w' b m w':=by
 obtain ⟨h1,cs,sv,h2,h3,h4⟩:=h;exact ⟨h1,zAa h2,cs,sv,h2,h3,fun j hj=>⟨(h4 j hj).1,(h4 j hj).2.imp (fun x hl hx=>⟨hx.1,hl,hx.2⟩) fun v q hq=>hq.imp fun x hl hx=>⟨hx.1,hl,hx.2⟩⟩⟩
theorem MPart.keep {lo hi:Nat} {m:List (List Rat)} (h:MPart lo hi b m w) (hk:∀ x,lo<=x->x<hi->w'.heap[x]?=w.heap[x]?):MPart lo hi b m w':=by
 obtain ⟨h1,h2,cs,sv,h3,h4,h5⟩:=h;exact ⟨h1,h2,cs,sv,(hk b h1 h2).trans h3,h4,fun j hj=>⟨(h5 j hj).1,(h5 j hj).2.keep (fun a ha _=>cob (hk _ ha.1 ha.2.1)) fun v q hq=>hq.keep fun a ha _=>cob (hk _ ha.1 ha.2.1)⟩⟩
theorem VPart.keep {lo hi:Nat} {l:List Rat} (h:VPart lo hi b l w) (hk:∀ x,lo<=x->x<hi->w'.heap[x]?=w.heap[x]?):VPart lo hi b l w':=by
 obtain ⟨h1,h2,h3⟩:=h;refine ⟨h1,h2,h3.mem,?_,fun k hkl=>?_⟩
 ·obtain ⟨cs,e,hs⟩:=h3.blk;exact ⟨cs,(hk b h1 h2).trans e,hs⟩
 ·obtain ⟨v,g1,g2⟩:=h3.elem k hkl;have hc:∀ o,w'.cell? ⟨b,o,none⟩=w.cell? ⟨b,o,none⟩:=fun o=>cob (hk b h1 h2)
  refine ⟨v,⟨(hc _).trans g1.1,(hc _).trans g1.2.1,(hc _).trans g1.2.2.1,(hc _).trans g1.2.2.2⟩,g2.keep fun a ha _=>cob ?_⟩;have ha':=Classical.not_not.1 ha;exact hk _ ha'.1 ha'.2.1
theorem VRow.part {l:List Rat} (h1:w<=b) (h:RowAt w' (fun x=>x<w.heap.size\/x=b) b l):VPart w w' b l w':=
 ⟨h1,h.lt,by show ¬ _; omega,h.blk,fun k hk=>by
  obtain ⟨v,g1,g2⟩:=h.elem k hk;exact ⟨v,g1,g2.imp fun x hl hx=>by show ¬ ¬ _; omega⟩⟩
def CopyRet (w:World) (n:Int) (os rs:List (List Rat)) (bs:List Rat) (e:Ending) (w':World):Prop:=
 ∃ k0 k1 k2 k3 b1 b2 b3,w.heap.size<=k0/\k3<=w'.heap.size/\e = .returned (.agg #[.int .i64 n,.slice (some ⟨b1,0,none⟩) os.length os.length,.slice (some ⟨b2,0,none⟩) rs.length rs.length,.slice (some ⟨b3,0,none⟩) bs.length bs.length])/\
  MPart k0 k1 b1 os w'/\MPart k1 k2 b2 rs w'/\VPart k2 k3 b3 bs w'
theorem zNT (m:List (List Rat)):(m.map fun l=>l.map ((((1:Int):Rat))*·))=m:=by simp
theorem zOg (l:List Rat):l.map ((((1:Int):Rat))*·)=l:=by simp
theorem zQr (k:Bool) (h:LPIs w X Y L p os rs bs) (hn:p.O.n<=1000000) (hn2:p.R.n<=1000000) (hn3:p.B.n<=1000000) (hr:∀ i,(os.getD i []).length<=1000000) (hr2:∀ i,(rs.getD i []).length<=1000000) (hL:L<=LM) :
  Calls Tryz.prog (if k then 114 else 102) #[p.val] w fun e w'=>CopyRet w p.n os rs bs e w'/\Below w w w':=by
 obtain ⟨pn,⟨oA,on,oc⟩,⟨rA,rn,rc⟩,⟨bA,bn,bc⟩⟩:=p;have H:=hdq h;have HL:=hdq hL;have HR:=hdq hr;have HR2:=hdq hr2;have Hn:=hdq hn;have Hn2:=hdq hn2;have Hn3:=hdq hn3;clear h hL hr hr2 hn hn2 hn3;dsimp only [LPV.val] at *;cases k
 focus
  go_enter Tryz.func102,Tryz.ntmps102
 rotate_left
 focus
  go_enter Tryz.func114,Tryz.ntmps114
 all_goals
  go_upto_region 1 with fail
  refine zAo (fun W=>Below w w W/\Box4 W w (.int .i64 pn) (.slice oA on oc) (.slice rA rn rc) (.slice bA bn bc)/\Box4 W (w+1) (.int .i64 0) (.slice none 0 0) (.slice none 0 0) (.slice none 0 0)/\w<(W:Nat)/\w+1<(W:Nat)) ⟨(az (az (brf _ _))),bx4,bx4,by simp <;> omega,by simp <;> omega⟩ ?_;rintro W ⟨hbW,bP,bR,s0,s1⟩;have hBW:=hbW.size;go_wp2_with fail
  refine (zAN 1 (by decide) (by decide) _).mono ?_;rintro e w1 ⟨⟨u,rfl,hu⟩,hb1⟩;replace bP:=bP.below hb1 s0;replace bR:=bR.below hb1 s1;replace s0:=ltl s0 hb1.size;replace s1:=ltl s1 hb1.size;replace hbW:=hbW.trans (hb1.mono hbW.size);clear hb1 hBW;go_upto_region 2 with fail
  have al:Below w1 w1 (w1.alloc (.cells #[.bool u.num.ng,.slice u.num.A u.num.n u.num.c,.bool u.den.ng,.slice u.den.A u.den.n u.den.c] 37)):=bal;have bU:=zAA (zAd w1 (.cells #[.bool u.num.ng,.slice u.num.A u.num.n u.num.c,.bool u.den.ng,.slice u.den.A u.den.n u.den.c] 37) rfl);replace bP:=bP.below al s0;replace bR:=bR.below al s1;replace s0:=ltl s0 al.size;replace hu:=(hu.below al).qis (zAv fits_one);have s2:w1.heap.size<(w1.alloc (.cells #[.bool u.num.ng,.slice u.num.A u.num.n u.num.c,.bool u.den.ng,.slice u.den.A u.den.n u.den.c] 37)).heap.size:=by simp
  replace hbW:=hbW.trans (al.mono hbW.size);clear al;generalize w1.alloc (.cells #[.bool u.num.ng,.slice u.num.A u.num.n u.num.c,.bool u.den.ng,.slice u.den.A u.den.n u.den.c] 37)=W2 at *;obtain ⟨u0,u1,u2,u3,-⟩:=id bU;obtain ⟨p0,p1,p2,p3,-⟩:=id bP;have HU:=hdq hu;clear hu;refine zAp 15 (fun f w'=>f=false->Sees w [] W2 w') (by kernel_rfl) ?_;have hS0:Sees w [] W2 W2.drew:=Sees.st (by simp) hbW.size;refine tx4 0 3 7 11 (fun _=>hS0) ?_;refine tkW 1 (.int .i64 pn) (fun w' hSw=>?_) (fun _=>hS0) ?_
  ·(replace hSw:=hSw rfl; go_simp; try with_reducible rfl)
  simp only [zz];refine tkW 2 (u.val) (fun w' hSw=>?_) (fun _=>hS0) ?_
  ·(replace hSw:=hSw rfl; go_simp; try with_reducible rfl)
  simp only [zz];refine tkW 4 (.slice oA on oc) (fun w' hSw=>?_) (fun _=>hS0) ?_
  ·(replace hSw:=hSw rfl; go_simp; try with_reducible rfl)
  simp only [zz];refine tkW 6 (u.val) (fun w' hSw=>?_) (fun _=>hS0) ?_
  ·(replace hSw:=hSw rfl; go_simp; try with_reducible rfl)
  simp only [zz];refine tkW 8 (.slice rA rn rc) (fun w' hSw=>?_) (fun _=>hS0) ?_
  ·(replace hSw:=hSw rfl; go_simp; try with_reducible rfl)
  simp only [zz];refine tkW 10 (u.val) (fun w' hSw=>?_) (fun _=>hS0) ?_
  ·(replace hSw:=hSw rfl; go_simp; try with_reducible rfl)
  simp only [zz];refine tkW 12 (.slice bA bn bc) (fun w' hSw=>?_) (fun _=>hS0) ?_
  ·(replace hSw:=hSw rfl; go_simp; try with_reducible rfl)
  simp only [zz];refine tk1 5 ?_;intro K hK;go_simp;with_reducible refine (zNu (k:=u) (s:=⟨oA,on,oc⟩) (HU.out.below (Sees.kept (by assumption)).whole) (H.out.obj.below (hbW.trans ((Sees.kept (by assumption)).whole.mono hbW.size))) Hn.out HR.out HL.out (by rw [zAZ]; omega)).mono ?_
  rintro e v1 ⟨⟨b1,rfl,hm1⟩,hc1⟩;rw [zNT] at hm1;replace hm1:=hm1.part;have hS1:=Kept.call2 hc1 hS0;refine hK.out _ _ (fun _=>hS1) ?_;clear hK K;refine tk1 9 ?_;intro K hK;go_simp;with_reducible refine (zNu (k:=u) (s:=⟨rA,rn,rc⟩) (HU.out.below hS1.kept.whole) (H.out.rows.below (hbW.trans (hS1.kept.whole.mono hbW.size))) Hn2.out HR2.out HL.out (by rw [zAZ]; omega)).mono ?_
  rintro e v2 ⟨⟨b2,rfl,hm2⟩,hc2⟩;rw [zNT] at hm2;replace hm2:=hm2.part;replace hm1:=hm1.keep (w':=v2) fun x _ hx=>hc2.block x hx
  have hS2:=Kept.call2 hc2 hS1;refine hK.out _ _ (fun _=>hS2) ?_;clear hK K;refine tk1 13 ?_;intro K hK;go_simp;with_reducible refine (zKV (k:=u) (s:=⟨bA,bn,bc⟩) (HU.out.below hS2.kept.whole) (H.out.bounds.below (hbW.trans (hS2.kept.whole.mono hbW.size))) Hn3.out HL.out (by rw [zAZ]; omega)).mono ?_
  rintro e v3 ⟨⟨b3,rfl,hk3,hv3⟩,hc3⟩;rw [zOg] at hv3 ⊢;replace hv3:=VRow.part hk3 hv3;replace hm1:=hm1.keep (w':=v3) fun x _ hx=>hc3.block x (ltl hx hc2.size)
  replace hm2:=hm2.keep (w':=v3) fun x _ hx=>hc3.block x hx
  have hS3:=Kept.call2 hc3 hS2;refine hK.out _ _ (fun _=>hS3) ?_;clear hK K;refine tk1 14 ?_;intro K hK;go_simp;refine hK.out _ _ (fun _=>hS3) ?_;clear hK K;have h23:=hS3.kept.whole;have bR3:=bR.below h23 (by omega);have hbz:=hS0.kept.size;have hsz1:=hS1.kept.size;clear hS0 hS1 hS2 hS3 u0 u1 u2 u3 p0 p1 p2 p3;obtain ⟨r0,r1,r2,r3,rf⟩:=id bR3;refine tk1 15 ?_;intro K hK;go_simp;refine hK.out _ _ (fun h=>absurd h (by decide)) ?_;clear hK K;have P8:=Put.four (W:=v3) (w+1) (.int .i64 pn) (.slice (some b1) os.length os.length) (.slice (some b2) rs.length rs.length) (.slice (some b3) bs.length bs.length);have bR8:=bR3.stored (.int .i64 pn) (.slice (some b1) os.length os.length) (.slice (some b2) rs.length rs.length) (.slice (some b3) bs.length bs.length);generalize (((v3.setCell ⟨w+1,0,none⟩ (.int .i64 pn)).setCell ⟨w+1,1,none⟩ (.slice (some b1) os.length os.length)).setCell ⟨w+1,2,none⟩ (.slice (some b2) rs.length rs.length)).setCell ⟨w+1,3,none⟩ (.slice (some b3) bs.length bs.length)=y8 at *;clear r0 r1 r2 r3 rf;obtain ⟨r0,r1,r2,r3,-⟩:=id bR8;have hc1s:=hc1.size;have hc2s:=hc2.size;refine zAf (by kernel_rfl) ?_ _;go_wp2;refine bodyPost_ret (v:=.agg #[.int .i64 pn,.slice (some b1) os.length os.length,.slice (some b2) rs.length rs.length,.slice (some b3) bs.length bs.length]) (by first | simp [results,Tryz.results102,go_sem,r0,r1,r2,r3] | simp [results,Tryz.results114,go_sem,r0,r1,r2,r3]) rfl ⟨⟨_,_,_,_,b1,b2,b3,?_,Nat.le_of_eq P8.size.symm,rfl,hm1.keep fun x hx _=>P8.keep x ?_,hm2.keep fun x hx _=>P8.keep x ?_,hv3.keep fun x hx _=>P8.keep x ?_⟩,?_⟩
  ·show w.heap.size<=W2.drew.heap.size; exact nlt hbW.size hbz
  ·have hx':W2.drew.heap.size<=x:=hx; omega
  ·omega
  ·omega
  ·exact (hbW.trans (h23.mono hbW.size)).trans (P8.below _ (by omega))
theorem zNJ (h:LPIs w X Y L p os rs bs) (hn:p.O.n<=1000000) (hn2:p.R.n<=1000000) (hn3:p.B.n<=1000000) (hr:∀ i,(os.getD i []).length<=1000000) (hr2:∀ i,(rs.getD i []).length<=1000000) (hL:L<=LM) :
  Calls Tryz.prog 102 #[p.val] w fun e w'=>CopyRet w p.n os rs bs e w'/\Below w w w':=zQr false h hn hn2 hn3 hr hr2 hL
structure QT (w:World) (B d:Nat) (n:Int) (va vb vc:Value) (al:Nat->List Value) (cnt:Nat->Nat) (G:Nat->Prop) (W:World):Prop where
 bel:Below w w W
 blk:W.heap[d]?=some (.cells #[.int .i64 n,va,vb,vc] 28 (0,0))
 own:∀ f,1<=f->f<=3->W.ownsRow B (qft f) (qfw f) (three va vb vc f) (cnt f) (al f)
 apart:∀ f g j,f ≠ g->1<=f->f<=3->1<=g->g<=3->(three va vb vc f).ownBlock=some j->(three va vb vc g).ownBlock ≠ some j
 nod:∀ f j,1<=f->f<=3->(three va vb vc f).ownBlock=some j->j ≠ d
 gin:∀ x,G x->B<=x/\x<W.heap.size
 gd:G d
 gf:∀ f j,1<=f->f<=3->(three va vb vc f).ownBlock=some j->G j
 ge:w<=B
 dB:B<=d
section
variable {w W W':World} {B d:Nat} {n:Int} {va vb vc:Value} {al:Nat->List Value} {cnt:Nat->Nat} {G:Nat->Prop}
theorem QT.dlt (h:QT w B d n va vb vc al cnt G W):d<W:=zAa h.blk
theorem QT.call (h:QT w B d n va vb vc al cnt G W) (hb:Below W W W'):QT w B d n va vb vc al cnt G W':=
 ⟨h.bel.trans (hb.mono h.bel.size),(hb.block d h.dlt).trans h.blk,
  fun f h1 h2=>zAr (h.own f h1 h2) fun j hj=>by
   obtain ⟨_,cs,hh⟩:=zAc (h.own f h1 h2) hj;exact hb.block j (zAa hh),
  h.apart,h.nod,fun x hx=>⟨(h.gin x hx).1,ltl (h.gin x hx).2 hb.size⟩,h.gd,h.gf,h.ge,h.dB⟩
theorem QT.cells (h:QT w B d n va vb vc al cnt G W):W.cell? d=some (.int .i64 n)/\W.cell? ⟨d,1,none⟩=some va/\W.cell? ⟨d,2,none⟩=some vb/\W.cell? ⟨d,3,none⟩=some vc/\∀ o,W.frozen? ⟨d,o,none⟩=false:=by
 simp [World.cell?,World.frozen?,h.blk]
theorem QT.app_blk (h:QT w B d n va vb vc al cnt G W) {f:Nat} (h1:1<=f) (h2:f<=3) {o:Obj} (hg:(W.alloc o).grownBy W2 (three va vb vc f).ownBlock) (hx:x<W) (hgx:¬ G x\/x=d):W2.heap[x]?=W.heap[x]?:=
 (hg.block x (by simp; omega) (fun e=>by
  rcases hgx with hgx | rfl
  ·exact hgx (h.gf f x h1 h2 e.symm)
  ·exact h.nod f x h1 h2 e.symm rfl)).trans (Below.heap_alloc _ _ _ hx)
theorem QT.append (h:QT w B d n va vb vc al cnt G W) {f:Nat} (h1:1<=f) (h2:f<=3) {o:Obj} 
  (hown:W2.ownsRow B (qft f) (qfw f) v' (cnt f+1) (al f++xs)) (hg:(W.alloc o).grownBy W2 (three va vb vc f).ownBlock)
  (hat:v'.ownBlock=(three va vb vc f).ownBlock\/v'.ownBlock=some (W.alloc o).heap.size) :
  QT w B d n (if f=1 then v' else va) (if f=2 then v' else vb) (if f=3 then v' else vc) (fun g=>if g=f then al f++xs else al g) (fun g=>if g=f then cnt f+1 else cnt g) (fun y=>G y\/v'.ownBlock=some y) (W2.setCell ⟨d,f,none⟩ v')/\
  Step W (W2.setCell ⟨d,f,none⟩ v') G (fun y=>G y\/v'.ownBlock=some y):=by
 have hsz:W<(W2:Nat):=by have:=hg.size; simp at this; omega
 have hnd:=h.nod
 have keep:∀ k,k<W.heap.size->(three va vb vc f).ownBlock ≠ some k->W2.heap[k]?=W.heap[k]?:=fun k hk hne=>
  (hg.block k (by simp; omega) (fun e=>hne e.symm)).trans (Below.heap_alloc _ _ _ hk)
 have hblk2:W2.heap[d]?=_:=(keep d h.dlt (fun e=>hnd f d h1 h2 e rfl)).trans h.blk;have kset:∀ k,k ≠ d->(W2.setCell ⟨d,f,none⟩ v').heap[k]?=W2.heap[k]?:=fun k hk=>bhs _ _ _ _ hk
 have hdW:=h.dlt
 have hvd:∀ j,v'.ownBlock=some j->j ≠ d/\j<W2.heap.size/\B<=j:=fun j hj=>by
  obtain ⟨g1,cs,hh⟩:=zAc hown hj;refine ⟨?_,zAa hh,g1⟩;rcases hat with e | e
  ·exact h.nod f j h1 h2 (e.symm.trans hj)
  ·rw [e] at hj; cases hj; simp; omega
 refine ⟨⟨?_,?_,?_,?_,?_,?_,.inl h.gd,?_,h.ge,h.dB⟩,⟨by simp [World.setCell]; omega,fun b hb hgb=>?_,fun b hb hgb=>?_⟩⟩
 ·have h3:Below w (W.alloc o) W2:=(brf _ _).grown hg (by have:=h.bel.size; simp; omega) (fun j hj=>by have:=(zAc (h.own f h1 h2) hj).1; have:=h.ge; omega);exact ((h.bel.alloc h.bel.size _).trans h3).setCell (p:=⟨d,f,none⟩) (nlt h.ge h.dB) _
 ·rw [zAe _ hblk2];rcases (by omega:f=1\/f=2\/f=3) with rfl | rfl | rfl <;> simp
 ·intro g g1 g2;rw [zBc va vb vc v' f g h1 h2 g1 g2];by_cases e:g=f
  ·subst e;simp only [if_true];exact zAr hown fun j hj=>kset j (hvd j hj).1
  ·simp only [if_neg e];(refine zAr (h.own g g1 g2) fun j hj=>?_);obtain ⟨_,cs,hh⟩:=zAc (h.own g g1 g2) hj;exact (kset j (hnd g j g1 g2 hj)).trans (keep j (zAa hh) (h.apart g f j e g1 g2 h1 h2 hj))
 ·intro g k j hgk g1 g2 k1 k2;rw [zBc va vb vc v' f g h1 h2 g1 g2,zBc va vb vc v' f k h1 h2 k1 k2]
  have old:∀ g j,1<=g->g<=3->(three va vb vc g).ownBlock=some j->j<W.heap.size:=fun g j g1 g2 hj=>by
   obtain ⟨_,cs,hh⟩:=zAc (h.own g g1 g2) hj;exact zAa hh
  by_cases eg:g=f
  ·by_cases ek:k=f
   ·omega
   ·rw [if_pos eg,if_neg ek];intro hj hk;rcases hat with e | e
    ·rw [e] at hj; exact h.apart f k j (by omega) h1 h2 k1 k2 hj hk
    ·rw [e] at hj; cases hj
     have:=old k _ k1 k2 hk; simp at this; omega
  ·rw [if_neg eg];by_cases ek:k=f
   ·rw [if_pos ek];intro hj hk;rcases hat with e | e
    ·rw [e] at hk; exact h.apart g f j (by omega) g1 g2 h1 h2 hj hk
    ·rw [e] at hk; cases hk
     have:=old g _ g1 g2 hj; simp at this; omega
   ·rw [if_neg ek]; exact h.apart g k j hgk g1 g2 k1 k2
 ·intro g j g1 g2;rw [zBc va vb vc v' f g h1 h2 g1 g2]
  split
  ·intro hj; exact (hvd j hj).1
  ·intro hj; exact h.nod g j g1 g2 hj
 ·intro x hx;rcases hx with hx | hx
  ·have:=h.gin x hx; exact ⟨this.1,by simp [World.setCell]; omega⟩
  ·have:=hvd x hx; exact ⟨by omega,by simp [World.setCell]; omega⟩
 ·intro g j g1 g2;rw [zBc va vb vc v' f g h1 h2 g1 g2]
  split
  ·intro hj; exact .inr hj
  ·intro hj; exact .inl (h.gf g j g1 g2 hj)
 ·exact (kset b (fun e=>hgb (by rw [e]; exact h.gd))).trans (keep b hb fun e=>hgb (h.gf f b h1 h2 e))
 ·rcases hgb with hgb | hgb
  ·exact hgb
  ·rcases hat with e | e
   ·rw [e] at hgb; exact h.gf f b h1 h2 hgb
   ·rw [e] at hgb; cases hgb; simp at hb; omega
end
section
variable {W W':World} {G G' K:Nat->Prop} {L:Nat}
theorem Step.qisK (s:Step W W' G G') {v:QV} (h:QIs W (fun b=>¬ G b/\K b) L v q):QIs W' (fun b=>¬ G' b/\K b) L v q:=by
 have h2:QIs W (fun b=>(¬ G b/\¬ G' b)/\K b) L v q:=h.imp fun b hb hx=>⟨⟨hx.1,fun hg=>hx.1 (s.back b hb hg)⟩,hx.2⟩
 have h3:QIs W' (fun b=>(¬ G b/\¬ G' b)/\K b) L v q:=h2.keep fun a hx hl=>s.cell hl hx.1.1
 exact h3.imp fun b _ hx=>⟨hx.1.2,hx.2⟩
theorem Step.vecK (s:Step W W' G G') {v:SV} {l:List Rat} (h:VecIs W (fun b=>¬ G b/\K b) (fun b=>¬ G b/\K b) L v l):VecIs W' (fun b=>¬ G' b/\K b) (fun b=>¬ G' b/\K b) L v l:=by
 have h2:VecAt W (fun b=>(¬ G b/\¬ G' b)/\K b) (QIs W (fun b=>¬ G b/\K b) L) v l:=h.imp (fun b hb hx=>⟨⟨hx.1,fun hg=>hx.1 (s.back b hb hg)⟩,hx.2⟩) fun _ _ h=>h
 have h3:VecAt W' (fun b=>(¬ G b/\¬ G' b)/\K b) (QIs W' (fun b=>¬ G' b/\K b) L) v l:=h2.keep (fun a hx hl=>s.cell hl hx.1.1) fun _ _ h=>s.qisK h
 exact h3.imp (fun b _ hx=>⟨hx.1.2,hx.2⟩) fun _ _ h=>h
end
theorem zNU {ss:List SV} {m:List (List Rat)} (h:W.ownsRow base 24 1 v n (ss.map SV.val)) (hl:ss.length=n) (hm:m.length=n) (he:∀ k,k<n->VecIs W (fun b=>base<=b) (fun b=>base<=b) L (ss.getD k ⟨none,0,0⟩) (m.getD k [])) :
  ∃ s:SV,v=s.val/\s.n=n/\MatIs W (fun b=>base<=b) (fun b=>base<=b) L s m:=by
 rcases h.2 with ⟨rfl,rfl⟩ | ⟨g,cap,cur,rfl,hbg,hh,hnc,hcap,hcur,ht⟩
 ·exact ⟨⟨none,0,0⟩,rfl,rfl,hm,nlr _,nzl _,fun k hk=>absurd hk (Nat.not_lt_zero k)⟩
 ·refine ⟨⟨some ⟨g,0,none⟩,n,cap⟩,rfl,rfl,hm,hnc,(by show cap<=_; exact nlt ‹_› (show maxLen<=9223372036854775807 by decide)),fun k hk=>⟨⟨g,0,none⟩,ss.getD k ⟨none,0,0⟩,rfl,hbg,?_,he k hk⟩⟩;have hk':k<n:=hk;rw [zA4,Nat.zero_add];have e2:(cur.toList.take (n*1))[k]?=(ss.map SV.val)[k]?:=by rw [ht]
  rw [Nat.mul_one,List.getElem?_take_of_lt hk'] at e2;simp only [World.cell?,hh];have e3:cur[k]?=(ss.map SV.val)[k]?:=by simpa using e2
  rw [List.getElem?_map,gge (by omega)] at e3;have e4:ss.getD k ⟨none,0,0⟩=ss[k]'(by omega):=by simp [gge (show k<ss.length by omega)]
  rw [e4];simpa using e3
theorem zN6 {qs:List QV} {l:List Rat} (h:W.ownsRow base 37 4 v n (qs.flatMap cells4q)) (hl:qs.length=n) (hm:l.length=n) (he:∀ k,k<n->QIs W (fun b=>base<=b) L (qs.getD k ⟨⟨false,none,0,0⟩,⟨false,none,0,0⟩⟩) (l.getD k 0)) :
  ∃ s:SV,v=s.val/\s.n=n/\VecIs W (fun b=>base<=b) (fun b=>base<=b) L s l:=by
 rcases h.2 with ⟨rfl,rfl⟩ | ⟨g,cap,cur,rfl,hbg,hh,hnc,hcap,hcur,ht⟩
 ·exact ⟨⟨none,0,0⟩,rfl,rfl,hm,nlr _,nzl _,fun k hk=>absurd hk (Nat.not_lt_zero k)⟩
 ·refine ⟨⟨some ⟨g,0,none⟩,n,cap⟩,rfl,rfl,hm,hnc,(by show cap<=_; exact nlt ‹_› (show maxLen<=9223372036854775807 by decide)),fun k hk=>⟨⟨g,0,none⟩,qs.getD k ⟨⟨false,none,0,0⟩,⟨false,none,0,0⟩⟩,rfl,hbg,?_,he k hk⟩⟩;have hk':k<n:=hk
  have ec:∀ o,o<4->W.cell? ⟨g,k*4+o,none⟩=(cells4q (qs.getD k ⟨⟨false,none,0,0⟩,⟨false,none,0,0⟩⟩))[o]?:=fun o ho=>by
   have e2:(cur.toList.take (n*4))[k*4+o]?=(qs.flatMap cells4q)[k*4+o]?:=(by rw [ht]);rw [List.getElem?_take_of_lt (by omega),zCy qs k o (by omega) ho ⟨⟨false,none,0,0⟩,⟨false,none,0,0⟩⟩] at e2;simp only [World.cell?,hh];simpa using e2
  rw [zA4,Nat.zero_add];exact ⟨ec 0 (by omega),ec 1 (by omega),ec 2 (by omega),ec 3 (by omega)⟩
def ExMid (w:World) (B d:Nat) (n:Int) (L:Nat) (os rs:List (List Rat)) (bs:List Rat) (W:World):Prop:=
 ∃ (va vb vc:Value) (G:Nat->Prop) (s1 s2:List SV) (s3:List QV),s1.length=os.length/\s2.length=rs.length/\s3.length=bs.length/\
  QT w B d n va vb vc (pick3 [] (s1.map SV.val) (s2.map SV.val) (s3.flatMap cells4q)) (pick3 0 os.length rs.length bs.length) G W/\
  (∀ m,m<os.length->VecIs W (fun b=>¬ G b/\B<=b) (fun b=>¬ G b/\B<=b) L (s1.getD m ⟨none,0,0⟩) (os.getD m []))/\
  (∀ m,m<rs.length->VecIs W (fun b=>¬ G b/\B<=b) (fun b=>¬ G b/\B<=b) L (s2.getD m ⟨none,0,0⟩) (rs.getD m []))/\
  (∀ m,m<bs.length->QIs W (fun b=>¬ G b/\B<=b) L (s3.getD m ⟨⟨false,none,0,0⟩,⟨false,none,0,0⟩⟩) (bs.getD m 0))
section
variable {w W W1 W2:World} {n:Int} {B d L:Nat} {os rs:List (List Rat)} {bs:List Rat} {va vb vc v':Value} {G:Nat->Prop} {s1 s2:List SV} {s3:List QV} {o:Obj}
theorem zJU (l1:s1.length=os.length) (l2:s2.length=rs.length) (l3:s3.length=bs.length)
  (hQ:QT w B d n va vb vc (pick3 [] (s1.map SV.val) (s2.map SV.val) (s3.flatMap cells4q)) (pick3 0 os.length rs.length bs.length) G W)
  (e1:∀ m,m<os.length->VecIs W (fun b=>¬ G b/\B<=b) (fun b=>¬ G b/\B<=b) L (s1.getD m ⟨none,0,0⟩) (os.getD m []))
  (e2:∀ m,m<rs.length->VecIs W (fun b=>¬ G b/\B<=b) (fun b=>¬ G b/\B<=b) L (s2.getD m ⟨none,0,0⟩) (rs.getD m []))
  (e3:∀ m,m<bs.length->QIs W (fun b=>¬ G b/\B<=b) L (s3.getD m ⟨⟨false,none,0,0⟩,⟨false,none,0,0⟩⟩) (bs.getD m 0))
  (hb:Below W W W1) {x:SV} {l:List Rat} (hx:VecIs W1 (fun b=>¬ G b/\B<=b) (fun b=>¬ G b/\B<=b) L x l)
  (hown:W2.ownsRow B 24 1 v' (rs.length+1) (s2.map SV.val++[x.val])) (hg:(W1.alloc o).grownBy W2 vb.ownBlock) (hat:v'.ownBlock=vb.ownBlock\/v'.ownBlock=some (W1.alloc o).heap.size) :
  ExMid w B d n L os (rs++[l]) bs (W2.setCell ⟨d,2,none⟩ v')/\∀ x,x<W.heap.size->¬ G x->(W2.setCell ⟨d,2,none⟩ v').heap[x]?=W.heap[x]?:=by
 obtain ⟨hQ2,st⟩:=(hQ.call hb).append (f:=2) (by omega) (by omega) (xs:=[x.val]) (v':=v') hown hg hat;have st':=(Step.below G hb).trans st
 have ea:(fun g=>if g=2 then pick3 [] (s1.map SV.val) (s2.map SV.val) (s3.flatMap cells4q) 2++[x.val] else pick3 [] (s1.map SV.val) (s2.map SV.val) (s3.flatMap cells4q) g)=pick3 [] (s1.map SV.val) ((s2++[x]).map SV.val) (s3.flatMap cells4q):=by
  funext g; unfold pick3; by_cases h1:g=1 <;> by_cases h2:g=2 <;> by_cases h3:g=3 <;> simp_all <;> simp [cells4q]
 have ec:(fun g=>if g=2 then pick3 0 os.length rs.length bs.length 2+1 else pick3 0 os.length rs.length bs.length g)=pick3 0 os.length (rs++[l]).length bs.length:=by
  funext g; unfold pick3; by_cases h1:g=1 <;> by_cases h2:g=2 <;> by_cases h3:g=3 <;> simp_all
 rw [ea,ec] at hQ2;exact ⟨⟨_,_,_,_,s1,s2++[x],s3,by simp [l1],by simp [l2],by simp [l3],hQ2,fun m hm=>st'.vecK (e1 m hm),zHj l2 (fun m hm=>st'.vecK (e2 m hm)) (st.vecK hx),fun m hm=>st'.qisK (e3 m hm)⟩,st'.keep⟩
theorem zOa (l1:s1.length=os.length) (l2:s2.length=rs.length) (l3:s3.length=bs.length)
  (hQ:QT w B d n va vb vc (pick3 [] (s1.map SV.val) (s2.map SV.val) (s3.flatMap cells4q)) (pick3 0 os.length rs.length bs.length) G W)
  (e1:∀ m,m<os.length->VecIs W (fun b=>¬ G b/\B<=b) (fun b=>¬ G b/\B<=b) L (s1.getD m ⟨none,0,0⟩) (os.getD m []))
  (e2:∀ m,m<rs.length->VecIs W (fun b=>¬ G b/\B<=b) (fun b=>¬ G b/\B<=b) L (s2.getD m ⟨none,0,0⟩) (rs.getD m []))
  (e3:∀ m,m<bs.length->QIs W (fun b=>¬ G b/\B<=b) L (s3.getD m ⟨⟨false,none,0,0⟩,⟨false,none,0,0⟩⟩) (bs.getD m 0))
  (hb:Below W W W1) {x:QV} {l:Rat} (hx:QIs W1 (fun b=>¬ G b/\B<=b) L x l)
  (hown:W2.ownsRow B 37 4 v' (bs.length+1) (s3.flatMap cells4q++cells4q x)) (hg:(W1.alloc o).grownBy W2 vc.ownBlock) (hat:v'.ownBlock=vc.ownBlock\/v'.ownBlock=some (W1.alloc o).heap.size) :
  ExMid w B d n L os rs (bs++[l]) (W2.setCell ⟨d,3,none⟩ v')/\∀ x,x<W.heap.size->¬ G x->(W2.setCell ⟨d,3,none⟩ v').heap[x]?=W.heap[x]?:=by
 obtain ⟨hQ2,st⟩:=(hQ.call hb).append (f:=3) (by omega) (by omega) (xs:=cells4q x) (v':=v') hown hg hat;have st':=(Step.below G hb).trans st
 have ea:(fun g=>if g=3 then pick3 [] (s1.map SV.val) (s2.map SV.val) (s3.flatMap cells4q) 3++cells4q x else pick3 [] (s1.map SV.val) (s2.map SV.val) (s3.flatMap cells4q) g)=pick3 [] (s1.map SV.val) (s2.map SV.val) ((s3++[x]).flatMap cells4q):=by
  funext g; unfold pick3; by_cases h1:g=1 <;> by_cases h2:g=2 <;> by_cases h3:g=3 <;> simp_all <;> simp [cells4q]
 have ec:(fun g=>if g=3 then pick3 0 os.length rs.length bs.length 3+1 else pick3 0 os.length rs.length bs.length g)=pick3 0 os.length rs.length (bs++[l]).length:=by
  funext g; unfold pick3; by_cases h1:g=1 <;> by_cases h2:g=2 <;> by_cases h3:g=3 <;> simp_all
 rw [ea,ec] at hQ2;exact ⟨⟨_,_,_,_,s1,s2,s3++[x],by simp [l1],by simp [l2],by simp [l3],hQ2,fun m hm=>st'.vecK (e1 m hm),fun m hm=>st'.vecK (e2 m hm),zHj l3 (fun m hm=>st'.qisK (e3 m hm)) (st.qisK hx)⟩,st'.keep⟩
end
theorem zOc {n:Int} (h:ExMid w B d n L os rs bs W) :
  ∃ q:LPV,q.n=n/\LPBox W d q/\LPIs W (fun b=>B<=b) (fun b=>B<=b) L q os rs bs/\q.O.n=os.length/\q.R.n=rs.length/\q.B.n=bs.length/\Below w w W/\d<W/\B<=d:=by
 obtain ⟨va,vb,vc,G,s1,s2,s3,l1,l2,l3,hQ,e1,e2,e3⟩:=h;obtain ⟨o1,o2,o3⟩:W.ownsRow B 24 1 va os.length (s1.map SV.val)/\W.ownsRow B 24 1 vb rs.length (s2.map SV.val)/\W.ownsRow B 37 4 vc bs.length (s3.flatMap cells4q):=⟨hQ.own 1 (by omega) (by omega),hQ.own 2 (by omega) (by omega),hQ.own 3 (by omega) (by omega)⟩;obtain ⟨x1,rfl,n1,m1⟩:=zNU o1 l1 rfl fun k hk=>(e1 k hk).imp (fun _ _ hx=>hx.2) fun _ _ hq=>hq.imp fun _ _ hx=>hx.2
 obtain ⟨x2,rfl,n2,m2⟩:=zNU o2 l2 rfl fun k hk=>(e2 k hk).imp (fun _ _ hx=>hx.2) fun _ _ hq=>hq.imp fun _ _ hx=>hx.2
 obtain ⟨x3,rfl,n3,m3⟩:=zN6 o3 l3 rfl fun k hk=>(e3 k hk).imp fun _ _ hx=>hx.2
 refine ⟨⟨n,x1,x2,x3⟩,rfl,?_,⟨m1,m2,m3⟩,n1,n2,n3,hQ.bel,hQ.dlt,hQ.dB⟩;obtain ⟨c0,c1,c2,c3,cf⟩:=hQ.cells;exact ⟨c0,c1,c2,c3,cf⟩
theorem MPart.own {lo hi:Nat} {m:List (List Rat)} (h:MPart lo hi b m W) (hB:B<=lo) (hn:m.length<=1000000) :
  ∃ ss:List SV,ss.length=m.length/\W.ownsRow B 24 1 (.slice (some b) m.length m.length) m.length (ss.map SV.val)/\∀ k,k<m.length->VecCan W (fun x=>lo<=x/\x<hi/\x ≠ b) (fun x=>lo<=x/\x<hi/\x ≠ b) (ss.getD k ⟨none,0,0⟩) (m.getD k []):=by
 obtain ⟨h1,h2,cs,sv,h3,h4,h5⟩:=h;refine ⟨(List.range m.length).map sv,by simp,⟨by simp,.inr ⟨b,m.length,cs,rfl,by omega,h3,nlr _,by simp only [maxLen]; omega,by omega,?_⟩⟩,fun k hk=>?_⟩
 ·rw [Nat.mul_one,List.take_of_length_le (by simp; omega)];apply List.ext_getElem
  ·simp [h4]
  ·intro i g1 g2;have hi':i<m.length:=by simp at g2; exact g2
   have:=(h5 i hi').1;rw [Array.getElem?_eq_getElem (by omega)] at this;simpa using this
 ·rw [zA6 _ _ _ _ hk];exact (h5 k hk).2
theorem VPart.own {lo hi:Nat} {l:List Rat} (h:VPart lo hi b l W) (hB:B<=lo) (hn:l.length<=1000000) :
  ∃ ss:List QV,ss.length=l.length/\W.ownsRow B 37 4 (.slice (some b) l.length l.length) l.length (ss.flatMap cells4q)/\∀ k,k<l.length->QCan W (fun x=>lo<=x/\x<hi/\x ≠ b) (ss.getD k ⟨⟨false,none,0,0⟩,⟨false,none,0,0⟩⟩) (l.getD k 0):=by
 obtain ⟨h1,h2,h3⟩:=h;obtain ⟨f,hf⟩:=Deep.choose_lt (α:=QV) (n:=l.length) (p:=fun k v=>QCell W ⟨b,k*4,none⟩ v/\QCan W (fun x=>¬ ¬ (lo<=x/\x<hi/\x ≠ b)) v (l.getD k 0)) (fun k hk=>h3.elem k hk);obtain ⟨cs,e,hs⟩:=h3.blk
 have hfl:∀ n,(((List.range n).map f).flatMap cells4q).length=n*4:=fun n=>by
  induction n with
  | zero=>rfl
  | succ n ih=>rw [List.range_succ,List.map_append,List.flatMap_append,List.length_append,ih]; simp [cells4q]; omega
 refine ⟨(List.range l.length).map f,by simp,⟨hfl _,.inr ⟨b,l.length,cs,rfl,by omega,e,nlr _,by simp only [maxLen]; omega,by omega,?_⟩⟩,fun k hk=>?_⟩
 ·rw [List.take_of_length_le (by simp; omega)];apply List.ext_getElem?;intro i;by_cases hi':i<l.length*4
  ·have hk:i / 4<l.length:=(by omega);have e1:=zCy ((List.range l.length).map f) (i / 4) (i % 4) (by simpa using hk) (by omega) ⟨⟨false,none,0,0⟩,⟨false,none,0,0⟩⟩;rw [show i / 4*4+i % 4=i by omega,zA6 _ _ _ _ hk] at e1;rw [e1];obtain ⟨q0,q1,q2,q3⟩:=(hf (i / 4) hk).1;simp only [World.cell?,e] at q0 q1 q2 q3;have ei:i=i / 4*4+i % 4:=(by omega);have ho:i % 4<4:=(by omega);generalize i / 4=k at *;generalize i % 4=o at *;subst ei;rcases (by omega:o=0\/o=1\/o=2\/o=3) with rfl | rfl | rfl | rfl <;> simp only [cells4q,List.getElem?_cons_zero,List.getElem?_cons_succ,Array.getElem?_toList]
   ·simpa using q0
   ·simpa using q1
   ·simpa using q2
   ·simpa using q3
  ·rw [List.getElem?_eq_none (by simp; omega),List.getElem?_eq_none (by rw [hfl]; omega)]
 ·rw [zA6 _ _ _ _ hk];exact (hf k hk).2.imp fun x _ hx=>Classical.not_not.1 hx
theorem zN0 {y:World} {k0 k1 k2 k3 b1 b2 b3:Nat} {n:Int} (hb:Below w w y) (hk0:w<=k0) (hk3:k3<=y) (h1:MPart k0 k1 b1 os y) (h2:MPart k1 k2 b2 rs y) (h3:VPart k2 k3 b3 bs y)
  (n1:os.length<=1000000) (n2:rs.length<=1000000) (n3:bs.length<=1000000) (f1:∀ i k,QFit L ((os.getD i []).getD k 0)) (f2:∀ i k,QFit L ((rs.getD i []).getD k 0)) (f3:∀ k,QFit L (bs.getD k 0)) :
  ExMid w k0 y n L os rs bs (y.alloc (.cells #[.int .i64 n,.slice (some b1) os.length os.length,.slice (some b2) rs.length rs.length,.slice (some b3) bs.length bs.length] 28)):=by
 have al:Below y y (y.alloc (.cells #[.int .i64 n,.slice (some b1) os.length os.length,.slice (some b2) rs.length rs.length,.slice (some b3) bs.length bs.length] 28)):=bal;have q1:=h1.1; have q1':=h1.2.1; have q2:=h2.1; have q2':=h2.2.1; have q3:=h3.1; have q3':=h3.2.1
 obtain ⟨s1,l1,o1,e1⟩:=(h1.keep fun x _ hx=>al.block x (by omega)).own (B:=k0) (nlr _) n1;obtain ⟨s2,l2,o2,e2⟩:=(h2.keep fun x _ hx=>al.block x (by omega)).own (B:=k0) (by omega) n2;obtain ⟨s3,l3,o3,e3⟩:=(h3.keep fun x _ hx=>al.block x (by omega)).own (B:=k0) (by omega) n3;refine ⟨.slice (some b1) os.length os.length,.slice (some b2) rs.length rs.length,.slice (some b3) bs.length bs.length,fun x=>x=y.heap.size\/x=b1\/x=b2\/x=b3,s1,s2,s3,l1,l2,l3,⟨hb.trans (al.mono hb.size),zAd _ _ rfl,fun f g1 g2=>?_,fun f g j hne f1 f2 g1 g2=>?_,fun f j f1 f2=>?_,fun x hx=>?_,.inl rfl,fun f j f1 f2=>?_,hk0,by omega⟩,fun m hm=>?_,fun m hm=>?_,fun m hm=>?_⟩
 ·rcases (by omega:f=1\/f=2\/f=3) with rfl | rfl | rfl
  ·exact o1
  ·exact o2
  ·exact o3
 ·rcases (by omega:f=1\/f=2\/f=3) with rfl | rfl | rfl <;> rcases (by omega:g=1\/g=2\/g=3) with rfl | rfl | rfl <;> simp [three,Value.ownBlock] at hne ⊢ <;> omega
 ·rcases (by omega:f=1\/f=2\/f=3) with rfl | rfl | rfl <;> simp [three,Value.ownBlock] <;> omega
 ·simp only [World.size_alloc]; omega
 ·rcases (by omega:f=1\/f=2\/f=3) with rfl | rfl | rfl <;> simp [three,Value.ownBlock] <;> omega
 ·exact ((e1 m hm).loose (f1 m)).imp (fun x _ hx=>by omega) fun v q hq=>hq.imp fun x _ hx=>by omega
 ·exact ((e2 m hm).loose (f2 m)).imp (fun x _ hx=>by omega) fun v q hq=>hq.imp fun x _ hx=>by omega
 ·exact ((e3 m hm).qis (f3 m)).imp fun x _ hx=>by omega
def LPRet (w:World) (n:Int) (L:Nat) (os rs:List (List Rat)) (bs:List Rat) (e:Ending) (w':World):Prop:=
 ∃ q:LPV,e = .returned (.tuple #[q.val,.int .i64 0])/\q.n=n/\LPIs w' (fun x=>w.heap.size<=x) (fun x=>w.heap.size<=x) L q os rs bs
theorem zA1 (w:World) (v:QV):∀ j u,(cells4q v)[j]?=some u->(w.alloc (.cells #[.bool v.num.ng,.slice v.num.A v.num.n v.num.c,.bool v.den.ng,.slice v.den.A v.den.n v.den.c] 37)).cell? (Addr.add ⟨w,0,none⟩ j)=some u:=by
 intro j u h;rw [zA4,Nat.zero_add];have e:(w.alloc (.cells #[.bool v.num.ng,.slice v.num.A v.num.n v.num.c,.bool v.den.ng,.slice v.den.A v.den.n v.den.c] 37)).heap[w.heap.size]?=some (.cells #[.bool v.num.ng,.slice v.num.A v.num.n v.num.c,.bool v.den.ng,.slice v.den.A v.den.n v.den.c] 37 (0,0)):=zAd _ _ rfl;simp only [World.cell?,e];simpa [cells4q] using h
theorem zNR {l:List Rat} (h:l.length=n):resize l n=l:=by
 subst h;unfold resize;apply List.ext_getElem
 ·simp
 ·intro i h1 h2;simp [h2]
theorem zIC {n:Int} {a1 a2 a3:List Value} {c1 c2 c3:Nat} (h:QT w B d n va vb vc (pick3 [] a1 a2 a3) (pick3 0 c1 c2 c3) G W) :
  W.ownsRow B 24 1 va c1 a1/\W.ownsRow B 24 1 vb c2 a2/\W.ownsRow B 37 4 vc c3 a3:=
 ⟨h.own 1 (by omega) (by omega),h.own 2 (by omega) (by omega),h.own 3 (by omega) (by omega)⟩
theorem zJH {n:Int} {al:Nat->List Value} {cnt:Nat->Nat} {l:List Rat} (hQ:QT w B d n va vb vc al cnt G W) (hz:VecCan W1 (New W) (New W) s l) (hf:∀ k,QFit L (l.getD k 0)):VecIs W1 (fun b=>¬ G b/\B<=b) (fun b=>¬ G b/\B<=b) L s l:=
 have hk:∀ b,New W b->¬ G b/\B<=b:=fun b hb=>by simp only [New] at hb; exact ⟨fun hg=>by have:=(hQ.gin b hg).2; omega,by have:=hQ.dlt; have:=hQ.dB; omega⟩
 (hz.loose hf).imp (fun b _ hb=>hk b hb) fun v q hq=>hq.imp fun b _ hb=>hk b hb
theorem zOb {n:Int} {al:Nat->List Value} {cnt:Nat->Nat} {v:QV} (hQ:QT w B d n va vb vc al cnt G W) (hz:QCan W1 (New W) v q) (hf:QFit L q):QIs W1 (fun b=>¬ G b/\B<=b) L v q:=
 (hz.qis hf).imp fun b _ hb=>by simp only [New] at hb; exact ⟨fun hg=>by have:=(hQ.gin b hg).2; omega,by have:=hQ.dlt; have:=hQ.dB; omega⟩
def ExL1 (w:World) (p:LPV) (t:Value) (W:World):Prop:=
 ∃ i:Nat,i<=1/\t = .int .i64 i/\Below w w W/\LPBox W w p/\Box4 W (w+1) (.int .i64 0) (.slice none 0 0) (.slice none 0 0) (.slice none 0 0)
def ExL2 (w:World) (B d:Nat) (n:Int) (L:Nat) (os rs:List (List Rat)) (bs:List Rat) (r:List Rat) (b:Rat) (t:Value) (W:World):Prop:=
 ∃ i:Nat,i<=1/\t = .int .i64 i/\Box4 W (w+1) (.int .i64 0) (.slice none 0 0) (.slice none 0 0) (.slice none 0 0)/\w+1<B/\ExMid w B d n L os (rs++(List.replicate i r)) (bs++(List.replicate i b)) W
theorem zNE {Z':Nat->Prop} {r:SV} {mv:QV} {row:List Rat} {most:Rat} (h:LPIs w X Y L p os rs bs) (hV:p.n=V) (hV2:V<=64) (ho1:1<=p.O.n) (ho2:p.O.n<=4) (hr:p.R.n<=127) (hb:p.B.n=p.R.n) (hco:colsOf os<=V) (hcr:colsOf rs<=V) (hL:L+1<=LM)
  (hrow:VecIs w X' Y' L r row) (hmost:QIs w Z' L mv most) (hrn:r.n<=V) (hl:w.heap[b]?=some (.cells #[.slice r.A r.n r.c,.bool mv.num.ng,.slice mv.num.A mv.num.n mv.num.c,.bool mv.den.ng,.slice mv.den.A mv.den.n mv.den.c] 120 (0,0))) :
  Calls Tryz.prog 77 #[p.val,.slice (some b) 1 1] w fun e w'=>LPRet w p.n (L+1) os (rs++[row]) (bs++[most]) e w'/\Below w w w':=by
 obtain ⟨ii0,hii,hzi0,hzi1,hzi2⟩:=info_parts zFA;obtain ⟨iq0,hiq,hzq0,hzq1,hzq2⟩:=info_parts zEv;obtain ⟨z,⟨oA,on,oc⟩,⟨rA,rn,rc⟩,⟨bA,bn,bc⟩⟩:=p;obtain ⟨qA,qn,qc⟩:=r;dsimp only at hV hr hb ho1 ho2 hrn;subst hV;obtain rfl:rn=bn:=hb.symm;have H:=hdq h;have HRow:=hdq hrow;have HMost:=hdq hmost;have HCo:=hdq hco;have HCr:=hdq hcr;have HL:=hdq hL;have hbl:=zAa hl;obtain ⟨l0,l1x,l2x,l3x,l4⟩:w.cell? b=some (.slice qA qn qc)/\w.cell? ⟨b,1,none⟩=some (.bool mv.num.ng)/\w.cell? ⟨b,2,none⟩=some (.slice mv.num.A mv.num.n mv.num.c)/\w.cell? ⟨b,3,none⟩=some (.bool mv.den.ng)/\w.cell? ⟨b,4,none⟩=some (.slice mv.den.A mv.den.n mv.den.c):=by simp [World.cell?,hl]
 have HO:Hid (os.length=on):=h.obj.len;have HRl:Hid (rs.length=rn):=h.rows.len;have HBl:Hid (bs.length=rn):=h.bounds.len;clear h hrow hmost hco hcr hL hl;dsimp only [LPV.val] at *;go_enter Tryz.func77,Tryz.ntmps77
 go_upto_region 1 with fail
 refine zAo (fun W=>Below w w W/\Box4 W w (.int .i64 V) (.slice oA on oc) (.slice rA rn rc) (.slice bA rn bc)/\Box4 W (w+1) (.int .i64 0) (.slice none 0 0) (.slice none 0 0) (.slice none 0 0)/\w<(W:Nat)/\w+1<(W:Nat)) ⟨(az (az (brf _ _))),bx4,bx4,by simp <;> omega,by simp <;> omega⟩ ?_;rintro W ⟨hbW,bP,bR,s0,s1⟩;have hBW:=hbW.size;obtain ⟨p0,p1,p2,p3,-⟩:=id bP;go_wp2_with fail
 refine (zBv (p:=⟨V,⟨oA,on,oc⟩,⟨rA,rn,rc⟩,⟨bA,rn,bc⟩⟩) (H.out.below hbW) rfl hV2 ho1 ho2 (by show rn<=128; omega) rfl HCo.out HCr.out).mono ?_;rintro e w1 ⟨rfl,hb1⟩;replace bP:=bP.below hb1 s0;replace bR:=bR.below hb1 s1;replace s0:=ltl s0 hb1.size;replace s1:=ltl s1 hb1.size;replace hbW:=hbW.trans (hb1.mono hbW.size);clear hb1 hBW p0 p1 p2 p3;obtain ⟨p0,p1,p2,p3,-⟩:=id bP;have hg:¬ ((128:Int)<(rn:Int)+1):=by omega
 have hg2:IntKind.i64.wrap ((rn:Int)+1)=(rn:Int)+1:=IntWalk.i64_in _ (by omega);have H1:Hid (ExL1 w ⟨V,⟨oA,on,oc⟩,⟨rA,rn,rc⟩,⟨bA,rn,bc⟩⟩ (.int .i64 0) w1):=⟨0,by omega,rfl,hbW,bP,bR⟩;clear bP bR;go_wp2;clear p0 p1 p2 p3 hg hg2;generalize w1=W0 at *;go_loopw [26] (fun t W=>ExL1 w ⟨V,⟨oA,on,oc⟩,⟨rA,rn,rc⟩,⟨bA,rn,bc⟩⟩ t W) (fun t _=>1-(intOf t).toNat)
 case atStart=>exact H1.out
 case round=>
  clear H1 hbW s0 s1;obtain ⟨i,hi,rfl,hbW,bP,bR⟩:=hrel;obtain ⟨p0,p1,p2,p3,-⟩:=id bP;have s0:w<(wr:Nat):=zAb p0;have s1:w+1<(wr:Nat):=zAb bR.1;rcases (by omega:i=0\/i=1) with rfl | rfl
  ·have m0:=(hbW.cell (p:=b) hbl).trans l0;have m1:=(hbW.cell (p:=⟨b,1,none⟩) hbl).trans l1x;have m2:=(hbW.cell (p:=⟨b,2,none⟩) hbl).trans l2x;have m3:=(hbW.cell (p:=⟨b,3,none⟩) hbl).trans l3x;have m4:=(hbW.cell (p:=⟨b,4,none⟩) hbl).trans l4;have hbl2:b<wr:=ltl hbl hbW.size;have hq:¬ ((V:Int)<(qn:Int)):=(by omega);have al:Below wr wr (wr.alloc (.cells #[.slice qA qn qc,.bool mv.num.ng,.slice mv.num.A mv.num.n mv.num.c,.bool mv.den.ng,.slice mv.den.A mv.den.n mv.den.c] 120)):=bal;have Hfin:Hid (ExL1 w ⟨V,⟨oA,on,oc⟩,⟨rA,rn,rc⟩,⟨bA,rn,bc⟩⟩ (.int .i64 1) (wr.alloc (.cells #[.slice qA qn qc,.bool mv.num.ng,.slice mv.num.A mv.num.n mv.num.c,.bool mv.den.ng,.slice mv.den.A mv.den.n mv.den.c] 120))):=⟨1,by omega,rfl,hbW.trans (al.mono hbW.size),bP.below al s0,bR.below al s1⟩;clear al bP bR;go_wp2;go_roundw;case rel=>exact fn_ Hfin.out
   case measure=>simp [intOf]
  ·(go_wp2_with fail);refine (zNJ (p:=⟨V,⟨oA,on,oc⟩,⟨rA,rn,rc⟩,⟨bA,rn,bc⟩⟩) (H.out.below hbW) (by show on<=_; omega) (by show rn<=_; omega) (by show rn<=_; omega) (fun i=>nlt (zBT HCo.out i) (by omega)) (fun i=>nlt (zBT HCr.out i) (by omega)) (by have:=HL.out; omega)).mono ?_;rintro e y ⟨⟨k0,k1,k2,k3,b1,b2,b3,hk0,hk3,rfl,g1,g2,g3⟩,hby⟩;dsimp only at *;have hbwy:=hbW.trans (hby.mono hbW.size);have HE:=hdq (zN0 (n:=V) hbwy (nlt hbW.size hk0) hk3 g1 g2 g3 (by rw [HO.out]; omega) (by rw [HRl.out]; omega) (by rw [HBl.out]; omega) H.out.obj.fit H.out.rows.fit H.out.bounds.fit);have al:Below y y (y.alloc (.cells #[.int .i64 V,.slice (some b1) os.length os.length,.slice (some b2) rs.length rs.length,.slice (some b3) bs.length bs.length] 28)):=bal;have H2:Hid (ExL2 w k0 y V (L+1) os rs bs row most (.int .i64 0) (y.alloc (.cells #[.int .i64 V,.slice (some b1) os.length os.length,.slice (some b2) rs.length rs.length,.slice (some b3) bs.length bs.length] 28))):=⟨0,by omega,rfl,(bR.below hby s1).below al (by have:=hby.size; omega),by omega,by simp only [List.replicate_zero,List.append_nil]; exact HE.out⟩;clear HE al g1 g2 g3 hk0 hk3 hby hbwy bP bR p0 p1 p2 p3 s0 s1 hbW;(go_upto_region 10 with fail);generalize y.alloc (.cells #[.int .i64 V,.slice (some b1) os.length os.length,.slice (some b2) rs.length rs.length,.slice (some b3) bs.length bs.length] 28)=W3 at *;generalize y.heap.size=d at *;go_wp2;(go_loopw [42] (fun t W=>ExL2 w k0 d V (L+1) os rs bs row most t W) (fun t _=>1-(intOf t).toNat));case atStart=>exact H2.out
   case round=>
    clear H2;obtain ⟨i,hi,rfl,bR,hk,hM⟩:=hrel;rcases (by omega:i=0\/i=1) with rfl | rfl
    ·skip
     simp only [List.replicate_zero,List.append_nil] at hM;obtain ⟨va,vb,vc,G,s1,s2,s3,l1,l2,l3,hQ,e1,e2,e3⟩:=hM;have hbW:=hQ.bel;have m0:=(hbW.cell (p:=b) hbl).trans l0;have m1:=(hbW.cell (p:=⟨b,1,none⟩) hbl).trans l1x;have m2:=(hbW.cell (p:=⟨b,2,none⟩) hbl).trans l2x;have m3:=(hbW.cell (p:=⟨b,3,none⟩) hbl).trans l3x;have m4:=(hbW.cell (p:=⟨b,4,none⟩) hbl).trans l4;have hbl2:b<wr:=ltl hbl hbW.size;(go_upto_region 13 with fail);have al:Below wr wr (wr.alloc (.cells #[.slice qA qn qc,.bool mv.num.ng,.slice mv.num.A mv.num.n mv.num.c,.bool mv.den.ng,.slice mv.den.A mv.den.n mv.den.c] 120)):=bal;have hgG:¬ G wr.heap.size:=fun hg=>by have:=(hQ.gin _ hg).2; omega
     have sR:w+1<(wr:Nat):=zAb bR.1;have hCB:(wr.alloc (.cells #[.slice qA qn qc,.bool mv.num.ng,.slice mv.num.A mv.num.n mv.num.c,.bool mv.den.ng,.slice mv.den.A mv.den.n mv.den.c] 120)).heap[wr.heap.size]?=some (.cells #[.slice qA qn qc,.bool mv.num.ng,.slice mv.num.A mv.num.n mv.num.c,.bool mv.den.ng,.slice mv.den.A mv.den.n mv.den.c] 120 (0,0)):=zAd _ _ rfl;replace bR:=bR.below al sR;replace hQ:=hQ.call al;have HE:=hdq (And.intro l1 (And.intro l2 (And.intro l3 (And.intro (fun m hm=>(e1 m hm).below al) (And.intro (fun m hm=>(e2 m hm).below al) fun m hm=>(e3 m hm).below al)))));clear l1 l2 l3 e1 e2 e3 m0 m1 m2 m3 m4 hbl2 al hbW sR;generalize wr.alloc (.cells #[.slice qA qn qc,.bool mv.num.ng,.slice mv.num.A mv.num.n mv.num.c,.bool mv.den.ng,.slice mv.den.A mv.den.n mv.den.c] 120)=wq at *;generalize wr.heap.size=g at *;(obtain ⟨t0,t1,t2,t3,t4⟩:wq.cell? g=some (.slice qA qn qc)/\wq.cell? ⟨g,1,none⟩=some (.bool mv.num.ng)/\wq.cell? ⟨g,2,none⟩=some (.slice mv.num.A mv.num.n mv.num.c)/\wq.cell? ⟨g,3,none⟩=some (.bool mv.den.ng)/\wq.cell? ⟨g,4,none⟩=some (.slice mv.den.A mv.den.n mv.den.c):=by simp [World.cell?,hCB]);have hgl:=zAa hCB;obtain ⟨c0,c1,c2,c3,cf⟩:=hQ.cells;have hdl:=hQ.dlt;have hbz:=hQ.bel.size;have hdr:Below wq wq wq.drew:=(brf _ _).drew;refine zAp 9 (fun f w'=>f=false->Sees w [] wq w') (by kernel_rfl) ?_;have hS0:Sees w [] wq wq.drew:=Sees.st (by simp) hbz;refine tx1 0 (fun _=>hS0) ?_;refine tx1 2 (fun _=>hS0) ?_;refine tx1 4 (fun _=>hS0) ?_;refine tkW 1 (vb) (fun w' hSw=>?_) (fun _=>hS0) ?_
     ·(replace hSw:=hSw rfl; go_simp; try with_reducible rfl)
     simp only [zz];refine tkV 3 7 (.slice qA qn qc) (fun w' hSw=>?_) (fun _=>hS0) ?_
     ·(replace hSw:=hSw rfl; go_simp; try with_reducible rfl)
     simp only [zz];refine tk1 5 ?_;intro K hK;go_simp;refine hK.out _ _ (fun _=>hS0) ?_;clear hK K;refine tk1 6 ?_;intro K hK;go_simp;refine hK.out _ _ (fun _=>hS0) ?_;clear hK K;refine tk1 7 ?_;intro K hK;go_simp;(with_reducible refine (zF0 (s:=⟨qA,qn,qc⟩) (HRow.out.below (hQ.bel.trans (hdr.mono hQ.bel.size))) qn (by omega) (by have:=HL.out; omega)).mono ?_);rintro e w1 ⟨⟨⟨zA,zn,zc⟩,rfl,hz⟩,hb1⟩;rw [show resize row qn=row from zNR HRow.out.len] at hz;have hS1:=Kept.call2 hb1 hS0;have hb1':Below wq wq w1:=hdr.trans hb1;have Hnew:=hdq (zJH hQ hz HRow.out.fit);refine hK.out _ _ (fun _=>hS1) ?_;clear hK K hz hb1;refine tk1 8 ?_;intro K hK;go_simp;refine hK.out _ _ (fun _=>Sees.al hS1) ?_;clear hK K;have hown:=(zIC (hQ.call hb1')).2.1;refine tk1 9 ?_;intro K hK;refine zAq _ _ 26 rfl k0 24 ii0 (.slice none 0 0) 1 24 Tryz.underlying26 hii hzi0 hzi1 hzi2 rfl (by decide) vb rs.length (s2.map SV.val) rfl (hown.alloc _) ⟨w1,0,none⟩ 1 1 [.slice zA zn zc] rfl rfl (cell_one_new _ _ _) (by intro u hu; simp at hu; rcases hu with rfl <;> rfl) (by have:=HRl.out; simp [maxLen]; omega) (by have:=HRl.out; omega) (by have:=hb1'.size; have:=hQ.dB; simp; omega) ?_;intro v' W5 hown5 hg5 hnil5 hat5;have d1:W5.cell? ⟨d,2,none⟩=some vb:=(cob (a:=⟨d,2,none⟩) ((hQ.call hb1').app_blk (f:=2) (by omega) (by omega) hg5 (ltl hdl hb1'.size) (.inr rfl))).trans ((hb1'.cell (p:=⟨d,2,none⟩) hdl).trans c2);have df:∀ o,W5.frozen? ⟨d,o,none⟩=false:=fun o=>(World.frozen?_of_block (a:=⟨d,o,none⟩) ((hQ.call hb1').app_blk (f:=2) (by omega) (by omega) hg5 (ltl hdl hb1'.size) (.inr rfl))).trans ((hQ.call hb1').cells.2.2.2.2 o)
     have Hm:Hid (ExMid w k0 d V (L+1) os (rs++[row]) bs (W5.setCell ⟨d,2,none⟩ v')/\∀ x,x<wq.heap.size->¬ G x->(W5.setCell ⟨d,2,none⟩ v').heap[x]?=wq.heap[x]?):=by
      obtain ⟨l1,l2,l3,e1,e2,e3⟩:=HE.out;exact zJU l1 l2 l3 hQ e1 e2 e3 hb1' (x:=⟨zA,zn,zc⟩) Hnew.out hown5 hg5 hat5
     have hRG:¬ G (w+1):=fun hg=>by have:=(hQ.gin _ hg).1; omega
     have sR:w+1<(wq:Nat):=zAb bR.1;obtain ⟨g5,c5,rfl⟩:=ownsRow_succ hown5;simp only [Act.put,zz];refine hK.out _ _ (fun h=>absurd h (by decide)) ?_;clear hK K hown hown5 hg5 hat5 hnil5 hS0 hS1 hQ HE Hnew t0 t1 t2 t3 t4 c0 c1 c2 c3 cf hb1';refine tk1 10 ?_;intro K hK;go_simp;refine hK.out _ _ (fun h=>absurd h (by decide)) ?_;clear hK K;refine tk1 11 ?_;intro K hK;go_simp;refine hK.out _ _ (fun h=>absurd h (by decide)) ?_;clear hK K d1 df;refine zAf (by kernel_rfl) ?_ _;generalize W5.setCell ⟨d,2,none⟩ (.slice (some g5) (rs.length+1) c5)=wp at *;replace bR:=bR.heap (Hm.out.2 _ sR hRG);replace hCB:=(Hm.out.2 _ hgl hgG).trans hCB;have HM2:=hdq Hm.out.1;clear Hm hRG hgG hdl hbz hdr sR hgl;obtain ⟨va,vb,vc,G,s1,s2,s3,l1,l2,l3,hQ,e1,e2,e3⟩:=HM2.out;have HE:=hdq (And.intro l1 (And.intro l2 (And.intro l3 (And.intro e1 (And.intro e2 e3)))));clear l1 l2 l3 e1 e2 e3 HM2;(obtain ⟨t0,t1,t2,t3,t4⟩:wp.cell? g=some (.slice qA qn qc)/\wp.cell? ⟨g,1,none⟩=some (.bool mv.num.ng)/\wp.cell? ⟨g,2,none⟩=some (.slice mv.num.A mv.num.n mv.num.c)/\wp.cell? ⟨g,3,none⟩=some (.bool mv.den.ng)/\wp.cell? ⟨g,4,none⟩=some (.slice mv.den.A mv.den.n mv.den.c):=by simp [World.cell?,hCB]);have hgl:=zAa hCB;obtain ⟨c0,c1,c2,c3,cf⟩:=hQ.cells;have hdl:=hQ.dlt;have hbz:=hQ.bel.size;have hdr:Below wp wp wp.drew:=(brf _ _).drew;(go_upto_region 14 with fail);refine zAp 6 (fun f w'=>f=false->Sees w [] wp w') (by kernel_rfl) ?_;have hS0:Sees w [] wp wp.drew:=Sees.st (by simp) hbz;refine tx1 0 (fun _=>hS0) ?_;refine tx1 2 (fun _=>hS0) ?_;refine tkW 1 (vc) (fun w' hSw=>?_) (fun _=>hS0) ?_
     ·(replace hSw:=hSw rfl; go_simp; try with_reducible rfl)
     simp only [zz];refine tk1 3 ?_;intro K hK;go_simp;refine hK.out _ _ (fun _=>hS0) ?_;clear hK K;refine tk1 4 ?_;intro K hK;go_simp;(with_reducible refine (zAT (a:=mv) (HMost.out.below (hQ.bel.trans (hdr.mono hQ.bel.size))) (by have:=HL.out; omega)).mono ?_);rintro e w1 ⟨⟨zq,rfl,hz⟩,hb1⟩;have hS1:=Kept.call2 hb1 hS0;have hb1':Below wp wp w1:=hdr.trans hb1;have Hnew:=hdq (zOb hQ hz HMost.out.fit);refine hK.out _ _ (fun _=>hS1) ?_;clear hK K hz hb1;refine tk1 5 ?_;intro K hK;go_simp;refine hK.out _ _ (fun _=>Sees.al hS1) ?_;clear hK K;have hown:=(zIC (hQ.call hb1')).2.2;refine tk1 6 ?_;intro K hK;refine zAq _ _ 24 rfl k0 37 iq0 (.agg #[.bool false,.slice none 0 0,.bool false,.slice none 0 0]) 4 64 Tryz.underlying24 hiq hzq0 hzq1 hzq2 rfl (by decide) vc bs.length (s3.flatMap cells4q) rfl (hown.alloc _) ⟨w1,0,none⟩ 1 1 (cells4q zq) rfl rfl (zA1 _ _) (by intro u hu; simp [cells4q] at hu; rcases hu with rfl | rfl | rfl | rfl <;> rfl) (by have:=HBl.out; simp [maxLen]; omega) (by have:=HBl.out; omega) (by have:=hb1'.size; have:=hQ.dB; simp; omega) ?_;intro v' W5 hown5 hg5 hnil5 hat5;have d1:W5.cell? ⟨d,3,none⟩=some vc:=(cob (a:=⟨d,3,none⟩) ((hQ.call hb1').app_blk (f:=3) (by omega) (by omega) hg5 (ltl hdl hb1'.size) (.inr rfl))).trans ((hb1'.cell (p:=⟨d,3,none⟩) hdl).trans c3);have df:∀ o,W5.frozen? ⟨d,o,none⟩=false:=fun o=>(World.frozen?_of_block (a:=⟨d,o,none⟩) ((hQ.call hb1').app_blk (f:=3) (by omega) (by omega) hg5 (ltl hdl hb1'.size) (.inr rfl))).trans ((hQ.call hb1').cells.2.2.2.2 o)
     have Hm:Hid (ExMid w k0 d V (L+1) os (rs++[row]) (bs++[most]) (W5.setCell ⟨d,3,none⟩ v')/\∀ x,x<wp.heap.size->¬ G x->(W5.setCell ⟨d,3,none⟩ v').heap[x]?=wp.heap[x]?):=by
      obtain ⟨l1,l2,l3,e1,e2,e3⟩:=HE.out;exact zOa l1 l2 l3 hQ e1 e2 e3 hb1' (x:=zq) Hnew.out hown5 hg5 hat5
     have hRG:¬ G (w+1):=fun hg=>by have:=(hQ.gin _ hg).1; omega
     have sR:w+1<(wp:Nat):=zAb bR.1;obtain ⟨g5,c5,rfl⟩:=ownsRow_succ hown5;simp only [Act.put,zz];refine hK.out _ _ (fun h=>absurd h (by decide)) ?_;clear hK K hown hown5 hg5 hat5 hnil5 hS0 hS1 hQ HE Hnew t0 t1 t2 t3 t4 c0 c1 c2 c3 cf hb1';refine tk1 7 ?_;intro K hK;go_simp;refine hK.out _ _ (fun h=>absurd h (by decide)) ?_;clear hK K;refine tk1 8 ?_;intro K hK;go_simp;refine hK.out _ _ (fun h=>absurd h (by decide)) ?_;clear hK K d1 df;refine zAf (by kernel_rfl) ?_ _;generalize W5.setCell ⟨d,3,none⟩ (.slice (some g5) (bs.length+1) c5)=wz at *;replace bR:=bR.heap (Hm.out.2 _ sR hRG);have Hfin:Hid (ExL2 w k0 d V (L+1) os rs bs row most (.int .i64 1) wz):=⟨1,by omega,rfl,bR,hk,Hm.out.1⟩;clear Hm hRG hdl hbz hdr sR hgl hCB;go_wp2;go_roundw;case rel=>exact fn_ Hfin.out
     case measure=>simp [intOf]
    ·skip
     obtain ⟨⟨z,⟨xA,xn,xc⟩,⟨yA,yn,yc⟩,⟨uA,un,uc⟩⟩,hz,bQ,hq,n1,n2,n3,hbW,hdW,hkd⟩:=zOc hM;dsimp only at hz n1 n2 n3;subst hz;obtain ⟨q0,q1,q2,q3,-⟩:=id bQ;obtain ⟨r0,r1,r2,r3,rf⟩:=id bR;dsimp only at q0 q1 q2 q3;have sR:w+1<(wr:Nat):=zAb bR.1;clear hM n1 n2 n3;have hne:¬ (d=w.heap.size+1):=(by omega);have P8:=Put.four (W:=wr) (w+1) (.int .i64 V) (.slice xA xn xc) (.slice yA yn yc) (.slice uA un uc);have bR8:=bR.stored (.int .i64 V) (.slice xA xn xc) (.slice yA yn yc) (.slice uA un uc);have HQ:=hdq hq;clear hq;go_wp2;generalize (((wr.setCell ⟨w+1,0,none⟩ (.int .i64 V)).setCell ⟨w+1,1,none⟩ (.slice xA xn xc)).setCell ⟨w+1,2,none⟩ (.slice yA yn yc)).setCell ⟨w+1,3,none⟩ (.slice uA un uc)=y8 at *;clear r0 r1 r2 r3 rf;obtain ⟨r0,r1,r2,r3,-⟩:=id bR8;refine bodyPost_ret (v:=.tuple #[.agg #[.int .i64 V,.slice xA xn xc,.slice yA yn yc,.slice uA un uc],.int .i64 0]) (by simp [results,Tryz.results77,go_sem,r0,r1,r2,r3]) rfl ⟨⟨⟨V,⟨xA,xn,xc⟩,⟨yA,yn,yc⟩,⟨uA,un,uc⟩⟩,rfl,rfl,?_⟩,hbW.trans (P8.below _ (by omega))⟩;have hc:∀ a:Addr,k0<=a.block->y8.cell? a=wr.cell? a:=(fun a ha=>cob (P8.keep _ (by omega)));have hv:∀ {s:SV} {l:List Rat},VecIs wr (fun b=>k0<=b) (fun b=>k0<=b) (L+1) s l->VecIs y8 (fun b=>k0<=b) (fun b=>k0<=b) (L+1) s l:=(fun h=>h.keep (fun a ha _=>hc a ha) fun v q hq=>hq.keep fun a ha _=>hc a ha);have h1:LPIs y8 (fun b=>k0<=b) (fun b=>k0<=b) (L+1) ⟨V,⟨xA,xn,xc⟩,⟨yA,yn,yc⟩,⟨uA,un,uc⟩⟩ os (rs++[row]) (bs++[most]):=⟨HQ.out.obj.keep (fun a ha _=>hc a ha) fun v q hq=>hq.keep fun a ha _=>hc a ha,HQ.out.rows.keep (fun a ha _=>hc a ha) fun v q hq=>hq.keep fun a ha _=>hc a ha,hv HQ.out.bounds⟩;exact ⟨h1.obj.imp (fun b _ hb=>by omega) fun _ _ hq=>hq.imp fun b _ hb=>by omega,h1.rows.imp (fun b _ hb=>by omega) fun _ _ hq=>hq.imp fun b _ hb=>by omega,h1.bounds.imp (fun b _ hb=>by omega) fun _ _ hq=>hq.imp fun b _ hb=>by omega⟩
theorem LPIs.put {q:LPV} (h:LPIs w (fun x=>B<=x) (fun x=>B<=x) L q os rs bs) (hP:Put w w' b) (hb:b<B):LPIs w' (fun x=>B<=x) (fun x=>B<=x) L q os rs bs:=
 have hc:∀ a:Addr,B<=a.block->w'.cell? a=w.cell? a:=fun a ha=>cob (hP.keep _ (by omega))
 ⟨h.obj.keep (fun a ha _=>hc a ha) fun v q hq=>hq.keep fun a ha _=>hc a ha,h.rows.keep (fun a ha _=>hc a ha) fun v q hq=>hq.keep fun a ha _=>hc a ha,h.bounds.keep (fun a ha _=>hc a ha) fun v q hq=>hq.keep fun a ha _=>hc a ha⟩
theorem zNp {Z':Nat->Prop} {r:SV} {mv:QV} {row:List Rat} {most:Rat} (h:LPIs w X Y L p os rs bs) (hV:p.n=V) (hV2:V<=64) (ho1:1<=p.O.n) (ho2:p.O.n<=4) (hr:p.R.n<=127) (hb:p.B.n=p.R.n) (hco:colsOf os<=V) (hcr:colsOf rs<=V) (hL:L+1<=LM)
  (hrow:VecIs w X' Y' L r row) (hmost:QIs w Z' L mv most) (hrn:r.n<=V) :
  Calls Tryz.prog 29 #[p.val,r.val,mv.val] w fun e w'=>LPRet w p.n (L+1) os (rs++[row]) (bs++[most]) e w'/\Below w w w':=by
 obtain ⟨z,⟨oA,on,oc⟩,⟨rA,rn,rc⟩,⟨bA,bn,bc⟩⟩:=p;obtain ⟨qA,qn,qc⟩:=r;dsimp only at hV hr hb ho1 ho2 hrn;subst hV;obtain rfl:rn=bn:=hb.symm;have H:=hdq h;have HRow:=hdq hrow;have HMost:=hdq hmost;have HCo:=hdq hco;have HCr:=hdq hcr;have HL:=hdq hL;clear h hrow hmost hco hcr hL;dsimp only [LPV.val,SV.val] at *;go_enter Tryz.func29,Tryz.ntmps29
 go_upto_region 1 with fail
 refine zAo (fun W=>Below w w W/\Box4 W w (.int .i64 V) (.slice oA on oc) (.slice rA rn rc) (.slice bA rn bc)/\Box4 W (w+1) (.bool mv.num.ng) (.slice mv.num.A mv.num.n mv.num.c) (.bool mv.den.ng) (.slice mv.den.A mv.den.n mv.den.c)/\Box4 W (w+1+1) (.int .i64 0) (.slice none 0 0) (.slice none 0 0) (.slice none 0 0)/\w<(W:Nat)/\w+1<(W:Nat)/\w+1+1<(W:Nat)) ⟨(az (az (az (brf _ _)))),bx4,bx4,bx4,by simp <;> omega,by simp <;> omega,by simp <;> omega⟩ ?_;rintro W ⟨hbW,bP,bM,bR,s0,s1,s2⟩;have hBW:=hbW.size;have ne02:¬ (w=(w+1+1:Nat)):=by omega
 obtain ⟨p0,p1,p2,p3,-⟩:=id bP;obtain ⟨m0,m1,m2,m3,-⟩:=id bM;go_wp2_with fail
 have al:Below W W (W.alloc (.cells #[.slice qA qn qc,.bool mv.num.ng,.slice mv.num.A mv.num.n mv.num.c,.bool mv.den.ng,.slice mv.den.A mv.den.n mv.den.c] 120)):=bal;have hbW2:=hbW.trans (al.mono hbW.size);refine (zNE (p:=⟨V,⟨oA,on,oc⟩,⟨rA,rn,rc⟩,⟨bA,rn,bc⟩⟩) (r:=⟨qA,qn,qc⟩) (mv:=mv) (b:=W) (H.out.below hbW2) rfl hV2 ho1 ho2 hr rfl HCo.out HCr.out HL.out (HRow.out.below hbW2) (HMost.out.below hbW2) hrn (zAd _ _ rfl)).mono ?_;rintro e w1 ⟨⟨⟨z,⟨xA,xn,xc⟩,⟨yA,yn,yc⟩,⟨uA,un,uc⟩⟩,rfl,hz,hq⟩,hb1⟩;dsimp only at hz;subst hz;have hb1':=al.trans (hb1.mono al.size);replace bR:=bR.below hb1' (by omega);have hbw1:=hbW.trans (hb1'.mono hbW.size);obtain ⟨r0,r1,r2,r3,rf⟩:=id bR;have sR:w+1+1<(w1:Nat):=zAb r0;have P8:=Put.four (W:=w1) (w+1+1) (.int .i64 V) (.slice xA xn xc) (.slice yA yn yc) (.slice uA un uc);have bR8:=bR.stored (.int .i64 V) (.slice xA xn xc) (.slice yA yn yc) (.slice uA un uc);have HQ:=hdq hq;clear hq m0 m1 m2 m3 p0 p1 p2 p3;go_wp2;generalize (((w1.setCell ⟨w+1+1,0,none⟩ (.int .i64 V)).setCell ⟨w+1+1,1,none⟩ (.slice xA xn xc)).setCell ⟨w+1+1,2,none⟩ (.slice yA yn yc)).setCell ⟨w+1+1,3,none⟩ (.slice uA un uc)=y8 at *;clear r0 r1 r2 r3 rf;obtain ⟨r0,r1,r2,r3,-⟩:=id bR8;refine bodyPost_ret (v:=.tuple #[.agg #[.int .i64 V,.slice xA xn xc,.slice yA yn yc,.slice uA un uc],.int .i64 0]) (by simp [results,Tryz.results29,go_sem,r0,r1,r2,r3]) rfl ⟨⟨⟨V,⟨xA,xn,xc⟩,⟨yA,yn,yc⟩,⟨uA,un,uc⟩⟩,rfl,rfl,?_⟩,hbw1.trans (P8.below _ (by omega))⟩;have hals:=al.size;have h1:=HQ.out.put P8 (by omega);exact ⟨h1.obj.imp (fun b _ hb=>by omega) fun _ _ hq=>hq.imp fun b _ hb=>by omega,h1.rows.imp (fun b _ hb=>by omega) fun _ _ hq=>hq.imp fun b _ hb=>by omega,h1.bounds.imp (fun b _ hb=>by omega) fun _ _ hq=>hq.imp fun b _ hb=>by omega⟩
open Go.RowKit Go.Shelf Lin
theorem zGW {r x:List Rat} (hr:r.length<=V) (hx:x.length=V):dotL r x=sum V fun k=>r.getD k 0*x.getD k 0:=by
 unfold dotL;rw [hx,Nat.min_eq_left hr]
 have h:∀ d,sum (r.length+d) (fun k=>r.getD k 0*x.getD k 0)=sum r.length fun k=>r.getD k 0*x.getD k 0:=fun d=>by
  induction d with
  | zero=>rfl
  | succ d ih=>
   show sum (r.length+d) _+r.getD (r.length+d) 0*x.getD (r.length+d) 0=_;rw [ih,zAw r _ _ (by omega)]; grind
 rw [<-h (V-r.length),show r.length+(V-r.length)=V by omega]
section
variable {V:Nat} {os rs:List (List Rat)} {bs row:List Rat} {most:Rat}
theorem zQg {r:RV} (h:Solved w P r w') (hk:r.kind=1) (h1:1<=k) (h0:P.start.Fits P k) (hN:5 ^ P.n*k<=N) (hN2:N<32*6000):∃ l:List Rat,l.length=P.n/\(∀ i,Lin.Fits N (l.getD i 0))/\VecIs w' AllB AllB 6000 r.X l/\P.Optimal fun k=>l.getD k 0:=by
 have hh:=h;rcases h with ⟨_,D,l,hg,hf,hc,hl,hopt,hx,_⟩ | ⟨hk',_⟩ | ⟨hk',_⟩
 ·have hF:∀ i,Lin.Fits N (l.getD i 0):=fun i=>(zP9 hh hk h1 h0 hl hopt i).mono hN
  exact ⟨l,hl,hF,(hx.loose fun i=>zBn (hF i) hN2).imp (fun _ _ _=>trivial) fun _ _ hq=>hq.imp fun _ _ _=>trivial,hopt⟩
 ·rw [hk] at hk'; cases hk'
 ·rw [hk] at hk'; cases hk'
end
theorem zKo {l:List Rat} (h:w.heap[b]?=some (.cells #[s.val] 24 (0,0))) (hv:VecAt w AllB (QAny w AllB) s l):MatAt w AllB (QAny w AllB) ⟨some ⟨b,0,none⟩,1,1⟩ [l]:=
 ⟨rfl,nlr _,by show 1<=_; omega,fun k hk=>by
  obtain rfl:k=0:=by have:k<1:=hk; omega
  exact ⟨⟨b,0,none⟩,s,rfl,trivial,by simp [Addr.add,World.cell?,h],hv⟩⟩
theorem zJ6 {u:QV} {x:Rat} (h:w.heap[b]?=some (.cells #[.bool u.num.ng,.slice u.num.A u.num.n u.num.c,.bool u.den.ng,.slice u.den.A u.den.n u.den.c] 37 (0,0))) (hx:QAny w AllB u x):VecAt w AllB (QAny w AllB) ⟨some ⟨b,0,none⟩,1,1⟩ [x]:=
 ⟨rfl,nlr _,by show 1<=_; omega,fun k hk=>by
  obtain rfl:k=0:=by have:k<1:=hk; omega
  exact ⟨⟨b,0,none⟩,u,rfl,trivial,by simp [QCell,Addr.add,World.cell?,h],hx⟩⟩
theorem zKB {l:List Rat} (h:VecAt w AllB (QAny w AllB) s l) (hb:Below w w W):VecAt W AllB (QAny W AllB) s l:=h.keep (fun _ _ hl=>hb.cell hl) fun _ _ hq=>hq.below hb
theorem zKm {l:List Rat} (hh:VecAt w AllB (QAny w AllB) s l) (hb:Below w w W) (h:W.heap[b]?=some (.cells #[s.val] 24 (0,0))) (hv:MatIs W AllB AllB 6 ⟨some ⟨b,0,none⟩,1,1⟩ [l]):VecIs w AllB AllB 6 s l:=by
 obtain ⟨ad,r,e,-,hc,hr⟩:=hv.row 0 (by show 0<1; omega);cases e;have e1:W.cell? (Addr.add ⟨b,0,none⟩ 0)=some s.val:=by simp [Addr.add,World.cell?,h]
 rw [e1] at hc;obtain ⟨A,n,c⟩:=s;obtain ⟨A',n',c'⟩:=r;simp only [SV.val,Option.some.injEq,Value.slice.injEq] at hc;obtain ⟨rfl,rfl,rfl⟩:=hc;exact hh.back hb hr
theorem zJ3 {u:QV} {x:Rat} (hh:QAny w AllB u x) (h:W.heap[b]?=some (.cells #[.bool u.num.ng,.slice u.num.A u.num.n u.num.c,.bool u.den.ng,.slice u.den.A u.den.n u.den.c] 37 (0,0))) (hv:VecIs W AllB AllB 6 ⟨some ⟨b,0,none⟩,1,1⟩ [x]):QIs w AllB 6 u x:=by
 obtain ⟨ad,u',e,-,hc,hq⟩:=hv.elem 0 (by show 0<1; omega);cases e;have e1:QCell W (Addr.add ⟨b,0,none⟩ (0*4)) u:=by simp [QCell,Addr.add,World.cell?,h]
 obtain rfl:=zDc hc e1;exact hh.qis hq.sizes.1 hq.sizes.2
theorem zNI {row:List Rat} (h:colsOf rs<=V) (hr:row.length<=V):colsOf (rs++[row])<=V:=
 zAU.2 fun l hl=>by
  rcases List.mem_append.1 hl with hl | hl
  ·exact zAU.1 h l hl
  ·rw [List.mem_singleton.1 hl]; exact hr
theorem zNr (l:List Rat) (n:Nat):(resize l n).length=n:=by simp [resize]
theorem zNC {l:List Rat} (h:∀ k,QFit (L+1) (l.getD k 0)) (n k:Nat):QFit (L+1) ((resize l n).getD k 0):=by
 by_cases hk:k<n
 ·rw [resize,zA6 _ _ _ _ hk]; exact h k
 ·rw [zAw _ _ _ (by rw [zNr]; omega)]; exact QFit.zero L
theorem LPIs.more (h:LPIs w X Y L p os rs bs) (hL:L<=M):LPIs w X Y M p os rs bs:=
 ⟨h.obj.imp (fun _ _ h=>h) fun _ _ hq=>hq.mono hL,h.rows.imp (fun _ _ h=>h) fun _ _ hq=>hq.mono hL,h.bounds.imp (fun _ _ h=>h) fun _ _ hq=>hq.mono hL⟩
theorem VecAt.allB {l:List Rat} (h:VecIs w X Y L s l):VecIs w AllB AllB L s l:=h.imp (fun _ _ _=>trivial) fun _ _ hq=>hq.imp fun _ _ _=>trivial
theorem zNo (ha:VecIs w X Y L sa la) (hb:VecIs w X' Y' M sb lb) (hL:L<=LM) (hM:M<=LM) (hla:la.length=V) (hlb:lb.length=V) (hV:V<=1000000) (hkb:1000000*(kb+1)<32*LM) (hf:∀ i,Lin.Fits kb (la.getD i 0*lb.getD i 0)) :
  Calls Tryz.prog 31 #[sa.val,sb.val] w fun e w'=>(∃ v:QV,e = .returned v.val/\QIs w' AllB LM v (Lin.sum V fun i=>la.getD i 0*lb.getD i 0))/\Below w w w':=by
 have e1:sa.n=V:=by rw [<-hla]; exact ha.len.symm
 have e2:sb.n=V:=by rw [<-hlb]; exact hb.len.symm
 refine (zEb ha hb hL hM (by omega) hkb hf).mono ?_;rintro e w' ⟨⟨v,rfl,hv⟩,hb'⟩;rw [e1,e2,Nat.min_self] at hv;refine ⟨⟨v,rfl,(hv.qis ?_).any⟩,hb'⟩;rw [<-zDt];exact zBn (zFR hf _) (Nat.lt_of_le_of_lt (Nat.mul_le_mul_right _ (by rw [List.length_range]; omega)) hkb)
theorem zNn {a b:QV} {p:Rat} (o:Int) (ha:QIs w X L a p) (hb:QIs w Y M b q) (hL:L<=LM) (hM:M<=LM) (ho:qcmp p q=o) :
  Calls Tryz.prog 30 #[a.val,b.val] w fun e w'=>e = .returned (.int .i64 o)/\Below w w w':=by
 subst ho; exact zBg ha hb hL hM
attribute [local go_sem] Oper.semAt_some
theorem zGJ (n:Nat) (hn:n<=1000000) (w:World) :
  (Instr.makeSlice 24 (.int .i64 0) (.int .i64 (n:Int))).run Tryz.prog w = .ok (.slice (some w) 0 n) (w.alloc (.cells (zeroQ n) 37)):=by
 obtain ⟨i0,hi,hz0,hz1,hz2⟩:=info_parts zEv;have hr:=run_make (P:=Tryz.prog) w 24 37 i0 (.agg #[.bool false,.slice none 0 0,.bool false,.slice none 0 0]) Tryz.underlying24 hi hz0 .i64 .i64 0 n (by omega) (by omega) (by rw [hz2]; omega) (by omega);rw [hz1] at hr;simpa [zeroQ,Value.cells] using hr
structure CbS (w:World) (fv:Value) (g:Nat->Rat) (pre:List Nat) (v:Value) (G:Nat->Prop) (s:List QV) (W:World):Prop where
 len:s.length=pre.length
 box:Boxed W (w+1+1) 24 v
 fnb:Boxed W w 65 fv
 own:W.ownsRow (w+1) 37 4 v pre.length (s.flatMap cells4q)
 row:∀ j,v.ownBlock=some j->G j
 gb:G (w+1+1)
 gin:∀ x,G x->(x=w.heap.size+1\/x=w.heap.size+1+1\/w.heap.size+5<=x)/\x<W.heap.size
 elem:∀ k,k<pre.length->QCan W (fun b=>¬ G b/\w.heap.size<=b) (s.getD k QV.zero) (g (pre.getD k 0))
 four:w+4<(W:Nat)
 car:Carry (fun y=>y<=w.heap.size\/y=w.heap.size+3\/y=w.heap.size+4) w W
def CInv (w:World) (fv:Value) (g:Nat->Rat) (pre:List Nat) (W:World):Prop:=∃ v G s,CbS w fv g pre v G s W
theorem CInv.own {fv:Value} {g:Nat->Rat}:Own (CInv w fv g):=fun _ W W' _ hs hg hr=>by
 obtain ⟨v,G,s,h⟩:=hs;exact ⟨v,G,s,h.len,zAi hg hr h.box,zAi hg hr h.fnb,zEp hg hr h.own,h.row,h.gb,fun x hx=>⟨(h.gin x hx).1,ltl (h.gin x hx).2 hg.size⟩,fun k hk=>(h.elem k hk).carry (Carry.grown hg hr),ltl h.four hg.size,h.car.trans (Carry.grown hg hr)⟩
theorem CbS.step {fv:Value} {g:Nat->Rat} {pre:List Nat} {s:List QV} {zq:QV} {o:Obj} (h:CbS w fv g pre v G s W) (hb:Below W W W1) (hz:QCan W1 (New W) zq (g x))
  (hown:W2.ownsRow (w+1) 37 4 v' (pre.length+1) (s.flatMap cells4q++cells4q zq)) (hg:(W1.alloc o).grownBy W2 v.ownBlock) (hat:v'.ownBlock=v.ownBlock\/v'.ownBlock=some (W1.alloc o).heap.size) :
  CInv w fv g (pre++[x]) (W2.setCell ⟨w+1+1,0,none⟩ v')/\Carry (fun y=>y<=w.heap.size\/y=w.heap.size+3\/y=w.heap.size+4) W (W2.setCell ⟨w+1+1,0,none⟩ v')/\
   (∀ (k:Nat) (o:Obj),W.heap[k]?=some o->o.isCells=false->(W2.setCell ⟨w+1+1,0,none⟩ v').heap[k]?=some o)/\W.heap.size<=(W2.setCell ⟨w+1+1,0,none⟩ v').heap.size/\Below w W (W2.setCell ⟨w+1+1,0,none⟩ v'):=by
 have hbl:=zAa h.box;have hsz:W1+1<=(W2:Nat):=by have:=hg.size; simpa using this
 have hs1:=hb.size;have hss:(W2.setCell ⟨w+1+1,0,none⟩ v').heap.size=W2.heap.size:=by simp [World.setCell]
 have hvl:∀ j,v.ownBlock=some j->w.heap.size+1<=j/\j<W.heap.size/\j ≠ w.heap.size+1+1/\G j:=fun j hj=>by
  obtain ⟨h1,cs,hh⟩:=zAc h.own hj;exact ⟨h1,zAa hh,zAy hh h.box (by decide),h.row j hj⟩
 have k1:∀ k,k<W1.heap.size->k ≠ w.heap.size+1+1->some k ≠ v.ownBlock->(W2.setCell ⟨w+1+1,0,none⟩ v').heap[k]?=W1.heap[k]?:=fun k hk h1 h2=>
  (bhs _ _ _ _ h1).trans ((hg.block k (by simp; omega) h2).trans (Below.heap_alloc _ _ _ hk))
 have keep:∀ k,k<W.heap.size->k ≠ w.heap.size+1+1->some k ≠ v.ownBlock->(W2.setCell ⟨w+1+1,0,none⟩ v').heap[k]?=W.heap[k]?:=fun k hk h1 h2=>(k1 k (by omega) h1 h2).trans (hb.block k hk)
 have keepG:∀ k,k<W.heap.size->¬ G k->(W2.setCell ⟨w+1+1,0,none⟩ v').heap[k]?=W.heap[k]?:=fun k hk hn=>keep k hk (fun e=>hn (by rw [e]; exact h.gb)) fun e=>hn (h.row k e.symm)
 have hv':∀ j,v'.ownBlock=some j->w.heap.size+1<=j/\j<W2.heap.size/\j ≠ w.heap.size+1+1/\(G j\/j=W1.heap.size+1):=fun j hj=>by
  obtain ⟨h1,cs,hh⟩:=zAc hown hj;refine ⟨h1,zAa hh,?_⟩;rcases hat with e | e
  ·have:=hvl j (e.symm.trans hj); exact ⟨this.2.2.1,.inl this.2.2.2⟩
  ·rw [e] at hj; cases hj; exact ⟨by simp; omega,.inr (by simp)⟩
 have carX:Carry (fun y=>y<=w.heap.size\/y=w.heap.size+3\/y=w.heap.size+4) W (W2.setCell ⟨w+1+1,0,none⟩ v'):=⟨by omega,fun k cs t f hx hk=>(keepG k (zAa hk) fun hgk=>by have:=(h.gin k hgk).1; omega).trans hk⟩;refine ⟨⟨v',fun y=>G y\/v'.ownBlock=some y,s++[zq],?_,?_,?_,?_,fun j hj=>.inr hj,.inl h.gb,?_,?_,by have:=h.four; omega,h.car.trans carX⟩,carX,fun k o hk ho=>?_,by omega,?_⟩
 ·rw [List.length_append,List.length_append,h.len]; rfl
 ·have hB:Boxed W2 (w+1+1) 24 v:=(hg.block _ (by simp; omega) (fun e=>(hvl _ e.symm).2.2.1 rfl)).trans ((Below.heap_alloc _ _ _ (by omega)).trans ((hb.block _ hbl).trans h.box));exact Boxed.set v' hB
 ·exact (keepG _ (zAa h.fnb) fun hgk=>by have:=(h.gin _ hgk).1; omega).trans h.fnb
 ·rw [List.length_append,List.flatMap_append];refine zAr (v:=v') (n:=pre.length+1) ?_ fun j hj=>bhs _ _ _ _ (hv' j hj).2.2.1
  simpa using hown
 ·intro y hy;rcases hy with hy | hy
  ·have:=h.gin y hy; omega
  ·have:=hv' y hy;rcases this.2.2.2 with hg' | e
   ·have:=h.gin y hg'; omega
   ·have:=(h.gin _ h.gb).2;have h4:=h.car.size;refine ⟨.inr (.inr ?_),by omega⟩;have h5:w+4<(W:Nat):=h.four;omega
 ·intro k hk;rw [List.length_append] at hk;have hk':k<pre.length+1:=hk
  have e1:(pre++[x]).getD k 0=if k<pre.length then pre.getD k 0 else x:=by
   by_cases hkl:k<pre.length
   ·rw [if_pos hkl,zAE _ _ _ hkl]
   ·rw [if_neg hkl,show k=pre.length by omega]; simp
  have e2:(s++[zq]).getD k QV.zero=if k<pre.length then s.getD k QV.zero else zq:=by
   rw [<-h.len];by_cases hkl:k<s.length
   ·rw [if_pos hkl,zAE _ _ _ hkl]
   ·rw [if_neg hkl,show k=s.length by rw [h.len]; rw [h.len] at hkl; omega]; simp
  rw [e1,e2];by_cases hkl:k<pre.length
  ·rw [if_pos hkl,if_pos hkl];have q1:=(h.elem k hkl).imp (Y:=fun b=>(¬ G b/\¬ v'.ownBlock=some b)/\w.heap.size<=b) fun b hb' hx=>⟨⟨hx.1,fun e=>(hv' b e).2.2.2.elim hx.1 fun h'=>by omega⟩,hx.2⟩
   exact (q1.keep fun a hx hl=>cob (keepG _ hl hx.1.1)).imp fun b _ hx=>⟨fun hg'=>hg'.elim hx.1.1 hx.1.2,hx.2⟩
  ·rw [if_neg hkl,if_neg hkl];have q1:=hz.imp (Y:=fun b=>W.heap.size<=b/\b<W1.heap.size) fun b hb' hx=>⟨hx,hb'⟩
   (refine (q1.keep fun a hx hl=>cob (k1 _ hx.2 (by omega) fun e=>by have:=(hvl _ e.symm).2.1; omega)).imp fun b _ hx=>⟨fun hg'=>?_,by have:=h.car.size; omega⟩);rcases hg' with hg' | hg'
   ·have:=(h.gin b hg').2; omega
   ·rcases (hv' b hg').2.2.2 with h' | h'
    ·have:=(h.gin b h').2; omega
    ·omega
 ·refine (keep k (zAa hk) (fun e=>?_) fun e=>?_).trans hk
  ·rw [e,show W.heap[w.heap.size+1+1]?=_ from h.box] at hk; cases hk; cases ho
  ·obtain ⟨_,cs,hh⟩:=zAc h.own e.symm;rw [hh] at hk; cases hk; cases ho
 ·have hG1:Below w W W1:=hb.mono h.car.size;have h3:Below w (W1.alloc o) W2:=(brf _ _).grown hg (by have:=h.car.size; simp; omega) (fun j hj=>by have:=(hvl j hj).1; omega);exact ((hG1.alloc (by have:=h.car.size; omega) _).trans h3).setCell (p:=⟨w+1+1,0,none⟩) (by show w<=(w+1+1:Nat); omega) _
theorem VecAt.keep' {l:List Rat} (h:VecCan W X Y s l) (hk:Carry (fun _=>True) W W'):VecCan W' X Y s l:=
 ⟨h.len,h.le,h.cap,fun k hkn=>by
  obtain ⟨ad,v,e,hx,hc,hq⟩:=h.elem k hkn;exact ⟨ad,v,e,hx,hc.carry (X:=fun _=>True) hk trivial,hq.carry (hk.mono fun _ _=>trivial)⟩⟩
theorem zFr {qs:List QV} {l:List Rat} (h:W.ownsRow base 37 4 v n (qs.flatMap cells4q)) (hl:qs.length=n) (hm:l.length=n) (he:∀ k,k<n->QCan W X (qs.getD k ⟨⟨false,none,0,0⟩,⟨false,none,0,0⟩⟩) (l.getD k 0)) :
  ∃ s:SV,v=s.val/\s.n=n/\VecCan W (fun b=>base<=b) X s l:=by
 rcases h.2 with ⟨rfl,rfl⟩ | ⟨g,cap,cur,rfl,hbg,hh,hnc,hcap,hcur,ht⟩
 ·exact ⟨⟨none,0,0⟩,rfl,rfl,hm,nlr _,nzl _,fun k hk=>absurd hk (Nat.not_lt_zero k)⟩
 ·refine ⟨⟨some ⟨g,0,none⟩,n,cap⟩,rfl,rfl,hm,hnc,(by show cap<=_; exact nlt ‹_› (show maxLen<=9223372036854775807 by decide)),fun k hk=>⟨⟨g,0,none⟩,qs.getD k ⟨⟨false,none,0,0⟩,⟨false,none,0,0⟩⟩,rfl,hbg,?_,he k hk⟩⟩;have hk':k<n:=hk
  have ec:∀ o,o<4->W.cell? ⟨g,k*4+o,none⟩=(cells4q (qs.getD k ⟨⟨false,none,0,0⟩,⟨false,none,0,0⟩⟩))[o]?:=fun o ho=>by
   have e2:(cur.toList.take (n*4))[k*4+o]?=(qs.flatMap cells4q)[k*4+o]?:=(by rw [ht]);rw [List.getElem?_take_of_lt (by omega),zCy qs k o (by omega) ho ⟨⟨false,none,0,0⟩,⟨false,none,0,0⟩⟩] at e2;simp only [World.cell?,hh];simpa using e2
  rw [zA4,Nat.zero_add];exact ⟨ec 0 (by omega),ec 1 (by omega),ec 2 (by omega),ec 3 (by omega)⟩
def CbRet (w:World) (l:List Rat) (e:Ending) (w':World):Prop:=
 ∃ s:SV,e = .returned s.val/\VecCan w' (New w) (New w) s l/\(0<l.length->∃ b c,s=⟨some ⟨b,0,none⟩,l.length,c⟩/\l.length<=c/\c<=9223372036854775807/\w.heap.size<=b/\RowP w' (fun x=>x<w.heap.size\/x=b) b l)
theorem RowP.carry {l:List Rat} (h:RowP w G b l) (hc:Carry (fun _=>True) w w'):RowP w' G b l:=by
 obtain ⟨cs,e,hs⟩:=h.blk;have e':=hc.blk _ _ _ _ trivial e
 exact ⟨h.mem,⟨cs,e',hs⟩,fun k hk=>by
  obtain ⟨v,h1,h2⟩:=h.elem k hk;refine ⟨v,h1.keep (fun a ha _=>cob (by rw [ha]; exact e'.trans e.symm)),(h2.carry (hc.mono fun _ _=>trivial))⟩⟩
theorem zMV {qs:List QV} {l:List Rat} (h:W.ownsRow base 37 4 v n (qs.flatMap cells4q)) (hl:qs.length=n) (hm:l.length=n) (hrow:∀ j,v.ownBlock=some j->G j) (he:∀ k,k<n->QCan W (fun b=>¬ G b/\B<=b) (qs.getD k ⟨⟨false,none,0,0⟩,⟨false,none,0,0⟩⟩) (l.getD k 0)) :
  ∃ s:SV,v=s.val/\s.n=n/\VecCan W (fun b=>base<=b) (fun b=>¬ G b/\B<=b) s l/\(0<l.length->∃ b c,s=⟨some ⟨b,0,none⟩,l.length,c⟩/\l.length<=c/\c<=9223372036854775807/\base<=b/\RowP W (fun x=>x<B\/x=b) b l):=by
 obtain ⟨s,e1,e2,e3⟩:=zFr h hl hm he;refine ⟨s,e1,e2,e3,fun hp=>?_⟩;rcases h.2 with ⟨_,h0⟩ | ⟨g,cap,cur,rfl,hbg,hh,hnc,hcap,hcur,ht⟩
 ·omega
 ·obtain ⟨A,sn,sc⟩:=s;dsimp only [SV.val] at e1 e2;simp only [Value.slice.injEq] at e1;obtain ⟨rfl,rfl,rfl⟩:=e1;have hG:G g:=hrow g rfl;refine ⟨g,cap,by rw [hm],by omega,nlt hcap (by decide),hbg,.inr rfl,⟨cur,hh,by rw [hm,hcur]; omega⟩,fun k hk=>⟨qs.getD k ⟨⟨false,none,0,0⟩,⟨false,none,0,0⟩⟩,?_,(he k (by omega)).imp fun b _ hb e=>e.elim (fun h=>by have:=hb.2; omega) fun e=>hb.1 (e ▸ hG)⟩⟩
  have ec:∀ o,o<4->W.cell? ⟨g,k*4+o,none⟩=(cells4q (qs.getD k ⟨⟨false,none,0,0⟩,⟨false,none,0,0⟩⟩))[o]?:=fun o ho=>by
   have e2:(cur.toList.take (n*4))[k*4+o]?=(qs.flatMap cells4q)[k*4+o]?:=(by rw [ht]);rw [List.getElem?_take_of_lt (by omega),zCy qs k o (by omega) ho ⟨⟨false,none,0,0⟩,⟨false,none,0,0⟩⟩] at e2;simp only [World.cell?,hh];simpa using e2
  exact ⟨ec 0 (by omega),ec 1 (by omega),ec 2 (by omega),ec 3 (by omega)⟩
theorem zLa {f:Nat} {caps:Array Value} {g:Nat->Rat} (ha:VecIs w X Y L sa la) (hb:VecIs w X' Y' M sb lb) (hna:sa.n<=1000000) (hnb:sb.n<=1000000) (hcall:∀ (args:Array Value) (w:World),Sem.run Tryz.prog (callFunc f args) w = .ok (.enter f args) w)
  (hA:∀ W x y i,Carry (fun b=>b<w.heap.size) w W->QIs W AllB L x (la.getD i 0)->QIs W AllB M y (lb.getD i 0)->Calls Tryz.prog f (#[x.val,y.val]++caps) W fun e w'=>QRet W (g i) e w'/\Below W W w') :
  Calls Tryz.prog 203 #[sa.val,sb.val,(.func (.func f) #[] caps)] w fun e w'=>CbRet w ((List.range (max sa.n sb.n)).map g) e w'/\Below w w w':=by
 refine (callsIn_wide (n:=6)).1 ?_;obtain ⟨iq0,hiq,hzq0,hzq1,hzq2⟩:=info_parts zEv;have h0a:QIs w (fun _=>True) L QV.zero 0:=⟨0,0,⟨[],WordsAt.nil _ _ _ _ (nzl _),nzl _,rfl⟩,⟨[],WordsAt.nil _ _ _ _ (nzl _),nzl _,rfl⟩,by simp [qv]⟩;have h0b:QIs w (fun _=>True) M QV.zero 0:=⟨0,0,⟨[],WordsAt.nil _ _ _ _ (nzl _),nzl _,rfl⟩,⟨[],WordsAt.nil _ _ _ _ (nzl _),nzl _,rfl⟩,by simp [qv]⟩;obtain ⟨va,hva,hqa⟩:=(ha.imp (X':=fun y=>y<w.heap.size) (R':=QIs w (fun _=>True) L) (fun b hb _=>hb) (fun _ _ h=>h.any)).elems h0a;obtain ⟨vb,hvb,hqb⟩:=(hb.imp (X':=fun y=>y<w.heap.size) (R':=QIs w (fun _=>True) M) (fun b hb _=>hb) (fun _ _ h=>h.any)).elems h0b;have HA:=hdq hva;have HB:=hdq hvb;have HQA:Hid (∀ i,QIs w (fun y=>y<w.heap.size) L (va i) (la.getD i 0)):=fun i=>(hqa i).imp fun b hb _=>hb
 have HQB:Hid (∀ i,QIs w (fun y=>y<w.heap.size) M (vb i) (lb.getD i 0)):=fun i=>(hqb i).imp fun b hb _=>hb
 have HF:=hdq hA;obtain ⟨A,la',ca⟩:=sa;obtain ⟨B,lb',cb⟩:=sb;have cpa:la'<=ca:=ha.le;have cpb:lb'<=cb:=hb.le;have cpa2:ca<=9223372036854775807:=ha.cap;have cpb2:cb<=9223372036854775807:=hb.cap;clear ha hb h0a h0b hva hvb hqa hqb hA;dsimp only [SV.val] at hna hnb ⊢;obtain ⟨N,hN⟩:∃ N,N=max la' lb':=⟨_,rfl⟩;rw [<-hN];have HN:=hdq hN;have hmax:max (la':Int) (lb':Int)=(N:Int):=by omega
 have hNl:N<=1000000:=by omega
 have hmk:=zGJ N hNl;clear hN;refine callsIn_of_wp_marks Tryz.func203 rfl trivial ?_ rfl;simp only [Tryz.ntmps203,List.size_toArray,List.length_cons,List.length_nil,Nat.reduceAdd,Nat.reduceSub,Array.replicate_succ,Array.replicate_zero,List.push_toArray,List.append_toArray,List.nil_append,List.cons_append];gi_wp2;refine ⟨trivial,?_⟩;refine (zFZ A B la' ca lb' cb).mono ?_;rintro e w2 ⟨rfl,rfl⟩;gi_wp2;clear hmk;obtain ⟨W0,hW0⟩:∃ W0,((((w.alloc (.cells #[(.func (.func f) #[] caps)] 65)).alloc (.cells (zeroQ N) 37)).alloc (.cells #[.slice (some ⟨w+1,0,none⟩) 0 N] 24)).alloc (.cells #[.slice A la' ca] 24)).alloc (.cells #[.slice B lb' cb] 24)=W0:=⟨_,rfl⟩;rw [hW0];have hk0:Below w w W0:=by rw [<-hW0]; exact (((((brf _ w).alloc (nlr _) _).alloc (by simp) _).alloc (by simp; omega) _).alloc (by simp; omega) _).alloc (by simp; omega) _
 have hs0:W0=(w+5:Nat):=by rw [<-hW0]; simp
 have x0:Boxed W0 w 65 (.func (.func f) #[] caps):=by rw [<-hW0]; exact alk (alk (alk (alk (zAd _ _ rfl))))
 have x1:W0.heap[w.heap.size+1]?=some (.cells (zeroQ N) 37 (0,0)):=by rw [<-hW0]; exact alk (alk (alk (zAd _ _ (by simp))))
 have x2:Boxed W0 (w+1+1) 24 (.slice (some ⟨w+1,0,none⟩) 0 N):=by rw [<-hW0]; exact alk (alk (zAd _ _ (by simp)))
 have x3:Boxed W0 (w+1+1+1) 24 (.slice A la' ca):=by rw [<-hW0]; exact alk (zAd _ _ (by simp))
 have x4:Boxed W0 (w+1+1+1+1) 24 (.slice B lb' cb):=by rw [<-hW0]; exact zAd _ _ (by simp)
 clear hW0
 have hC0:CbS w (.func (.func f) #[] caps) g [] (.slice (some ⟨w+1,0,none⟩) 0 N) (fun y=>y=w.heap.size+1\/y=w.heap.size+1+1) [] W0:=
  ⟨rfl,x2,x0,⟨rfl,.inr ⟨w.heap.size+1,N,zeroQ N,rfl,nlr _,x1,nzl _,by simp only [maxLen]; omega,by rw [zCG]; omega,rfl⟩⟩,fun j hj=>.inl (by simpa [Value.ownBlock] using hj.symm),.inr rfl,fun x hx=>by omega,fun k hk=>absurd hk (Nat.not_lt_zero _),by omega,Carry.of_below hk0⟩
 have HC0:=hdq hC0;clear hC0 x1
 refine wpIn_rangeFunc_ownH (F:=Fence.wide) rfl (by omega) (gf:=143) (lb:=#[.pointer (some ⟨w+1+1+1,0,none⟩),.pointer (some ⟨w+1+1+1+1,0,none⟩)]) rfl trivial (enters_of Tryz.func143 (by kernel_rfl) rfl)
  (zDL (X:=fun y=>y<=w.heap.size\/y=w.heap.size+3\/y=w.heap.size+4) (sa:=⟨A,la',ca⟩) (sb:=⟨B,lb',cb⟩) (va:=va) (vb:=vb) (N:=N) (by omega) x3 x4 (.inr (.inl rfl)) (.inr (.inr rfl))
   ((HA.out.carry (Carry.of_below hk0)).imp fun b hb=>.inl (by omega)) ((HB.out.carry (Carry.of_below hk0)).imp fun b hb=>.inl (by omega)) HN.out hNl)
  (fun h k=>h.trans k) (fun W l o o' _ hl ho _=>Carry.putObj o' hl ho) (brf _ _) (fun _=>rfl)
  (fun pre W=>CInv w (.func (.func f) #[] caps) g pre W/\Below w w W)
  (fun _ _ _=>False)
  (OwnFrom.and (Own.from CInv.own _) (ownFrom_below (nlr _) (by omega)))
  (fun _ _ _ _ _ hs _ _=>hs)
  ⟨⟨_,_,_,HC0.out⟩,hk0⟩
  (fun x a' W=>∃ d,a'={tmps:=#[.slice A la' ca,.slice B lb' cb,(.func (.func f) #[] caps),undef,undef,.pointer (some w),.slice none 0 0,.pointer (some ⟨w+1+1,0,none⟩),.pointer (some ⟨d,0,none⟩),.pointer (some ⟨d+1,0,none⟩),.slice A la' ca,.int .i64 la',.slice B lb' cb,.int .i64 lb',.int .i64 N,.slice (some ⟨w+1,0,none⟩) 0 N,.slice A la' ca,.slice B lb' cb,.func (.func 143) #[] #[.pointer (some ⟨w+1+1+1,0,none⟩),.pointer (some ⟨w+1+1+1+1,0,none⟩)],(va x).val,(vb x).val,undef,undef,undef,undef,undef,undef,undef,undef],defers:=[]}/\QBlk W d (va x)/\QBlk W (d+1) (vb x))
  (fun x a' _ W W' row hs hg hr=>?hAx) ?assign ?body ?done ?stop
 case hAx=>
  obtain ⟨d,e,g1,g2⟩:=hs;exact ⟨d,e,zAi hg (fun r e=>(hr r e).2) g1,zAi hg (fun r e=>(hr r e).2) g2⟩
 case stop=>
  rintro D c pre W _ _ h _;exact h.elim
 case assign=>
  intro l pre x W K hI hK;gi_wp2;have al:Below W W ((W.alloc (.cells #[.bool (va x).num.ng,.slice (va x).num.A (va x).num.n (va x).num.c,.bool (va x).den.ng,.slice (va x).den.A (va x).den.n (va x).den.c] 37)).alloc (.cells #[.bool (vb x).num.ng,.slice (vb x).num.A (vb x).num.n (vb x).num.c,.bool (vb x).den.ng,.slice (vb x).den.A (vb x).den.n (vb x).den.c] 37)):=(bal).alloc (by simp) _;obtain ⟨⟨v,G,s,h⟩,hB⟩:=hI;have hgb:W.grownBy ((W.alloc (.cells #[.bool (va x).num.ng,.slice (va x).num.A (va x).num.n (va x).num.c,.bool (va x).den.ng,.slice (va x).den.A (va x).den.n (va x).den.c] 37)).alloc (.cells #[.bool (vb x).num.ng,.slice (vb x).num.A (vb x).num.n (vb x).num.c,.bool (vb x).den.ng,.slice (vb x).den.A (vb x).den.n (vb x).den.c] 37)) none:=⟨al.os,al.tape,al.output,al.size,fun k hk _=>al.block k hk⟩;exact hK _ _ ⟨al.size,fun k o _ hk _=>(al.block k (zAa hk)).trans hk⟩ (Carry.of_below al) ⟨CInv.own _ _ _ _ ⟨v,G,s,h⟩ hgb (fun r e=>by cases e),hB.trans (al.mono hB.size)⟩ ⟨W.heap.size,rfl,alk (zAd _ _ rfl),zAd _ _ (by simp)⟩
 case body=>
  rintro l pre x a' W _ _ ⟨⟨v,G,s,h⟩,hB⟩ ⟨d,rfl,g1,g2⟩ hlt;have hqa:=((HQA.out x).carry (h.car.mono fun y hy=>.inl (by omega))).any;have hqb:=((HQB.out x).carry (h.car.mono fun y hy=>.inl (by omega))).any;obtain ⟨a0,a1,a2,a3,-⟩:=zAA g1;obtain ⟨b0,b1,b2,b3,-⟩:=zAA g2;have c4:=h.fnb.cell;have c2:=h.box.cell;have lb1:=zAa g1;have lb2:=zAa g2;have lb3:=zAa h.box;have lb4:=zAa h.fnb;have Hs:=hdq hs0;have HH:=hdq h;clear hs0 x0 x2 x3 x4 hk0 h HC0;have hBs:=hB.size;have hdr:Below W W W.drew:=(brf _ _).drew;gi_wp2;refine zBi 6 (fun f w'=>f=false->Sees w [] W w') (by kernel_rfl) (by kernel_rfl) (by rintro ⟨_,_,h⟩; exact h) ?_;have hS0:Sees w [] W W.drew:=Sees.st (by simp) hBs;refine tkW 0 (v) (fun w' hSw=>?_) (fun _=>hS0) ?_
  ·(replace hSw:=hSw rfl; go_simp; try with_reducible rfl)
  simp only [zz];refine tkV 1 4 ((.func (.func f) #[] caps)) (fun w' hSw=>?_) (fun _=>hS0) ?_
  ·(replace hSw:=hSw rfl; go_simp; try with_reducible rfl)
  simp only [zz];refine tkV 2 4 ((va x).val) (fun w' hSw=>?_) (fun _=>hS0) ?_
  ·(replace hSw:=hSw rfl; go_simp; try with_reducible rfl)
  simp only [zz];refine tkV 3 4 ((vb x).val) (fun w' hSw=>?_) (fun _=>hS0) ?_
  ·(replace hSw:=hSw rfl; go_simp; try with_reducible rfl)
  simp only [zz];refine tk1 4 ?_;intro K hK;go_simp;refine (HF.out W.drew (va x) (vb x) x ?cr (hqa.below hdr) (hqb.below hdr)).mono ?_;case cr=>exact ((HH.out.car.mono fun y hy=>.inl (by omega)).trans (Carry.of_below hdr))
  rintro e w1 ⟨⟨zq,rfl,hz⟩,hb1⟩;have hS1:=Kept.call2 hb1 hS0;have hb1':Below W W w1:=hdr.trans hb1;refine hK.out _ _ (fun _=>hS1) ?_;clear hK K a0 a1 a2 a3 b0 b1 b2 b3 c4 hqa hqb;refine tk1 5 ?_;intro K hK;go_simp;refine hK.out _ _ (fun _=>Sees.al hS1) ?_;clear hK K;have hown:=zAr HH.out.own fun j hj=>hb1'.block j (by obtain ⟨_,cs,hh⟩:=zAc HH.out.own hj; exact zAa hh)
  refine tk1 6 ?_;intro K hK;refine zAq _ _ 24 rfl (w+1) 37 iq0 (.agg #[.bool false,.slice none 0 0,.bool false,.slice none 0 0]) 4 64 Tryz.underlying24 hiq hzq0 hzq1 hzq2 rfl (by decide) v pre.length (s.flatMap cells4q) rfl (hown.alloc _) ⟨w1,0,none⟩ 1 1 (cells4q zq) rfl rfl (zA1 _ _) (by intro u hu; simp [cells4q] at hu; rcases hu with rfl | rfl | rfl | rfl <;> rfl) (by simp [maxLen]; omega) (by omega) (by have:=hb1'.size; simp; omega) ?_;intro v' W5 hown5 hg5 hnil5 hat5;have Hst:=hdq (HH.out.step hb1' hz hown5 hg5 hat5)
  have hlv:∀ j,v.ownBlock=some j->j ≠ w.heap.size+1+1:=fun j hj=>by
   obtain ⟨_,cs,hh⟩:=zAc HH.out.own hj;exact zAy hh HH.out.box (by decide)
  have d1:Boxed W5 (w+1+1) 24 v:=(hg5.block _ (by have:=hb1'.size; simp; omega) (fun e=>hlv _ e.symm rfl)).trans ((Below.heap_alloc _ _ _ (by have:=hb1'.size; omega)).trans ((hb1'.block _ lb3).trans HH.out.box));have d2:=d1.cell;have d3:=d1.frozen;obtain ⟨g5,c5,rfl⟩:=ownsRow_succ hown5;simp only [Act.put,zz];refine hK.out _ _ (fun h=>absurd h (by decide)) ?_;clear hK K hown hown5 hg5 hat5 hnil5 hS0 hS1 hb1' hz hb1 hlv d1;refine tk1 7 ?_;intro K hK;go_simp;refine hK.out _ _ (fun h=>absurd h (by decide)) ?_;clear hK K d2 d3;refine zAf (by kernel_rfl) ?_ _;gi_wp2;obtain ⟨s1,s2,s3,s4,s5⟩:=Hst.out;exact ⟨⟨s4,fun k o _ hk ho=>s3 k o hk ho⟩,s2,s1,hB.trans s5⟩
 case done=>
  rintro Dd ys W hDd rfl ⟨⟨v,G,s,h⟩,hB⟩ hK0;have c1:=h.box.cell;have Hs:=hdq hs0;have HH:=hdq h;clear hs0 x0 x2 x3 x4 h HC0;gi_wp2;refine ⟨by simp,.inl ⟨_,_,rfl,run_takeDeferred hK0,?_⟩⟩;have hcr:Carry (fun _=>True) W (W.putObj Dd (.deferred none)):=Carry.grown (grownBy_putObj' W Dd (.deferred none)) (fun r e=>by cases e; exact ⟨_,hK0,rfl⟩);have hl:(List.range N).length=N:=List.length_range;have hown:W.ownsRow (w+1) 37 4 v N (s.flatMap cells4q):=by have:=HH.out.own; rw [hl] at this; exact this
  obtain ⟨sv,e1,e2,e3,e4⟩:=zMV (G:=G) (B:=w) (l:=(List.range N).map g) hown (by rw [HH.out.len,hl]) (by rw [List.length_map,hl]) HH.out.row (fun k hk=>by
   have:=HH.out.elem k (by rw [hl]; exact hk);rw [show (List.range N).getD k 0=k by simp [hk]] at this;rw [zA6 _ _ _ _ hk];exact this)
  subst e1;refine ⟨_,results_tmp rfl _ _ _,⟨sv,rfl,?_,fun hp=>?_⟩,?_⟩
  ·exact (e3.keep' hcr).imp (fun b _ hb=>by simp only [New]; omega) fun v q hq=>hq.imp fun b _ hb=>hb.2
  ·obtain ⟨b,c,q1,q2,q3,q4,q5⟩:=e4 hp;exact ⟨b,c,q1,q2,q3,by omega,q5.carry hcr⟩
  ·exact hB.trans (belowK_b (w:=w) (nlr _) W Dd _ _ (by have:=Hs.out; omega) hK0 rfl rfl)
end Go.Proofs.YtpjaodcimomaiaaGreat
