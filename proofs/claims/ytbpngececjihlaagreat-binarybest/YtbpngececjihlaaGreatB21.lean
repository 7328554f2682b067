/- Texts Solved AliveM Alive2 Alive3 Scal1 Scal2 ScalB ScalC Dot MulVec LP1 LP2 LP3 LP4 BoP of this claim. -/
import Derived.Test.YtbpngececjihlaaGreatB20
import Derived.Test.YtbpngececjihlaaGreatB12
set_option maxHeartbeats 4000000
set_option maxRecDepth 100000
namespace Go.Proofs.YtbpngececjihlaaGreat
variable {q:Rat} {L V B b k M K n m c kb:Nat} {l bs la lb:List Rat} {s sa sb:SV} {X Y Z X' Y':Nat->Prop} {w w' W W' W2:World} {os rs:List (List Rat)} {p:LPV} {z:Int} {P:Lin.Prob} {f:Nat->Rat} {A:Option Addr}
namespace Lin
theorem Prob.Feasible.congr {P:Prob} {x y:Nat->Rat} (h:P.Feasible x) (e:∀ k,k<P.n->x k=y k):P.Feasible y:=
 ⟨fun k hk=>by rw [<-e k hk]; exact h.1 k hk,fun i hi=>by rw [zAh (g:=fun k=>P.A i k*x k) fun k hk=>by rw [e k hk]]; exact h.2 i hi⟩
theorem Prob.Better.congr {P:Prob} {x x' y y':Nat->Rat} (h:P.Better x y) (e:∀ k,k<P.n->x k=x' k) (e':∀ k,k<P.n->y k=y' k):P.Better x' y':=
 LexPos.congr h fun l hl=>by rw [zCo e hl,zCo e' hl]
theorem Prob.Optimal.congr {P:Prob} {x y:Nat->Rat} (h:P.Optimal x) (e:∀ k,k<P.n->x k=y k):P.Optimal y:=
 ⟨h.1.congr e,fun z hz=>(h.2 z hz).elim (fun hb=>.inl (hb.congr e fun _ _=>rfl)) fun hs=>.inr fun k hk=>by rw [hs k hk,e k hk]⟩
theorem Prob.Unbounded.congr {P:Prob} {x y d d':Nat->Rat} (h:P.Unbounded x d) (e:∀ k,k<P.n->x k=y k) (e':∀ k,k<P.n->d k=d' k):P.Unbounded y d':=
 ⟨h.1.congr e,fun k hk=>by rw [<-e' k hk]; exact h.2.1 k hk,fun i hi=>by rw [zAh (g:=fun k=>P.A i k*d k) fun k hk=>by rw [e' k hk]]; exact h.2.2.1 i hi,LexPos.congr h.2.2.2 fun l _=>zAh fun k hk=>by rw [e' k hk]⟩
end Lin
open Go.RowKit Go.Shelf
theorem zAR (h:QFit L q):Lin.Fits (32*L) q:=by
 have e:Num.base ^ L=2 ^ (32*L):=by rw [Nat.pow_mul]; rfl
 exact ⟨by rw [<-e]; exact Nat.le_of_lt h.1,by rw [<-e]; exact Nat.le_of_lt h.2⟩
theorem VecAt.fit (h:VecIs w X Y L s l) (k:Nat):QFit (L+1) (l.getD k 0):=by
 by_cases hk:k<s.n
 ·obtain ⟨_,v,_,_,_,hq⟩:=h.elem k hk;exact hq.fit
 ·rw [zAw _ _ _ (by rw [h.len]; omega)]; exact QFit.zero L
def Solved (w:World) (P:Lin.Prob) (r:RV) (w':World):Prop:=
 (r.kind=1/\∃ (D:Lin.Dict) (l:List Rat),Lin.Good P D/\Lin.Feas P D/\(∀ j,j<P.n->¬ CandP P D j)/\l.length=P.n/\P.Optimal (fun k=>l.getD k 0)/\VecCan w' (New w) (New w) r.X l/\MatCan w' (New w) (New w) r.Y ((List.range P.m).map fun i=>(List.range (P.K+P.n)).map (priceTo D P.n P.m P.K P.n i)))\/
 (r.kind=2/\∃ (D:Lin.Dict) (k:Nat),Lin.Good P D/\k<P.m/\D.a k P.n<0/\(∀ j,j<P.n->0<=D.a k j)/\(∀ x,¬ P.Feasible x)/\VecCan w' (New w) (New w) r.F ((List.range P.m).map (farkasOf D P.n k)))\/
 (r.kind=3/\∃ l l':List Rat,l.length=P.n/\l'.length=P.n/\P.Unbounded (fun k=>l.getD k 0) (fun k=>l'.getD k 0)/\VecCan w' (New w) (New w) r.X l/\VecCan w' (New w) (New w) r.R l'/\∃ (D:Lin.Dict) (s:Nat),Lin.Good P D/\s<P.n/\l=(List.range P.n).map (D.point P)/\l'=(List.range P.n).map (D.dir P s))
theorem zPK {P:Lin.Prob} {e:Ending} (h:SolveRet w P e w'):∃ r:RV,e = .returned (.tuple #[r.val,.int .i64 0])/\Solved w P r w':=by
 obtain ⟨r,he,hr⟩:=h;refine ⟨r,he,?_⟩;rcases hr with ⟨hk,D,l,hg,hf,ho,rfl,hx,hy,_,_⟩ | ⟨hk,D,k,l,hg,h1,h2,h3,rfl,hF,_,_,_⟩ | ⟨hk,D,s,l,l',hg,hf,hs,hc,hn,rfl,rfl,hx,hr,_,_⟩
 ·exact .inl ⟨hk,D,_,hg,hf,ho,si,(Lin.zPC hg hf ho).congr fun k hk=>by rw [zAS _ _ hk],hx,hy⟩
 ·exact .inr (.inl ⟨hk,D,k,hg,h1,h2,h3,fun x=>Lin.zB6 hg h1 h2 h3 x,hF⟩)
 ·exact .inr (.inr ⟨hk,_,_,si,si,(Lin.zLG hg hf hs hc (fun i hi=>by have:=hn i hi; grind)).congr (fun k hk=>by rw [zAS _ _ hk]) fun k hk=>by rw [zAS _ _ hk],hx,hr,D,s,hg,hs,rfl,rfl⟩)
theorem zPN (h:LPIs w X Y L p os rs bs) (hV:p.n=V) (hV2:V<=8) (ho1:1<=p.O.n) (ho2:p.O.n<=4) (hr:p.R.n<=128) (hb:p.B.n=p.R.n) (hco:colsOf os<=V) (hcr:colsOf rs<=V) (hL:L<=100) :
  Calls Tryz.prog 26 #[p.val] w fun e w'=>(∃ r:RV,e = .returned (.tuple #[r.val,.int .i64 0])/\Solved w (probOf V os rs bs) r w')/\Below w w w':=by
 have h5:5 ^ V<=390625:=nlt (Nat.pow_le_pow_right om hV2) dj;have h6:5 ^ V*(32*(L+1))<=390625*(32*101):=Nat.mul_le_mul h5 om;refine (zPz (kb:=5 ^ V*(32*(L+1))) h hV om ho1 ho2 hr hb hco hcr (by rw [zAZ]; omega) (fun D hD=>?_) (by rw [zAZ]; omega)).mono ?_
 ·refine hD.fits om ⟨fun i j hi hj=>?_,fun l j hl hj=>?_⟩
  ·show Lin.Fits _ (if j<V then (rs.getD i []).getD j 0 else bs.getD i 0)
   split
   ·exact zAR (h.rows.fit i j)
   ·exact zAR (h.bounds.fit i)
  ·show Lin.Fits _ (if j<V then-(os.getD l []).getD j 0 else 0)
   split
   ·exact (zAR (h.obj.fit l j)).neg
   ·exact Lin.Fits.zero _
 ·rintro e w' ⟨hs,hb⟩;exact ⟨zPK hs,hb⟩
open Lin
section
variable {w w':World} {P:Lin.Prob} {r:RV}
end
theorem LRet.lpis (ho:MatCan w' (New B) (New B) p.O os) (hr:MatCan w' (New B) (New B) p.R rs) (hb:VecCan w' (New B) (New B) p.B bs)
  (fo:∀ i k,QFit L ((os.getD i []).getD k 0)) (fr:∀ i k,QFit L ((rs.getD i []).getD k 0)) (fb:∀ k,QFit L (bs.getD k 0)):LPIs w' (New B) (New B) L p os rs bs:=
 ⟨⟨ho.len,ho.le,ho.cap,fun i hi=>by
   obtain ⟨ad,r,e,hx,hc,hv⟩:=ho.row i hi
   exact ⟨ad,r,e,hx,hc,hv.len,hv.le,hv.cap,fun k hk=>by
    obtain ⟨ad',v,e',hx',hc',hq⟩:=hv.elem k hk;exact ⟨ad',v,e',hx',hc',hq.qis (fo i k)⟩⟩⟩,
  ⟨hr.len,hr.le,hr.cap,fun i hi=>by
   obtain ⟨ad,r,e,hx,hc,hv⟩:=hr.row i hi
   exact ⟨ad,r,e,hx,hc,hv.len,hv.le,hv.cap,fun k hk=>by
    obtain ⟨ad',v,e',hx',hc',hq⟩:=hv.elem k hk;exact ⟨ad',v,e',hx',hc',hq.qis (fr i k)⟩⟩⟩,
  ⟨hb.len,hb.le,hb.cap,fun k hk=>by
   obtain ⟨ad',v,e',hx',hc',hq⟩:=hb.elem k hk;exact ⟨ad',v,e',hx',hc',hq.qis (fb k)⟩⟩⟩
theorem zHJ (h:z.natAbs<1000):QFit 1 (z:Rat):=by
 have e:Num.base ^ 1=4294967296:=dj
 exact ⟨by rw [e]; simp; omega,by rw [e]; simp⟩
theorem zCZ {l:List Int} (h:∀ z ∈ l,z.natAbs<1000) (k:Nat):QFit 1 ((rats l).getD k 0):=by
 unfold rats;rw [gdd,List.getElem?_map]
 cases e:l[k]? with
 | none=>exact QFit.zero 0
 | some z=>exact zHJ (h z (List.mem_of_getElem? e))
theorem zDn {m:List (List Int)} (h:∀ l ∈ m,∀ z ∈ l,z.natAbs<1000) (i k:Nat):QFit 1 (((m.map rats).getD i []).getD k 0):=by
 have e:(m.map rats).getD i []=rats (m.getD i []):=by
  simp only [gdd,List.getElem?_map];cases m[i]? <;> rfl
 rw [e];refine zCZ (fun z hz=>?_) k;by_cases hi:i<m.length
 ·refine h _ (List.getElem_mem hi) z ?_;simpa [gdd,hi] using hz
 ·rw [zAw _ _ _ om] at hz; cases hz
theorem VecAt.loose (h:VecCan w X Y s l) (f:∀ k,QFit L (l.getD k 0)):VecIs w X Y L s l:=
 ⟨h.len,h.le,h.cap,fun k hk=>by
  obtain ⟨ad',v,e',hx',hc',hq⟩:=h.elem k hk;exact ⟨ad',v,e',hx',hc',hq.qis (f k)⟩⟩
namespace Lin
end Lin
open Lin
open Go.RowKit
def three (a b c:Value) (f:Nat):Value:=if f=1 then a else if f=2 then b else c
def qft (f:Nat):TypeId:=if f<=2 then 23 else 30
def qfw (f:Nat):Nat:=if f<=2 then 1 else 4
section
variable {w W W':World} {d:Nat} {n:Int} {va vb vc:Value} {al:Nat->List Value} {cnt:Nat->Nat} {G:Nat->Prop}
theorem zBc (a b c v:Value) (f g:Nat) (h1:1<=f) (h2:f<=3) (h3:1<=g) (h4:g<=3) :
  three (if f=1 then v else a) (if f=2 then v else b) (if f=3 then v else c) g=if g=f then v else three a b c g:=by
 unfold three;rcases (by omega:f=1\/f=2\/f=3) with rfl | rfl | rfl <;> rcases (by omega:g=1\/g=2\/g=3) with rfl | rfl | rfl <;> simp
end
def pick3 {α:Type} (z a b c:α) (f:Nat):α:=if f=1 then a else if f=2 then b else if f=3 then c else z
theorem zN1:Lin.Fits 1 ((1:Int):Rat):=Lin.Fits.ofInt dj
structure Put (W W':World) (b:Nat):Prop where
 size:W'.heap.size=W.heap.size
 keep:∀ c,c ≠ b->W'.heap[c]?=W.heap[c]?
 below:∀ B,B<=b->Below B W W'
theorem Put.one (b o:Nat) (x:Value):Put W (W.setCell ⟨b,o,none⟩ x) b:=
 ⟨by simp [World.setCell],fun c hc=>bhs _ _ _ _ hc,fun B hB=>(brf _ _).setCell (p:=⟨b,o,none⟩) hB _⟩
theorem Put.trans (h:Put W W' b) (k:Put W' W2 b):Put W W2 b:=
 ⟨k.size.trans h.size,fun c hc=>(k.keep c hc).trans (h.keep c hc),fun B hB=>(h.below B hB).trans (k.below B hB)⟩
theorem Put.four (b:Nat) (x0 x1 x2 x3:Value):Put W ((((W.setCell b x0).setCell ⟨b,1,none⟩ x1).setCell ⟨b,2,none⟩ x2).setCell ⟨b,3,none⟩ x3) b:=
 (((Put.one _ _ _).trans (Put.one _ _ _)).trans (Put.one _ _ _)).trans (Put.one _ _ _)
theorem Put.qcan (h:Put W W' b) (hb:b<B) {v:QV} (hq:QCan W (New B) v q):QCan W' (New B) v q:=
 hq.keep fun a ha _=>cob (h.keep _ (by simp only [New] at ha; omega))
theorem zHY (h:Short6 w AllB AllB p os rs bs) (h2:mayB p os rs=true->p.n<=4/\p.R.n<=4) (hm:mayB p os rs=true) :
  0<=p.n/\p.n<=4/\1<=p.O.n/\p.O.n<=4/\p.R.n<=4/\p.B.n=p.R.n/\(colsOf os:Int)<=p.n/\(colsOf rs:Int)<=p.n/\LPIs w AllB AllB 6 p os rs bs:=by
 obtain ⟨a1,a2⟩:=h2 hm;simp only [mayB,decide_eq_true_eq] at hm;obtain ⟨b1,b2,b3,b4,b5,b6,b7,b8⟩:=hm;exact ⟨b1,a1,b3,b4,a2,b6,b7,b8,h.1,h.2.1 om,h.2.2 om⟩
theorem zBn (h:Lin.Fits k q) (hk:k<32*L):QFit L q:=by
 have e:Num.base ^ L=2 ^ (32*L):=by rw [Nat.pow_mul]; rfl
 have h2:2 ^ k<2 ^ (32*L):=Nat.pow_lt_pow_right om hk;exact ⟨by rw [e]; exact Nat.lt_of_le_of_lt h.1 h2,by rw [e]; exact Nat.lt_of_le_of_lt h.2 h2⟩
theorem zHj {α β:Type} {R:α->β->Prop} {a:List α} {b:List β} {x y:α} {l z:β} (hl:a.length=b.length) (h:∀ m,m<b.length->R (a.getD m y) (b.getD m z)) (hx:R x l):∀ m,m<(b++[l]).length->R ((a++[x]).getD m y) ((b++[l]).getD m z):=by
 intro m hm;rw [List.length_append] at hm;simp only [List.length_cons,List.length_nil,Nat.zero_add] at hm;rw [zBG,zBG,hl];by_cases h1:m<b.length
 ·rw [if_pos h1,if_pos h1]; exact h m h1
 ·rw [if_neg h1,if_neg h1,if_pos om,if_pos om]; exact hx
section
variable {w W W1 W2:World} {p:LPV} {jv kv:QV} {jq kq:Rat} {d:Nat} {os rs:List (List Rat)} {bs:List Rat} {va vb vc v':Value} {G:Nat->Prop} {s1 s2:List SV} {s3:List QV} {o:Obj}
end
open Go.RowKit Go.Shelf Lin
theorem zPY {D:Dict} (h:D.Fits P k) (v:Nat):Lin.Fits k (D.point P v):=by
 unfold Dict.point
 split
 ·rename_i hf; exact h.1 _ _ hf (nlr _)
 ·exact Lin.Fits.zero _
theorem zP9 {r:RV} (h:Solved w P r w') (hk:r.kind=1) (h1:1<=k) (h0:P.start.Fits P k) (hl:l.length=P.n) (ho:P.Optimal fun k=>l.getD k 0) (v:Nat):Lin.Fits (5 ^ P.n*k) (l.getD v 0):=by
 rcases h with ⟨_,D,l',hg,hf,hc,hl',hopt,hx,_⟩ | ⟨hk',_⟩ | ⟨hk',_⟩
 ·by_cases hv:v<P.n
  ·have e:=ho.unique (zPC hg hf hc) hv;rw [e];exact zPY (hg.fits h1 h0) v
  ·rw [zAw _ _ _ om]; exact Lin.Fits.zero _
 ·rw [hk] at hk'; cases hk'
 ·rw [hk] at hk'; cases hk'
theorem zBT (h:colsOf rs<=V) (c:Nat):(rs.getD c []).length<=V:=by
 by_cases hi:c<rs.length
 ·exact zAU.1 h _ (by simp [hi])
 ·rw [zAw rs _ _ om]; simp
attribute [local go_sem] Oper.semAt_some
theorem zBX :qsign q=0 ↔ q=0:=by
 unfold qsign; grind
abbrev QBlk (W:World) (b:Nat) (v:QV):Prop:=W.heap[b]?=some (.cells #[.bool v.num.ng,.slice v.num.A v.num.n v.num.c,.bool v.den.ng,.slice v.den.A v.den.n v.den.c] 30 (0,0))
theorem zAA {v:QV} (h:QBlk W b v):Box4 W b v.num.ng v.num v.den.ng v.den:=by
 refine ⟨?_,?_,?_,?_,fun o=>?_⟩ <;> simp [World.cell?,World.frozen?,h]
theorem zHh {v t:QV} (h:QBlk W b v):QBlk ((((W.setCell b t.num.ng).setCell ⟨b,1,none⟩ t.num).setCell ⟨b,2,none⟩ t.den.ng).setCell ⟨b,3,none⟩ t.den) b t:=by
 unfold QBlk;rw [zAe _ (zAe _ (zAe _ (zAe _ h)))];simp
def DotPost (w:World) (S:Nat) (Z:Nat->Prop) (t:Rat) (e:Ending) (w':World):Prop:=
 e = .returned (.tuple #[])/\∃ s2:QV,QBlk w' S s2/\QCan w' (fun b=>Z b\/w.heap.size<=b) s2 t/\Fr (fun b=>b=S) w w'
theorem zHt {S:Nat} {x y s:QV} {p r:Rat} (hx:QIs w X L x p) (hy:QIs w Y M y q) (hs:QCan w Z s r) (hS0:QBlk w S s) (hL:L<=LM) (hM:M<=LM) (hK:K<=LM) (hr:QFit K r) (hp:QFit K (p*q)) :
  Calls Tryz.prog 100 #[x.val,y.val,.pointer (some S)] w fun e w'=>DotPost w S Z (r+p*q) e w':=by
 have HX:=hdq hx;have HY:=hdq hy;have HS:=hdq hs;have hSl:=zAa hS0;have hS:=zAA hS0;have HB:=hdq hS0;clear hS0;have HL:=hdq hL;have HM:=hdq hM;have HK:=hdq hK;have HR:=hdq hr;have HP:=hdq hp;clear hx hy hs hL hM hK hr hp;go_enter Tryz.func100,Tryz.ntmps100
 go_upto_region 1 with fail
 refine zAo (fun W=>Below w w W/\Box4 W w x.num.ng x.num x.den.ng x.den/\Box4 W (w+1) y.num.ng y.num y.den.ng y.den/\w.heap.size<W.heap.size/\w.heap.size+1<W.heap.size) ⟨(az (az (brf _ _))),bx4,bx4,by simp <;> omega,by simp <;> omega⟩ ?_;rintro W ⟨hbW,bX,bY,s0,s1⟩;have hBW:=hbW.size;obtain ⟨x0,x1,x2,x3,-⟩:=id bX;obtain ⟨y0,y1,y2,y3,-⟩:=id bY;go_wp2_with fail
 refine (zAn (v:=x) (HX.out.below hbW)).mono ?_;rintro e w1 ⟨rfl,hb1⟩;have bS:=hS.below hbW hSl;have sS:=ltl hSl hbW.size;clear hS hBW;replace bX:=bX.below hb1 s0;replace bY:=bY.below hb1 s1;replace bS:=bS.below hb1 sS;replace s0:=ltl s0 hb1.size;replace s1:=ltl s1 hb1.size;replace sS:=ltl sS hb1.size;replace hbW:=hbW.trans (hb1.mono hbW.size);clear x0 x1 x2 x3 y0 y1 y2 y3;obtain ⟨x0,x1,x2,x3,-⟩:=id bX;obtain ⟨y0,y1,y2,y3,-⟩:=id bY;by_cases hp0:p=0
 ·have e0:qsign p=0:=zBX.2 hp0;have Hz:Hid (p*q=0):=by show p*q=0; rw [hp0,Rat.zero_mul]
  rw [e0];clear e0 hp0;go_wp2;go_end0;refine ⟨rfl,s,(hbW.block _ hSl).trans HB.out,?_,Fr.of_below hbW⟩;rw [Hz.out,Rat.add_zero];exact (HS.out.below hbW).imp fun b _ hb=>.inl hb
 ·have e0:¬ (qsign p=0):=fun h=>hp0 (zBX.1 h)
  have e1:(qsign p != 0)=true:=by simpa using e0
  clear hp0 e0;go_wp2_with fail
  refine (zAn (v:=y) (HY.out.below hbW)).mono ?_;rintro e w2 ⟨rfl,hb2⟩;replace bX:=bX.below hb2 s0;replace bY:=bY.below hb2 s1;replace bS:=bS.below hb2 sS;replace s0:=ltl s0 hb2.size;replace s1:=ltl s1 hb2.size;replace sS:=ltl sS hb2.size;replace hbW:=hbW.trans (hb2.mono hbW.size);clear x0 x1 x2 x3 y0 y1 y2 y3;obtain ⟨x0,x1,x2,x3,-⟩:=id bX;obtain ⟨y0,y1,y2,y3,-⟩:=id bY;by_cases hq0:q=0
  ·have e2:qsign q=0:=zBX.2 hq0;have Hz:Hid (p*q=0):=by show p*q=0; rw [hq0,Rat.mul_zero]
   rw [e2];clear e2 hq0;go_wp2;go_end0;refine ⟨rfl,s,(hbW.block _ hSl).trans HB.out,?_,Fr.of_below hbW⟩;rw [Hz.out,Rat.add_zero];exact (HS.out.below hbW).imp fun b _ hb=>.inl hb
  ·have e2:¬ (qsign q=0):=(fun h=>hq0 (zBX.1 h));have e3:(qsign q != 0)=true:=(by simpa using e2);clear hq0 e2;obtain ⟨z0,z1,z2,z3,-⟩:=id bS;(go_upto_region 2 with fail);refine zAp 5 (fun f w'=>f=false->Sees w [] w2 w') kj ?_;have hS0:Sees w [] w2 w2.drew:=Sees.st si hbW.size;refine tkW 0 (s.val) (fun w' hSw=>?_) (fun _=>hS0) ?_
   ·(replace hSw:=hSw rfl; go_simp; try with_reducible rfl)
   simp only [zz];refine tkW 1 (x.val) (fun w' hSw=>?_) (fun _=>hS0) ?_
   ·(replace hSw:=hSw rfl; go_simp; try with_reducible rfl)
   simp only [zz];refine tkW 2 (y.val) (fun w' hSw=>?_) (fun _=>hS0) ?_
   ·(replace hSw:=hSw rfl; go_simp; try with_reducible rfl)
   simp only [zz];refine tk1 3 ?_;intro K hK;go_simp;(with_reducible refine (zBb (a:=x) (b:=y) (HX.out.below hbW.drew) (HY.out.below hbW.drew) HL.out HM.out).mono ?_);rintro e v1 ⟨⟨u,rfl,hu⟩,hc1⟩;have hS1:=Kept.call2 hc1 hS0;refine hK.out _ _ (fun _=>hS1) ?_;clear hK K hS0;refine tk1 4 ?_;intro K hK;go_simp;(with_reducible refine (zCD (a:=s) (b:=u) ((HS.out.below (hbW.trans (hS1.kept.whole.mono hbW.size))).qis HR.out) (hu.qis HP.out) HK.out HK.out).mono ?_);rintro e v2 ⟨⟨t,rfl,ht⟩,hc2⟩;have hS2:=Kept.call2 hc2 hS1;refine hK.out _ _ (fun _=>hS2) ?_;have hb2':=hS2.kept.whole;have bS2:=bS.below hb2' sS;have ht2:=ht.lower hS1.kept.size;clear hK K hS1 hu ht hc1 hc2;clear z0 z1 z2 z3;obtain ⟨z0,z1,z2,z3,z4⟩:=id bS2;refine tk1 5 ?_;intro K hK;go_simp;refine hK.out _ _ (fun h=>absurd h dj) ?_;clear hK K;have P8:=Put.four (W:=v2) S t.num.ng t.num t.den.ng t.den;have bS8:=zHh (t:=t) ((hb2'.block _ sS).trans ((hbW.block _ hSl).trans HB.out));have F8:Fr (fun b=>b=S) v2 _:=((((Fr.refl (fun b=>b=S) v2).set (p:=S) rfl t.num.ng).set (p:=⟨S,1,none⟩) rfl t.num).set (p:=⟨S,2,none⟩) rfl t.den.ng).set (p:=⟨S,3,none⟩) rfl t.den;generalize (((v2.setCell S t.num.ng).setCell ⟨S,1,none⟩ t.num).setCell ⟨S,2,none⟩ t.den.ng).setCell ⟨S,3,none⟩ t.den=y8 at *;have ht8:=P8.qcan (B:=w2) sS ht2;have hF:Fr (fun b=>b=S) w y8:=(Fr.of_below (hbW.trans (hb2'.mono hbW.size))).trans F8;clear z0 z1 z2 z3 z4 P8 F8 ht2 bS2 hS2;refine zAf kj ?_ _;go_wp2;go_end0;exact ⟨rfl,t,bS8,ht8.imp fun b _ hb=>.inr (nlt hbW.size hb),hF⟩
def lsum (f:Nat->Rat) (l:List Nat):Rat:=l.foldl (fun s i=>s+f i) 0
theorem zEk (f:Nat->Rat) (l:List Nat) (x:Nat):lsum f (l++[x])=lsum f l+f x:=by simp [lsum,List.foldl_append]
theorem zDt (f:Nat->Rat):∀ n,lsum f (List.range n)=Lin.sum n f
 | 0=>rfl
 | n+1=>by rw [List.range_succ,zEk,zDt f n]; rfl
theorem zFR (h:∀ i,Lin.Fits k (f i)):∀ l:List Nat,Lin.Fits (l.length*(k+1)) (lsum f l):=by
 intro l;obtain ⟨r,rfl⟩:∃ r:List Nat,r.reverse=l:=⟨l.reverse,List.reverse_reverse l⟩
 induction r with
 | nil=>exact Lin.Fits.zero _
 | cons x r ih=>
  rw [List.reverse_cons,zEk];refine (ih.add (h x)).mono ?_;simp only [List.length_append,List.length_reverse,List.length_cons,List.length_nil];have:(r.length+(0+1))*(k+1)=r.length*(k+1)+(k+1):=by rw [Nat.add_mul]; omega
  omega
theorem VecAt.take {R:QV->Rat->Prop} (h:VecAt w X R ⟨A,m,c⟩ l) (hn:n<=m):VecAt w X R ⟨A,n,c⟩ (l.take n):=by
 have h1:l.length=m:=h.len;have h2:m<=c:=h.le;refine ⟨by rw [List.length_take,h1]; show min n m=n; omega,nlt hn h2,h.cap,fun k hk=>?_⟩;obtain ⟨ad,v,e,hx,hc,hr⟩:=h.elem k (ltl hk hn);refine ⟨ad,v,e,hx,hc,?_⟩;have hk':k<n:=hk
 rwa [show (l.take n).getD k 0=l.getD k 0 by simp [List.getElem?_take_of_lt hk']]
theorem zFX (W:World) (X:Nat->Prop):QCan W X QV.zero 0:=⟨⟨rfl,by rw [show Num.words (0:Rat).num.natAbs=[] by simp [Num.words]]; exact WordsAt.nil _ _ _ _ (nzl _)⟩,⟨rfl,by rw [show Num.words (cden 0).natAbs=[] by simp [Num.words,cden]]; exact WordsAt.nil _ _ _ _ (nzl _)⟩⟩
theorem alk {x o:Obj} (h:w.heap[b]?=some x):(w.alloc o).heap[b]?=some x:=(Below.heap_alloc _ _ _ (zAa h)).trans h
theorem drk {x:Obj} (h:w.heap[b]?=some x):w.drew.heap[b]?=some x:=h
def DotInv (w:World) (f:Nat->Rat) (pre:List Nat) (W:World):Prop:=
 (∃ s:QV,QBlk W (w+1) s/\QCan W (fun b=>w.heap.size+1<b) s (lsum f pre))/\QBlk W w QV.zero/\
 Boxed W (w+1+1) 141 (.func (.func 100) #[] #[.pointer (some ⟨w+1,0,none⟩)])/\Carry (fun y=>y ≠ w.heap.size+1) w W
theorem DotInv.own :Own (DotInv w f):=fun _ _ _ _ hs hg hr=>by
 obtain ⟨⟨s,h1,h2⟩,h3,h4,h5⟩:=hs;exact ⟨⟨s,zAi hg hr h1,h2.carry (Carry.grown hg hr)⟩,zAi hg hr h3,zAi hg hr h4,h5.trans (Carry.grown hg hr)⟩
theorem zEb (ha:VecIs w X Y L sa la) (hb:VecIs w X' Y' M sb lb) (hL:L<=LM) (hM:M<=LM) (hna:sa.n<=1000000) (hkb:1000000*(kb+1)<32*LM) (hf:∀ i,Lin.Fits kb (la.getD i 0*lb.getD i 0)) :
  Calls Tryz.prog 36 #[sa.val,sb.val] w fun e w'=>QRet w (Lin.sum (min sa.n sb.n) fun i=>la.getD i 0*lb.getD i 0) e w'/\Below w w w':=by
 refine (callsIn_wide (n:=6)).1 ?_;obtain ⟨A,la',ca⟩:=sa;obtain ⟨B,lb',cb⟩:=sb;obtain ⟨N,hN⟩:∃ N,N=min la' lb':=⟨_,rfl⟩;have hNa:N<=la':=om
 have hNb:N<=lb':=om
 have cpa:la'<=ca:=ha.le;have cpb:lb'<=cb:=hb.le;have cpa2:ca<=9223372036854775807:=ha.cap;have cpb2:cb<=9223372036854775807:=hb.cap;have hmin:min (la':Int) (lb':Int)=(N:Int):=om
 have HL:=hdq hL;have HM:=hdq hM;have h0a:QIs w (fun _=>True) L QV.zero 0:=⟨0,0,⟨[],WordsAt.nil _ _ _ _ (nzl _),nzl _,rfl⟩,⟨[],WordsAt.nil _ _ _ _ (nzl _),nzl _,rfl⟩,by simp [qv]⟩;have h0b:QIs w (fun _=>True) M QV.zero 0:=⟨0,0,⟨[],WordsAt.nil _ _ _ _ (nzl _),nzl _,rfl⟩,⟨[],WordsAt.nil _ _ _ _ (nzl _),nzl _,rfl⟩,by simp [qv]⟩;obtain ⟨va,hva,hqa⟩:=((ha.take hNa).imp (X':=fun y=>y<w.heap.size) (R':=QIs w (fun _=>True) L) (fun b hb _=>hb) (fun _ _ h=>h.any)).elems h0a;obtain ⟨vb,hvb,hqb⟩:=((hb.take hNb).imp (X':=fun y=>y<w.heap.size) (R':=QIs w (fun _=>True) M) (fun b hb _=>hb) (fun _ _ h=>h.any)).elems h0b;have HA:=hdq hva;have HB:=hdq hvb;have HQA:Hid (∀ i,QIs w (fun y=>y<w.heap.size) L (va i) ((la.take N).getD i 0)):=fun i=>(hqa i).imp fun b hb _=>hb
 have HQB:Hid (∀ i,QIs w (fun y=>y<w.heap.size) M (vb i) ((lb.take N).getD i 0)):=fun i=>(hqb i).imp fun b hb _=>hb
 obtain ⟨f,hfd⟩:∃ f:Nat->Rat,f=fun i=>(la.take N).getD i 0*(lb.take N).getD i 0:=⟨_,rfl⟩
 have HF:Hid (∀ i,Lin.Fits kb (f i)):=fun i=>by
  rw [hfd];by_cases hi:i<N
  ·simpa [gdd,List.getElem?_take_of_lt hi] using hf i
  ·have:(la.take N).getD i 0=0:=zAw _ _ _ (by rw [List.length_take]; omega);dsimp only;rw [this,Rat.zero_mul]; exact Lin.Fits.zero _
 have HE:Hid (Lin.sum N f=Lin.sum N fun i=>la.getD i 0*lb.getD i 0):=by
  rw [hfd];exact Lin.zAh fun i hi=>by simp [List.getElem?_take_of_lt hi]
 have HKB:=hdq hkb;dsimp only [SV.val] at hna ⊢;rw [<-hN];clear ha hb hL hM h0a h0b hva hvb hqa hqb hf hkb hN;have HFD:=hdq hfd;clear hfd;refine callsIn_of_wp_marks Tryz.func36 rfl trivial ?_ rfl;simp only [Tryz.ntmps36,List.size_toArray,List.length_cons,List.length_nil,Nat.reduceAdd,Nat.reduceSub,Array.replicate_succ,Array.replicate_zero,List.push_toArray,List.append_toArray,List.nil_append,List.cons_append];gi_wp2;refine zCW 1000 (fun _ _=>True) kj ?_;refine tx1 0 trivial ?_;refine tx1 1 trivial ?_;refine takeA (i:=2) (.slice A N ca) rfl rfl kj kj kj dj (fun _ _ _ h=>h) (by rfl) (fun w' hSw=>?_) trivial ?_
 ·go_simp;intro h; omega
 simp only [zz];refine tx1 3 trivial ?_;refine tx1 4 trivial ?_;refine takeA (i:=5) (.slice B N cb) rfl rfl kj kj kj dj (fun _ _ _ h=>h) (by rfl) (fun w' hSw=>?_) trivial ?_
 ·go_simp;intro h; omega
 simp only [zz];obtain ⟨W1,hW1⟩:∃ W1,(((w.alloc (.cells #[false,(),false,()] 30)).alloc (.cells #[false,(),false,()] 30)).alloc (.cells #[.func (.func 100) #[] #[.pointer (some ⟨w+1,0,none⟩)]] 141)).drew=W1:=⟨_,rfl⟩;rw [hW1];have hz1:W1.heap.size=w.heap.size+1+1+1:=by rw [<-hW1]; simp [World.drew]
 have HW1:=hdq hW1;clear hW1;refine tk1 6 ?_;intro K hK;go_simp;refine ((callsIn_wide (n:=6)).1 (zFZ A B N ca N cb)).mono ?_;rintro e w2 ⟨rfl,rfl⟩;refine hK.out _ _ trivial ?_;clear hK K;refine zAf kj (NoPanic.normal ?_) _;rw [hz1];gi_wp2;obtain ⟨W0,hW0⟩:∃ W0,((W1.alloc (.cells #[.slice A N ca] 23)).alloc (.cells #[.slice B N cb] 23))=W0:=⟨_,rfl⟩;rw [hW0];have y0:QBlk W1 w QV.zero:=by rw [<-HW1.out]; exact drk (alk (alk (zAd _ _ rfl)))
 have y1:QBlk W1 (w+1) QV.zero:=by rw [<-HW1.out]; exact drk (alk (zAd _ _ si))
 have y2:Boxed W1 (w+1+1) 141 (.func (.func 100) #[] #[.pointer (some ⟨w+1,0,none⟩)]):=by rw [<-HW1.out]; exact drk (zAd _ _ si)
 have yb:Below w w W1:=by rw [<-HW1.out]; exact ((((brf _ w).alloc (nlr _) _).alloc si _).alloc (by simp; omega) _).drew
 have hk0:Below w w W0:=by rw [<-hW0]; exact (yb.alloc yb.size _).alloc (by simp; omega) _
 have hs0:W0.heap.size=w.heap.size+5:=by rw [<-hW0]; simp; omega
 have x0:QBlk W0 w QV.zero:=by rw [<-hW0]; exact alk (alk y0)
 have x1:QBlk W0 (w+1) QV.zero:=by rw [<-hW0]; exact alk (alk y1)
 have x2:Boxed W0 (w+1+1) 141 (.func (.func 100) #[] #[.pointer (some ⟨w+1,0,none⟩)]):=by rw [<-hW0]; exact alk (alk y2)
 have x3:Boxed W0 (w+1+1+1) 23 (.slice A N ca):=by rw [<-hW0]; exact alk (zAd _ _ hz1.symm)
 have x4:Boxed W0 (w+1+1+1+1) 23 (.slice B N cb):=by rw [<-hW0]; exact zAd _ _ (by simp; omega)
 clear y0 y1 y2 yb HW1 hz1;clear hW0
 refine wpIn_rangeFunc_ownH (F:=Fence.wide) rfl om (gf:=171) (lb:=#[.pointer (some ⟨w+1+1+1,0,none⟩),.pointer (some ⟨w+1+1+1+1,0,none⟩)]) rfl trivial (enters_of Tryz.func171 kj rfl)
  (zDL (X:=fun y=>y ≠ w.heap.size+1) (sa:=⟨A,N,ca⟩) (sb:=⟨B,N,cb⟩) (va:=va) (vb:=vb) (N:=N) om x3 x4 om om
   ((HA.out.carry (Carry.of_below hk0)).imp fun b hb=>om) ((HB.out.carry (Carry.of_below hk0)).imp fun b hb=>om) si om)
  (fun h k=>h.trans k) (fun W l o o' _ hl ho _=>Carry.putObj o' hl ho) (brf _ _) (fun _=>rfl)
  (fun pre W=>DotInv w f pre W/\Below w w W)
  (fun _ _ _=>False)
  (OwnFrom.and (Own.from DotInv.own _) (ownFrom_below (nlr _) om))
  (fun _ _ _ _ _ hs _ _=>hs)
  ⟨⟨⟨QV.zero,x1,zFX _ _⟩,x0,x2,Carry.of_below hk0⟩,hk0⟩
  (fun x a' W=>∃ g,a'={tmps:=#[.slice A la' ca,.slice B lb' cb,undef,undef,.pointer (some w),.pointer (some ⟨w+1,0,none⟩),.pointer (some ⟨w+1+1,0,none⟩),.int .i64 N,.pointer (some ⟨g,0,none⟩),.pointer (some ⟨g+1,0,none⟩),.func (.func 100) #[] #[.pointer (some ⟨w+1,0,none⟩)],.slice A la' ca,.int .i64 la',.slice B lb' cb,.int .i64 lb',.int .i64 N,.slice A la' ca,.int .i64 N,.slice A N ca,.slice B lb' cb,.int .i64 N,.slice B N cb,.func (.func 171) #[] #[.pointer (some ⟨w+1+1+1,0,none⟩),.pointer (some ⟨w+1+1+1+1,0,none⟩)],(va x).val,(vb x).val,undef,undef,undef,undef,undef],defers:=[]}/\QBlk W g (va x)/\QBlk W (g+1) (vb x))
  (fun x a' _ W W' row hs hg hr=>?hAx) ?assign ?body ?done ?stop
 case hAx=>
  obtain ⟨g,e,g1,g2⟩:=hs;exact ⟨g,e,zAi hg (fun r e=>(hr r e).2) g1,zAi hg (fun r e=>(hr r e).2) g2⟩
 case stop=>
  rintro D c pre W _ _ h _;exact h.elim
 case assign=>
  intro l pre x W K hI hK;gi_wp2;have al:Below W W ((W.alloc (.cells #[.bool (va x).num.ng,.slice (va x).num.A (va x).num.n (va x).num.c,.bool (va x).den.ng,.slice (va x).den.A (va x).den.n (va x).den.c] 30)).alloc (.cells #[.bool (vb x).num.ng,.slice (vb x).num.A (vb x).num.n (vb x).num.c,.bool (vb x).den.ng,.slice (vb x).den.A (vb x).den.n (vb x).den.c] 30)):=(bal).alloc si _;obtain ⟨⟨⟨s,i1,i2⟩,i3,i4,i5⟩,hB⟩:=hI;exact hK _ _ ⟨al.size,fun k o _ hk _=>(al.block k (zAa hk)).trans hk⟩ (Carry.of_below al) ⟨⟨⟨s,(al.block _ (zAa i1)).trans i1,i2.below al⟩,(al.block _ (zAa i3)).trans i3,(al.block _ (zAa i4)).trans i4,i5.trans (Carry.of_below al)⟩,hB.trans (al.mono hB.size)⟩ ⟨W.heap.size,rfl,alk (zAd _ _ rfl),zAd _ _ si⟩
 case body=>
  rintro l pre x a' W _ _ ⟨⟨⟨s,i1,i2⟩,i3,i4,i5⟩,hB⟩ ⟨g,rfl,g1,g2⟩ hlt;have hqa:=(HQA.out x).carry (i5.mono fun y hy=>om);have hqb:=(HQB.out x).carry (i5.mono fun y hy=>om);obtain ⟨a0,a1,a2,a3,-⟩:=zAA g1;obtain ⟨b0,b1,b2,b3,-⟩:=zAA g2;have c4:=i4.cell;have Hs:=hdq hs0;have I2:=hdq i2;clear hs0 x0 x1 x2 x3 x4 hk0 i2;gi_wp2;refine ⟨trivial,?_⟩;refine CallsIn.inRound l (callsIn_wide.2 ((zHt (K:=LM) (x:=va x) (y:=vb x) (s:=s) hqa hqb I2.out i1 HL.out HM.out (nlr _) ?fr ?fp).mono ?_));case fr=>exact zBn (zFR HF.out pre) (Nat.lt_of_le_of_lt (Nat.mul_le_mul_right _ om) HKB.out)
  case fp=>
   have:=HF.out x;rw [HFD.out] at this;exact zBn this (by have:=HKB.out; omega)
  rintro e w3 ⟨rfl,s2,j1,j2,j3⟩;clear a0 a1 a2 a3 b0 b1 b2 b3 c4 hqa hqb;have hcw:Carry (fun y=>y ≠ w.heap.size+1) W w3:=⟨j3.size,fun k cs t f hx hk=>(j3.block k (zAa hk) hx).trans hk⟩;have hB3:=hB.trans (j3.below hB.size (fun b e=>om));gi_wp2;refine ⟨⟨j3.size,fun k o _ hk ho=>(j3.block k (zAa hk) (fun e=>by subst e; rw [show W.heap[w.heap.size+1]?=_ from i1] at hk; cases hk; cases ho)).trans hk⟩,hcw,⟨⟨s2,j1,?_⟩,(j3.block _ (zAa i3) om).trans i3,(j3.block _ (zAa i4) om).trans i4,i5.trans hcw⟩,hB3⟩;rw [zEk,HFD.out];rw [HFD.out] at j2;have hz:=zAa i1
  exact j2.imp fun b _ hb=>by
   rcases hb with hb | hb
   ·exact hb
   ·omega
 case done=>
  rintro Dd ys W hDd rfl ⟨⟨⟨s,i1,i2⟩,i3,i4,i5⟩,hB⟩ hK0;obtain ⟨z0,z1,z2,z3,-⟩:=zAA i1;obtain ⟨r0,r1,r2,r3,rf⟩:=zAA i3;dsimp only [QV.zero] at r0 r1 r2 r3;have Hs:=hdq hs0;have I2:=hdq i2;clear hs0 x0 x1 x2 x3 x4 i2 i4 i5;have hne:Dd ≠ w.heap.size:=by have:=Hs.out; omega
  gi_wp2;have P8:=Put.four (W:=W) w s.num.ng s.num s.den.ng s.den;have b8:=zHh (t:=s) i3;generalize (((W.setCell w s.num.ng).setCell ⟨w.heap.size,1,none⟩ s.num).setCell ⟨w.heap.size,2,none⟩ s.den.ng).setCell ⟨w.heap.size,3,none⟩ s.den=y8 at *;have hK1:y8.heap[Dd]?=some (.deferred (some [])):=(P8.keep _ hne).trans hK0;refine ⟨si,.inl ⟨_,_,rfl,run_takeDeferred hK1,?_⟩⟩;have g1:=zAi (grownBy_putObj' y8 Dd (.deferred none)) (fun r e=>by cases e; exact ⟨_,hK1,rfl⟩) b8;obtain ⟨g10,g11,g12,g13,-⟩:=zAA g1;have q8:QCan y8 (fun b=>w.heap.size+1<b) s (lsum f (List.range N)):=I2.out.keep fun a ha _=>cob (P8.keep _ om)
  have q9:=q8.carry (Carry.grown (grownBy_putObj' y8 Dd (.deferred none)) (fun r e=>by cases e; exact ⟨_,hK1,rfl⟩));rw [zDt,HE.out] at q9;refine ⟨s.val,by simp [results,Tryz.results36,go_sem,g10,g11,g12,g13],⟨s,rfl,q9.imp fun b _ hb=>by show w.heap.size<=b; omega⟩,?_⟩;exact (hB.trans (P8.below _ (nlr _))).trans (belowK_b (w:=w) (nlr _) _ Dd _ _ (by have:=Hs.out; omega) hK1 rfl rfl)
end Go.Proofs.YtbpngececjihlaaGreat
namespace Go.Proofs.YtbpngececjihlaaGreat
open Go.RowKit Go.Shelf
variable {s sa sb:SV} {L M kb b lo hi n B d i V m:Nat} {X Y X' Y' Z G:Nat->Prop} {w w' W2 W:World} {bs la lb l:List Rat} {os rs:List (List Rat)} {p:LPV} {q:Rat} {v' v va vb vc:Value} {xs:List Value}
def dotL (r x:List Rat):Rat:=Lin.sum (min r.length x.length) fun i=>r.getD i 0*x.getD i 0
theorem zNM {sx:SV} {m:List (List Rat)} {x:List Rat} (h:MatIs w X Y L s m) (hx:VecIs w X' Y' M sx x) (hn:s.n<=1000000) (hr:∀ i,(m.getD i []).length<=1000000) (hL:L<=LM) (hM:M<=LM) (hkb:1000000*(kb+1)<32*LM) (hf:∀ i k,Lin.Fits kb ((m.getD i []).getD k 0*x.getD k 0)) :
  Calls Tryz.prog 163 #[s.val,sx.val] w fun e w'=>VRet w (m.map fun r=>dotL r x) e w'/\Below w w w':=by
 obtain ⟨A,n,c⟩:=s;obtain ⟨xA,xn,xc⟩:=sx;dsimp only at hn;have hmk:=zBZ n hn;have HL:=hdq hL;have HM:=hdq hM;have HR:=hdq hr;have HK:=hdq hkb;have HF:=hdq hf;have HX:=hdq hx;have HLen:Hid (m.length=n):=h.len;have hle:n<=c:=h.le;have hcap:c<=9223372036854775807:=h.cap;clear hL hM hr hkb hf hx;show Calls _ _ #[.slice A n c,.slice xA xn xc] _ _;go_enter Tryz.func163,Tryz.ntmps163
 go_wp2;obtain ⟨f,hfd⟩:∃ f:Nat->Rat,f=fun i=>dotL (m.getD i []) x:=⟨_,rfl⟩
 have HD:=hdq hfd
 have HE:Hid ((List.range n).map f=m.map fun r=>dotL r x):=by
  show _=_;rw [hfd,<-HLen.out];apply List.ext_getElem
  ·simp
  ·intro i h1 h2;simp at h1;simp [h1]
 clear hfd;have hb0:Below w w (w.alloc (.cells (zeroQ n) 30)):=bal
 have H0:FillLoop w w f n n (fun _=>True) (.int .i64 0) (w.alloc (.cells (zeroQ n) 30)):=
  ⟨0,nzl _,rfl,by
   rw [zEe];exact RowAt.made w n (fun x=>x<w.heap.size\/x=w.heap.size) (.inr rfl),hb0,trivial⟩
 clear hmk hb0;generalize w.alloc (.cells (zeroQ n) 30)=W0 at *;go_loopw [13] (fun t W=>FillLoop w w f n n (fun _=>True) t W) (fun t _=>n-(intOf t).toNat)
 case atStart=>exact H0
 case round=>
  clear H0;obtain ⟨i,hi,rfl,hR,hB,-⟩:=hrel;have hRl:=hR.lt;by_cases hlt:i<n
  ·obtain ⟨ad,r,e,-,r0,hr⟩:=(h.below hB).row i hlt;dsimp only at e;subst e;obtain ⟨rA,rn,rc⟩:=r;have HW:=hdq hr;have hrn:(m.getD i []).length=rn:=hr.len;have Hrn:=hdq hrn;clear hr hrn;(go_wp2_with fail);refine (zEb (kb:=kb) (sa:=⟨rA,rn,rc⟩) (sb:=⟨xA,xn,xc⟩) HW.out (HX.out.below hB) HL.out HM.out (by have:=HR.out i; rw [Hrn.out] at this; exact this) HK.out (HF.out i)).mono ?_;rintro e w1 ⟨⟨z,rfl,hz⟩,hb1⟩;have hR1:=hR.below hb1
   have hz2:QCan w1 (New wr) z (f i):=by
    rw [HD.out];unfold dotL;dsimp only;have e2:x.length=xn:=HX.out.len;rw [Hrn.out,e2];exact hz
   clear hz r0;obtain ⟨zv,⟨d0,d1,d2,d3⟩,-⟩:=hR1.elem i (by rw [zBj _ hi]; exact hlt);have fz:=hR1.frozen;dsimp only at d1 d2 d3;go_wp2;go_roundw;case rel=>exact FillLoop.step (B:=wr) hlt (nlr _) hR hB hb1 hB.size hRl (nlr _) hz2 trivial
   case measure=>simp [intOf]; omega
  ·(obtain rfl:i=n:=om);rw [zGv,HE.out] at hR;go_wp2;go_ret;exact ⟨VRet.of (by rw [List.length_map]; exact HLen.out) hn (nlr _) hR,hB⟩
theorem zNt {sx:SV} {x:List Rat} (h:LPIs w X Y L p os rs bs) (hx:VecIs w X' Y' M sx x) (hn:p.O.n<=1000000) (hr:∀ i,(os.getD i []).length<=1000000) (hL:L<=LM) (hM:M<=LM) (hkb:1000000*(kb+1)<32*LM) (hf:∀ i k,Lin.Fits kb ((os.getD i []).getD k 0*x.getD k 0)) :
  Calls Tryz.prog 87 #[p.val,sx.val] w fun e w'=>VRet w (os.map fun r=>dotL r x) e w'/\Below w w w':=by
 obtain ⟨pn,⟨oA,on,oc⟩,⟨rA,rn,rc⟩,⟨bA,bn,bc⟩⟩:=p;obtain ⟨xA,xn,xc⟩:=sx;have H:=hdq h.obj;have HX:=hdq hx;have HF:=hdq hf;have HK:=hdq hkb;have HL:=hdq hL;have HM:=hdq hM;have HR:=hdq hr;have Hn:=hdq hn;clear h hx hf hkb hL hM hr hn;dsimp only [LPV.val,SV.val] at *;go_enter Tryz.func87,Tryz.ntmps87
 go_wp2_with fail
 have al:Below w w (w.alloc (.cells #[pn,.slice oA on oc,.slice rA rn rc,.slice bA bn bc] 25)):=bal;refine (zNM (kb:=kb) (s:=⟨oA,on,oc⟩) (sx:=⟨xA,xn,xc⟩) (H.out.below al) (HX.out.below al) Hn.out HR.out HL.out HM.out HK.out HF.out).mono ?_;rintro e w1 ⟨⟨z,rfl,hz⟩,hb1⟩;go_wp2;go_ret;exact ⟨⟨z,rfl,hz.low al.size⟩,al.trans (hb1.mono al.size)⟩
theorem zEa {r x:List Rat} (hr:r.length<=1000000) (hkb:1000000*(kb+1)<32*LM) (hf:∀ k,Lin.Fits kb (r.getD k 0*x.getD k 0)):QFit LM (dotL r x):=by
 unfold dotL;rw [<-zDt];exact zBn (zFR hf _) (Nat.lt_of_le_of_lt (Nat.mul_le_mul_right _ (by rw [List.length_range]; omega)) hkb)
theorem zNK {x:List Rat} (hr:∀ i,(os.getD i []).length<=1000000) (hkb:1000000*(kb+1)<32*LM) (hf:∀ i k,Lin.Fits kb ((os.getD i []).getD k 0*x.getD k 0)) (i:Nat):QFit LM ((os.map fun r=>dotL r x).getD i 0):=by
 by_cases hi:i<os.length
 ·rw [show (os.map fun r=>dotL r x).getD i 0=dotL (os.getD i []) x by simp [hi]];exact zEa (hr i) hkb (hf i)
 ·rw [zAw _ _ _ (by rw [List.length_map]; omega)]; exact zBn (Lin.Fits.zero 0) (by rw [zAZ]; omega)
def lpcmp (os:List (List Rat)) (x y:List Rat):Int:=
 if vcmp (fun i=>(os.map fun r=>dotL r x).getD i 0) (fun i=>(os.map fun r=>dotL r y).getD i 0) os.length=0 then vcmp (fun i=>y.getD i 0) (fun i=>x.getD i 0) (max y.length x.length)
 else vcmp (fun i=>(os.map fun r=>dotL r x).getD i 0) (fun i=>(os.map fun r=>dotL r y).getD i 0) os.length
theorem zKp (o:Int) (ha:VecIs w X Y L sa la) (hb:VecIs w X' Y' M sb lb) (hL:L<=LM) (hM:M<=LM) (hna:la.length<=1000000) (hnb:lb.length<=1000000) (ho:vcmp (fun i=>la.getD i 0) (fun i=>lb.getD i 0) (max la.length lb.length)=o) :
  Calls Tryz.prog 86 #[sa.val,sb.val] w fun e w'=>e = .returned o/\Below w w w':=by
 subst ho;rw [ha.len,hb.len];exact zKw ha hb hL hM (by rw [<-ha.len]; exact hna) (by rw [<-hb.len]; exact hnb)
theorem zNq {X2 Y2:Nat->Prop} {M2:Nat} {sx sy:SV} {x y:List Rat} (h:LPIs w X Y L p os rs bs) (hx:VecIs w X' Y' M sx x) (hy:VecIs w X2 Y2 M2 sy y) (hn:p.O.n<=1000000) (hr:∀ i,(os.getD i []).length<=1000000) (hxn:sx.n<=1000000) (hyn:sy.n<=1000000) (hL:L<=LM) (hM:M<=LM) (hM2:M2<=LM) (hkb:1000000*(kb+1)<32*LM)
  (hf:∀ i k,Lin.Fits kb ((os.getD i []).getD k 0*x.getD k 0)) (hf2:∀ i k,Lin.Fits kb ((os.getD i []).getD k 0*y.getD k 0)) :
  Calls Tryz.prog 27 #[p.val,sx.val,sy.val] w fun e w'=>e = .returned (.int .i64 (lpcmp os x y))/\Below w w w':=by
 obtain ⟨pn,⟨oA,on,oc⟩,⟨rA,rn,rc⟩,⟨bA,bn,bc⟩⟩:=p;obtain ⟨xA,xn,xc⟩:=sx;obtain ⟨yA,yn,yc⟩:=sy;have H:=hdq h;have HX:=hdq hx;have HY:=hdq hy;have HF:=hdq hf;have HF2:=hdq hf2;have HK:=hdq hkb;have HL:=hdq hL;have HM:=hdq hM;have HM2:=hdq hM2;have HR:=hdq hr;have Hn:=hdq hn;have Hxn:=hdq hxn;have Hyn:=hdq hyn;have HO:Hid (os.length=on):=h.obj.len;have HXL:Hid (x.length=xn):=hx.len;have HYL:Hid (y.length=yn):=hy.len;clear h hx hy hf hf2 hkb hL hM hM2 hr hn hxn hyn;dsimp only [LPV.val,SV.val] at *;obtain ⟨o,ho⟩:∃ o,vcmp (fun i=>(os.map fun r=>dotL r x).getD i 0) (fun i=>(os.map fun r=>dotL r y).getD i 0) os.length=o:=⟨_,rfl⟩;obtain ⟨o2,ho2⟩:∃ o,vcmp (fun i=>y.getD i 0) (fun i=>x.getD i 0) (max y.length x.length)=o:=⟨_,rfl⟩;have he:lpcmp os x y=if o=0 then o2 else o:=by unfold lpcmp; rw [ho,ho2]
 rw [he];have HV:=hdq ho;have HV2:=hdq ho2;clear he ho ho2;go_enter Tryz.func27,Tryz.ntmps27
 go_upto_region 1 with fail
 refine zAo (fun W=>Below w w W/\Box4 W w (.int .i64 pn) (.slice oA on oc) (.slice rA rn rc) (.slice bA bn bc)/\w.heap.size<W.heap.size) ⟨(az (brf _ _)),bx4,by simp <;> omega⟩ ?_;rintro W ⟨hbW,bP,s0⟩;have hBW:=hbW.size
 go_region_held3 (Sees w [] W) (exact kp)
  (first
   | (go_at_call 87; ((with_reducible refine (zNt (kb:=kb) (p:=⟨pn,⟨oA,on,oc⟩,⟨rA,rn,rc⟩,⟨bA,bn,bc⟩⟩) (sx:=⟨xA,xn,xc⟩) (H.out.below (hbW.trans ((Sees.kept (by assumption)).whole.mono hbW.size))) (HX.out.below (hbW.trans ((Sees.kept (by assumption)).whole.mono hbW.size))) Hn.out HR.out HL.out HM.out HK.out HF.out).mono ?_); rintro e w1 ⟨⟨⟨zA,zn,zc⟩,rfl,hz1⟩,hb1⟩))
   | (go_at_call 87; ((with_reducible refine (zNt (kb:=kb) (p:=⟨pn,⟨oA,on,oc⟩,⟨rA,rn,rc⟩,⟨bA,bn,bc⟩⟩) (sx:=⟨yA,yn,yc⟩) (H.out.below (hbW.trans ((Sees.kept (by assumption)).whole.mono hbW.size))) (HY.out.below (hbW.trans ((Sees.kept (by assumption)).whole.mono hbW.size))) Hn.out HR.out HL.out HM2.out HK.out HF2.out).mono ?_); rintro e w2 ⟨⟨⟨uA,un,uc⟩,rfl,hz2⟩,hb2⟩))
   | (go_at_call 86; ((with_reducible refine (zKp o (L:=LM) (M:=LM) (sa:=⟨zA,zn,zc⟩) (sb:=⟨uA,un,uc⟩) ((hz1.belowC hb2).loose (zNK HR.out HK.out HF.out)) (hz2.loose (zNK HR.out HK.out HF2.out)) (nlr _) (nlr _) (by rw [List.length_map,HO.out]; exact Hn.out) (by rw [List.length_map,HO.out]; exact Hn.out) (by rw [List.length_map,List.length_map,Nat.max_self]; exact HV.out)).mono ?_); rintro e w3 ⟨rfl,hb3⟩))
   | fail)
 rename_i hS;have hbf:=hbW.trans hS.kept.below;clear hS hz1 hz2 hb1 hb2 hb3;by_cases h0:o=0
 ·subst h0;go_wp2_with fail
  refine (zKp o2 (L:=M2) (M:=M) (sa:=⟨yA,yn,yc⟩) (sb:=⟨xA,xn,xc⟩) (HY.out.below hbf) (HX.out.below hbf) HM2.out HM.out (by rw [HYL.out]; exact Hyn.out) (by rw [HXL.out]; exact Hxn.out) HV2.out).mono ?_;rintro e w4 ⟨rfl,hb4⟩;go_wp2;go_ret;exact ⟨by simp,hbf.trans (hb4.mono hbf.size)⟩
 ·have h1:(o != 0)=true:=by simpa using h0
  go_wp2;go_ret;exact ⟨by simp,hbf⟩
def MBlk (w:World) (b:Nat) (m:List (List Rat)) (w':World):Prop:=
 w.heap.size<=b/\∃ (cs:Array Value) (sv:Nat->SV),w'.heap[b]?=some (.cells cs 23 (0,0))/\cs.size=m.length/\∀ j,j<m.length->cs[j]?=some (sv j).val/\VecCan w' (fun x=>w.heap.size<=x/\x ≠ b) (fun x=>w.heap.size<=x/\x ≠ b) (sv j) (m.getD j [])
def MSLoop (w:World) (k:QV) (q:Rat) (m:List (List Rat)) (n:Nat) (t:Value) (W:World):Prop:=
 ∃ i:Nat,i<=n/\t = .int .i64 i/\Below w w W/\Box4 W w (.bool k.num.ng) (.slice k.num.A k.num.n k.num.c) (.bool k.den.ng) (.slice k.den.A k.den.n k.den.c)/\∃ (cs:Array Value) (sv:Nat->SV),W.heap[w.heap.size+1]?=some (.cells cs 23 (0,0))/\cs.size=n/\∀ j,j<i->cs[j]?=some (sv j).val/\VecCan W (New (w+1+1)) (New (w+1+1)) (sv j) ((m.getD j []).map (q*·))
theorem zNu {k:QV} {m:List (List Rat)} (hk:QIs w Z M k q) (h:MatIs w X Y L s m) (hn:s.n<=1000000) (hr:∀ i,(m.getD i []).length<=1000000) (hL:L<=LM) (hM:M<=LM) :
  Calls Tryz.prog 156 #[k.val,s.val] w fun e w'=>(∃ b,e = .returned (.slice (some ⟨b,0,none⟩) m.length m.length)/\MBlk w b (m.map fun l=>l.map (q*·)) w')/\Below w w w':=by
 obtain ⟨A,n,c⟩:=s;dsimp only at hn;have HLen:Hid (m.length=n):=h.len;have hle:n<=c:=h.le;have hcap:c<=9223372036854775807:=h.cap;have hmk:=zHV n om;have HL:=hdq hL;have HM:=hdq hM;have HR:=hdq hr;have HK:=hdq hk;clear hL hM hr hk;show Calls _ _ #[k.val,.slice A n c] _ _;go_enter Tryz.func156,Tryz.ntmps156
 go_wp2
 have H0:MSLoop w k q m n (.int .i64 0) ((w.alloc (.cells #[k.num.ng,k.num,k.den.ng,k.den] 30)).alloc (.cells (zeroS n) 23)):=
  ⟨0,nzl _,rfl,(bal).alloc si _,bx4,zeroS n,fun _=>⟨none,0,0⟩,zAd _ _ si,zIb n,fun j hj=>absurd hj om⟩
 clear hmk;generalize (w.alloc (.cells #[k.num.ng,k.num,k.den.ng,k.den] 30)).alloc (.cells (zeroS n) 23)=W0 at *;go_loopw [13] (fun t W=>MSLoop w k q m n t W) (fun t _=>n-(intOf t).toNat)
 case atStart=>exact H0
 case round=>
  clear H0;obtain ⟨i,hi,rfl,hB,bK,cs,sv,h1,h2,h3⟩:=hrel;by_cases hlt:i<n
  ·obtain ⟨ad,r,e,-,r0,hr⟩:=(h.below hB).row i hlt;dsimp only at e;subst e;obtain ⟨rA,rn,rc⟩:=r;have HW:=hdq hr;have hrn:Hid ((m.getD i []).length=rn):=hr.len;clear hr;have hyl:=zAa h1;obtain ⟨k0,k1,k2,k3,-⟩:=id bK;(go_wp2_with fail);refine (zLH (k:=k) (s:=⟨rA,rn,rc⟩) (HK.out.below hB) HW.out (by have:=HR.out i; rw [hrn.out] at this; exact this) HL.out HM.out).mono ?_; rintro e w1 ⟨⟨z,rfl,hz⟩,hb1⟩
   obtain ⟨zA,zn,zc⟩:=z;have h1':w1.heap[w.heap.size+1]?=some (.cells cs 23 (0,0)):=(hb1.block _ hyl).trans h1;have y0:(w1.cell? ⟨w.heap.size+1,i,none⟩).isSome=true:=by simp only [World.cell?,h1']; simp [h2,hlt]
   obtain ⟨yv,hyv⟩:=Option.isSome_iff_exists.1 y0;have yf:∀ o,w1.frozen? ⟨w.heap.size+1,o,none⟩=false:=fun o=>by simp [World.frozen?,h1']
   have Hfin:Hid (MSLoop w k q m n (.int .i64 ((i:Int)+1)) (w1.setCell ⟨w.heap.size+1,i,none⟩ (.slice zA zn zc))):=by
    have kk:∀ p:Addr,New (w+1+1) p.block->(w1.setCell ⟨w.heap.size+1,i,none⟩ (.slice zA zn zc)).cell? p=w1.cell? p:=(fun p hp=>cob (bhs _ _ _ _ (by simp only [New] at hp; show p.block ≠ w.heap.size+1; omega)));have kv:∀ {s:SV} {l:List Rat},VecCan w1 (New (w+1+1)) (New (w+1+1)) s l->VecCan (w1.setCell ⟨w.heap.size+1,i,none⟩ (.slice zA zn zc)) (New (w+1+1)) (New (w+1+1)) s l:=(fun hv=>hv.keep (fun a ha _=>kk a ha) fun v q hq=>hq.keep fun p hp _=>kk p hp);refine ⟨i+1,om,si,(hB.trans (hb1.mono hB.size)).setCell (p:=⟨w.heap.size+1,i,none⟩) (by show w.heap.size<=w.heap.size+1; omega) _,(bK.below hb1 om).far4 om _,cs.setIfInBounds i (.slice zA zn zc),fun j=>if j=i then ⟨zA,zn,zc⟩ else sv j,zAe _ h1',by simpa using h2,fun j hj=>?_⟩;rw [Array.getElem?_setIfInBounds];by_cases e:i=j
    ·subst e;rw [if_pos rfl,if_pos om];dsimp only;rw [if_pos rfl];exact ⟨rfl,kv (hz.imp (fun b _ hb=>by simp only [New] at hb ⊢; omega) fun v q hq=>hq.imp fun b _ hb=>by simp only [New] at hb ⊢; omega)⟩
    ·rw [if_neg e];dsimp only;rw [if_neg (Ne.symm e)];obtain ⟨g1,g2⟩:=h3 j om;exact ⟨g1,kv (g2.belowC hb1)⟩
   clear h1 h2 h3 h1' hz hb1 hB r0 y0 bK k0 k1 k2 k3;go_wp2;go_roundw;case rel=>exact fn_ Hfin.out
   case measure=>simp [intOf]; omega
  ·have hin:i=n:=om;rw [hin] at h3
   have HF:Hid (MBlk w (w+1) (m.map fun l=>l.map (q*·)) wr):=by
    refine ⟨om,cs,sv,h1,by rw [List.length_map,HLen.out]; exact h2,fun j hj=>?_⟩;rw [List.length_map,HLen.out] at hj;obtain ⟨g1,g2⟩:=h3 j hj
    have e:(m.map fun l=>l.map (q*·)).getD j []=(m.getD j []).map (q*·):=by
     have:=HLen.out;simp [List.getElem?_map,gge (show j<m.length by omega)]
    rw [e];exact ⟨g1,g2.imp (fun b _ hb=>by simp only [New] at hb ⊢; omega) fun v q hq=>hq.imp fun b _ hb=>by simp only [New] at hb ⊢; omega⟩
   clear h1 h2 h3;go_wp2;go_ret;exact ⟨⟨_,by rw [HLen.out]; rfl,HF.out⟩,hB⟩
def MPart (lo hi b:Nat) (m:List (List Rat)) (w:World):Prop:=
 lo<=b/\b<hi/\∃ (cs:Array Value) (sv:Nat->SV),w.heap[b]?=some (.cells cs 23 (0,0))/\cs.size=m.length/\∀ j,j<m.length->cs[j]?=some (sv j).val/\VecCan w (fun x=>lo<=x/\x<hi/\x ≠ b) (fun x=>lo<=x/\x<hi/\x ≠ b) (sv j) (m.getD j [])
def VPart (lo hi b:Nat) (l:List Rat) (w:World):Prop:=
 lo<=b/\b<hi/\RowAt w (fun x=>¬ (lo<=x/\x<hi/\x ≠ b)) b l
theorem MBlk.part {m:List (List Rat)} (h:MBlk w b m w'):MPart w w' b m w':=by
 obtain ⟨h1,cs,sv,h2,h3,h4⟩:=h;exact ⟨h1,zAa h2,cs,sv,h2,h3,fun j hj=>⟨(h4 j hj).1,(h4 j hj).2.imp (fun x hl hx=>⟨hx.1,hl,hx.2⟩) fun v q hq=>hq.imp fun x hl hx=>⟨hx.1,hl,hx.2⟩⟩⟩
theorem MPart.keep {m:List (List Rat)} (h:MPart lo hi b m w) (hk:∀ x,lo<=x->x<hi->w'.heap[x]?=w.heap[x]?):MPart lo hi b m w':=by
 obtain ⟨h1,h2,cs,sv,h3,h4,h5⟩:=h;exact ⟨h1,h2,cs,sv,(hk b h1 h2).trans h3,h4,fun j hj=>⟨(h5 j hj).1,(h5 j hj).2.keep (fun a ha _=>cob (hk _ ha.1 ha.2.1)) fun v q hq=>hq.keep fun a ha _=>cob (hk _ ha.1 ha.2.1)⟩⟩
theorem VPart.keep (h:VPart lo hi b l w) (hk:∀ x,lo<=x->x<hi->w'.heap[x]?=w.heap[x]?):VPart lo hi b l w':=by
 obtain ⟨h1,h2,h3⟩:=h;refine ⟨h1,h2,h3.mem,?_,fun k hkl=>?_⟩
 ·obtain ⟨cs,e,hs⟩:=h3.blk;exact ⟨cs,(hk b h1 h2).trans e,hs⟩
 ·obtain ⟨v,g1,g2⟩:=h3.elem k hkl;have hc:∀ o,w'.cell? ⟨b,o,none⟩=w.cell? ⟨b,o,none⟩:=fun o=>cob (hk b h1 h2)
  refine ⟨v,⟨(hc _).trans g1.1,(hc _).trans g1.2.1,(hc _).trans g1.2.2.1,(hc _).trans g1.2.2.2⟩,g2.keep fun a ha _=>cob ?_⟩;have ha':=Classical.not_not.1 ha;exact hk _ ha'.1 ha'.2.1
theorem VRow.part (h1:w.heap.size<=b) (h:RowAt w' (fun x=>x<w.heap.size\/x=b) b l):VPart w w' b l w':=
 ⟨h1,h.lt,by show ¬ _; omega,h.blk,fun k hk=>by
  obtain ⟨v,g1,g2⟩:=h.elem k hk;exact ⟨v,g1,g2.imp fun x hl hx=>by show ¬ ¬ _; omega⟩⟩
def CopyRet (w:World) (n:Int) (os rs:List (List Rat)) (bs:List Rat) (e:Ending) (w':World):Prop:=
 ∃ k0 k1 k2 k3 b1 b2 b3,w.heap.size<=k0/\k3<=w'.heap.size/\e = .returned (.agg #[.int .i64 n,.slice (some ⟨b1,0,none⟩) os.length os.length,.slice (some ⟨b2,0,none⟩) rs.length rs.length,.slice (some ⟨b3,0,none⟩) bs.length bs.length])/\
  MPart k0 k1 b1 os w'/\MPart k1 k2 b2 rs w'/\VPart k2 k3 b3 bs w'
theorem zNT (m:List (List Rat)):(m.map fun l=>l.map ((((1:Int):Rat))*·))=m:=si
theorem zOg (l:List Rat):l.map ((((1:Int):Rat))*·)=l:=si
theorem zQr (k:Bool) (h:LPIs w X Y L p os rs bs) (hn:p.O.n<=1000000) (hn2:p.R.n<=1000000) (hn3:p.B.n<=1000000) (hr:∀ i,(os.getD i []).length<=1000000) (hr2:∀ i,(rs.getD i []).length<=1000000) (hL:L<=LM) :
  Calls Tryz.prog (if k then 77 else 98) #[p.val] w fun e w'=>CopyRet w p.n os rs bs e w'/\Below w w w':=by
 obtain ⟨pn,⟨oA,on,oc⟩,⟨rA,rn,rc⟩,⟨bA,bn,bc⟩⟩:=p;have H:=hdq h;have HL:=hdq hL;have HR:=hdq hr;have HR2:=hdq hr2;have Hn:=hdq hn;have Hn2:=hdq hn2;have Hn3:=hdq hn3;clear h hL hr hr2 hn hn2 hn3;dsimp only [LPV.val] at *;cases k
 focus
  go_enter Tryz.func98,Tryz.ntmps98
 rotate_left
 focus
  go_enter Tryz.func77,Tryz.ntmps77
 all_goals
  go_upto_region 1 with fail
  refine zAo (fun W=>Below w w W/\Box4 W w (.int .i64 pn) (.slice oA on oc) (.slice rA rn rc) (.slice bA bn bc)/\Box4 W (w+1) (.int .i64 0) (.slice none 0 0) (.slice none 0 0) (.slice none 0 0)/\w.heap.size<W.heap.size/\w.heap.size+1<W.heap.size) ⟨(az (az (brf _ _))),bx4,bx4,by simp <;> omega,by simp <;> omega⟩ ?_;rintro W ⟨hbW,bP,bR,s0,s1⟩;have hBW:=hbW.size;go_wp2_with fail
  refine (zAN 1 (by decide) (by decide) _).mono ?_;rintro e w1 ⟨⟨u,rfl,hu⟩,hb1⟩;replace bP:=bP.below hb1 s0;replace bR:=bR.below hb1 s1;replace s0:=ltl s0 hb1.size;replace s1:=ltl s1 hb1.size;replace hbW:=hbW.trans (hb1.mono hbW.size);clear hb1 hBW;go_upto_region 2 with fail
  have al:Below w1 w1 (w1.alloc (.cells #[.bool u.num.ng,.slice u.num.A u.num.n u.num.c,.bool u.den.ng,.slice u.den.A u.den.n u.den.c] 30)):=bal;have bU:=zAA (zAd w1 (.cells #[.bool u.num.ng,.slice u.num.A u.num.n u.num.c,.bool u.den.ng,.slice u.den.A u.den.n u.den.c] 30) rfl);replace bP:=bP.below al s0;replace bR:=bR.below al s1;replace s0:=ltl s0 al.size;replace hu:=(hu.below al).qis (zAv zN1);have s2:w1.heap.size<(w1.alloc (.cells #[.bool u.num.ng,.slice u.num.A u.num.n u.num.c,.bool u.den.ng,.slice u.den.A u.den.n u.den.c] 30)).heap.size:=by simp
  replace hbW:=hbW.trans (al.mono hbW.size);clear al;generalize w1.alloc (.cells #[.bool u.num.ng,.slice u.num.A u.num.n u.num.c,.bool u.den.ng,.slice u.den.A u.den.n u.den.c] 30)=W2 at *;obtain ⟨u0,u1,u2,u3,-⟩:=id bU;obtain ⟨p0,p1,p2,p3,-⟩:=id bP;have HU:=hdq hu;clear hu;refine zAp 15 (fun f w'=>f=false->Sees w [] W2 w') (by kernel_rfl) ?_;have hS0:Sees w [] W2 W2.drew:=Sees.st (by simp) hbW.size;refine tx4 0 3 7 11 (fun _=>hS0) ?_;refine tkW 1 (.int .i64 pn) (fun w' hSw=>?_) (fun _=>hS0) ?_
  ·(replace hSw:=hSw rfl; go_simp; try with_reducible rfl)
  simp only [zz];refine tkW 2 (u.val) (fun w' hSw=>?_) (fun _=>hS0) ?_
  ·(replace hSw:=hSw rfl; go_simp; try with_reducible rfl)
  simp only [zz];refine tkW 4 (.slice oA on oc) (fun w' hSw=>?_) (fun _=>hS0) ?_
  ·(replace hSw:=hSw rfl; go_simp; try with_reducible rfl)
  simp only [zz];refine tkW 6 (u.val) (fun w' hSw=>?_) (fun _=>hS0) ?_
  ·(replace hSw:=hSw rfl; go_simp; try with_reducible rfl)
  simp only [zz];refine tkW 8 (.slice rA rn rc) (fun w' hSw=>?_) (fun _=>hS0) ?_
  ·(replace hSw:=hSw rfl; go_simp; try with_reducible rfl)
  simp only [zz];refine tkW 10 (u.val) (fun w' hSw=>?_) (fun _=>hS0) ?_
  ·(replace hSw:=hSw rfl; go_simp; try with_reducible rfl)
  simp only [zz];refine tkW 12 (.slice bA bn bc) (fun w' hSw=>?_) (fun _=>hS0) ?_
  ·(replace hSw:=hSw rfl; go_simp; try with_reducible rfl)
  simp only [zz];refine tk1 5 ?_;intro K hK;go_simp;with_reducible refine (zNu (k:=u) (s:=⟨oA,on,oc⟩) (HU.out.below (Sees.kept (by assumption)).whole) (H.out.obj.below (hbW.trans ((Sees.kept (by assumption)).whole.mono hbW.size))) Hn.out HR.out HL.out (by rw [zAZ]; omega)).mono ?_
  rintro e v1 ⟨⟨b1,rfl,hm1⟩,hc1⟩;rw [zNT] at hm1;replace hm1:=hm1.part;have hS1:=Kept.call2 hc1 hS0;refine hK.out _ _ (fun _=>hS1) ?_;clear hK K;refine tk1 9 ?_;intro K hK;go_simp;with_reducible refine (zNu (k:=u) (s:=⟨rA,rn,rc⟩) (HU.out.below hS1.kept.whole) (H.out.rows.below (hbW.trans (hS1.kept.whole.mono hbW.size))) Hn2.out HR2.out HL.out (by rw [zAZ]; omega)).mono ?_
  rintro e v2 ⟨⟨b2,rfl,hm2⟩,hc2⟩;rw [zNT] at hm2;replace hm2:=hm2.part;replace hm1:=hm1.keep (w':=v2) fun x _ hx=>hc2.block x hx
  have hS2:=Kept.call2 hc2 hS1;refine hK.out _ _ (fun _=>hS2) ?_;clear hK K;refine tk1 13 ?_;intro K hK;go_simp;with_reducible refine (zKV (k:=u) (s:=⟨bA,bn,bc⟩) (HU.out.below hS2.kept.whole) (H.out.bounds.below (hbW.trans (hS2.kept.whole.mono hbW.size))) Hn3.out HL.out (by rw [zAZ]; omega)).mono ?_
  rintro e v3 ⟨⟨b3,rfl,hk3,hv3⟩,hc3⟩;rw [zOg] at hv3 ⊢;replace hv3:=VRow.part hk3 hv3;replace hm1:=hm1.keep (w':=v3) fun x _ hx=>hc3.block x (ltl hx hc2.size)
  replace hm2:=hm2.keep (w':=v3) fun x _ hx=>hc3.block x hx
  have hS3:=Kept.call2 hc3 hS2;refine hK.out _ _ (fun _=>hS3) ?_;clear hK K;refine tk1 14 ?_;intro K hK;go_simp;refine hK.out _ _ (fun _=>hS3) ?_;clear hK K;have h23:=hS3.kept.whole;have bR3:=bR.below h23 (by omega);have hbz:=hS0.kept.size;have hsz1:=hS1.kept.size;clear hS0 hS1 hS2 hS3 u0 u1 u2 u3 p0 p1 p2 p3;obtain ⟨r0,r1,r2,r3,rf⟩:=id bR3;refine tk1 15 ?_;intro K hK;go_simp;refine hK.out _ _ (fun h=>absurd h (by decide)) ?_;clear hK K;have P8:=Put.four (W:=v3) (w+1) (.int .i64 pn) (.slice (some b1) os.length os.length) (.slice (some b2) rs.length rs.length) (.slice (some b3) bs.length bs.length);have bR8:=bR3.stored (.int .i64 pn) (.slice (some b1) os.length os.length) (.slice (some b2) rs.length rs.length) (.slice (some b3) bs.length bs.length);generalize (((v3.setCell ⟨w+1,0,none⟩ (.int .i64 pn)).setCell ⟨w.heap.size+1,1,none⟩ (.slice (some b1) os.length os.length)).setCell ⟨w.heap.size+1,2,none⟩ (.slice (some b2) rs.length rs.length)).setCell ⟨w.heap.size+1,3,none⟩ (.slice (some b3) bs.length bs.length)=y8 at *;clear r0 r1 r2 r3 rf;obtain ⟨r0,r1,r2,r3,-⟩:=id bR8;have hc1s:=hc1.size;have hc2s:=hc2.size;refine zAf (by kernel_rfl) ?_ _;go_wp2;refine bodyPost_ret (v:=.agg #[.int .i64 pn,.slice (some b1) os.length os.length,.slice (some b2) rs.length rs.length,.slice (some b3) bs.length bs.length]) (by first | simp [results,Tryz.results98,go_sem,r0,r1,r2,r3] | simp [results,Tryz.results77,go_sem,r0,r1,r2,r3]) rfl ⟨⟨_,_,_,_,b1,b2,b3,?_,Nat.le_of_eq P8.size.symm,rfl,hm1.keep fun x hx _=>P8.keep x ?_,hm2.keep fun x hx _=>P8.keep x ?_,hv3.keep fun x hx _=>P8.keep x ?_⟩,?_⟩
  ·show w.heap.size<=W2.drew.heap.size; exact nlt hbW.size hbz
  ·have hx':W2.drew.heap.size<=x:=hx; omega
  ·omega
  ·omega
  ·exact (hbW.trans (h23.mono hbW.size)).trans (P8.below _ (by omega))
theorem zNJ (h:LPIs w X Y L p os rs bs) (hn:p.O.n<=1000000) (hn2:p.R.n<=1000000) (hn3:p.B.n<=1000000) (hr:∀ i,(os.getD i []).length<=1000000) (hr2:∀ i,(rs.getD i []).length<=1000000) (hL:L<=LM) :
  Calls Tryz.prog 98 #[p.val] w fun e w'=>CopyRet w p.n os rs bs e w'/\Below w w w':=zQr false h hn hn2 hn3 hr hr2 hL
structure QT (w:World) (B d:Nat) (n:Int) (va vb vc:Value) (al:Nat->List Value) (cnt:Nat->Nat) (G:Nat->Prop) (W:World):Prop where
 bel:Below w w W
 blk:W.heap[d]?=some (.cells #[.int .i64 n,va,vb,vc] 25 (0,0))
 own:∀ f,1<=f->f<=3->W.ownsRow B (qft f) (qfw f) (three va vb vc f) (cnt f) (al f)
 apart:∀ f g j,f ≠ g->1<=f->f<=3->1<=g->g<=3->(three va vb vc f).ownBlock=some j->(three va vb vc g).ownBlock ≠ some j
 nod:∀ f j,1<=f->f<=3->(three va vb vc f).ownBlock=some j->j ≠ d
 gin:∀ x,G x->B<=x/\x<W.heap.size
 gd:G d
 gf:∀ f j,1<=f->f<=3->(three va vb vc f).ownBlock=some j->G j
 ge:w.heap.size<=B
 dB:B<=d
section
variable {w W W':World} {B d:Nat} {n:Int} {va vb vc:Value} {al:Nat->List Value} {cnt:Nat->Nat} {G:Nat->Prop}
theorem QT.dlt (h:QT w B d n va vb vc al cnt G W):d<W.heap.size:=zAa h.blk
theorem QT.call (h:QT w B d n va vb vc al cnt G W) (hb:Below W W W'):QT w B d n va vb vc al cnt G W':=
 ⟨h.bel.trans (hb.mono h.bel.size),(hb.block d h.dlt).trans h.blk,
  fun f h1 h2=>zAr (h.own f h1 h2) fun j hj=>by
   obtain ⟨_,cs,hh⟩:=zAc (h.own f h1 h2) hj;exact hb.block j (zAa hh),
  h.apart,h.nod,fun x hx=>⟨(h.gin x hx).1,ltl (h.gin x hx).2 hb.size⟩,h.gd,h.gf,h.ge,h.dB⟩
theorem QT.cells (h:QT w B d n va vb vc al cnt G W):W.cell? d=some (.int .i64 n)/\W.cell? ⟨d,1,none⟩=some va/\W.cell? ⟨d,2,none⟩=some vb/\W.cell? ⟨d,3,none⟩=some vc/\∀ o,W.frozen? ⟨d,o,none⟩=false:=by
 simp [World.cell?,World.frozen?,h.blk]
theorem QT.app_blk (h:QT w B d n va vb vc al cnt G W) {f:Nat} (h1:1<=f) (h2:f<=3) {o:Obj} (hg:(W.alloc o).grownBy W2 (three va vb vc f).ownBlock) {x:Nat} (hx:x<W.heap.size) (hgx:¬ G x\/x=d):W2.heap[x]?=W.heap[x]?:=
 (hg.block x (by simp; omega) (fun e=>by
  rcases hgx with hgx | rfl
  ·exact hgx (h.gf f x h1 h2 e.symm)
  ·exact h.nod f x h1 h2 e.symm rfl)).trans (Below.heap_alloc _ _ _ hx)
theorem QT.append (h:QT w B d n va vb vc al cnt G W) {f:Nat} (h1:1<=f) (h2:f<=3) {o:Obj} 
  (hown:W2.ownsRow B (qft f) (qfw f) v' (cnt f+1) (al f++xs)) (hg:(W.alloc o).grownBy W2 (three va vb vc f).ownBlock)
  (hat:v'.ownBlock=(three va vb vc f).ownBlock\/v'.ownBlock=some (W.alloc o).heap.size) :
  QT w B d n (if f=1 then v' else va) (if f=2 then v' else vb) (if f=3 then v' else vc) (fun g=>if g=f then al f++xs else al g) (fun g=>if g=f then cnt f+1 else cnt g) (fun y=>G y\/v'.ownBlock=some y) (W2.setCell ⟨d,f,none⟩ v')/\
  Step W (W2.setCell ⟨d,f,none⟩ v') G (fun y=>G y\/v'.ownBlock=some y):=by
 have hsz:W.heap.size<W2.heap.size:=by have:=hg.size; simp at this; omega
 have hnd:=h.nod
 have keep:∀ k,k<W.heap.size->(three va vb vc f).ownBlock ≠ some k->W2.heap[k]?=W.heap[k]?:=fun k hk hne=>
  (hg.block k (by simp; omega) (fun e=>hne e.symm)).trans (Below.heap_alloc _ _ _ hk)
 have hblk2:W2.heap[d]?=_:=(keep d h.dlt (fun e=>hnd f d h1 h2 e rfl)).trans h.blk;have kset:∀ k,k ≠ d->(W2.setCell ⟨d,f,none⟩ v').heap[k]?=W2.heap[k]?:=fun k hk=>bhs _ _ _ _ hk
 have hdW:=h.dlt
 have hvd:∀ j,v'.ownBlock=some j->j ≠ d/\j<W2.heap.size/\B<=j:=fun j hj=>by
  obtain ⟨g1,cs,hh⟩:=zAc hown hj;refine ⟨?_,zAa hh,g1⟩;rcases hat with e | e
  ·exact h.nod f j h1 h2 (e.symm.trans hj)
  ·rw [e] at hj; cases hj; simp; omega
 refine ⟨⟨?_,?_,?_,?_,?_,?_,.inl h.gd,?_,h.ge,h.dB⟩,⟨by simp [World.setCell]; omega,fun b hb hgb=>?_,fun b hb hgb=>?_⟩⟩
 ·have h3:Below w (W.alloc o) W2:=(brf _ _).grown hg (by have:=h.bel.size; simp; omega) (fun j hj=>by have:=(zAc (h.own f h1 h2) hj).1; have:=h.ge; omega);exact ((h.bel.alloc h.bel.size _).trans h3).setCell (p:=⟨d,f,none⟩) (nlt h.ge h.dB) _
 ·rw [zAe _ hblk2];rcases (by omega:f=1\/f=2\/f=3) with rfl | rfl | rfl <;> simp
 ·intro g g1 g2;rw [zBc va vb vc v' f g h1 h2 g1 g2];by_cases e:g=f
  ·subst e;simp only [if_true];exact zAr hown fun j hj=>kset j (hvd j hj).1
  ·simp only [if_neg e];(refine zAr (h.own g g1 g2) fun j hj=>?_);obtain ⟨_,cs,hh⟩:=zAc (h.own g g1 g2) hj;exact (kset j (hnd g j g1 g2 hj)).trans (keep j (zAa hh) (h.apart g f j e g1 g2 h1 h2 hj))
 ·intro g k j hgk g1 g2 k1 k2;rw [zBc va vb vc v' f g h1 h2 g1 g2,zBc va vb vc v' f k h1 h2 k1 k2]
  have old:∀ g j,1<=g->g<=3->(three va vb vc g).ownBlock=some j->j<W.heap.size:=fun g j g1 g2 hj=>by
   obtain ⟨_,cs,hh⟩:=zAc (h.own g g1 g2) hj;exact zAa hh
  by_cases eg:g=f
  ·by_cases ek:k=f
   ·omega
   ·rw [if_pos eg,if_neg ek];intro hj hk;rcases hat with e | e
    ·rw [e] at hj; exact h.apart f k j om h1 h2 k1 k2 hj hk
    ·rw [e] at hj; cases hj
     have:=old k _ k1 k2 hk; simp at this; omega
  ·rw [if_neg eg];by_cases ek:k=f
   ·rw [if_pos ek];intro hj hk;rcases hat with e | e
    ·rw [e] at hk; exact h.apart g f j om g1 g2 h1 h2 hj hk
    ·rw [e] at hk; cases hk
     have:=old g _ g1 g2 hj; simp at this; omega
   ·rw [if_neg ek]; exact h.apart g k j hgk g1 g2 k1 k2
 ·intro g j g1 g2;rw [zBc va vb vc v' f g h1 h2 g1 g2]
  split
  ·intro hj; exact (hvd j hj).1
  ·intro hj; exact h.nod g j g1 g2 hj
 ·intro x hx;rcases hx with hx | hx
  ·have:=h.gin x hx; exact ⟨this.1,by simp [World.setCell]; omega⟩
  ·have:=hvd x hx; exact ⟨om,by simp [World.setCell]; omega⟩
 ·intro g j g1 g2;rw [zBc va vb vc v' f g h1 h2 g1 g2]
  split
  ·intro hj; exact .inr hj
  ·intro hj; exact .inl (h.gf g j g1 g2 hj)
 ·exact (kset b (fun e=>hgb (by rw [e]; exact h.gd))).trans (keep b hb fun e=>hgb (h.gf f b h1 h2 e))
 ·rcases hgb with hgb | hgb
  ·exact hgb
  ·rcases hat with e | e
   ·rw [e] at hgb; exact h.gf f b h1 h2 hgb
   ·rw [e] at hgb; cases hgb; simp at hb; omega
end
section
variable {W W':World} {G G' K:Nat->Prop} {L:Nat}
theorem Step.qisK (s:Step W W' G G') {v:QV} (h:QIs W (fun b=>¬ G b/\K b) L v q):QIs W' (fun b=>¬ G' b/\K b) L v q:=by
 have h2:QIs W (fun b=>(¬ G b/\¬ G' b)/\K b) L v q:=h.imp fun b hb hx=>⟨⟨hx.1,fun hg=>hx.1 (s.back b hb hg)⟩,hx.2⟩
 have h3:QIs W' (fun b=>(¬ G b/\¬ G' b)/\K b) L v q:=h2.keep fun a hx hl=>s.cell hl hx.1.1
 exact h3.imp fun b _ hx=>⟨hx.1.2,hx.2⟩
theorem Step.vecK (s:Step W W' G G') {v:SV} (h:VecIs W (fun b=>¬ G b/\K b) (fun b=>¬ G b/\K b) L v l):VecIs W' (fun b=>¬ G' b/\K b) (fun b=>¬ G' b/\K b) L v l:=by
 have h2:VecAt W (fun b=>(¬ G b/\¬ G' b)/\K b) (QIs W (fun b=>¬ G b/\K b) L) v l:=h.imp (fun b hb hx=>⟨⟨hx.1,fun hg=>hx.1 (s.back b hb hg)⟩,hx.2⟩) fun _ _ h=>h
 have h3:VecAt W' (fun b=>(¬ G b/\¬ G' b)/\K b) (QIs W' (fun b=>¬ G' b/\K b) L) v l:=h2.keep (fun a hx hl=>s.cell hl hx.1.1) fun _ _ h=>s.qisK h
 exact h3.imp (fun b _ hx=>⟨hx.1.2,hx.2⟩) fun _ _ h=>h
end
theorem zNU {base:Nat} {ss:List SV} {m:List (List Rat)} (h:W.ownsRow base 23 1 v n (ss.map SV.val)) (hl:ss.length=n) (hm:m.length=n) (he:∀ k,k<n->VecIs W (fun b=>base<=b) (fun b=>base<=b) L (ss.getD k ⟨none,0,0⟩) (m.getD k [])) :
  ∃ s:SV,v=s.val/\s.n=n/\MatIs W (fun b=>base<=b) (fun b=>base<=b) L s m:=by
 rcases h.2 with ⟨rfl,rfl⟩ | ⟨g,cap,cur,rfl,hbg,hh,hnc,hcap,hcur,ht⟩
 ·exact ⟨⟨none,0,0⟩,rfl,rfl,hm,nlr _,nzl _,fun k hk=>absurd hk (Nat.not_lt_zero k)⟩
 ·refine ⟨⟨some ⟨g,0,none⟩,n,cap⟩,rfl,rfl,hm,hnc,(by show cap<=_; exact nlt ‹_› (show maxLen<=9223372036854775807 by decide)),fun k hk=>⟨⟨g,0,none⟩,ss.getD k ⟨none,0,0⟩,rfl,hbg,?_,he k hk⟩⟩;have hk':k<n:=hk;rw [zA4,Nat.zero_add];have e2:(cur.toList.take (n*1))[k]?=(ss.map SV.val)[k]?:=by rw [ht]
  rw [Nat.mul_one,List.getElem?_take_of_lt hk'] at e2;simp only [World.cell?,hh];have e3:cur[k]?=(ss.map SV.val)[k]?:=by simpa using e2
  rw [List.getElem?_map,gge om] at e3;have e4:ss.getD k ⟨none,0,0⟩=ss[k]'om:=by simp [gge (show k<ss.length by omega)]
  rw [e4];simpa using e3
theorem zN6 {base:Nat} {qs:List QV} (h:W.ownsRow base 30 4 v n (qs.flatMap cells4q)) (hl:qs.length=n) (hm:l.length=n) (he:∀ k,k<n->QIs W (fun b=>base<=b) L (qs.getD k ⟨⟨false,none,0,0⟩,⟨false,none,0,0⟩⟩) (l.getD k 0)) :
  ∃ s:SV,v=s.val/\s.n=n/\VecIs W (fun b=>base<=b) (fun b=>base<=b) L s l:=by
 rcases h.2 with ⟨rfl,rfl⟩ | ⟨g,cap,cur,rfl,hbg,hh,hnc,hcap,hcur,ht⟩
 ·exact ⟨⟨none,0,0⟩,rfl,rfl,hm,nlr _,nzl _,fun k hk=>absurd hk (Nat.not_lt_zero k)⟩
 ·refine ⟨⟨some ⟨g,0,none⟩,n,cap⟩,rfl,rfl,hm,hnc,(by show cap<=_; exact nlt ‹_› (show maxLen<=9223372036854775807 by decide)),fun k hk=>⟨⟨g,0,none⟩,qs.getD k ⟨⟨false,none,0,0⟩,⟨false,none,0,0⟩⟩,rfl,hbg,?_,he k hk⟩⟩;have hk':k<n:=hk
  have ec:∀ o,o<4->W.cell? ⟨g,k*4+o,none⟩=(cells4q (qs.getD k ⟨⟨false,none,0,0⟩,⟨false,none,0,0⟩⟩))[o]?:=fun o ho=>by
   have e2:(cur.toList.take (n*4))[k*4+o]?=(qs.flatMap cells4q)[k*4+o]?:=(by rw [ht]);rw [List.getElem?_take_of_lt om,zCy qs k o om ho ⟨⟨false,none,0,0⟩,⟨false,none,0,0⟩⟩] at e2;simp only [World.cell?,hh];simpa using e2
  rw [zA4,Nat.zero_add];exact ⟨ec 0 om,ec 1 om,ec 2 om,ec 3 om⟩
def ExMid (w:World) (B d:Nat) (n:Int) (L:Nat) (os rs:List (List Rat)) (bs:List Rat) (W:World):Prop:=
 ∃ (va vb vc:Value) (G:Nat->Prop) (s1 s2:List SV) (s3:List QV),s1.length=os.length/\s2.length=rs.length/\s3.length=bs.length/\
  QT w B d n va vb vc (pick3 [] (s1.map SV.val) (s2.map SV.val) (s3.flatMap cells4q)) (pick3 0 os.length rs.length bs.length) G W/\
  (∀ m,m<os.length->VecIs W (fun b=>¬ G b/\B<=b) (fun b=>¬ G b/\B<=b) L (s1.getD m ⟨none,0,0⟩) (os.getD m []))/\
  (∀ m,m<rs.length->VecIs W (fun b=>¬ G b/\B<=b) (fun b=>¬ G b/\B<=b) L (s2.getD m ⟨none,0,0⟩) (rs.getD m []))/\
  (∀ m,m<bs.length->QIs W (fun b=>¬ G b/\B<=b) L (s3.getD m ⟨⟨false,none,0,0⟩,⟨false,none,0,0⟩⟩) (bs.getD m 0))
section
variable {w W W1 W2:World} {n:Int} {B d L:Nat} {os rs:List (List Rat)} {bs:List Rat} {va vb vc v':Value} {G:Nat->Prop} {s1 s2:List SV} {s3:List QV} {o:Obj}
theorem zJU (l1:s1.length=os.length) (l2:s2.length=rs.length) (l3:s3.length=bs.length)
  (hQ:QT w B d n va vb vc (pick3 [] (s1.map SV.val) (s2.map SV.val) (s3.flatMap cells4q)) (pick3 0 os.length rs.length bs.length) G W)
  (e1:∀ m,m<os.length->VecIs W (fun b=>¬ G b/\B<=b) (fun b=>¬ G b/\B<=b) L (s1.getD m ⟨none,0,0⟩) (os.getD m []))
  (e2:∀ m,m<rs.length->VecIs W (fun b=>¬ G b/\B<=b) (fun b=>¬ G b/\B<=b) L (s2.getD m ⟨none,0,0⟩) (rs.getD m []))
  (e3:∀ m,m<bs.length->QIs W (fun b=>¬ G b/\B<=b) L (s3.getD m ⟨⟨false,none,0,0⟩,⟨false,none,0,0⟩⟩) (bs.getD m 0))
  (hb:Below W W W1) {x:SV} (hx:VecIs W1 (fun b=>¬ G b/\B<=b) (fun b=>¬ G b/\B<=b) L x l)
  (hown:W2.ownsRow B 23 1 v' (rs.length+1) (s2.map SV.val++[x.val])) (hg:(W1.alloc o).grownBy W2 vb.ownBlock) (hat:v'.ownBlock=vb.ownBlock\/v'.ownBlock=some (W1.alloc o).heap.size) :
  ExMid w B d n L os (rs++[l]) bs (W2.setCell ⟨d,2,none⟩ v')/\∀ x,x<W.heap.size->¬ G x->(W2.setCell ⟨d,2,none⟩ v').heap[x]?=W.heap[x]?:=by
 obtain ⟨hQ2,st⟩:=(hQ.call hb).append (f:=2) om om (xs:=[x.val]) (v':=v') hown hg hat;have st':=(Step.below G hb).trans st
 have ea:(fun g=>if g=2 then pick3 [] (s1.map SV.val) (s2.map SV.val) (s3.flatMap cells4q) 2++[x.val] else pick3 [] (s1.map SV.val) (s2.map SV.val) (s3.flatMap cells4q) g)=pick3 [] (s1.map SV.val) ((s2++[x]).map SV.val) (s3.flatMap cells4q):=by
  funext g; unfold pick3; by_cases h1:g=1 <;> by_cases h2:g=2 <;> by_cases h3:g=3 <;> simp_all <;> simp [cells4q]
 have ec:(fun g=>if g=2 then pick3 0 os.length rs.length bs.length 2+1 else pick3 0 os.length rs.length bs.length g)=pick3 0 os.length (rs++[l]).length bs.length:=by
  funext g; unfold pick3; by_cases h1:g=1 <;> by_cases h2:g=2 <;> by_cases h3:g=3 <;> simp_all
 rw [ea,ec] at hQ2;exact ⟨⟨_,_,_,_,s1,s2++[x],s3,by simp [l1],by simp [l2],by simp [l3],hQ2,fun m hm=>st'.vecK (e1 m hm),zHj l2 (fun m hm=>st'.vecK (e2 m hm)) (st.vecK hx),fun m hm=>st'.qisK (e3 m hm)⟩,st'.keep⟩
theorem zOa (l1:s1.length=os.length) (l2:s2.length=rs.length) (l3:s3.length=bs.length)
  (hQ:QT w B d n va vb vc (pick3 [] (s1.map SV.val) (s2.map SV.val) (s3.flatMap cells4q)) (pick3 0 os.length rs.length bs.length) G W)
  (e1:∀ m,m<os.length->VecIs W (fun b=>¬ G b/\B<=b) (fun b=>¬ G b/\B<=b) L (s1.getD m ⟨none,0,0⟩) (os.getD m []))
  (e2:∀ m,m<rs.length->VecIs W (fun b=>¬ G b/\B<=b) (fun b=>¬ G b/\B<=b) L (s2.getD m ⟨none,0,0⟩) (rs.getD m []))
  (e3:∀ m,m<bs.length->QIs W (fun b=>¬ G b/\B<=b) L (s3.getD m ⟨⟨false,none,0,0⟩,⟨false,none,0,0⟩⟩) (bs.getD m 0))
  (hb:Below W W W1) {x:QV} {l:Rat} (hx:QIs W1 (fun b=>¬ G b/\B<=b) L x l)
  (hown:W2.ownsRow B 30 4 v' (bs.length+1) (s3.flatMap cells4q++cells4q x)) (hg:(W1.alloc o).grownBy W2 vc.ownBlock) (hat:v'.ownBlock=vc.ownBlock\/v'.ownBlock=some (W1.alloc o).heap.size) :
  ExMid w B d n L os rs (bs++[l]) (W2.setCell ⟨d,3,none⟩ v')/\∀ x,x<W.heap.size->¬ G x->(W2.setCell ⟨d,3,none⟩ v').heap[x]?=W.heap[x]?:=by
 obtain ⟨hQ2,st⟩:=(hQ.call hb).append (f:=3) om om (xs:=cells4q x) (v':=v') hown hg hat;have st':=(Step.below G hb).trans st
 have ea:(fun g=>if g=3 then pick3 [] (s1.map SV.val) (s2.map SV.val) (s3.flatMap cells4q) 3++cells4q x else pick3 [] (s1.map SV.val) (s2.map SV.val) (s3.flatMap cells4q) g)=pick3 [] (s1.map SV.val) (s2.map SV.val) ((s3++[x]).flatMap cells4q):=by
  funext g; unfold pick3; by_cases h1:g=1 <;> by_cases h2:g=2 <;> by_cases h3:g=3 <;> simp_all <;> simp [cells4q]
 have ec:(fun g=>if g=3 then pick3 0 os.length rs.length bs.length 3+1 else pick3 0 os.length rs.length bs.length g)=pick3 0 os.length rs.length (bs++[l]).length:=by
  funext g; unfold pick3; by_cases h1:g=1 <;> by_cases h2:g=2 <;> by_cases h3:g=3 <;> simp_all
 rw [ea,ec] at hQ2;exact ⟨⟨_,_,_,_,s1,s2,s3++[x],by simp [l1],by simp [l2],by simp [l3],hQ2,fun m hm=>st'.vecK (e1 m hm),fun m hm=>st'.vecK (e2 m hm),zHj l3 (fun m hm=>st'.qisK (e3 m hm)) (st.qisK hx)⟩,st'.keep⟩
end
theorem zOc {n:Int} (h:ExMid w B d n L os rs bs W) :
  ∃ q:LPV,q.n=n/\LPBox W d q/\LPIs W (fun b=>B<=b) (fun b=>B<=b) L q os rs bs/\q.O.n=os.length/\q.R.n=rs.length/\q.B.n=bs.length/\Below w w W/\d<W.heap.size/\B<=d:=by
 obtain ⟨va,vb,vc,G,s1,s2,s3,l1,l2,l3,hQ,e1,e2,e3⟩:=h;obtain ⟨o1,o2,o3⟩:W.ownsRow B 23 1 va os.length (s1.map SV.val)/\W.ownsRow B 23 1 vb rs.length (s2.map SV.val)/\W.ownsRow B 30 4 vc bs.length (s3.flatMap cells4q):=⟨hQ.own 1 om om,hQ.own 2 om om,hQ.own 3 om om⟩;obtain ⟨x1,rfl,n1,m1⟩:=zNU o1 l1 rfl fun k hk=>(e1 k hk).imp (fun _ _ hx=>hx.2) fun _ _ hq=>hq.imp fun _ _ hx=>hx.2
 obtain ⟨x2,rfl,n2,m2⟩:=zNU o2 l2 rfl fun k hk=>(e2 k hk).imp (fun _ _ hx=>hx.2) fun _ _ hq=>hq.imp fun _ _ hx=>hx.2
 obtain ⟨x3,rfl,n3,m3⟩:=zN6 o3 l3 rfl fun k hk=>(e3 k hk).imp fun _ _ hx=>hx.2
 refine ⟨⟨n,x1,x2,x3⟩,rfl,?_,⟨m1,m2,m3⟩,n1,n2,n3,hQ.bel,hQ.dlt,hQ.dB⟩;obtain ⟨c0,c1,c2,c3,cf⟩:=hQ.cells;exact ⟨c0,c1,c2,c3,cf⟩
theorem MPart.own {m:List (List Rat)} (h:MPart lo hi b m W) (hB:B<=lo) (hn:m.length<=1000000) :
  ∃ ss:List SV,ss.length=m.length/\W.ownsRow B 23 1 (.slice (some b) m.length m.length) m.length (ss.map SV.val)/\∀ k,k<m.length->VecCan W (fun x=>lo<=x/\x<hi/\x ≠ b) (fun x=>lo<=x/\x<hi/\x ≠ b) (ss.getD k ⟨none,0,0⟩) (m.getD k []):=by
 obtain ⟨h1,h2,cs,sv,h3,h4,h5⟩:=h;refine ⟨(List.range m.length).map sv,si,⟨si,.inr ⟨b,m.length,cs,rfl,om,h3,nlr _,by simp only [maxLen]; omega,om,?_⟩⟩,fun k hk=>?_⟩
 ·rw [Nat.mul_one,List.take_of_length_le (by simp; omega)];apply List.ext_getElem
  ·simp [h4]
  ·intro i g1 g2;have hi':i<m.length:=by simp at g2; exact g2
   have:=(h5 i hi').1;rw [Array.getElem?_eq_getElem om] at this;simpa using this
 ·rw [zA6 _ _ _ _ hk];exact (h5 k hk).2
theorem VPart.own (h:VPart lo hi b l W) (hB:B<=lo) (hn:l.length<=1000000) :
  ∃ ss:List QV,ss.length=l.length/\W.ownsRow B 30 4 (.slice (some b) l.length l.length) l.length (ss.flatMap cells4q)/\∀ k,k<l.length->QCan W (fun x=>lo<=x/\x<hi/\x ≠ b) (ss.getD k ⟨⟨false,none,0,0⟩,⟨false,none,0,0⟩⟩) (l.getD k 0):=by
 obtain ⟨h1,h2,h3⟩:=h;obtain ⟨f,hf⟩:=Deep.choose_lt (α:=QV) (n:=l.length) (p:=fun k v=>QCell W ⟨b,k*4,none⟩ v/\QCan W (fun x=>¬ ¬ (lo<=x/\x<hi/\x ≠ b)) v (l.getD k 0)) (fun k hk=>h3.elem k hk);obtain ⟨cs,e,hs⟩:=h3.blk
 have hfl:∀ n,(((List.range n).map f).flatMap cells4q).length=n*4:=fun n=>by
  induction n with
  | zero=>rfl
  | succ n ih=>rw [List.range_succ,List.map_append,List.flatMap_append,List.length_append,ih]; simp [cells4q]; omega
 refine ⟨(List.range l.length).map f,si,⟨hfl _,.inr ⟨b,l.length,cs,rfl,om,e,nlr _,by simp only [maxLen]; omega,om,?_⟩⟩,fun k hk=>?_⟩
 ·rw [List.take_of_length_le (by simp; omega)];apply List.ext_getElem?;intro i;by_cases hi':i<l.length*4
  ·have hk:i / 4<l.length:=om;have e1:=zCy ((List.range l.length).map f) (i / 4) (i % 4) (by simpa using hk) om ⟨⟨false,none,0,0⟩,⟨false,none,0,0⟩⟩;rw [show i / 4*4+i % 4=i by omega,zA6 _ _ _ _ hk] at e1;rw [e1];obtain ⟨q0,q1,q2,q3⟩:=(hf (i / 4) hk).1;simp only [World.cell?,e] at q0 q1 q2 q3;have ei:i=i / 4*4+i % 4:=om;have ho:i % 4<4:=om;generalize i / 4=k at *;generalize i % 4=o at *;subst ei;rcases (by omega:o=0\/o=1\/o=2\/o=3) with rfl | rfl | rfl | rfl <;> simp only [cells4q,List.getElem?_cons_zero,List.getElem?_cons_succ,Array.getElem?_toList]
   ·simpa using q0
   ·simpa using q1
   ·simpa using q2
   ·simpa using q3
  ·rw [List.getElem?_eq_none (by simp; omega),List.getElem?_eq_none (by rw [hfl]; omega)]
 ·rw [zA6 _ _ _ _ hk];exact (hf k hk).2.imp fun x _ hx=>Classical.not_not.1 hx
theorem zN0 {y:World} {k0 k1 k2 k3 b1 b2 b3:Nat} {n:Int} (hb:Below w w y) (hk0:w.heap.size<=k0) (hk3:k3<=y.heap.size) (h1:MPart k0 k1 b1 os y) (h2:MPart k1 k2 b2 rs y) (h3:VPart k2 k3 b3 bs y)
  (n1:os.length<=1000000) (n2:rs.length<=1000000) (n3:bs.length<=1000000) (f1:∀ i k,QFit L ((os.getD i []).getD k 0)) (f2:∀ i k,QFit L ((rs.getD i []).getD k 0)) (f3:∀ k,QFit L (bs.getD k 0)) :
  ExMid w k0 y n L os rs bs (y.alloc (.cells #[n,.slice (some b1) os.length os.length,.slice (some b2) rs.length rs.length,.slice (some b3) bs.length bs.length] 25)):=by
 have al:Below y y (y.alloc (.cells #[n,.slice (some b1) os.length os.length,.slice (some b2) rs.length rs.length,.slice (some b3) bs.length bs.length] 25)):=bal;have q1:=h1.1; have q1':=h1.2.1; have q2:=h2.1; have q2':=h2.2.1; have q3:=h3.1; have q3':=h3.2.1
 obtain ⟨s1,l1,o1,e1⟩:=(h1.keep fun x _ hx=>al.block x om).own (B:=k0) (nlr _) n1;obtain ⟨s2,l2,o2,e2⟩:=(h2.keep fun x _ hx=>al.block x om).own (B:=k0) om n2;obtain ⟨s3,l3,o3,e3⟩:=(h3.keep fun x _ hx=>al.block x om).own (B:=k0) om n3;refine ⟨.slice (some b1) os.length os.length,.slice (some b2) rs.length rs.length,.slice (some b3) bs.length bs.length,fun x=>x=y.heap.size\/x=b1\/x=b2\/x=b3,s1,s2,s3,l1,l2,l3,⟨hb.trans (al.mono hb.size),zAd _ _ rfl,fun f g1 g2=>?_,fun f g j hne f1 f2 g1 g2=>?_,fun f j f1 f2=>?_,fun x hx=>?_,.inl rfl,fun f j f1 f2=>?_,hk0,om⟩,fun m hm=>?_,fun m hm=>?_,fun m hm=>?_⟩
 ·rcases (by omega:f=1\/f=2\/f=3) with rfl | rfl | rfl
  ·exact o1
  ·exact o2
  ·exact o3
 ·rcases (by omega:f=1\/f=2\/f=3) with rfl | rfl | rfl <;> rcases (by omega:g=1\/g=2\/g=3) with rfl | rfl | rfl <;> simp [three,Value.ownBlock] at hne ⊢ <;> omega
 ·rcases (by omega:f=1\/f=2\/f=3) with rfl | rfl | rfl <;> simp [three,Value.ownBlock] <;> omega
 ·simp only [World.size_alloc]; omega
 ·rcases (by omega:f=1\/f=2\/f=3) with rfl | rfl | rfl <;> simp [three,Value.ownBlock] <;> omega
 ·exact ((e1 m hm).loose (f1 m)).imp (fun x _ hx=>om) fun v q hq=>hq.imp fun x _ hx=>om
 ·exact ((e2 m hm).loose (f2 m)).imp (fun x _ hx=>om) fun v q hq=>hq.imp fun x _ hx=>om
 ·exact ((e3 m hm).qis (f3 m)).imp fun x _ hx=>om
def LPRet (w:World) (n:Int) (L:Nat) (os rs:List (List Rat)) (bs:List Rat) (e:Ending) (w':World):Prop:=
 ∃ q:LPV,e = .returned (.tuple #[q.val,.int .i64 0])/\q.n=n/\LPIs w' (fun x=>w.heap.size<=x) (fun x=>w.heap.size<=x) L q os rs bs
theorem zA1 (w:World) (v:QV):∀ j u,(cells4q v)[j]?=some u->(w.alloc (.cells #[v.num.ng,v.num,v.den.ng,v.den] 30)).cell? (Addr.add ⟨w,0,none⟩ j)=some u:=by
 intro j u h;rw [zA4,Nat.zero_add];have e:(w.alloc (.cells #[v.num.ng,v.num,v.den.ng,v.den] 30)).heap[w.heap.size]?=some (.cells #[v.num.ng,v.num,v.den.ng,v.den] 30 (0,0)):=zAd _ _ rfl;simp only [World.cell?,e];simpa [cells4q] using h
theorem zNR (h:l.length=n):resize l n=l:=by
 subst h;unfold resize;apply List.ext_getElem
 ·simp
 ·intro i h1 h2;simp [h2]
theorem zIC {n:Int} {a1 a2 a3:List Value} {c1 c2 c3:Nat} (h:QT w B d n va vb vc (pick3 [] a1 a2 a3) (pick3 0 c1 c2 c3) G W) :
  W.ownsRow B 23 1 va c1 a1/\W.ownsRow B 23 1 vb c2 a2/\W.ownsRow B 30 4 vc c3 a3:=
 ⟨h.own 1 om om,h.own 2 om om,h.own 3 om om⟩
theorem zJH {W1:World} {n:Int} {al:Nat->List Value} {cnt:Nat->Nat} (hQ:QT w B d n va vb vc al cnt G W) (hz:VecCan W1 (New W) (New W) s l) (hf:∀ k,QFit L (l.getD k 0)):VecIs W1 (fun b=>¬ G b/\B<=b) (fun b=>¬ G b/\B<=b) L s l:=
 have hk:∀ b,New W b->¬ G b/\B<=b:=fun b hb=>by simp only [New] at hb; exact ⟨fun hg=>by have:=(hQ.gin b hg).2; omega,by have:=hQ.dlt; have:=hQ.dB; omega⟩
 (hz.loose hf).imp (fun b _ hb=>hk b hb) fun v q hq=>hq.imp fun b _ hb=>hk b hb
theorem zOb {W1:World} {n:Int} {al:Nat->List Value} {cnt:Nat->Nat} {v:QV} (hQ:QT w B d n va vb vc al cnt G W) (hz:QCan W1 (New W) v q) (hf:QFit L q):QIs W1 (fun b=>¬ G b/\B<=b) L v q:=
 (hz.qis hf).imp fun b _ hb=>by simp only [New] at hb; exact ⟨fun hg=>by have:=(hQ.gin b hg).2; omega,by have:=hQ.dlt; have:=hQ.dB; omega⟩
structure CoAt (w:World) (b i:Nat) (r:SV) (v:QV):Prop where
 c0:w.cell? ⟨b,i*5,none⟩=some (.slice r.A r.n r.c)
 c1:w.cell? ⟨b,i*5+1,none⟩=some (.bool v.num.ng)
 c2:w.cell? ⟨b,i*5+2,none⟩=some (.slice v.num.A v.num.n v.num.c)
 c3:w.cell? ⟨b,i*5+3,none⟩=some (.bool v.den.ng)
 c4:w.cell? ⟨b,i*5+4,none⟩=some (.slice v.den.A v.den.n v.den.c)
theorem CoAt.below {r:SV} {v:QV} (h:CoAt w b i r v) (hb:Below w w w'):CoAt w' b i r v:=
 ⟨(hb.cell (zAb h.c0)).trans h.c0,(hb.cell (zAb h.c1)).trans h.c1,(hb.cell (zAb h.c2)).trans h.c2,(hb.cell (zAb h.c3)).trans h.c3,(hb.cell (zAb h.c4)).trans h.c4⟩
def ExL1 (w:World) (p:LPV) (m:Nat) (t:Value) (W:World):Prop:=
 ∃ i:Nat,i<=m/\t = .int .i64 i/\Below w w W/\LPBox W w p/\Box4 W (w+1) (.int .i64 0) (.slice none 0 0) (.slice none 0 0) (.slice none 0 0)
def ExL2 (w:World) (B d:Nat) (n:Int) (L:Nat) (os rs:List (List Rat)) (bs:List Rat) (m:Nat) (r:Nat->List Rat) (b:Nat->Rat) (t:Value) (W:World):Prop:=
 ∃ i:Nat,i<=m/\t = .int .i64 i/\Box4 W (w+1) (.int .i64 0) (.slice none 0 0) (.slice none 0 0) (.slice none 0 0)/\w.heap.size+1<B/\ExMid w B d n L os (rs++(List.range i).map r) (bs++(List.range i).map b) W
theorem range_add {α:Type} (l:List α) (f:Nat->α) (i:Nat):(l++(List.range i).map f)++[f i]=l++(List.range (i+1)).map f:=by
 rw [List.range_succ,List.map_append,List.append_assoc]; rfl
theorem zTt {Z':Nat->Prop} {r:Nat->SV} {v:Nat->QV} {row:Nat->List Rat} {most:Nat->Rat} (h:LPIs w X Y L p os rs bs) (hV:p.n=V) (hV2:V<=64) (ho1:1<=p.O.n) (ho2:p.O.n<=4) (hr:p.R.n+m<=128) (hm:m<=64) (hb:p.B.n=p.R.n) (hco:colsOf os<=V) (hcr:colsOf rs<=V) (hL:L+1<=LM)
  (hrow:∀ i,i<m->VecIs w X' Y' L (r i) (row i)) (hmost:∀ i,i<m->QIs w Z' L (v i) (most i)) (hrn:∀ i,i<m->(r i).n<=V) (hl:∀ i,i<m->CoAt w b i (r i) (v i)) :
  Calls Tryz.prog 102 #[p.val,.slice (some b) m m] w fun e w'=>LPRet w p.n (L+1) os (rs++(List.range m).map row) (bs++(List.range m).map most) e w'/\Below w w w':=by
 obtain ⟨ii0,hii,hzi0,hzi1,hzi2⟩:=info_parts zFA;obtain ⟨iq0,hiq,hzq0,hzq1,hzq2⟩:=info_parts zEv;obtain ⟨z,⟨oA,on,oc⟩,⟨rA,rn,rc⟩,⟨bA,bn,bc⟩⟩:=p;dsimp only at hV hr hb ho1 ho2;subst hV;obtain rfl:rn=bn:=hb.symm;have H:=hdq h;have HRow:=hdq hrow;have HMost:=hdq hmost;have HCo:=hdq hco;have HCr:=hdq hcr;have HL:=hdq hL;have HCA:=hdq hl;have HRn:=hdq hrn;have HO:Hid (os.length=on):=h.obj.len;have HRl:Hid (rs.length=rn):=h.rows.len;have HBl:Hid (bs.length=rn):=h.bounds.len;clear h hrow hmost hco hcr hL hl hrn;dsimp only [LPV.val] at *;go_enter Tryz.func102,Tryz.ntmps102
 go_upto_region 1 with fail
 refine zAo (fun W=>Below w w W/\Box4 W w V (.slice oA on oc) (.slice rA rn rc) (.slice bA rn bc)/\Box4 W (w+1) (.int .i64 0) () () ()/\w.heap.size<W.heap.size/\w.heap.size+1<W.heap.size) ⟨(az (az (brf _ _))),bx4,bx4,by simp <;> omega,by simp <;> omega⟩ ?_;rintro W ⟨hbW,bP,bR,s0,s1⟩;have hBW:=hbW.size;obtain ⟨p0,p1,p2,p3,-⟩:=id bP;go_wp2_with fail
 refine (zBv (p:=⟨V,⟨oA,on,oc⟩,⟨rA,rn,rc⟩,⟨bA,rn,bc⟩⟩) (H.out.below hbW) rfl hV2 ho1 ho2 (by show rn<=128; omega) rfl HCo.out HCr.out).mono ?_;rintro e w1 ⟨rfl,hb1⟩;replace bP:=bP.below hb1 s0;replace bR:=bR.below hb1 s1;replace s0:=ltl s0 hb1.size;replace s1:=ltl s1 hb1.size;replace hbW:=hbW.trans (hb1.mono hbW.size);clear hb1 hBW p0 p1 p2 p3;obtain ⟨p0,p1,p2,p3,-⟩:=id bP;have hg:¬ ((128:Int)<(rn:Int)+(m:Int)):=om
 have hg2:IntKind.i64.wrap ((rn:Int)+(m:Int))=(rn:Int)+(m:Int):=IntWalk.i64_in _ om;have H1:Hid (ExL1 w ⟨V,⟨oA,on,oc⟩,⟨rA,rn,rc⟩,⟨bA,rn,bc⟩⟩ m (.int .i64 0) w1):=⟨0,om,rfl,hbW,bP,bR⟩;clear bP bR;go_wp2;clear p0 p1 p2 p3 hg hg2;generalize w1=W0 at *;go_loopw [26] (fun t W=>ExL1 w ⟨V,⟨oA,on,oc⟩,⟨rA,rn,rc⟩,⟨bA,rn,bc⟩⟩ m t W) (fun t _=>m-(intOf t).toNat)
 case atStart=>exact H1.out
 case round=>
  clear H1 hbW s0 s1;obtain ⟨i,hi,rfl,hbW,bP,bR⟩:=hrel;obtain ⟨p0,p1,p2,p3,-⟩:=id bP;have s0:w.heap.size<wr.heap.size:=zAb p0;have s1:w.heap.size+1<wr.heap.size:=zAb bR.1;by_cases hlt:i<m
  ·have hki:(i:Int)<(m:Int):=om;have hca:=(HCA.out i hlt).below hbW;have hqn:=HRn.out i hlt;generalize r i=ri at *;obtain ⟨qA,qn,qc⟩:=ri;generalize v i=mv at *;obtain ⟨m0,m1,m2,m3,m4⟩:=hca;dsimp only at hqn m0;have hbl2:=zAb m0;have hq:¬ ((V:Int)<(qn:Int)):=om;have al:Below wr wr (wr.alloc (.cells #[.slice qA qn qc,mv.num.ng,mv.num,mv.den.ng,mv.den] 147)):=bal;have Hfin:Hid (ExL1 w ⟨V,⟨oA,on,oc⟩,⟨rA,rn,rc⟩,⟨bA,rn,bc⟩⟩ m (.int .i64 ((i:Int)+1)) (wr.alloc (.cells #[.slice qA qn qc,mv.num.ng,mv.num,mv.den.ng,mv.den] 147))):=⟨i+1,om,si,hbW.trans (al.mono hbW.size),bP.below al s0,bR.below al s1⟩;clear al bP bR;go_wp2;go_roundw;case rel=>exact fn_ Hfin.out
   case measure=>simp [intOf]; omega
  ·(obtain rfl:i=m:=om);(go_wp2_with fail);refine (zNJ (p:=⟨V,⟨oA,on,oc⟩,⟨rA,rn,rc⟩,⟨bA,rn,bc⟩⟩) (H.out.below hbW) (by show on<=_; omega) (by show rn<=_; omega) (by show rn<=_; omega) (fun i=>nlt (zBT HCo.out i) om) (fun i=>nlt (zBT HCr.out i) om) (by have:=HL.out; omega)).mono ?_;rintro e y ⟨⟨k0,k1,k2,k3,b1,b2,b3,hk0,hk3,rfl,g1,g2,g3⟩,hby⟩;dsimp only at *;have hbwy:=hbW.trans (hby.mono hbW.size);have HE:=hdq (zN0 (n:=V) hbwy (nlt hbW.size hk0) hk3 g1 g2 g3 (by rw [HO.out]; omega) (by rw [HRl.out]; omega) (by rw [HBl.out]; omega) H.out.obj.fit H.out.rows.fit H.out.bounds.fit);have al:Below y y (y.alloc (.cells #[V,.slice (some b1) os.length os.length,.slice (some b2) rs.length rs.length,.slice (some b3) bs.length bs.length] 25)):=bal;have H2:Hid (ExL2 w k0 y V (L+1) os rs bs i row most (.int .i64 0) (y.alloc (.cells #[V,.slice (some b1) os.length os.length,.slice (some b2) rs.length rs.length,.slice (some b3) bs.length bs.length] 25))):=⟨0,om,rfl,(bR.below hby s1).below al (by have:=hby.size; omega),om,by simp only [List.range_zero,List.map_nil,List.append_nil]; exact HE.out⟩;clear HE al g1 g2 g3 hk0 hk3 hby hbwy bP bR p0 p1 p2 p3 s0 s1 hbW;obtain ⟨m,hmi⟩:∃ m,m=i:=⟨_,rfl⟩;subst hmi;(go_upto_region 10 with fail);generalize y.alloc (.cells #[V,.slice (some b1) os.length os.length,.slice (some b2) rs.length rs.length,.slice (some b3) bs.length bs.length] 25)=W3 at *;generalize y.heap.size=d at *;go_wp2;(go_loopw [42] (fun t W=>ExL2 w k0 d V (L+1) os rs bs m row most t W) (fun t _=>m-(intOf t).toNat));case atStart=>exact H2.out
   case round=>
    clear H2;obtain ⟨i,hi,rfl,bR,hk,hM⟩:=hrel;by_cases hlt:i<m
    ·have hki:(i:Int)<(m:Int):=om;obtain ⟨rsi,hrsi⟩:∃ l,Hid (l=rs++(List.range i).map row):=⟨_,hdq rfl⟩;obtain ⟨bsi,hbsi⟩:∃ l,Hid (l=bs++(List.range i).map most):=⟨_,hdq rfl⟩;rw [<-hrsi.out,<-hbsi.out] at hM;obtain ⟨va,vb,vc,G,s1,s2,s3,l1,l2,l3,hQ,e1,e2,e3⟩:=hM;have hbW:=hQ.bel;have hca:=(HCA.out i hlt).below hbW;have hqn:=HRn.out i hlt;have HRw:=hdq (HRow.out i hlt);have HMo:=hdq (HMost.out i hlt);generalize r i=ri at *;obtain ⟨qA,qn,qc⟩:=ri;generalize v i=mv at *;obtain ⟨m0,m1,m2,m3,m4⟩:=hca;dsimp only at hqn m0;have hbl2:=zAb m0;have hRli:Hid (rsi.length=rn+i):=hdq (by rw [hrsi.out,List.length_append,List.length_map,List.length_range,HRl.out]);have hBli:Hid (bsi.length=rn+i):=hdq (by rw [hbsi.out,List.length_append,List.length_map,List.length_range,HBl.out]);(go_upto_region 13 with fail);have al:Below wr wr (wr.alloc (.cells #[.slice qA qn qc,mv.num.ng,mv.num,mv.den.ng,mv.den] 147)):=bal;have hgG:¬ G wr.heap.size:=fun hg=>by have:=(hQ.gin _ hg).2; omega
     have sR:w.heap.size+1<wr.heap.size:=zAb bR.1;have hCB:(wr.alloc (.cells #[.slice qA qn qc,mv.num.ng,mv.num,mv.den.ng,mv.den] 147)).heap[wr.heap.size]?=some (.cells #[.slice qA qn qc,mv.num.ng,mv.num,mv.den.ng,mv.den] 147 (0,0)):=zAd _ _ rfl;replace bR:=bR.below al sR;replace hQ:=hQ.call al;have HE:=hdq (And.intro l1 (And.intro l2 (And.intro l3 (And.intro (fun m hm=>(e1 m hm).below al) (And.intro (fun m hm=>(e2 m hm).below al) fun m hm=>(e3 m hm).below al)))));clear l1 l2 l3 e1 e2 e3 m0 m1 m2 m3 m4 hbl2 al hbW sR;generalize wr.alloc (.cells #[.slice qA qn qc,mv.num.ng,mv.num,mv.den.ng,mv.den] 147)=wq at *;generalize wr.heap.size=g at *;(obtain ⟨t0,t1,t2,t3,t4⟩:wq.cell? g=some (.slice qA qn qc)/\wq.cell? ⟨g,1,none⟩=some (.bool mv.num.ng)/\wq.cell? ⟨g,2,none⟩=some (.slice mv.num.A mv.num.n mv.num.c)/\wq.cell? ⟨g,3,none⟩=some (.bool mv.den.ng)/\wq.cell? ⟨g,4,none⟩=some (.slice mv.den.A mv.den.n mv.den.c):=by simp [World.cell?,hCB]);have hgl:=zAa hCB;obtain ⟨c0,c1,c2,c3,cf⟩:=hQ.cells;have hdl:=hQ.dlt;have hbz:=hQ.bel.size;have hdr:Below wq wq wq.drew:=(brf _ _).drew;refine zAp 9 (fun f w'=>f=false->Sees w [] wq w') kj ?_;have hS0:Sees w [] wq wq.drew:=Sees.st si hbz;refine tx1 0 (fun _=>hS0) ?_;refine tx1 2 (fun _=>hS0) ?_;refine tx1 4 (fun _=>hS0) ?_;refine tkW 1 (vb) (fun w' hSw=>?_) (fun _=>hS0) ?_
     ·(replace hSw:=hSw rfl; go_simp; try with_reducible rfl)
     simp only [zz];refine tkV 3 7 (.slice qA qn qc) (fun w' hSw=>?_) (fun _=>hS0) ?_
     ·(replace hSw:=hSw rfl; go_simp; try with_reducible rfl)
     simp only [zz];refine tk1 5 ?_;intro K hK;go_simp;refine hK.out _ _ (fun _=>hS0) ?_;clear hK K;refine tk1 6 ?_;intro K hK;go_simp;refine hK.out _ _ (fun _=>hS0) ?_;clear hK K;refine tk1 7 ?_;intro K hK;go_simp;(with_reducible refine (zF0 (s:=⟨qA,qn,qc⟩) (HRw.out.below (hQ.bel.trans (hdr.mono hQ.bel.size))) qn om (by have:=HL.out; omega)).mono ?_);rintro e w1 ⟨⟨⟨zA,zn,zc⟩,rfl,hz⟩,hb1⟩;rw [show resize (row i) qn=row i from zNR HRw.out.len] at hz;have hS1:=Kept.call2 hb1 hS0;have hb1':Below wq wq w1:=hdr.trans hb1;have Hnew:=hdq (zJH hQ hz HRw.out.fit);refine hK.out _ _ (fun _=>hS1) ?_;clear hK K hz hb1;refine tk1 8 ?_;intro K hK;go_simp;refine hK.out _ _ (fun _=>Sees.al hS1) ?_;clear hK K;have hown:=(zIC (hQ.call hb1')).2.1;refine tk1 9 ?_;intro K hK;refine zAq _ _ 22 rfl k0 23 ii0 () 1 24 Tryz.underlying22 hii hzi0 hzi1 hzi2 rfl dj vb rsi.length (s2.map SV.val) rfl (hown.alloc _) ⟨w1,0,none⟩ 1 1 [.slice zA zn zc] rfl rfl (cell_one_new _ _ _) (by intro u hu; simp at hu; rcases hu with rfl <;> rfl) (by have:=hRli.out; simp [maxLen]; omega) (by have:=hRli.out; omega) (by have:=hb1'.size; have:=hQ.dB; simp; omega) ?_;intro v' W5 hown5 hg5 hnil5 hat5;have d1:W5.cell? ⟨d,2,none⟩=some vb:=(cob (a:=⟨d,2,none⟩) ((hQ.call hb1').app_blk (f:=2) om om hg5 (ltl hdl hb1'.size) (.inr rfl))).trans ((hb1'.cell (p:=⟨d,2,none⟩) hdl).trans c2);have df:∀ o,W5.frozen? ⟨d,o,none⟩=false:=fun o=>(World.frozen?_of_block (a:=⟨d,o,none⟩) ((hQ.call hb1').app_blk (f:=2) om om hg5 (ltl hdl hb1'.size) (.inr rfl))).trans ((hQ.call hb1').cells.2.2.2.2 o)
     have Hm:Hid (ExMid w k0 d V (L+1) os (rsi++[row i]) bsi (W5.setCell ⟨d,2,none⟩ v')/\∀ x,x<wq.heap.size->¬ G x->(W5.setCell ⟨d,2,none⟩ v').heap[x]?=wq.heap[x]?):=by
      obtain ⟨l1,l2,l3,e1,e2,e3⟩:=HE.out;exact zJU l1 l2 l3 hQ e1 e2 e3 hb1' (x:=⟨zA,zn,zc⟩) Hnew.out hown5 hg5 hat5
     have hRG:¬ G (w+1):=fun hg=>by have:=(hQ.gin _ hg).1; omega
     have sR:w.heap.size+1<wq.heap.size:=zAb bR.1;obtain ⟨g5,c5,rfl⟩:=ownsRow_succ hown5;simp only [Act.put,zz];refine hK.out _ _ (fun h=>absurd h dj) ?_;clear hK K hown hown5 hg5 hat5 hnil5 hS0 hS1 hQ HE Hnew t0 t1 t2 t3 t4 c0 c1 c2 c3 cf hb1';refine tk1 10 ?_;intro K hK;go_simp;refine hK.out _ _ (fun h=>absurd h dj) ?_;clear hK K;refine tk1 11 ?_;intro K hK;go_simp;refine hK.out _ _ (fun h=>absurd h dj) ?_;clear hK K d1 df;refine zAf kj ?_ _;generalize W5.setCell ⟨d,2,none⟩ (.slice (some g5) (rsi.length+1) c5)=wp at *;replace bR:=bR.heap (Hm.out.2 _ sR hRG);replace hCB:=(Hm.out.2 _ hgl hgG).trans hCB;have HM2:=hdq Hm.out.1;clear Hm hRG hgG hdl hbz hdr sR hgl;obtain ⟨va,vb,vc,G,s1,s2,s3,l1,l2,l3,hQ,e1,e2,e3⟩:=HM2.out;have HE:=hdq (And.intro l1 (And.intro l2 (And.intro l3 (And.intro e1 (And.intro e2 e3)))));clear l1 l2 l3 e1 e2 e3 HM2;(obtain ⟨t0,t1,t2,t3,t4⟩:wp.cell? g=some (.slice qA qn qc)/\wp.cell? ⟨g,1,none⟩=some (.bool mv.num.ng)/\wp.cell? ⟨g,2,none⟩=some (.slice mv.num.A mv.num.n mv.num.c)/\wp.cell? ⟨g,3,none⟩=some (.bool mv.den.ng)/\wp.cell? ⟨g,4,none⟩=some (.slice mv.den.A mv.den.n mv.den.c):=by simp [World.cell?,hCB]);have hgl:=zAa hCB;obtain ⟨c0,c1,c2,c3,cf⟩:=hQ.cells;have hdl:=hQ.dlt;have hbz:=hQ.bel.size;have hdr:Below wp wp wp.drew:=(brf _ _).drew;(go_upto_region 14 with fail);refine zAp 6 (fun f w'=>f=false->Sees w [] wp w') kj ?_;have hS0:Sees w [] wp wp.drew:=Sees.st si hbz;refine tx1 0 (fun _=>hS0) ?_;refine tx1 2 (fun _=>hS0) ?_;refine tkW 1 (vc) (fun w' hSw=>?_) (fun _=>hS0) ?_
     ·(replace hSw:=hSw rfl; go_simp; try with_reducible rfl)
     simp only [zz];refine tk1 3 ?_;intro K hK;go_simp;refine hK.out _ _ (fun _=>hS0) ?_;clear hK K;refine tk1 4 ?_;intro K hK;go_simp;(with_reducible refine (zAT (a:=mv) (HMo.out.below (hQ.bel.trans (hdr.mono hQ.bel.size))) (by have:=HL.out; omega)).mono ?_);rintro e w1 ⟨⟨zq,rfl,hz⟩,hb1⟩;have hS1:=Kept.call2 hb1 hS0;have hb1':Below wp wp w1:=hdr.trans hb1;have Hnew:=hdq (zOb hQ hz HMo.out.fit);refine hK.out _ _ (fun _=>hS1) ?_;clear hK K hz hb1;refine tk1 5 ?_;intro K hK;go_simp;refine hK.out _ _ (fun _=>Sees.al hS1) ?_;clear hK K;have hown:=(zIC (hQ.call hb1')).2.2;refine tk1 6 ?_;intro K hK;refine zAq _ _ 23 rfl k0 30 iq0 (.agg #[false,(),false,()]) 4 64 Tryz.underlying23 hiq hzq0 hzq1 hzq2 rfl dj vc bsi.length (s3.flatMap cells4q) rfl (hown.alloc _) ⟨w1,0,none⟩ 1 1 (cells4q zq) rfl rfl (zA1 _ _) (by intro u hu; simp [cells4q] at hu; rcases hu with rfl | rfl | rfl | rfl <;> rfl) (by have:=hBli.out; simp [maxLen]; omega) (by have:=hBli.out; omega) (by have:=hb1'.size; have:=hQ.dB; simp; omega) ?_;intro v' W5 hown5 hg5 hnil5 hat5;have d1:W5.cell? ⟨d,3,none⟩=some vc:=(cob (a:=⟨d,3,none⟩) ((hQ.call hb1').app_blk (f:=3) om om hg5 (ltl hdl hb1'.size) (.inr rfl))).trans ((hb1'.cell (p:=⟨d,3,none⟩) hdl).trans c3);have df:∀ o,W5.frozen? ⟨d,o,none⟩=false:=fun o=>(World.frozen?_of_block (a:=⟨d,o,none⟩) ((hQ.call hb1').app_blk (f:=3) om om hg5 (ltl hdl hb1'.size) (.inr rfl))).trans ((hQ.call hb1').cells.2.2.2.2 o)
     have Hm:Hid (ExMid w k0 d V (L+1) os (rsi++[row i]) (bsi++[most i]) (W5.setCell ⟨d,3,none⟩ v')/\∀ x,x<wp.heap.size->¬ G x->(W5.setCell ⟨d,3,none⟩ v').heap[x]?=wp.heap[x]?):=by
      obtain ⟨l1,l2,l3,e1,e2,e3⟩:=HE.out;exact zOa l1 l2 l3 hQ e1 e2 e3 hb1' (x:=zq) Hnew.out hown5 hg5 hat5
     have hRG:¬ G (w+1):=fun hg=>by have:=(hQ.gin _ hg).1; omega
     have sR:w.heap.size+1<wp.heap.size:=zAb bR.1;obtain ⟨g5,c5,rfl⟩:=ownsRow_succ hown5;simp only [Act.put,zz];refine hK.out _ _ (fun h=>absurd h dj) ?_;clear hK K hown hown5 hg5 hat5 hnil5 hS0 hS1 hQ HE Hnew t0 t1 t2 t3 t4 c0 c1 c2 c3 cf hb1';refine tk1 7 ?_;intro K hK;go_simp;refine hK.out _ _ (fun h=>absurd h dj) ?_;clear hK K;refine tk1 8 ?_;intro K hK;go_simp;refine hK.out _ _ (fun h=>absurd h dj) ?_;clear hK K d1 df;refine zAf kj ?_ _;generalize W5.setCell ⟨d,3,none⟩ (.slice (some g5) (bsi.length+1) c5)=wz at *;replace bR:=bR.heap (Hm.out.2 _ sR hRG);have Hfin:Hid (ExL2 w k0 d V (L+1) os rs bs m row most (.int .i64 ((i:Int)+1)) wz):=hdq ⟨i+1,om,si,bR,hk,by rw [<-range_add,<-range_add,<-hrsi.out,<-hbsi.out]; exact Hm.out.1⟩;clear Hm hRG hdl hbz hdr sR hgl hCB;go_wp2;go_roundw;case rel=>exact fn_ Hfin.out
     case measure=>simp [intOf]; omega
    ·(obtain rfl:i=m:=om);obtain ⟨⟨z,⟨xA,xn,xc⟩,⟨yA,yn,yc⟩,⟨uA,un,uc⟩⟩,hz,bQ,hq,n1,n2,n3,hbW,hdW,hkd⟩:=zOc hM;dsimp only at hz n1 n2 n3;subst hz;obtain ⟨q0,q1,q2,q3,-⟩:=id bQ;obtain ⟨r0,r1,r2,r3,rf⟩:=id bR;dsimp only at q0 q1 q2 q3;have sR:w.heap.size+1<wr.heap.size:=zAb bR.1;clear hM n1 n2 n3;have hne:¬ (d=w.heap.size+1):=om;have P8:=Put.four (W:=wr) (w+1) V (.slice xA xn xc) (.slice yA yn yc) (.slice uA un uc);have bR8:=bR.stored V (.slice xA xn xc) (.slice yA yn yc) (.slice uA un uc);have HQ:=hdq hq;clear hq;go_wp2;generalize (((wr.setCell ⟨w+1,0,none⟩ V).setCell ⟨w.heap.size+1,1,none⟩ (.slice xA xn xc)).setCell ⟨w.heap.size+1,2,none⟩ (.slice yA yn yc)).setCell ⟨w.heap.size+1,3,none⟩ (.slice uA un uc)=y8 at *;clear r0 r1 r2 r3 rf;obtain ⟨r0,r1,r2,r3,-⟩:=id bR8;refine bodyPost_ret (v:=.tuple #[.agg #[V,.slice xA xn xc,.slice yA yn yc,.slice uA un uc],.int .i64 0]) (by simp [results,Tryz.results102,go_sem,r0,r1,r2,r3]) rfl ⟨⟨⟨V,⟨xA,xn,xc⟩,⟨yA,yn,yc⟩,⟨uA,un,uc⟩⟩,rfl,rfl,?_⟩,hbW.trans (P8.below _ om)⟩;have hc:∀ a:Addr,k0<=a.block->y8.cell? a=wr.cell? a:=(fun a ha=>cob (P8.keep _ om));have hv:∀ {s:SV} {l:List Rat},VecIs wr (fun b=>k0<=b) (fun b=>k0<=b) (L+1) s l->VecIs y8 (fun b=>k0<=b) (fun b=>k0<=b) (L+1) s l:=(fun h=>h.keep (fun a ha _=>hc a ha) fun v q hq=>hq.keep fun a ha _=>hc a ha);have h1:LPIs y8 (fun b=>k0<=b) (fun b=>k0<=b) (L+1) ⟨V,⟨xA,xn,xc⟩,⟨yA,yn,yc⟩,⟨uA,un,uc⟩⟩ os (rs++(List.range i).map row) (bs++(List.range i).map most):=⟨HQ.out.obj.keep (fun a ha _=>hc a ha) fun v q hq=>hq.keep fun a ha _=>hc a ha,HQ.out.rows.keep (fun a ha _=>hc a ha) fun v q hq=>hq.keep fun a ha _=>hc a ha,hv HQ.out.bounds⟩;exact ⟨h1.obj.imp (fun b _ hb=>om) fun _ _ hq=>hq.imp fun b _ hb=>om,h1.rows.imp (fun b _ hb=>om) fun _ _ hq=>hq.imp fun b _ hb=>om,h1.bounds.imp (fun b _ hb=>om) fun _ _ hq=>hq.imp fun b _ hb=>om⟩
theorem LPIs.put {q:LPV} (h:LPIs w (fun x=>B<=x) (fun x=>B<=x) L q os rs bs) (hP:Put w w' b) (hb:b<B):LPIs w' (fun x=>B<=x) (fun x=>B<=x) L q os rs bs:=
 have hc:∀ a:Addr,B<=a.block->w'.cell? a=w.cell? a:=fun a ha=>cob (hP.keep _ om)
 ⟨h.obj.keep (fun a ha _=>hc a ha) fun v q hq=>hq.keep fun a ha _=>hc a ha,h.rows.keep (fun a ha _=>hc a ha) fun v q hq=>hq.keep fun a ha _=>hc a ha,h.bounds.keep (fun a ha _=>hc a ha) fun v q hq=>hq.keep fun a ha _=>hc a ha⟩
theorem zPV (h:LPIs w X Y L p os rs bs) (hn:p.O.n<=1000000) (hn2:p.R.n<=1000000) (hn3:p.B.n<=1000000) (hr:∀ i,(os.getD i []).length<=1000000) (hr2:∀ i,(rs.getD i []).length<=1000000) (hL:L<=LM) :
  Calls Tryz.prog 77 #[p.val] w fun e w'=>CopyRet w p.n os rs bs e w'/\Below w w w':=zQr true h hn hn2 hn3 hr hr2 hL
end Go.Proofs.YtbpngececjihlaaGreat
