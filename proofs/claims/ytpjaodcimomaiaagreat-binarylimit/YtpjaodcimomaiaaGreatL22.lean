/- Texts Solved AliveM Alive2 Alive3 Scal1 Scal2 ScalB ScalC Dot MulVec LP1 LP2 LP3 LP4 RestrM Restr Comb of this claim. -/
import Derived.Test.YtpjaodcimomaiaaGreatL21
import Derived.Test.YtpjaodcimomaiaaGreatL13
set_option maxHeartbeats 4000000
set_option maxRecDepth 100000
namespace Go.Proofs.YtpjaodcimomaiaaGreat
variable {q p:Rat} {L B M b k V K n m c kb:Nat} {bs:List Rat} {os rs:List (List Rat)} {w' w W W' W2:World} {z:Int} {X Y X' Y' Z:Nat->Prop} {sa sb:SV} {f:Nat->Rat} {A:Option Addr}
namespace Lin
end Lin
open Go.RowKit Go.Shelf
theorem zAR (h:QFit L q):Lin.Fits (32*L) q:=by
 have e:Num.base ^ L=2 ^ (32*L):=by rw [Nat.pow_mul]; rfl
 exact ⟨by rw [<-e]; exact Nat.le_of_lt h.1,by rw [<-e]; exact Nat.le_of_lt h.2⟩
open Lin
section
variable {w w':World} {P:Lin.Prob} {r:RV}
end
theorem LRet.lpis {p:LPV} (ho:MatCan w' (New B) (New B) p.O os) (hr:MatCan w' (New B) (New B) p.R rs) (hb:VecCan w' (New B) (New B) p.B bs)
  (fo:∀ i k,QFit L ((os.getD i []).getD k 0)) (fr:∀ i k,QFit L ((rs.getD i []).getD k 0)) (fb:∀ k,QFit L (bs.getD k 0)):LPIs w' (New B) (New B) L p os rs bs:=
 ⟨⟨ho.len,ho.le,ho.cap,fun i hi=>by
   obtain ⟨ad,r,e,hx,hc,hv⟩:=ho.row i hi
   exact ⟨ad,r,e,hx,hc,hv.len,hv.le,hv.cap,fun k hk=>by
    obtain ⟨ad',v,e',hx',hc',hq⟩:=hv.elem k hk;exact ⟨ad',v,e',hx',hc',hq.qis (fo i k)⟩⟩⟩,
  ⟨hr.len,hr.le,hr.cap,fun i hi=>by
   obtain ⟨ad,r,e,hx,hc,hv⟩:=hr.row i hi
   exact ⟨ad,r,e,hx,hc,hv.len,hv.le,hv.cap,fun k hk=>by
    obtain ⟨ad',v,e',hx',hc',hq⟩:=hv.elem k hk;exact ⟨ad',v,e',hx',hc',hq.qis (fr i k)⟩⟩⟩,
  ⟨hb.len,hb.le,hb.cap,fun k hk=>by
   obtain ⟨ad',v,e',hx',hc',hq⟩:=hb.elem k hk;exact ⟨ad',v,e',hx',hc',hq.qis (fb k)⟩⟩⟩
theorem zHJ (h:z.natAbs<1000):QFit 1 (z:Rat):=by
 have e:Num.base ^ 1=4294967296:=by decide
 exact ⟨by rw [e]; simp; omega,by rw [e]; simp⟩
theorem zCZ {l:List Int} (h:∀ z ∈ l,z.natAbs<1000) (k:Nat):QFit 1 ((rats l).getD k 0):=by
 unfold rats;rw [gdd,List.getElem?_map]
 cases e:l[k]? with
 | none=>exact QFit.zero 0
 | some z=>exact zHJ (h z (List.mem_of_getElem? e))
theorem zDn {m:List (List Int)} (h:∀ l ∈ m,∀ z ∈ l,z.natAbs<1000) (i k:Nat):QFit 1 (((m.map rats).getD i []).getD k 0):=by
 have e:(m.map rats).getD i []=rats (m.getD i []):=by
  simp only [gdd,List.getElem?_map];cases m[i]? <;> rfl
 rw [e];refine zCZ (fun z hz=>?_) k;by_cases hi:i<m.length
 ·refine h _ (List.getElem_mem hi) z ?_;simpa [gdd,hi] using hz
 ·rw [zAw _ _ _ (by omega)] at hz; cases hz
theorem VecAt.loose {s:SV} {l:List Rat} (h:VecCan w X Y s l) (f:∀ k,QFit L (l.getD k 0)):VecIs w X Y L s l:=
 ⟨h.len,h.le,h.cap,fun k hk=>by
  obtain ⟨ad',v,e',hx',hc',hq⟩:=h.elem k hk;exact ⟨ad',v,e',hx',hc',hq.qis (f k)⟩⟩
theorem zOF {l:List Rat} (ha:VecIs w X Y L sa l) (hb:VecIs w X' Y' M sb l) (hL:L<=LM) (hM:M<=LM) (hna:sa.n<=1000000) (hnb:sb.n<=1000000) :
  Calls Tryz.prog 17 #[sa.val,sb.val] w fun e w'=>e = .returned (.bool true)/\Below w.heap.size w w':=by
 refine (zNQ ha hb hL hM hna hnb).mono ?_;rintro e w' ⟨rfl,hb⟩;rw [zKA.2 (fun i _=>rfl)];exact ⟨rfl,hb⟩
namespace Lin
end Lin
open Lin
open Go.RowKit
section
variable {w W W':World} {d:Nat} {n:Int} {va vb vc:Value} {al:Nat->List Value} {cnt:Nat->Nat} {G:Nat->Prop}
end
structure Put (W W':World) (b:Nat):Prop where
 size:W'.heap.size=W.heap.size
 keep:∀ c,c ≠ b->W'.heap[c]?=W.heap[c]?
 below:∀ B,B<=b->Below B W W'
theorem Put.one (b o:Nat) (x:Value):Put W (W.setCell ⟨b,o,none⟩ x) b:=
 ⟨by simp [World.setCell],fun c hc=>bhs _ _ _ _ hc,fun B hB=>(brf _ _).setCell (p:=⟨b,o,none⟩) hB _⟩
theorem Put.trans (h:Put W W' b) (k:Put W' W2 b):Put W W2 b:=
 ⟨k.size.trans h.size,fun c hc=>(k.keep c hc).trans (h.keep c hc),fun B hB=>(h.below B hB).trans (k.below B hB)⟩
theorem Put.four (b:Nat) (x0 x1 x2 x3:Value):Put W ((((W.setCell ⟨b,0,none⟩ x0).setCell ⟨b,1,none⟩ x1).setCell ⟨b,2,none⟩ x2).setCell ⟨b,3,none⟩ x3) b:=
 (((Put.one _ _ _).trans (Put.one _ _ _)).trans (Put.one _ _ _)).trans (Put.one _ _ _)
theorem Put.qcan (h:Put W W' b) (hb:b<B) {v:QV} (hq:QCan W (New B) v q):QCan W' (New B) v q:=
 hq.keep fun a ha _=>cob (h.keep _ (by simp only [New] at ha; omega))
theorem zBn (h:Lin.Fits k q) (hk:k<32*L):QFit L q:=by
 have e:Num.base ^ L=2 ^ (32*L):=by rw [Nat.pow_mul]; rfl
 have h2:2 ^ k<2 ^ (32*L):=Nat.pow_lt_pow_right (by omega) hk;exact ⟨by rw [e]; exact Nat.lt_of_le_of_lt h.1 h2,by rw [e]; exact Nat.lt_of_le_of_lt h.2 h2⟩
section
variable {w W W1 W2:World} {p:LPV} {jv kv:QV} {jq kq:Rat} {d:Nat} {os rs:List (List Rat)} {bs:List Rat} {va vb vc v':Value} {G:Nat->Prop} {s1 s2:List SV} {s3:List QV} {o:Obj}
end
open Go.RowKit Go.Shelf Lin
theorem zBT (h:colsOf rs<=V) (c:Nat):(rs.getD c []).length<=V:=by
 by_cases hi:c<rs.length
 ·exact zAU.1 h _ (by simp [hi])
 ·rw [zAw rs _ _ (by omega)]; simp
attribute [local go_sem] Oper.semAt_some
theorem zBX :qsign q=0 ↔ q=0:=by
 unfold qsign; grind
abbrev QBlk (W:World) (b:Nat) (v:QV):Prop:=W.heap[b]?=some (.cells #[.bool v.num.ng,.slice v.num.A v.num.n v.num.c,.bool v.den.ng,.slice v.den.A v.den.n v.den.c] 37 (0,0))
theorem zAA {v:QV} (h:QBlk W b v):Box4 W b (.bool v.num.ng) (.slice v.num.A v.num.n v.num.c) (.bool v.den.ng) (.slice v.den.A v.den.n v.den.c):=by
 refine ⟨?_,?_,?_,?_,fun o=>?_⟩ <;> simp [World.cell?,World.frozen?,h]
theorem zHh {v t:QV} (h:QBlk W b v):QBlk ((((W.setCell ⟨b,0,none⟩ (.bool t.num.ng)).setCell ⟨b,1,none⟩ (.slice t.num.A t.num.n t.num.c)).setCell ⟨b,2,none⟩ (.bool t.den.ng)).setCell ⟨b,3,none⟩ (.slice t.den.A t.den.n t.den.c)) b t:=by
 unfold QBlk;rw [zAe _ (zAe _ (zAe _ (zAe _ h)))];simp
def DotPost (w:World) (S:Nat) (Z:Nat->Prop) (t:Rat) (e:Ending) (w':World):Prop:=
 e = .returned (.tuple #[])/\∃ s2:QV,QBlk w' S s2/\QCan w' (fun b=>Z b\/w.heap.size<=b) s2 t/\Fr (fun b=>b=S) w w'
theorem zHt {S:Nat} {x y s:QV} {r:Rat} (hx:QIs w X L x p) (hy:QIs w Y M y q) (hs:QCan w Z s r) (hS0:QBlk w S s) (hL:L<=LM) (hM:M<=LM) (hK:K<=LM) (hr:QFit K r) (hp:QFit K (p*q)) :
  Calls Tryz.prog 82 #[x.val,y.val,.pointer (some ⟨S,0,none⟩)] w fun e w'=>DotPost w S Z (r+p*q) e w':=by
 have HX:=hdq hx;have HY:=hdq hy;have HS:=hdq hs;have hSl:=zAa hS0;have hS:=zAA hS0;have HB:=hdq hS0;clear hS0;have HL:=hdq hL;have HM:=hdq hM;have HK:=hdq hK;have HR:=hdq hr;have HP:=hdq hp;clear hx hy hs hL hM hK hr hp;go_enter Tryz.func82,Tryz.ntmps82
 go_upto_region 1 with fail
 refine zAo (fun W=>Below w.heap.size w W/\Box4 W w.heap.size (.bool x.num.ng) (.slice x.num.A x.num.n x.num.c) (.bool x.den.ng) (.slice x.den.A x.den.n x.den.c)/\Box4 W (w.heap.size+1) (.bool y.num.ng) (.slice y.num.A y.num.n y.num.c) (.bool y.den.ng) (.slice y.den.A y.den.n y.den.c)/\w.heap.size<W.heap.size/\w.heap.size+1<W.heap.size) ⟨(az (az (brf _ _))),bx4,bx4,by simp <;> omega,by simp <;> omega⟩ ?_;rintro W ⟨hbW,bX,bY,s0,s1⟩;have hBW:=hbW.size;obtain ⟨x0,x1,x2,x3,-⟩:=id bX;obtain ⟨y0,y1,y2,y3,-⟩:=id bY;go_wp2_with fail
 refine (zAn (v:=x) (HX.out.below hbW)).mono ?_;rintro e w1 ⟨rfl,hb1⟩;have bS:=hS.below hbW hSl;have sS:=ltl hSl hbW.size;clear hS hBW;replace bX:=bX.below hb1 s0;replace bY:=bY.below hb1 s1;replace bS:=bS.below hb1 sS;replace s0:=ltl s0 hb1.size;replace s1:=ltl s1 hb1.size;replace sS:=ltl sS hb1.size;replace hbW:=hbW.trans (hb1.mono hbW.size);clear x0 x1 x2 x3 y0 y1 y2 y3;obtain ⟨x0,x1,x2,x3,-⟩:=id bX;obtain ⟨y0,y1,y2,y3,-⟩:=id bY;by_cases hp0:p=0
 ·have e0:qsign p=0:=zBX.2 hp0;have Hz:Hid (p*q=0):=by show p*q=0; rw [hp0,Rat.zero_mul]
  rw [e0];clear e0 hp0;go_wp2;go_end0;refine ⟨rfl,s,(hbW.block _ hSl).trans HB.out,?_,Fr.of_below hbW⟩;rw [Hz.out,Rat.add_zero];exact (HS.out.below hbW).imp fun b _ hb=>.inl hb
 ·have e0:¬ (qsign p=0):=fun h=>hp0 (zBX.1 h)
  have e1:(qsign p != 0)=true:=by simpa using e0
  clear hp0 e0;go_wp2_with fail
  refine (zAn (v:=y) (HY.out.below hbW)).mono ?_;rintro e w2 ⟨rfl,hb2⟩;replace bX:=bX.below hb2 s0;replace bY:=bY.below hb2 s1;replace bS:=bS.below hb2 sS;replace s0:=ltl s0 hb2.size;replace s1:=ltl s1 hb2.size;replace sS:=ltl sS hb2.size;replace hbW:=hbW.trans (hb2.mono hbW.size);clear x0 x1 x2 x3 y0 y1 y2 y3;obtain ⟨x0,x1,x2,x3,-⟩:=id bX;obtain ⟨y0,y1,y2,y3,-⟩:=id bY;by_cases hq0:q=0
  ·have e2:qsign q=0:=zBX.2 hq0;have Hz:Hid (p*q=0):=by show p*q=0; rw [hq0,Rat.mul_zero]
   rw [e2];clear e2 hq0;go_wp2;go_end0;refine ⟨rfl,s,(hbW.block _ hSl).trans HB.out,?_,Fr.of_below hbW⟩;rw [Hz.out,Rat.add_zero];exact (HS.out.below hbW).imp fun b _ hb=>.inl hb
  ·have e2:¬ (qsign q=0):=(fun h=>hq0 (zBX.1 h));have e3:(qsign q != 0)=true:=(by simpa using e2);clear hq0 e2;obtain ⟨z0,z1,z2,z3,-⟩:=id bS;(go_upto_region 2 with fail);refine zAp 5 (fun f w'=>f=false->Sees w.heap.size [] w2 w') (by kernel_rfl) ?_;have hS0:Sees w.heap.size [] w2 w2.drew:=Sees.st (by simp) hbW.size;refine tkW 0 (s.val) (fun w' hSw=>?_) (fun _=>hS0) ?_
   ·(replace hSw:=hSw rfl; go_simp; try with_reducible rfl)
   simp only [zz];refine tkW 1 (x.val) (fun w' hSw=>?_) (fun _=>hS0) ?_
   ·(replace hSw:=hSw rfl; go_simp; try with_reducible rfl)
   simp only [zz];refine tkW 2 (y.val) (fun w' hSw=>?_) (fun _=>hS0) ?_
   ·(replace hSw:=hSw rfl; go_simp; try with_reducible rfl)
   simp only [zz];refine tk1 3 ?_;intro K hK;go_simp;(with_reducible refine (zBb (a:=x) (b:=y) (HX.out.below hbW.drew) (HY.out.below hbW.drew) HL.out HM.out).mono ?_);rintro e v1 ⟨⟨u,rfl,hu⟩,hc1⟩;have hS1:=Kept.call2 hc1 hS0;refine hK.out _ _ (fun _=>hS1) ?_;clear hK K hS0;refine tk1 4 ?_;intro K hK;go_simp;(with_reducible refine (zCD (a:=s) (b:=u) ((HS.out.below (hbW.trans (hS1.kept.whole.mono hbW.size))).qis HR.out) (hu.qis HP.out) HK.out HK.out).mono ?_);rintro e v2 ⟨⟨t,rfl,ht⟩,hc2⟩;have hS2:=Kept.call2 hc2 hS1;refine hK.out _ _ (fun _=>hS2) ?_;have hb2':=hS2.kept.whole;have bS2:=bS.below hb2' sS;have ht2:=ht.lower hS1.kept.size;clear hK K hS1 hu ht hc1 hc2;clear z0 z1 z2 z3;obtain ⟨z0,z1,z2,z3,z4⟩:=id bS2;refine tk1 5 ?_;intro K hK;go_simp;refine hK.out _ _ (fun h=>absurd h (by decide)) ?_;clear hK K;have P8:=Put.four (W:=v2) S (.bool t.num.ng) (.slice t.num.A t.num.n t.num.c) (.bool t.den.ng) (.slice t.den.A t.den.n t.den.c);have bS8:=zHh (t:=t) ((hb2'.block _ sS).trans ((hbW.block _ hSl).trans HB.out));have F8:Fr (fun b=>b=S) v2 _:=((((Fr.refl (fun b=>b=S) v2).set (p:=⟨S,0,none⟩) rfl (.bool t.num.ng)).set (p:=⟨S,1,none⟩) rfl (.slice t.num.A t.num.n t.num.c)).set (p:=⟨S,2,none⟩) rfl (.bool t.den.ng)).set (p:=⟨S,3,none⟩) rfl (.slice t.den.A t.den.n t.den.c);generalize (((v2.setCell ⟨S,0,none⟩ (.bool t.num.ng)).setCell ⟨S,1,none⟩ (.slice t.num.A t.num.n t.num.c)).setCell ⟨S,2,none⟩ (.bool t.den.ng)).setCell ⟨S,3,none⟩ (.slice t.den.A t.den.n t.den.c)=y8 at *;have ht8:=P8.qcan (B:=w2.heap.size) sS ht2;have hF:Fr (fun b=>b=S) w y8:=(Fr.of_below (hbW.trans (hb2'.mono hbW.size))).trans F8;clear z0 z1 z2 z3 z4 P8 F8 ht2 bS2 hS2;refine zAf (by kernel_rfl) ?_ _;go_wp2;go_end0;exact ⟨rfl,t,bS8,ht8.imp fun b _ hb=>.inr (nlt hbW.size hb),hF⟩
def lsum (f:Nat->Rat) (l:List Nat):Rat:=l.foldl (fun s i=>s+f i) 0
theorem zEk (f:Nat->Rat) (l:List Nat) (x:Nat):lsum f (l++[x])=lsum f l+f x:=by simp [lsum,List.foldl_append]
theorem zDt (f:Nat->Rat):∀ n,lsum f (List.range n)=Lin.sum n f
 | 0=>rfl
 | n+1=>by rw [List.range_succ,zEk,zDt f n]; rfl
theorem zFR (h:∀ i,Lin.Fits k (f i)):∀ l:List Nat,Lin.Fits (l.length*(k+1)) (lsum f l):=by
 intro l;obtain ⟨r,rfl⟩:∃ r:List Nat,r.reverse=l:=⟨l.reverse,List.reverse_reverse l⟩
 induction r with
 | nil=>exact Lin.Fits.zero _
 | cons x r ih=>
  rw [List.reverse_cons,zEk];refine (ih.add (h x)).mono ?_;simp only [List.length_append,List.length_reverse,List.length_cons,List.length_nil];have:(r.length+(0+1))*(k+1)=r.length*(k+1)+(k+1):=by rw [Nat.add_mul]; omega
  omega
theorem VecAt.take {R:QV->Rat->Prop} {l:List Rat} (h:VecAt w X R ⟨A,m,c⟩ l) (hn:n<=m):VecAt w X R ⟨A,n,c⟩ (l.take n):=by
 have h1:l.length=m:=h.len;have h2:m<=c:=h.le;refine ⟨by rw [List.length_take,h1]; show min n m=n; omega,nlt hn h2,h.cap,fun k hk=>?_⟩;obtain ⟨ad,v,e,hx,hc,hr⟩:=h.elem k (ltl hk hn);refine ⟨ad,v,e,hx,hc,?_⟩;have hk':k<n:=hk
 rwa [show (l.take n).getD k 0=l.getD k 0 by simp [List.getElem?_take_of_lt hk']]
theorem zFX (W:World) (X:Nat->Prop):QCan W X QV.zero 0:=⟨⟨rfl,by rw [show Num.words (0:Rat).num.natAbs=[] by simp [Num.words]]; exact WordsAt.nil _ _ _ _ (nzl _)⟩,⟨rfl,by rw [show Num.words (cden 0).natAbs=[] by simp [Num.words,cden]]; exact WordsAt.nil _ _ _ _ (nzl _)⟩⟩
theorem alk {x o:Obj} (h:w.heap[b]?=some x):(w.alloc o).heap[b]?=some x:=(Below.heap_alloc _ _ _ (zAa h)).trans h
theorem drk {x:Obj} (h:w.heap[b]?=some x):w.drew.heap[b]?=some x:=h
def DotInv (w:World) (f:Nat->Rat) (pre:List Nat) (W:World):Prop:=
 (∃ s:QV,QBlk W (w.heap.size+1) s/\QCan W (fun b=>w.heap.size+1<b) s (lsum f pre))/\QBlk W w.heap.size QV.zero/\
 Boxed W (w.heap.size+1+1) 126 (.func (.func 82) #[] #[.pointer (some ⟨w.heap.size+1,0,none⟩)])/\Carry (fun y=>y ≠ w.heap.size+1) w W
theorem DotInv.own :Own (DotInv w f):=fun _ _ _ _ hs hg hr=>by
 obtain ⟨⟨s,h1,h2⟩,h3,h4,h5⟩:=hs;exact ⟨⟨s,zAi hg hr h1,h2.carry (Carry.grown hg hr)⟩,zAi hg hr h3,zAi hg hr h4,h5.trans (Carry.grown hg hr)⟩
theorem zEb {la lb:List Rat} (ha:VecIs w X Y L sa la) (hb:VecIs w X' Y' M sb lb) (hL:L<=LM) (hM:M<=LM) (hna:sa.n<=1000000) (hkb:1000000*(kb+1)<32*LM) (hf:∀ i,Lin.Fits kb (la.getD i 0*lb.getD i 0)) :
  Calls Tryz.prog 31 #[sa.val,sb.val] w fun e w'=>QRet w (Lin.sum (min sa.n sb.n) fun i=>la.getD i 0*lb.getD i 0) e w'/\Below w.heap.size w w':=by
 refine (callsIn_wide (n:=6)).1 ?_;obtain ⟨A,la',ca⟩:=sa;obtain ⟨B,lb',cb⟩:=sb;obtain ⟨N,hN⟩:∃ N,N=min la' lb':=⟨_,rfl⟩;have hNa:N<=la':=by omega
 have hNb:N<=lb':=by omega
 have cpa:la'<=ca:=ha.le;have cpb:lb'<=cb:=hb.le;have cpa2:ca<=9223372036854775807:=ha.cap;have cpb2:cb<=9223372036854775807:=hb.cap;have hmin:min (la':Int) (lb':Int)=(N:Int):=by omega
 have HL:=hdq hL;have HM:=hdq hM;have h0a:QIs w (fun _=>True) L QV.zero 0:=⟨0,0,⟨[],WordsAt.nil _ _ _ _ (nzl _),nzl _,rfl⟩,⟨[],WordsAt.nil _ _ _ _ (nzl _),nzl _,rfl⟩,by simp [qv]⟩;have h0b:QIs w (fun _=>True) M QV.zero 0:=⟨0,0,⟨[],WordsAt.nil _ _ _ _ (nzl _),nzl _,rfl⟩,⟨[],WordsAt.nil _ _ _ _ (nzl _),nzl _,rfl⟩,by simp [qv]⟩;obtain ⟨va,hva,hqa⟩:=((ha.take hNa).imp (X':=fun y=>y<w.heap.size) (R':=QIs w (fun _=>True) L) (fun b hb _=>hb) (fun _ _ h=>h.any)).elems h0a;obtain ⟨vb,hvb,hqb⟩:=((hb.take hNb).imp (X':=fun y=>y<w.heap.size) (R':=QIs w (fun _=>True) M) (fun b hb _=>hb) (fun _ _ h=>h.any)).elems h0b;have HA:=hdq hva;have HB:=hdq hvb;have HQA:Hid (∀ i,QIs w (fun y=>y<w.heap.size) L (va i) ((la.take N).getD i 0)):=fun i=>(hqa i).imp fun b hb _=>hb
 have HQB:Hid (∀ i,QIs w (fun y=>y<w.heap.size) M (vb i) ((lb.take N).getD i 0)):=fun i=>(hqb i).imp fun b hb _=>hb
 obtain ⟨f,hfd⟩:∃ f:Nat->Rat,f=fun i=>(la.take N).getD i 0*(lb.take N).getD i 0:=⟨_,rfl⟩
 have HF:Hid (∀ i,Lin.Fits kb (f i)):=fun i=>by
  rw [hfd];by_cases hi:i<N
  ·simpa [gdd,List.getElem?_take_of_lt hi] using hf i
  ·have:(la.take N).getD i 0=0:=zAw _ _ _ (by rw [List.length_take]; omega);dsimp only;rw [this,Rat.zero_mul]; exact Lin.Fits.zero _
 have HE:Hid (Lin.sum N f=Lin.sum N fun i=>la.getD i 0*lb.getD i 0):=by
  rw [hfd];exact Lin.zAh fun i hi=>by simp [List.getElem?_take_of_lt hi]
 have HKB:=hdq hkb;dsimp only [SV.val] at hna ⊢;rw [<-hN];clear ha hb hL hM h0a h0b hva hvb hqa hqb hf hkb hN;have HFD:=hdq hfd;clear hfd;refine callsIn_of_wp_marks Tryz.func31 rfl trivial ?_ rfl;simp only [Tryz.ntmps31,List.size_toArray,List.length_cons,List.length_nil,Nat.reduceAdd,Nat.reduceSub,Array.replicate_succ,Array.replicate_zero,List.push_toArray,List.append_toArray,List.nil_append,List.cons_append];gi_wp2;refine zCW 1000 (fun _ _=>True) (by kernel_rfl) ?_;refine tx2 0 1 (trivial) ?_;refine takeA (i:=2) (.slice A N ca) rfl rfl (by kernel_rfl) (by kernel_rfl) (by kernel_rfl) (by decide) (fun _ _ _ h=>h) (by rfl) (fun w' hSw=>?_) trivial ?_
 ·go_simp;intro h; omega
 simp only [zz];refine tx2 3 4 (trivial) ?_;refine takeA (i:=5) (.slice B N cb) rfl rfl (by kernel_rfl) (by kernel_rfl) (by kernel_rfl) (by decide) (fun _ _ _ h=>h) (by rfl) (fun w' hSw=>?_) trivial ?_
 ·go_simp;intro h; omega
 simp only [zz];obtain ⟨W1,hW1⟩:∃ W1,(((w.alloc (.cells #[.bool false,.slice none 0 0,.bool false,.slice none 0 0] 37)).alloc (.cells #[.bool false,.slice none 0 0,.bool false,.slice none 0 0] 37)).alloc (.cells #[.func (.func 82) #[] #[.pointer (some ⟨w.heap.size+1,0,none⟩)]] 126)).drew=W1:=⟨_,rfl⟩;rw [hW1];have hz1:W1.heap.size=w.heap.size+1+1+1:=by rw [<-hW1]; simp [World.drew]
 have HW1:=hdq hW1;clear hW1;refine tk1 6 ?_;intro K hK;go_simp;refine ((callsIn_wide (n:=6)).1 (zFZ A B N ca N cb)).mono ?_;rintro e w2 ⟨rfl,rfl⟩;refine hK.out _ _ trivial ?_;clear hK K;refine zAf (by kernel_rfl) (NoPanic.normal ?_) _;rw [hz1];gi_wp2;obtain ⟨W0,hW0⟩:∃ W0,((W1.alloc (.cells #[.slice A N ca] 24)).alloc (.cells #[.slice B N cb] 24))=W0:=⟨_,rfl⟩;rw [hW0];have y0:QBlk W1 w.heap.size QV.zero:=by rw [<-HW1.out]; exact drk (alk (alk (zAd _ _ rfl)))
 have y1:QBlk W1 (w.heap.size+1) QV.zero:=by rw [<-HW1.out]; exact drk (alk (zAd _ _ (by simp)))
 have y2:Boxed W1 (w.heap.size+1+1) 126 (.func (.func 82) #[] #[.pointer (some ⟨w.heap.size+1,0,none⟩)]):=by rw [<-HW1.out]; exact drk (zAd _ _ (by simp))
 have yb:Below w.heap.size w W1:=by rw [<-HW1.out]; exact ((((brf _ w).alloc (nlr _) _).alloc (by simp) _).alloc (by simp; omega) _).drew
 have hk0:Below w.heap.size w W0:=by rw [<-hW0]; exact (yb.alloc yb.size _).alloc (by simp; omega) _
 have hs0:W0.heap.size=w.heap.size+5:=by rw [<-hW0]; simp; omega
 have x0:QBlk W0 w.heap.size QV.zero:=by rw [<-hW0]; exact alk (alk y0)
 have x1:QBlk W0 (w.heap.size+1) QV.zero:=by rw [<-hW0]; exact alk (alk y1)
 have x2:Boxed W0 (w.heap.size+1+1) 126 (.func (.func 82) #[] #[.pointer (some ⟨w.heap.size+1,0,none⟩)]):=by rw [<-hW0]; exact alk (alk y2)
 have x3:Boxed W0 (w.heap.size+1+1+1) 24 (.slice A N ca):=by rw [<-hW0]; exact alk (zAd _ _ hz1.symm)
 have x4:Boxed W0 (w.heap.size+1+1+1+1) 24 (.slice B N cb):=by rw [<-hW0]; exact zAd _ _ (by simp; omega)
 clear y0 y1 y2 yb HW1 hz1;clear hW0
 refine wpIn_rangeFunc_ownH (F:=Fence.wide) rfl (by omega) (gf:=143) (lb:=#[.pointer (some ⟨w.heap.size+1+1+1,0,none⟩),.pointer (some ⟨w.heap.size+1+1+1+1,0,none⟩)]) rfl trivial (enters_of Tryz.func143 (by kernel_rfl) rfl)
  (zDL (X:=fun y=>y ≠ w.heap.size+1) (sa:=⟨A,N,ca⟩) (sb:=⟨B,N,cb⟩) (va:=va) (vb:=vb) (N:=N) (by omega) x3 x4 (by omega) (by omega)
   ((HA.out.carry (Carry.of_below hk0)).imp fun b hb=>by omega) ((HB.out.carry (Carry.of_below hk0)).imp fun b hb=>by omega) (by simp) (by omega))
  (fun h k=>h.trans k) (fun W l o o' _ hl ho _=>Carry.putObj o' hl ho) (brf _ _) (fun _=>rfl)
  (fun pre W=>DotInv w f pre W/\Below w.heap.size w W)
  (fun _ _ _=>False)
  (OwnFrom.and (Own.from DotInv.own _) (ownFrom_below (nlr _) (by omega)))
  (fun _ _ _ _ _ hs _ _=>hs)
  ⟨⟨⟨QV.zero,x1,zFX _ _⟩,x0,x2,Carry.of_below hk0⟩,hk0⟩
  (fun x a' W=>∃ g,a'={tmps:=#[.slice A la' ca,.slice B lb' cb,undef,undef,.pointer (some ⟨w.heap.size,0,none⟩),.pointer (some ⟨w.heap.size+1,0,none⟩),.pointer (some ⟨w.heap.size+1+1,0,none⟩),.int .i64 N,.pointer (some ⟨g,0,none⟩),.pointer (some ⟨g+1,0,none⟩),.func (.func 82) #[] #[.pointer (some ⟨w.heap.size+1,0,none⟩)],.slice A la' ca,.int .i64 la',.slice B lb' cb,.int .i64 lb',.int .i64 N,.slice A la' ca,.int .i64 N,.slice A N ca,.slice B lb' cb,.int .i64 N,.slice B N cb,.func (.func 143) #[] #[.pointer (some ⟨w.heap.size+1+1+1,0,none⟩),.pointer (some ⟨w.heap.size+1+1+1+1,0,none⟩)],(va x).val,(vb x).val,undef,undef,undef,undef,undef],defers:=[]}/\QBlk W g (va x)/\QBlk W (g+1) (vb x))
  (fun x a' _ W W' row hs hg hr=>?hAx) ?assign ?body ?done ?stop
 case hAx=>
  obtain ⟨g,e,g1,g2⟩:=hs;exact ⟨g,e,zAi hg (fun r e=>(hr r e).2) g1,zAi hg (fun r e=>(hr r e).2) g2⟩
 case stop=>
  rintro D c pre W _ _ h _;exact h.elim
 case assign=>
  intro l pre x W K hI hK;gi_wp2;have al:Below W.heap.size W ((W.alloc (.cells #[.bool (va x).num.ng,.slice (va x).num.A (va x).num.n (va x).num.c,.bool (va x).den.ng,.slice (va x).den.A (va x).den.n (va x).den.c] 37)).alloc (.cells #[.bool (vb x).num.ng,.slice (vb x).num.A (vb x).num.n (vb x).num.c,.bool (vb x).den.ng,.slice (vb x).den.A (vb x).den.n (vb x).den.c] 37)):=((brf _ _).alloc (nlr _) _).alloc (by simp) _;obtain ⟨⟨⟨s,i1,i2⟩,i3,i4,i5⟩,hB⟩:=hI;exact hK _ _ ⟨al.size,fun k o _ hk _=>(al.block k (zAa hk)).trans hk⟩ (Carry.of_below al) ⟨⟨⟨s,(al.block _ (zAa i1)).trans i1,i2.below al⟩,(al.block _ (zAa i3)).trans i3,(al.block _ (zAa i4)).trans i4,i5.trans (Carry.of_below al)⟩,hB.trans (al.mono hB.size)⟩ ⟨W.heap.size,rfl,alk (zAd _ _ rfl),zAd _ _ (by simp)⟩
 case body=>
  rintro l pre x a' W _ _ ⟨⟨⟨s,i1,i2⟩,i3,i4,i5⟩,hB⟩ ⟨g,rfl,g1,g2⟩ hlt;have hqa:=(HQA.out x).carry (i5.mono fun y hy=>by omega);have hqb:=(HQB.out x).carry (i5.mono fun y hy=>by omega);obtain ⟨a0,a1,a2,a3,-⟩:=zAA g1;obtain ⟨b0,b1,b2,b3,-⟩:=zAA g2;have c4:=i4.cell;have Hs:=hdq hs0;have I2:=hdq i2;clear hs0 x0 x1 x2 x3 x4 hk0 i2;gi_wp2;refine ⟨trivial,?_⟩;refine CallsIn.inRound l (callsIn_wide.2 ((zHt (K:=LM) (x:=va x) (y:=vb x) (s:=s) hqa hqb I2.out i1 HL.out HM.out (nlr _) ?fr ?fp).mono ?_));case fr=>exact zBn (zFR HF.out pre) (Nat.lt_of_le_of_lt (Nat.mul_le_mul_right _ (by omega)) HKB.out)
  case fp=>
   have:=HF.out x;rw [HFD.out] at this;exact zBn this (by have:=HKB.out; omega)
  rintro e w3 ⟨rfl,s2,j1,j2,j3⟩;clear a0 a1 a2 a3 b0 b1 b2 b3 c4 hqa hqb;have hcw:Carry (fun y=>y ≠ w.heap.size+1) W w3:=⟨j3.size,fun k cs t f hx hk=>(j3.block k (zAa hk) hx).trans hk⟩;have hB3:=hB.trans (j3.below hB.size (fun b e=>by omega));gi_wp2;refine ⟨⟨j3.size,fun k o _ hk ho=>(j3.block k (zAa hk) (fun e=>by subst e; rw [show W.heap[w.heap.size+1]?=_ from i1] at hk; cases hk; cases ho)).trans hk⟩,hcw,⟨⟨s2,j1,?_⟩,(j3.block _ (zAa i3) (by omega)).trans i3,(j3.block _ (zAa i4) (by omega)).trans i4,i5.trans hcw⟩,hB3⟩;rw [zEk,HFD.out];rw [HFD.out] at j2;have hz:=zAa i1
  exact j2.imp fun b _ hb=>by
   rcases hb with hb | hb
   ·exact hb
   ·omega
 case done=>
  rintro Dd ys W hDd rfl ⟨⟨⟨s,i1,i2⟩,i3,i4,i5⟩,hB⟩ hK0;obtain ⟨z0,z1,z2,z3,-⟩:=zAA i1;obtain ⟨r0,r1,r2,r3,rf⟩:=zAA i3;dsimp only [QV.zero] at r0 r1 r2 r3;have Hs:=hdq hs0;have I2:=hdq i2;clear hs0 x0 x1 x2 x3 x4 i2 i4 i5;have hne:Dd ≠ w.heap.size:=by have:=Hs.out; omega
  gi_wp2;have P8:=Put.four (W:=W) w.heap.size (.bool s.num.ng) (.slice s.num.A s.num.n s.num.c) (.bool s.den.ng) (.slice s.den.A s.den.n s.den.c);have b8:=zHh (t:=s) i3;generalize (((W.setCell ⟨w.heap.size,0,none⟩ (.bool s.num.ng)).setCell ⟨w.heap.size,1,none⟩ (.slice s.num.A s.num.n s.num.c)).setCell ⟨w.heap.size,2,none⟩ (.bool s.den.ng)).setCell ⟨w.heap.size,3,none⟩ (.slice s.den.A s.den.n s.den.c)=y8 at *;have hK1:y8.heap[Dd]?=some (.deferred (some [])):=(P8.keep _ hne).trans hK0;refine ⟨by simp,.inl ⟨_,_,rfl,run_takeDeferred hK1,?_⟩⟩;have g1:=zAi (grownBy_putObj' y8 Dd (.deferred none)) (fun r e=>by cases e; exact ⟨_,hK1,rfl⟩) b8;obtain ⟨g10,g11,g12,g13,-⟩:=zAA g1;have q8:QCan y8 (fun b=>w.heap.size+1<b) s (lsum f (List.range N)):=I2.out.keep fun a ha _=>cob (P8.keep _ (by omega))
  have q9:=q8.carry (Carry.grown (grownBy_putObj' y8 Dd (.deferred none)) (fun r e=>by cases e; exact ⟨_,hK1,rfl⟩));rw [zDt,HE.out] at q9;refine ⟨s.val,by simp [results,Tryz.results31,go_sem,g10,g11,g12,g13],⟨s,rfl,q9.imp fun b _ hb=>by show w.heap.size<=b; omega⟩,?_⟩;exact (hB.trans (P8.below _ (nlr _))).trans (belowK_b (w:=w) (nlr _) _ Dd _ _ (by have:=Hs.out; omega) hK1 rfl rfl)
end Go.Proofs.YtpjaodcimomaiaaGreat
namespace Go.Proofs.YtpjaodcimomaiaaGreat
open Go.RowKit Go.Shelf
variable {kb x n b B L M:Nat} {f:Nat->Rat} {w W W2 W' w':World} {G X Y X' Y':Nat->Prop} {v v':Value} {sa sb:SV}
def dotL (r x:List Rat):Rat:=Lin.sum (min r.length x.length) fun i=>r.getD i 0*x.getD i 0
theorem zEa {r x:List Rat} (hr:r.length<=1000000) (hkb:1000000*(kb+1)<32*LM) (hf:∀ k,Lin.Fits kb (r.getD k 0*x.getD k 0)):QFit LM (dotL r x):=by
 unfold dotL;rw [<-zDt];exact zBn (zFR hf _) (Nat.lt_of_le_of_lt (Nat.mul_le_mul_right _ (by rw [List.length_range]; omega)) hkb)
section
variable {w W W':World} {B d:Nat} {n:Int} {va vb vc:Value} {al:Nat->List Value} {cnt:Nat->Nat} {G:Nat->Prop}
end
section
variable {W W':World} {G G' K:Nat->Prop} {L:Nat}
end
section
variable {w W W1 W2:World} {n:Int} {B d L:Nat} {os rs:List (List Rat)} {bs:List Rat} {va vb vc v':Value} {G:Nat->Prop} {s1 s2:List SV} {s3:List QV} {o:Obj}
end
theorem zA1 (w:World) (v:QV):∀ j u,(cells4q v)[j]?=some u->(w.alloc (.cells #[.bool v.num.ng,.slice v.num.A v.num.n v.num.c,.bool v.den.ng,.slice v.den.A v.den.n v.den.c] 37)).cell? (Addr.add ⟨w.heap.size,0,none⟩ j)=some u:=by
 intro j u h;rw [zA4,Nat.zero_add];have e:(w.alloc (.cells #[.bool v.num.ng,.slice v.num.A v.num.n v.num.c,.bool v.den.ng,.slice v.den.A v.den.n v.den.c] 37)).heap[w.heap.size]?=some (.cells #[.bool v.num.ng,.slice v.num.A v.num.n v.num.c,.bool v.den.ng,.slice v.den.A v.den.n v.den.c] 37 (0,0)):=zAd _ _ rfl;simp only [World.cell?,e];simpa [cells4q] using h
open Go.RowKit Go.Shelf Lin
theorem zLg {f' g g':Nat->Rat}:∀ {n:Nat},(∀ i,i<n->f i=f' i)->(∀ i,i<n->g i=g' i)->vcmp f g n=vcmp f' g' n
 | 0,_,_=>rfl
 | n+1,h,h'=>by
  show (if vcmp f g n=0 then qcmp (f n) (g n) else vcmp f g n)=(if vcmp f' g' n=0 then qcmp (f' n) (g' n) else vcmp f' g' n);rw [zLg (fun i hi=>h i (by omega)) fun i hi=>h' i (by omega),h n (by omega),h' n (by omega)]
section
variable {V:Nat} {os rs:List (List Rat)} {bs row:List Rat} {most:Rat}
end
attribute [local go_sem] Oper.semAt_some
theorem zGJ (n:Nat) (hn:n<=1000000) (w:World) :
  (Instr.makeSlice 24 (.int .i64 0) (.int .i64 (n:Int))).run Tryz.prog w = .ok (.slice (some ⟨w.heap.size,0,none⟩) 0 n) (w.alloc (.cells (zeroQ n) 37)):=by
 obtain ⟨i0,hi,hz0,hz1,hz2⟩:=info_parts zEv;have hr:=run_make (P:=Tryz.prog) w 24 37 i0 (.agg #[.bool false,.slice none 0 0,.bool false,.slice none 0 0]) Tryz.underlying24 hi hz0 .i64 .i64 0 n (by omega) (by omega) (by rw [hz2]; omega) (by omega);rw [hz1] at hr;simpa [zeroQ,Value.cells] using hr
structure CbS (w:World) (fv:Value) (g:Nat->Rat) (pre:List Nat) (v:Value) (G:Nat->Prop) (s:List QV) (W:World):Prop where
 len:s.length=pre.length
 box:Boxed W (w.heap.size+1+1) 24 v
 fnb:Boxed W w.heap.size 65 fv
 own:W.ownsRow (w.heap.size+1) 37 4 v pre.length (s.flatMap cells4q)
 row:∀ j,v.ownBlock=some j->G j
 gb:G (w.heap.size+1+1)
 gin:∀ x,G x->(x=w.heap.size+1\/x=w.heap.size+1+1\/w.heap.size+5<=x)/\x<W.heap.size
 elem:∀ k,k<pre.length->QCan W (fun b=>¬ G b/\w.heap.size<=b) (s.getD k QV.zero) (g (pre.getD k 0))
 four:w.heap.size+4<W.heap.size
 car:Carry (fun y=>y<=w.heap.size\/y=w.heap.size+3\/y=w.heap.size+4) w W
def CInv (w:World) (fv:Value) (g:Nat->Rat) (pre:List Nat) (W:World):Prop:=∃ v G s,CbS w fv g pre v G s W
theorem CInv.own {fv:Value} {g:Nat->Rat}:Own (CInv w fv g):=fun _ W W' _ hs hg hr=>by
 obtain ⟨v,G,s,h⟩:=hs;exact ⟨v,G,s,h.len,zAi hg hr h.box,zAi hg hr h.fnb,zEp hg hr h.own,h.row,h.gb,fun x hx=>⟨(h.gin x hx).1,ltl (h.gin x hx).2 hg.size⟩,fun k hk=>(h.elem k hk).carry (Carry.grown hg hr),ltl h.four hg.size,h.car.trans (Carry.grown hg hr)⟩
theorem CbS.step {W1:World} {fv:Value} {g:Nat->Rat} {pre:List Nat} {s:List QV} {zq:QV} {o:Obj} (h:CbS w fv g pre v G s W) (hb:Below W.heap.size W W1) (hz:QCan W1 (New W.heap.size) zq (g x))
  (hown:W2.ownsRow (w.heap.size+1) 37 4 v' (pre.length+1) (s.flatMap cells4q++cells4q zq)) (hg:(W1.alloc o).grownBy W2 v.ownBlock) (hat:v'.ownBlock=v.ownBlock\/v'.ownBlock=some (W1.alloc o).heap.size) :
  CInv w fv g (pre++[x]) (W2.setCell ⟨w.heap.size+1+1,0,none⟩ v')/\Carry (fun y=>y<=w.heap.size\/y=w.heap.size+3\/y=w.heap.size+4) W (W2.setCell ⟨w.heap.size+1+1,0,none⟩ v')/\
   (∀ (k:Nat) (o:Obj),W.heap[k]?=some o->o.isCells=false->(W2.setCell ⟨w.heap.size+1+1,0,none⟩ v').heap[k]?=some o)/\W.heap.size<=(W2.setCell ⟨w.heap.size+1+1,0,none⟩ v').heap.size/\Below w.heap.size W (W2.setCell ⟨w.heap.size+1+1,0,none⟩ v'):=by
 have hbl:=zAa h.box;have hsz:W1.heap.size+1<=W2.heap.size:=by have:=hg.size; simpa using this
 have hs1:=hb.size;have hss:(W2.setCell ⟨w.heap.size+1+1,0,none⟩ v').heap.size=W2.heap.size:=by simp [World.setCell]
 have hvl:∀ j,v.ownBlock=some j->w.heap.size+1<=j/\j<W.heap.size/\j ≠ w.heap.size+1+1/\G j:=fun j hj=>by
  obtain ⟨h1,cs,hh⟩:=zAc h.own hj;exact ⟨h1,zAa hh,zAy hh h.box (by decide),h.row j hj⟩
 have k1:∀ k,k<W1.heap.size->k ≠ w.heap.size+1+1->some k ≠ v.ownBlock->(W2.setCell ⟨w.heap.size+1+1,0,none⟩ v').heap[k]?=W1.heap[k]?:=fun k hk h1 h2=>
  (bhs _ _ _ _ h1).trans ((hg.block k (by simp; omega) h2).trans (Below.heap_alloc _ _ _ hk))
 have keep:∀ k,k<W.heap.size->k ≠ w.heap.size+1+1->some k ≠ v.ownBlock->(W2.setCell ⟨w.heap.size+1+1,0,none⟩ v').heap[k]?=W.heap[k]?:=fun k hk h1 h2=>(k1 k (by omega) h1 h2).trans (hb.block k hk)
 have keepG:∀ k,k<W.heap.size->¬ G k->(W2.setCell ⟨w.heap.size+1+1,0,none⟩ v').heap[k]?=W.heap[k]?:=fun k hk hn=>keep k hk (fun e=>hn (by rw [e]; exact h.gb)) fun e=>hn (h.row k e.symm)
 have hv':∀ j,v'.ownBlock=some j->w.heap.size+1<=j/\j<W2.heap.size/\j ≠ w.heap.size+1+1/\(G j\/j=W1.heap.size+1):=fun j hj=>by
  obtain ⟨h1,cs,hh⟩:=zAc hown hj;refine ⟨h1,zAa hh,?_⟩;rcases hat with e | e
  ·have:=hvl j (e.symm.trans hj); exact ⟨this.2.2.1,.inl this.2.2.2⟩
  ·rw [e] at hj; cases hj; exact ⟨by simp; omega,.inr (by simp)⟩
 have carX:Carry (fun y=>y<=w.heap.size\/y=w.heap.size+3\/y=w.heap.size+4) W (W2.setCell ⟨w.heap.size+1+1,0,none⟩ v'):=⟨by omega,fun k cs t f hx hk=>(keepG k (zAa hk) fun hgk=>by have:=(h.gin k hgk).1; omega).trans hk⟩;refine ⟨⟨v',fun y=>G y\/v'.ownBlock=some y,s++[zq],?_,?_,?_,?_,fun j hj=>.inr hj,.inl h.gb,?_,?_,by have:=h.four; omega,h.car.trans carX⟩,carX,fun k o hk ho=>?_,by omega,?_⟩
 ·rw [List.length_append,List.length_append,h.len]; rfl
 ·have hB:Boxed W2 (w.heap.size+1+1) 24 v:=(hg.block _ (by simp; omega) (fun e=>(hvl _ e.symm).2.2.1 rfl)).trans ((Below.heap_alloc _ _ _ (by omega)).trans ((hb.block _ hbl).trans h.box));exact Boxed.set v' hB
 ·exact (keepG _ (zAa h.fnb) fun hgk=>by have:=(h.gin _ hgk).1; omega).trans h.fnb
 ·rw [List.length_append,List.flatMap_append];refine zAr (v:=v') (n:=pre.length+1) ?_ fun j hj=>bhs _ _ _ _ (hv' j hj).2.2.1
  simpa using hown
 ·intro y hy;rcases hy with hy | hy
  ·have:=h.gin y hy; omega
  ·have:=hv' y hy;rcases this.2.2.2 with hg' | e
   ·have:=h.gin y hg'; omega
   ·have:=(h.gin _ h.gb).2;have h4:=h.car.size;refine ⟨.inr (.inr ?_),by omega⟩;have h5:w.heap.size+4<W.heap.size:=h.four;omega
 ·intro k hk;rw [List.length_append] at hk;have hk':k<pre.length+1:=hk
  have e1:(pre++[x]).getD k 0=if k<pre.length then pre.getD k 0 else x:=by
   by_cases hkl:k<pre.length
   ·rw [if_pos hkl,zAE _ _ _ hkl]
   ·rw [if_neg hkl,show k=pre.length by omega]; simp
  have e2:(s++[zq]).getD k QV.zero=if k<pre.length then s.getD k QV.zero else zq:=by
   rw [<-h.len];by_cases hkl:k<s.length
   ·rw [if_pos hkl,zAE _ _ _ hkl]
   ·rw [if_neg hkl,show k=s.length by rw [h.len]; rw [h.len] at hkl; omega]; simp
  rw [e1,e2];by_cases hkl:k<pre.length
  ·rw [if_pos hkl,if_pos hkl];have q1:=(h.elem k hkl).imp (Y:=fun b=>(¬ G b/\¬ v'.ownBlock=some b)/\w.heap.size<=b) fun b hb' hx=>⟨⟨hx.1,fun e=>(hv' b e).2.2.2.elim hx.1 fun h'=>by omega⟩,hx.2⟩
   exact (q1.keep fun a hx hl=>cob (keepG _ hl hx.1.1)).imp fun b _ hx=>⟨fun hg'=>hg'.elim hx.1.1 hx.1.2,hx.2⟩
  ·rw [if_neg hkl,if_neg hkl];have q1:=hz.imp (Y:=fun b=>W.heap.size<=b/\b<W1.heap.size) fun b hb' hx=>⟨hx,hb'⟩
   (refine (q1.keep fun a hx hl=>cob (k1 _ hx.2 (by omega) fun e=>by have:=(hvl _ e.symm).2.1; omega)).imp fun b _ hx=>⟨fun hg'=>?_,by have:=h.car.size; omega⟩);rcases hg' with hg' | hg'
   ·have:=(h.gin b hg').2; omega
   ·rcases (hv' b hg').2.2.2 with h' | h'
    ·have:=(h.gin b h').2; omega
    ·omega
 ·refine (keep k (zAa hk) (fun e=>?_) fun e=>?_).trans hk
  ·rw [e,show W.heap[w.heap.size+1+1]?=_ from h.box] at hk; cases hk; cases ho
  ·obtain ⟨_,cs,hh⟩:=zAc h.own e.symm;rw [hh] at hk; cases hk; cases ho
 ·have hG1:Below w.heap.size W W1:=hb.mono h.car.size;have h3:Below w.heap.size (W1.alloc o) W2:=(brf _ _).grown hg (by have:=h.car.size; simp; omega) (fun j hj=>by have:=(hvl j hj).1; omega);exact ((hG1.alloc (by have:=h.car.size; omega) _).trans h3).setCell (p:=⟨w.heap.size+1+1,0,none⟩) (by show w.heap.size<=w.heap.size+1+1; omega) _
theorem VecAt.keep' {s:SV} {l:List Rat} (h:VecCan W X Y s l) (hk:Carry (fun _=>True) W W'):VecCan W' X Y s l:=
 ⟨h.len,h.le,h.cap,fun k hkn=>by
  obtain ⟨ad,v,e,hx,hc,hq⟩:=h.elem k hkn;exact ⟨ad,v,e,hx,hc.carry (X:=fun _=>True) hk trivial,hq.carry (hk.mono fun _ _=>trivial)⟩⟩
theorem zFr {base:Nat} {qs:List QV} {l:List Rat} (h:W.ownsRow base 37 4 v n (qs.flatMap cells4q)) (hl:qs.length=n) (hm:l.length=n) (he:∀ k,k<n->QCan W X (qs.getD k ⟨⟨false,none,0,0⟩,⟨false,none,0,0⟩⟩) (l.getD k 0)) :
  ∃ s:SV,v=s.val/\s.n=n/\VecCan W (fun b=>base<=b) X s l:=by
 rcases h.2 with ⟨rfl,rfl⟩ | ⟨g,cap,cur,rfl,hbg,hh,hnc,hcap,hcur,ht⟩
 ·exact ⟨⟨none,0,0⟩,rfl,rfl,hm,nlr _,nzl _,fun k hk=>absurd hk (Nat.not_lt_zero k)⟩
 ·refine ⟨⟨some ⟨g,0,none⟩,n,cap⟩,rfl,rfl,hm,hnc,(by show cap<=_; exact nlt ‹_› (show maxLen<=9223372036854775807 by decide)),fun k hk=>⟨⟨g,0,none⟩,qs.getD k ⟨⟨false,none,0,0⟩,⟨false,none,0,0⟩⟩,rfl,hbg,?_,he k hk⟩⟩;have hk':k<n:=hk
  have ec:∀ o,o<4->W.cell? ⟨g,k*4+o,none⟩=(cells4q (qs.getD k ⟨⟨false,none,0,0⟩,⟨false,none,0,0⟩⟩))[o]?:=fun o ho=>by
   have e2:(cur.toList.take (n*4))[k*4+o]?=(qs.flatMap cells4q)[k*4+o]?:=(by rw [ht]);rw [List.getElem?_take_of_lt (by omega),zCy qs k o (by omega) ho ⟨⟨false,none,0,0⟩,⟨false,none,0,0⟩⟩] at e2;simp only [World.cell?,hh];simpa using e2
  rw [zA4,Nat.zero_add];exact ⟨ec 0 (by omega),ec 1 (by omega),ec 2 (by omega),ec 3 (by omega)⟩
def CbRet (w:World) (l:List Rat) (e:Ending) (w':World):Prop:=
 ∃ s:SV,e = .returned s.val/\VecCan w' (New w.heap.size) (New w.heap.size) s l/\(0<l.length->∃ b c,s=⟨some ⟨b,0,none⟩,l.length,c⟩/\l.length<=c/\c<=9223372036854775807/\w.heap.size<=b/\RowP w' (fun x=>x<w.heap.size\/x=b) b l)
theorem RowP.carry {l:List Rat} (h:RowP w G b l) (hc:Carry (fun _=>True) w w'):RowP w' G b l:=by
 obtain ⟨cs,e,hs⟩:=h.blk;have e':=hc.blk _ _ _ _ trivial e
 exact ⟨h.mem,⟨cs,e',hs⟩,fun k hk=>by
  obtain ⟨v,h1,h2⟩:=h.elem k hk;refine ⟨v,h1.keep (fun a ha _=>cob (by rw [ha]; exact e'.trans e.symm)),(h2.carry (hc.mono fun _ _=>trivial))⟩⟩
theorem zMV {base:Nat} {qs:List QV} {l:List Rat} (h:W.ownsRow base 37 4 v n (qs.flatMap cells4q)) (hl:qs.length=n) (hm:l.length=n) (hrow:∀ j,v.ownBlock=some j->G j) (he:∀ k,k<n->QCan W (fun b=>¬ G b/\B<=b) (qs.getD k ⟨⟨false,none,0,0⟩,⟨false,none,0,0⟩⟩) (l.getD k 0)) :
  ∃ s:SV,v=s.val/\s.n=n/\VecCan W (fun b=>base<=b) (fun b=>¬ G b/\B<=b) s l/\(0<l.length->∃ b c,s=⟨some ⟨b,0,none⟩,l.length,c⟩/\l.length<=c/\c<=9223372036854775807/\base<=b/\RowP W (fun x=>x<B\/x=b) b l):=by
 obtain ⟨s,e1,e2,e3⟩:=zFr h hl hm he;refine ⟨s,e1,e2,e3,fun hp=>?_⟩;rcases h.2 with ⟨_,h0⟩ | ⟨g,cap,cur,rfl,hbg,hh,hnc,hcap,hcur,ht⟩
 ·omega
 ·obtain ⟨A,sn,sc⟩:=s;dsimp only [SV.val] at e1 e2;simp only [Value.slice.injEq] at e1;obtain ⟨rfl,rfl,rfl⟩:=e1;have hG:G g:=hrow g rfl;refine ⟨g,cap,by rw [hm],by omega,nlt hcap (by decide),hbg,.inr rfl,⟨cur,hh,by rw [hm,hcur]; omega⟩,fun k hk=>⟨qs.getD k ⟨⟨false,none,0,0⟩,⟨false,none,0,0⟩⟩,?_,(he k (by omega)).imp fun b _ hb e=>e.elim (fun h=>by have:=hb.2; omega) fun e=>hb.1 (e ▸ hG)⟩⟩
  have ec:∀ o,o<4->W.cell? ⟨g,k*4+o,none⟩=(cells4q (qs.getD k ⟨⟨false,none,0,0⟩,⟨false,none,0,0⟩⟩))[o]?:=fun o ho=>by
   have e2:(cur.toList.take (n*4))[k*4+o]?=(qs.flatMap cells4q)[k*4+o]?:=(by rw [ht]);rw [List.getElem?_take_of_lt (by omega),zCy qs k o (by omega) ho ⟨⟨false,none,0,0⟩,⟨false,none,0,0⟩⟩] at e2;simp only [World.cell?,hh];simpa using e2
  exact ⟨ec 0 (by omega),ec 1 (by omega),ec 2 (by omega),ec 3 (by omega)⟩
theorem zLa {f:Nat} {caps:Array Value} {g:Nat->Rat} {la lb:List Rat} (ha:VecIs w X Y L sa la) (hb:VecIs w X' Y' M sb lb) (hna:sa.n<=1000000) (hnb:sb.n<=1000000) (hcall:∀ (args:Array Value) (w:World),Sem.run Tryz.prog (callFunc f args) w = .ok (.enter f args) w)
  (hA:∀ W x y i,Carry (fun b=>b<w.heap.size) w W->QIs W AllB L x (la.getD i 0)->QIs W AllB M y (lb.getD i 0)->Calls Tryz.prog f (#[x.val,y.val]++caps) W fun e w'=>QRet W (g i) e w'/\Below W.heap.size W w') :
  Calls Tryz.prog 203 #[sa.val,sb.val,(.func (.func f) #[] caps)] w fun e w'=>CbRet w ((List.range (max sa.n sb.n)).map g) e w'/\Below w.heap.size w w':=by
 refine (callsIn_wide (n:=6)).1 ?_;obtain ⟨iq0,hiq,hzq0,hzq1,hzq2⟩:=info_parts zEv;have h0a:QIs w (fun _=>True) L QV.zero 0:=⟨0,0,⟨[],WordsAt.nil _ _ _ _ (nzl _),nzl _,rfl⟩,⟨[],WordsAt.nil _ _ _ _ (nzl _),nzl _,rfl⟩,by simp [qv]⟩;have h0b:QIs w (fun _=>True) M QV.zero 0:=⟨0,0,⟨[],WordsAt.nil _ _ _ _ (nzl _),nzl _,rfl⟩,⟨[],WordsAt.nil _ _ _ _ (nzl _),nzl _,rfl⟩,by simp [qv]⟩;obtain ⟨va,hva,hqa⟩:=(ha.imp (X':=fun y=>y<w.heap.size) (R':=QIs w (fun _=>True) L) (fun b hb _=>hb) (fun _ _ h=>h.any)).elems h0a;obtain ⟨vb,hvb,hqb⟩:=(hb.imp (X':=fun y=>y<w.heap.size) (R':=QIs w (fun _=>True) M) (fun b hb _=>hb) (fun _ _ h=>h.any)).elems h0b;have HA:=hdq hva;have HB:=hdq hvb;have HQA:Hid (∀ i,QIs w (fun y=>y<w.heap.size) L (va i) (la.getD i 0)):=fun i=>(hqa i).imp fun b hb _=>hb
 have HQB:Hid (∀ i,QIs w (fun y=>y<w.heap.size) M (vb i) (lb.getD i 0)):=fun i=>(hqb i).imp fun b hb _=>hb
 have HF:=hdq hA;obtain ⟨A,la',ca⟩:=sa;obtain ⟨B,lb',cb⟩:=sb;have cpa:la'<=ca:=ha.le;have cpb:lb'<=cb:=hb.le;have cpa2:ca<=9223372036854775807:=ha.cap;have cpb2:cb<=9223372036854775807:=hb.cap;clear ha hb h0a h0b hva hvb hqa hqb hA;dsimp only [SV.val] at hna hnb ⊢;obtain ⟨N,hN⟩:∃ N,N=max la' lb':=⟨_,rfl⟩;rw [<-hN];have HN:=hdq hN;have hmax:max (la':Int) (lb':Int)=(N:Int):=by omega
 have hNl:N<=1000000:=by omega
 have hmk:=zGJ N hNl;clear hN;refine callsIn_of_wp_marks Tryz.func203 rfl trivial ?_ rfl;simp only [Tryz.ntmps203,List.size_toArray,List.length_cons,List.length_nil,Nat.reduceAdd,Nat.reduceSub,Array.replicate_succ,Array.replicate_zero,List.push_toArray,List.append_toArray,List.nil_append,List.cons_append];gi_wp2;refine ⟨trivial,?_⟩;refine (zFZ A B la' ca lb' cb).mono ?_;rintro e w2 ⟨rfl,rfl⟩;gi_wp2;clear hmk;obtain ⟨W0,hW0⟩:∃ W0,((((w.alloc (.cells #[(.func (.func f) #[] caps)] 65)).alloc (.cells (zeroQ N) 37)).alloc (.cells #[.slice (some ⟨w.heap.size+1,0,none⟩) 0 N] 24)).alloc (.cells #[.slice A la' ca] 24)).alloc (.cells #[.slice B lb' cb] 24)=W0:=⟨_,rfl⟩;rw [hW0];have hk0:Below w.heap.size w W0:=by rw [<-hW0]; exact (((((brf _ w).alloc (nlr _) _).alloc (by simp) _).alloc (by simp; omega) _).alloc (by simp; omega) _).alloc (by simp; omega) _
 have hs0:W0.heap.size=w.heap.size+5:=by rw [<-hW0]; simp
 have x0:Boxed W0 w.heap.size 65 (.func (.func f) #[] caps):=by rw [<-hW0]; exact alk (alk (alk (alk (zAd _ _ rfl))))
 have x1:W0.heap[w.heap.size+1]?=some (.cells (zeroQ N) 37 (0,0)):=by rw [<-hW0]; exact alk (alk (alk (zAd _ _ (by simp))))
 have x2:Boxed W0 (w.heap.size+1+1) 24 (.slice (some ⟨w.heap.size+1,0,none⟩) 0 N):=by rw [<-hW0]; exact alk (alk (zAd _ _ (by simp)))
 have x3:Boxed W0 (w.heap.size+1+1+1) 24 (.slice A la' ca):=by rw [<-hW0]; exact alk (zAd _ _ (by simp))
 have x4:Boxed W0 (w.heap.size+1+1+1+1) 24 (.slice B lb' cb):=by rw [<-hW0]; exact zAd _ _ (by simp)
 clear hW0
 have hC0:CbS w (.func (.func f) #[] caps) g [] (.slice (some ⟨w.heap.size+1,0,none⟩) 0 N) (fun y=>y=w.heap.size+1\/y=w.heap.size+1+1) [] W0:=
  ⟨rfl,x2,x0,⟨rfl,.inr ⟨w.heap.size+1,N,zeroQ N,rfl,nlr _,x1,nzl _,by simp only [maxLen]; omega,by rw [zCG]; omega,rfl⟩⟩,fun j hj=>.inl (by simpa [Value.ownBlock] using hj.symm),.inr rfl,fun x hx=>by omega,fun k hk=>absurd hk (Nat.not_lt_zero _),by omega,Carry.of_below hk0⟩
 have HC0:=hdq hC0;clear hC0 x1
 refine wpIn_rangeFunc_ownH (F:=Fence.wide) rfl (by omega) (gf:=143) (lb:=#[.pointer (some ⟨w.heap.size+1+1+1,0,none⟩),.pointer (some ⟨w.heap.size+1+1+1+1,0,none⟩)]) rfl trivial (enters_of Tryz.func143 (by kernel_rfl) rfl)
  (zDL (X:=fun y=>y<=w.heap.size\/y=w.heap.size+3\/y=w.heap.size+4) (sa:=⟨A,la',ca⟩) (sb:=⟨B,lb',cb⟩) (va:=va) (vb:=vb) (N:=N) (by omega) x3 x4 (.inr (.inl rfl)) (.inr (.inr rfl))
   ((HA.out.carry (Carry.of_below hk0)).imp fun b hb=>.inl (by omega)) ((HB.out.carry (Carry.of_below hk0)).imp fun b hb=>.inl (by omega)) HN.out hNl)
  (fun h k=>h.trans k) (fun W l o o' _ hl ho _=>Carry.putObj o' hl ho) (brf _ _) (fun _=>rfl)
  (fun pre W=>CInv w (.func (.func f) #[] caps) g pre W/\Below w.heap.size w W)
  (fun _ _ _=>False)
  (OwnFrom.and (Own.from CInv.own _) (ownFrom_below (nlr _) (by omega)))
  (fun _ _ _ _ _ hs _ _=>hs)
  ⟨⟨_,_,_,HC0.out⟩,hk0⟩
  (fun x a' W=>∃ d,a'={tmps:=#[.slice A la' ca,.slice B lb' cb,(.func (.func f) #[] caps),undef,undef,.pointer (some ⟨w.heap.size,0,none⟩),.slice none 0 0,.pointer (some ⟨w.heap.size+1+1,0,none⟩),.pointer (some ⟨d,0,none⟩),.pointer (some ⟨d+1,0,none⟩),.slice A la' ca,.int .i64 la',.slice B lb' cb,.int .i64 lb',.int .i64 N,.slice (some ⟨w.heap.size+1,0,none⟩) 0 N,.slice A la' ca,.slice B lb' cb,.func (.func 143) #[] #[.pointer (some ⟨w.heap.size+1+1+1,0,none⟩),.pointer (some ⟨w.heap.size+1+1+1+1,0,none⟩)],(va x).val,(vb x).val,undef,undef,undef,undef,undef,undef,undef,undef],defers:=[]}/\QBlk W d (va x)/\QBlk W (d+1) (vb x))
  (fun x a' _ W W' row hs hg hr=>?hAx) ?assign ?body ?done ?stop
 case hAx=>
  obtain ⟨d,e,g1,g2⟩:=hs;exact ⟨d,e,zAi hg (fun r e=>(hr r e).2) g1,zAi hg (fun r e=>(hr r e).2) g2⟩
 case stop=>
  rintro D c pre W _ _ h _;exact h.elim
 case assign=>
  intro l pre x W K hI hK;gi_wp2;have al:Below W.heap.size W ((W.alloc (.cells #[.bool (va x).num.ng,.slice (va x).num.A (va x).num.n (va x).num.c,.bool (va x).den.ng,.slice (va x).den.A (va x).den.n (va x).den.c] 37)).alloc (.cells #[.bool (vb x).num.ng,.slice (vb x).num.A (vb x).num.n (vb x).num.c,.bool (vb x).den.ng,.slice (vb x).den.A (vb x).den.n (vb x).den.c] 37)):=((brf _ _).alloc (nlr _) _).alloc (by simp) _;obtain ⟨⟨v,G,s,h⟩,hB⟩:=hI;have hgb:W.grownBy ((W.alloc (.cells #[.bool (va x).num.ng,.slice (va x).num.A (va x).num.n (va x).num.c,.bool (va x).den.ng,.slice (va x).den.A (va x).den.n (va x).den.c] 37)).alloc (.cells #[.bool (vb x).num.ng,.slice (vb x).num.A (vb x).num.n (vb x).num.c,.bool (vb x).den.ng,.slice (vb x).den.A (vb x).den.n (vb x).den.c] 37)) none:=⟨al.os,al.tape,al.output,al.size,fun k hk _=>al.block k hk⟩;exact hK _ _ ⟨al.size,fun k o _ hk _=>(al.block k (zAa hk)).trans hk⟩ (Carry.of_below al) ⟨CInv.own _ _ _ _ ⟨v,G,s,h⟩ hgb (fun r e=>by cases e),hB.trans (al.mono hB.size)⟩ ⟨W.heap.size,rfl,alk (zAd _ _ rfl),zAd _ _ (by simp)⟩
 case body=>
  rintro l pre x a' W _ _ ⟨⟨v,G,s,h⟩,hB⟩ ⟨d,rfl,g1,g2⟩ hlt;have hqa:=((HQA.out x).carry (h.car.mono fun y hy=>.inl (by omega))).any;have hqb:=((HQB.out x).carry (h.car.mono fun y hy=>.inl (by omega))).any;obtain ⟨a0,a1,a2,a3,-⟩:=zAA g1;obtain ⟨b0,b1,b2,b3,-⟩:=zAA g2;have c4:=h.fnb.cell;have c2:=h.box.cell;have lb1:=zAa g1;have lb2:=zAa g2;have lb3:=zAa h.box;have lb4:=zAa h.fnb;have Hs:=hdq hs0;have HH:=hdq h;clear hs0 x0 x2 x3 x4 hk0 h HC0;have hBs:=hB.size;have hdr:Below W.heap.size W W.drew:=(brf _ _).drew;gi_wp2;refine zBi 6 (fun f w'=>f=false->Sees w.heap.size [] W w') (by kernel_rfl) (by kernel_rfl) (by rintro ⟨_,_,h⟩; exact h) ?_;have hS0:Sees w.heap.size [] W W.drew:=Sees.st (by simp) hBs;refine tkW 0 (v) (fun w' hSw=>?_) (fun _=>hS0) ?_
  ·(replace hSw:=hSw rfl; go_simp; try with_reducible rfl)
  simp only [zz];refine tkV 1 4 ((.func (.func f) #[] caps)) (fun w' hSw=>?_) (fun _=>hS0) ?_
  ·(replace hSw:=hSw rfl; go_simp; try with_reducible rfl)
  simp only [zz];refine tkV 2 4 ((va x).val) (fun w' hSw=>?_) (fun _=>hS0) ?_
  ·(replace hSw:=hSw rfl; go_simp; try with_reducible rfl)
  simp only [zz];refine tkV 3 4 ((vb x).val) (fun w' hSw=>?_) (fun _=>hS0) ?_
  ·(replace hSw:=hSw rfl; go_simp; try with_reducible rfl)
  simp only [zz];refine tk1 4 ?_;intro K hK;go_simp;refine (HF.out W.drew (va x) (vb x) x ?cr (hqa.below hdr) (hqb.below hdr)).mono ?_;case cr=>exact ((HH.out.car.mono fun y hy=>.inl (by omega)).trans (Carry.of_below hdr))
  rintro e w1 ⟨⟨zq,rfl,hz⟩,hb1⟩;have hS1:=Kept.call2 hb1 hS0;have hb1':Below W.heap.size W w1:=hdr.trans hb1;refine hK.out _ _ (fun _=>hS1) ?_;clear hK K a0 a1 a2 a3 b0 b1 b2 b3 c4 hqa hqb;refine tk1 5 ?_;intro K hK;go_simp;refine hK.out _ _ (fun _=>Sees.al hS1) ?_;clear hK K;have hown:=zAr HH.out.own fun j hj=>hb1'.block j (by obtain ⟨_,cs,hh⟩:=zAc HH.out.own hj; exact zAa hh)
  refine tk1 6 ?_;intro K hK;refine zAq _ _ 24 rfl (w.heap.size+1) 37 iq0 (.agg #[.bool false,.slice none 0 0,.bool false,.slice none 0 0]) 4 64 Tryz.underlying24 hiq hzq0 hzq1 hzq2 rfl (by decide) v pre.length (s.flatMap cells4q) rfl (hown.alloc _) ⟨w1.heap.size,0,none⟩ 1 1 (cells4q zq) rfl rfl (zA1 _ _) (by intro u hu; simp [cells4q] at hu; rcases hu with rfl | rfl | rfl | rfl <;> rfl) (by simp [maxLen]; omega) (by omega) (by have:=hb1'.size; simp; omega) ?_;intro v' W5 hown5 hg5 hnil5 hat5;have Hst:=hdq (HH.out.step hb1' hz hown5 hg5 hat5)
  have hlv:∀ j,v.ownBlock=some j->j ≠ w.heap.size+1+1:=fun j hj=>by
   obtain ⟨_,cs,hh⟩:=zAc HH.out.own hj;exact zAy hh HH.out.box (by decide)
  have d1:Boxed W5 (w.heap.size+1+1) 24 v:=(hg5.block _ (by have:=hb1'.size; simp; omega) (fun e=>hlv _ e.symm rfl)).trans ((Below.heap_alloc _ _ _ (by have:=hb1'.size; omega)).trans ((hb1'.block _ lb3).trans HH.out.box));have d2:=d1.cell;have d3:=d1.frozen;obtain ⟨g5,c5,rfl⟩:=ownsRow_succ hown5;simp only [Act.put,zz];refine hK.out _ _ (fun h=>absurd h (by decide)) ?_;clear hK K hown hown5 hg5 hat5 hnil5 hS0 hS1 hb1' hz hb1 hlv d1;refine tk1 7 ?_;intro K hK;go_simp;refine hK.out _ _ (fun h=>absurd h (by decide)) ?_;clear hK K d2 d3;refine zAf (by kernel_rfl) ?_ _;gi_wp2;obtain ⟨s1,s2,s3,s4,s5⟩:=Hst.out;exact ⟨⟨s4,fun k o _ hk ho=>s3 k o hk ho⟩,s2,s1,hB.trans s5⟩
 case done=>
  rintro Dd ys W hDd rfl ⟨⟨v,G,s,h⟩,hB⟩ hK0;have c1:=h.box.cell;have Hs:=hdq hs0;have HH:=hdq h;clear hs0 x0 x2 x3 x4 h HC0;gi_wp2;refine ⟨by simp,.inl ⟨_,_,rfl,run_takeDeferred hK0,?_⟩⟩;have hcr:Carry (fun _=>True) W (W.putObj Dd (.deferred none)):=Carry.grown (grownBy_putObj' W Dd (.deferred none)) (fun r e=>by cases e; exact ⟨_,hK0,rfl⟩);have hl:(List.range N).length=N:=List.length_range;have hown:W.ownsRow (w.heap.size+1) 37 4 v N (s.flatMap cells4q):=by have:=HH.out.own; rw [hl] at this; exact this
  obtain ⟨sv,e1,e2,e3,e4⟩:=zMV (G:=G) (B:=w.heap.size) (l:=(List.range N).map g) hown (by rw [HH.out.len,hl]) (by rw [List.length_map,hl]) HH.out.row (fun k hk=>by
   have:=HH.out.elem k (by rw [hl]; exact hk);rw [show (List.range N).getD k 0=k by simp [hk]] at this;rw [zA6 _ _ _ _ hk];exact this)
  subst e1;refine ⟨_,results_tmp rfl _ _ _,⟨sv,rfl,?_,fun hp=>?_⟩,?_⟩
  ·exact (e3.keep' hcr).imp (fun b _ hb=>by simp only [New]; omega) fun v q hq=>hq.imp fun b _ hb=>hb.2
  ·obtain ⟨b,c,q1,q2,q3,q4,q5⟩:=e4 hp;exact ⟨b,c,q1,q2,q3,by omega,q5.carry hcr⟩
  ·exact hB.trans (belowK_b (w:=w) (nlr _) W Dd _ _ (by have:=Hs.out; omega) hK0 rfl rfl)
end Go.Proofs.YtpjaodcimomaiaaGreat
