/- Texts McSpD MoO MoP MpL MpN MpQ of this claim. -/
import Derived.Test.YtjancagcmghfjaaGreatX24
set_option maxHeartbeats 4000000
set_option maxRecDepth 40000
namespace Go.Proofs.YtjancagcmghfjaaGreat
open Go.RowKit Go.Shelf Gj
variable {b L i k:Nat} {w:World} {s:SV} {X Y X' Y':Nat->Prop}
theorem MBlk.lower {w9 w8:World} {m:List (List Rat)} (h:MBlk w9 b m w8) (hs:w.heap.size<=w9.heap.size):MBlk w b m w8:=by
 obtain ⟨h1,cs,sv,h2,h3,h4⟩:=h;exact ⟨nlt hs h1,cs,sv,h2,h3,fun j hj=>⟨(h4 j hj).1,(h4 j hj).2.imp (fun x _ hx=>⟨nlt hs hx.1,hx.2⟩) fun v q hq=>hq.imp fun x _ hx=>⟨nlt hs hx.1,hx.2⟩⟩⟩
theorem zRl {m:List (List Rat)} (h:MatIs w X Y L s m) :
  Calls Tryz.prog 57 #[s.val] w fun e w'=>e = .returned (.int .i64 (colsOf m))/\Below w w w':=(cols_calls h).mono fun _ _ h=>⟨h.1,h.2 ▸ brf _ _⟩
open Go.RowKit Go.Shelf
def besideAt (m u:List (List Rat)) (left i k:Nat):Rat:=if k<left then (m.getD i []).getD k 0 else (u.getD i []).getD (k-left) 0
theorem zVC {left c0 c1 c2:Nat} {t:SV} {m u:List (List Rat)} (h:MatIs w X Y L s m) (hu:MatIs w X' Y' L t u) (h0:w.cell? c0=some (.int .i64 (left:Int))) (h1:w.cell? c1=some s.val) (h2:w.cell? c2=some t.val) (hi:i<s.n) (hi2:i<t.n) (hk:k<=1000000) (hl:left<=1000000) (hL:L<=LM) :
  Calls Tryz.prog 185 #[.int .i64 (i:Int),.int .i64 (k:Int),.pointer (some c0),.pointer (some c1),.pointer (some c2)] w fun e w'=>QRet w (besideAt m u left i k) e w'/\Below w w w':=by
 obtain ⟨A,n,c⟩:=s;obtain ⟨A2,n2,c22⟩:=t;have t0:=zAb h0;have t1:=zAb h1;have t2:=zAb h2;dsimp only at t0 t1 t2;have HL:=hdq hL;clear hL;dsimp only [SV.val] at h1 h2;go_enter Tryz.func185,Tryz.ntmps185
 go_upto_region 1 with fail
 refine zAo (fun W=>Below w w W/\Box4 W w (.bool false) (.slice none 0 0) (.bool false) (.slice none 0 0)/\w.heap.size<W.heap.size) ⟨(az (brf _ _)),bx4,by simp <;> omega⟩ ?_;rintro W ⟨hbW,bR,s0⟩;have hBW:=hbW.size;replace h0:=(hbW.cell (p:=c0) t0).trans h0;replace h1:=(hbW.cell (p:=c1) t1).trans h1;replace h2:=(hbW.cell (p:=c2) t2).trans h2;by_cases hlt:k<left
 ·have hki:(k:Int)<(left:Int):=by omega
  have hval:Hid (besideAt m u left i k=(m.getD i []).getD k 0):=hdq (if_pos hlt);go_wp2_with fail
  refine (zFd (s:=⟨A,n,c⟩) (h.below hbW) i k hi (by omega) HL.out).mono ?_;rintro e w1 ⟨⟨z,rfl,hz⟩,hb1⟩;rw [<-hval.out] at hz;have hb01:=hbW.trans (hb1.mono hBW);have bR1:=bR.below hb1 s0;have s01:w.heap.size<w1.heap.size:=ltl s0 hb1.size;obtain ⟨v0,v1,v2,v3,-⟩:=bR1.stored (.bool z.num.ng) (.slice z.num.A z.num.n z.num.c) (.bool z.den.ng) (.slice z.den.A z.den.n z.den.c);have HB:=hdq (zAl (x0:=.bool z.num.ng) (x1:=.slice z.num.A z.num.n z.num.c) (x2:=.bool z.den.ng) (x3:=.slice z.den.A z.den.n z.den.c) (b:=w) hb01 (by omega));have HZ:=hdq ((hz.set4 (b:=w) (x0:=.bool z.num.ng) (x1:=.slice z.num.A z.num.n z.num.c) (x2:=.bool z.den.ng) (x3:=.slice z.den.A z.den.n z.den.c) s0).lower hBW);clear hb1 hb01 hz bR h0 h1 h2;go_wp2;try rw [Exit.noGoto_ret]
  exact bodyPost_ret (v:=z.val) (by simp [results,Tryz.results185,go_sem,v0,v1,v2,v3]) rfl ⟨⟨z,rfl,HZ.out⟩,HB.out⟩
 ·have hki:¬ (k:Int)<(left:Int):=by omega
  have hkw:IntKind.i64.wrap ((k:Int)-(left:Int))=((k-left:Nat):Int):=by rw [IntWalk.i64_in _ (by omega)]; omega
  have hval:Hid (besideAt m u left i k=(u.getD i []).getD (k-left) 0):=hdq (if_neg hlt);go_wp2_with fail
  refine (zFd (s:=⟨A2,n2,c22⟩) (hu.below hbW) i (k-left) hi2 (by omega) HL.out).mono ?_;rintro e w1 ⟨⟨z,rfl,hz⟩,hb1⟩;rw [<-hval.out] at hz;have hb01:=hbW.trans (hb1.mono hBW);have bR1:=bR.below hb1 s0;have s01:w.heap.size<w1.heap.size:=ltl s0 hb1.size;obtain ⟨v0,v1,v2,v3,-⟩:=bR1.stored (.bool z.num.ng) (.slice z.num.A z.num.n z.num.c) (.bool z.den.ng) (.slice z.den.A z.den.n z.den.c);have HB:=hdq (zAl (x0:=.bool z.num.ng) (x1:=.slice z.num.A z.num.n z.num.c) (x2:=.bool z.den.ng) (x3:=.slice z.den.A z.den.n z.den.c) (b:=w) hb01 (by omega));have HZ:=hdq ((hz.set4 (b:=w) (x0:=.bool z.num.ng) (x1:=.slice z.num.A z.num.n z.num.c) (x2:=.bool z.den.ng) (x3:=.slice z.den.A z.den.n z.den.c) s0).lower hBW);clear hb1 hb01 hz bR h0 h1 h2;go_wp2;try rw [Exit.noGoto_ret]
  exact bodyPost_ret (v:=z.val) (by simp [results,Tryz.results185,go_sem,v0,v1,v2,v3]) rfl ⟨⟨z,rfl,HZ.out⟩,HB.out⟩
theorem zVW {t:SV} {m u:List (List Rat)} (h:MatIs w X Y L s m) (hu:MatIs w X' Y' L t u) (ht:t.n=s.n) (hn:s.n<=100000) (hc:colsOf m<=10000) (hcu:colsOf u<=10000) (hL:L<=LM) :
  Calls Tryz.prog 141 #[s.val,t.val] w fun e w'=>(∃ b,e = .returned (.slice (some ⟨b,0,none⟩) m.length m.length)/\MBlk w b ((List.range m.length).map fun i=>(List.range (colsOf m+colsOf u)).map (besideAt m u (colsOf m) i)) w')/\Below w w w':=by
 obtain ⟨A,n,c⟩:=s;obtain ⟨A2,n2,c2⟩:=t;dsimp only at hn ht;obtain rfl:n=n2:=ht.symm;have HLen:Hid (m.length=n):=h.len;have HL:=hdq hL;clear hL;dsimp only [SV.val];go_enter Tryz.func141,Tryz.ntmps141
 go_upto_region 1 with fail
 obtain ⟨W,hW⟩:∃ W,(w.alloc (.cells #[.slice A n c] 33)).alloc (.cells #[.slice A2 n c2] 33)=W:=⟨_,rfl⟩;rw [hW];have bA:Boxed W w 33 (.slice A n c):=by rw [<-hW]; exact (Boxed.new w _ _).alloc _
 have bB:Boxed W (w+1) 33 (.slice A2 n c2):=by
  have:=Boxed.new (w.alloc (.cells #[.slice A n c] 33)) 33 (.slice A2 n c2);rw [World.size_alloc,hW] at this; exact this
 have hbW:Below w w W:=by rw [<-hW]; exact (bal).alloc (by simp) _
 have c0:=bA.cell;have c1:=bB.cell;have s0:=bA.lt;have s1:=bB.lt;have hBW:=hbW.size;clear hW;go_cut [5,6] from 12 (fun p r W'=>∃ g:Nat,p = .pointer (some ⟨g,0,none⟩)/\r = .int .i64 (colsOf u:Int)/\W.heap.size<=g/\W'.cell? ⟨g,0,none⟩=some (.int .i64 (colsOf m:Int))/\Below W W W')
 case first=>
  go_region_held3 (Sees w [] W) (exact kp)
   (first
    | (go_at_call 57; ((with_reducible refine (zRl (s:=⟨A,n,c⟩) (h.below (hbW.trans ((Sees.kept (by assumption)).whole.mono hBW)))).mono ?_); rintro e w3 ⟨rfl,hb3⟩; (have sz3:W.heap.size<=w3.heap.size:=by exact nlt (Sees.kept (by assumption):Kept w [] W _).size hb3.size); (obtain ⟨hc3,hf3⟩:=bcell hb3); (have lt3:=fun (b:Nat) h=>ltl (n:=b) h hb3.size); (have kq3:Kept w [] W w3:=(Kept.call2 hb3 (by assumption):Sees w [] W w3).kept)))
    | (go_at_call 57; ((with_reducible refine (zRl (s:=⟨A2,n,c2⟩) (hu.below (hbW.trans ((Sees.kept (by assumption)).whole.mono hBW)))).mono ?_); rintro e w4 ⟨rfl,hb4⟩; (have sz4:W.heap.size<=w4.heap.size:=by exact nlt (Sees.kept (by assumption):Kept w [] W _).size hb4.size); (obtain ⟨hc4,hf4⟩:=bcell hb4); (have lt4:=fun (b:Nat) h=>ltl (n:=b) h hb4.size); (have kq4:Kept w [] W w4:=(Kept.call2 hb4 (by assumption):Sees w [] W w4).kept)))
    | fail)
  focus
   rename_i hS;(go_wp2_with fail);go_meet;case rel=>exact ⟨_,rfl,rfl,sz4,by simp,hS.kept.whole⟩
  focus
   rename_i hS;(go_wp2_with fail);go_meet;case rel=>exact ⟨_,rfl,rfl,sz3,by go_simp,hS.kept.whole⟩
  focus
   rename_i hS;(go_wp2_with fail);go_meet
   case rel=>
    have e0:w4.cell? W=some (.int .i64 0):=(hc4 _ 0 (lt3 _ (by simp))).trans ((hc3 _ 0 (by simp)).trans (by show (W.alloc _).cell? _=_; simp));exact ⟨_,rfl,rfl,nlr _,World.cell?_setCell_same' _ _ _ (by rw [e0]; rfl),hS.kept.whole⟩
 case rest=>
  obtain ⟨g,rfl,rfl,hg,cg,hbc⟩:=hcut;have a0:=(hbc.cell (p:=w) s0).trans c0;have a1:=(hbc.cell (p:=⟨w+1,0,none⟩) s1).trans c1;have tg:=zAb cg;dsimp only at tg;have hb1:=hbW.trans (hbc.mono hBW);have hsz:=hbc.size;have t0:w.heap.size<wc.heap.size:=by omega
  have t1:w.heap.size+1<wc.heap.size:=by omega
  clear hbc c0 c1 bA bB;go_upto_region 3 with fail
  have al:Below wc wc (wc.alloc (.cells #[.func (.func 185) #[] #[.pointer (some g),.pointer (some w),.pointer (some ⟨w+1,0,none⟩)]] 226)):=bal;have hb2:=hb1.trans (al.mono hb1.size);have x0:(wc.alloc (.cells #[.func (.func 185) #[] #[.pointer (some g),.pointer (some w),.pointer (some ⟨w+1,0,none⟩)]] 226)).cell? wc=some (.func (.func 185) #[] #[.pointer (some g),.pointer (some w),.pointer (some ⟨w+1,0,none⟩)]):=by simp
  replace a0:=(al.cell (p:=w) t0).trans a0;replace a1:=(al.cell (p:=⟨w+1,0,none⟩) t1).trans a1;replace cg:=(al.cell (p:=g) tg).trans cg;have hs9:=al.size;clear al;generalize wc.alloc (.cells #[.func (.func 185) #[] #[.pointer (some g),.pointer (some w),.pointer (some ⟨w+1,0,none⟩)]] 226)=w9 at *;generalize wc.heap.size=fb at *;have hmx:max (n:Int) 0=(n:Int):=by omega
  obtain ⟨cn,hcn⟩:∃ cn,Hid (cn=colsOf m+colsOf u):=⟨_,hdq rfl⟩;have hcn2:cn<=20000:=by have:=hcn.out; omega
  have hwr:IntKind.i64.wrap ((colsOf m:Int)+(colsOf u:Int))=(cn:Int):=by rw [IntWalk.i64_in _ (by omega),hcn.out]; simp
  go_wp2_with fail
  refine (zRY (fn:=185) (caps:=#[.pointer (some g),.pointer (some w),.pointer (some ⟨w+1,0,none⟩)]) (rows:=n) (cols:=cn) (g:=besideAt m u (colsOf m)) hn (by omega) (fun _ _=>rfl) (fun W' i k hb hi hk=>by
   have h9:=zVC (left:=colsOf m) (i:=i) (k:=k) (s:=⟨A,n,c⟩) (t:=⟨A2,n,c2⟩) (h.below (hb2.trans (hb.mono hb2.size))) (hu.below (hb2.trans (hb.mono hb2.size))) ((hb.cell (p:=g) (by show g<_; omega)).trans cg) ((hb.cell (p:=w) (by show w.heap.size<_; omega)).trans a0) ((hb.cell (p:=⟨w+1,0,none⟩) (by show w.heap.size+1<_; omega)).trans a1) hi hi (by omega) (by omega) HL.out;simpa using h9)).mono ?_
  rintro e w8 ⟨⟨b,rfl,hbk⟩,hb8⟩;rw [hcn.out] at hbk;have HM:=hdq (hbk.lower hb2.size);have HB:=hdq (hb2.trans (hb8.mono hb2.size));clear hbk hb8 hb2 hb1 h hu a0 a1 cg;go_wp2;go_ret;rw [HLen.out];exact ⟨⟨b,rfl,HM.out⟩,HB.out⟩
namespace Mo
open Gj
theorem zV9 {n:Nat} {m:Mt} (h:Sq n m) (hn:0<n):colsOf m=n:=by
 apply Nat.le_antisymm
 ·refine zAU.2 fun r hr=>?_
  obtain ⟨i,hi,rfl⟩:=List.getElem_of_mem hr;have:=h.2 i hi;rw [gdd,gge hi] at this;exact Nat.le_of_eq this
 ·have h0:0<m.length:=by rw [h.1]; exact hn
  have:=h.2 0 h0;rw [gdd,gge h0] at this;have hle:=zAU.1 (nlr (colsOf m)) m[0] (List.getElem_mem h0);have e:m[0].length=n:=this;omega
theorem zVe (n:Nat):Sq n (unitM n):=by
 unfold unitM;refine ⟨by simp,fun i hi=>?_⟩;rw [List.length_map,List.length_range] at hi;rw [Gj.getD_map_range _ _ hi]; simp
theorem zX0 {n i k:Nat} (hi:i<n) (hk:k<n):((unitM n).getD i []).getD k 0=if k=i then 1 else 0:=by
 unfold unitM;rw [Gj.getD_map_range _ _ hi,Gj.getD_map_range _ _ hk]
theorem zXx {n:Nat} {m:Mt} (h:Sq n m) (hn:0<n):((List.range m.length).map fun i=>(List.range (colsOf m+colsOf (unitM n))).map (besideAt m (unitM n) (colsOf m) i))=beside m:=by
 rw [zV9 h hn,zV9 (zVe n) hn];unfold beside;refine List.map_congr_left fun i hi=>?_
 have hi':i<n:=by rw [<-h.1]; exact List.mem_range.1 hi
 rw [h.1];apply List.ext_getElem
 ·simp [resize]
 ·intro k h1 h2;rw [List.length_map,List.length_range] at h1;rw [List.getElem_map,List.getElem_range];unfold besideAt;by_cases hk:k<n
  ·rw [if_pos hk,List.getElem_append_left (by simp [resize]; exact hk)];simp [resize]
  ·obtain ⟨d,rfl⟩:∃ d,k=n+d:=⟨k-n,by omega⟩;rw [if_neg hk,Nat.add_sub_cancel_left,zX0 hi' (by omega),List.getElem_append_right (by simp [resize])];simp [resize]
end Mo
namespace Mo
theorem zW5 (n i:Nat) (hi:i<n):(List.replicate n (0:Rat)).set i 1=(List.range n).map (idE i):=by
 apply List.ext_getElem
 ·simp
 ·intro k h1 h2;rw [List.length_set,List.length_replicate] at h1;rw [List.getElem_set,List.getElem_map,List.getElem_range,List.getElem_replicate];unfold idE;by_cases e:i=k
  ·rw [if_pos e,if_pos e.symm]
  ·rw [if_neg e,if_neg (Ne.symm e)]
theorem MRw.unit {W W2:World} {B0 b n i:Nat} {rb:Nat->Nat} {z:QV} (h:MRw W B0 b n n rb (fun i=>(List.range n).map (idE i)) i) (hi:i<n) (hB:B0<=b)
  (hb2:Below (W+1) ((W.setCell ⟨b,i,none⟩ (.slice (some W) n n)).alloc (.cells (zeroQ n) 80)) W2) (hz:QCan W2 (New (W+1)) z 1) :
  MRw (put4 W2 W i z) B0 b n n (fun j=>if j=i then W.heap.size else rb j) (fun i=>(List.range n).map (idE i)) (i+1):=by
 obtain ⟨cs,h1,h2,h3⟩:=h.blk;have hbl:=zAa h1;have hsz:(W.setCell ⟨b,i,none⟩ (.slice (some W) n n)).heap.size=W.heap.size:=by simp [World.setCell]
 have hk:∀ x,x ≠ b->x<W.heap.size->(put4 W2 W i z).heap[x]?=W.heap[x]?:=fun x hx hl=>by
  rw [zAx _ _ _ _ (Nat.ne_of_lt hl),hb2.block x (by omega),Below.heap_alloc _ _ _ (by rw [hsz]; exact hl)];exact bhs _ _ _ _ hx
 have hrl:∀ j,j<i->rb j<W.heap.size:=fun j hj=>(h.row j hj).lt
 refine ⟨⟨cs.setIfInBounds i (.slice (some W) n n),?_,by simpa using h2,fun j hj=>?_⟩,fun j hj=>?_,fun j k hj hk e=>?_,fun j hj=>?_,fun j hj=>?_⟩
 ·rw [zAx _ _ _ _ (Nat.ne_of_lt hbl),hb2.block b (by omega),Below.heap_alloc _ _ _ (by rw [hsz]; exact hbl)];exact zAe _ h1
 ·rw [Array.getElem?_setIfInBounds];by_cases e:i=j
  ·subst e;rw [if_pos rfl,if_pos (by omega),if_pos rfl]
  ·rw [if_neg e,if_neg (Ne.symm e)];exact h3 j (by omega)
 ·split
  ·omega
  ·exact h.ne j (by omega)
 ·split at e <;> split at e
  ·omega
  ·have:=hrl k (by omega); omega
  ·have:=hrl j (by omega); omega
  ·exact h.inj j k (by omega) (by omega) e
 ·by_cases e:j=i
  ·subst e;rw [if_pos rfl,<-zW5 n j hi];have hr:=RowAt.made (W.setCell ⟨b,j,none⟩ (.slice (some W) n n)) n (fun x=>x<B0\/x=b\/∃ k,k<j+1/\x=if k=j then W.heap.size else rb k) (.inr (.inr ⟨j,by omega,by rw [if_pos rfl,hsz]⟩));rw [hsz] at hr;have hr2:=hr.below (hb2.mono (by simp [World.setCell]))
   exact hr2.put4 (by simpa using hi) (hz.imp fun x _ hx e=>by
    simp only [New] at hx;rcases e with e | e | ⟨k,hk,e⟩
    ·omega
    ·omega
    ·by_cases ek:k=j
     ·rw [if_pos ek] at e; omega
     ·rw [if_neg ek] at e; have:=hrl k (by omega); omega)
  ·rw [if_neg e];have hr0:=h.row j (by omega)
   have hr1:RowAt W (fun x=>x<B0\/x=b\/∃ j,j<i+1/\x=if j=i then W.heap.size else rb j) (rb j) ((List.range n).map (idE j)):=hr0.grow (fun x hx=>by
    rcases hx with hx | hx | ⟨k,hk,hx⟩
    ·exact .inl hx
    ·exact .inr (.inl hx)
    ·exact .inr (.inr ⟨k,by omega,by rw [if_neg (by omega)]; exact hx⟩)) fun x hl hx=>by
    rcases hx with hx | hx | ⟨k,hk,hx⟩
    ·exact .inl hx
    ·exact .inr (.inl hx)
    ·by_cases e:k=i
     ·rw [if_pos e] at hx; omega
     ·rw [if_neg e] at hx; exact .inr (.inr ⟨k,by omega,hx⟩)
   exact hr1.keep (hk _ (h.ne j (by omega)) (hrl j (by omega))) fun p hp hl=>cob (hk _ (fun e=>hp (.inr (.inl e))) hl)
 ·split
  ·omega
  ·exact h.ge j (by omega)
theorem VecCan.drop {W:World} {X Y:Nat->Prop} {ad:Addr} {n c d:Nat} {l:List Rat} (h:VecCan W X Y ⟨some ad,n,c⟩ l) (hd:d<=n):VecCan W X Y ⟨some (ad.add (d*4)),n-d,c-d⟩ (l.drop d):=by
 have hl:=h.len;have hle:=h.le;have hc:=h.cap;dsimp only at hl hle hc;refine ⟨by rw [List.length_drop,hl],by show n-d<=c-d; omega,by show c-d<=_; omega,fun k hk=>?_⟩;dsimp only at hk;obtain ⟨ab,ao,v,e,hx,hq,hr⟩:=elemL h (k:=d+k) (by show d+k<n; omega);cases e;refine ⟨_,v,rfl,by rw [zAj]; exact hx,?_,?_⟩
 ·rw [zA4,zA4,show ao+d*4+k*4=ao+(d+k)*4 by omega]; exact hq
 ·have:(l.drop d).getD k 0=l.getD (d+k) 0:=by simp [gdd]
  rw [this]; exact hr
def dropTo (R:Mt) (d i:Nat):Mt:=(List.range R.length).map fun j=>if j<i then (R.getD j []).drop d else R.getD j []
theorem zWF (R:Mt) (d:Nat):dropTo R d 0=R:=by
 unfold dropTo;apply List.ext_getElem
 ·simp
 ·intro k h1 h2;rw [List.getElem_map,List.getElem_range,if_neg (by omega),gdd,gge h2]; rfl
theorem zWD (R:Mt) (d:Nat):dropTo R d R.length=R.map fun r=>r.drop d:=by
 unfold dropTo;apply List.ext_getElem
 ·simp
 ·intro k h1 h2;rw [List.length_map] at h2;rw [List.getElem_map,List.getElem_range,if_pos h2,List.getElem_map,gdd,gge h2]; rfl
theorem zWE (R:Mt) (d:Nat) {i:Nat} (hi:i<R.length):dropTo R d (i+1)=(dropTo R d i).set i ((R.getD i []).drop d):=by
 unfold dropTo;apply List.ext_getElem
 ·simp
 ·intro k h1 h2;rw [List.length_map,List.length_range] at h1;rw [List.getElem_map,List.getElem_range,List.getElem_set];by_cases e:i=k
  ·subst e; rw [if_pos (by omega),if_pos rfl]
  ·rw [if_neg e,List.getElem_map,List.getElem_range];by_cases e2:k<i
   ·rw [if_pos (by omega),if_pos e2]
   ·rw [if_neg (by omega),if_neg e2]
theorem zXd (R:Mt) (d:Nat) {i:Nat} (hi:i<R.length):(dropTo R d i).getD i []=R.getD i []:=by
 unfold dropTo;rw [getD_map_range _ _ hi,if_neg (by omega)]
theorem _root_.Go.Proofs.YtjancagcmghfjaaGreat.Gj.GjM.matIs {W:World} {b k:Nat} {m:Mt} (h:GjM W b m) (hm:m.length<=9223372036854775807) (hf:FitM k m) (hk:k<32*LM):MatIs W (fun _=>True) (fun _=>True) LM ⟨some ⟨b,0,none⟩,m.length,m.length⟩ m:=
 ⟨rfl,nlr _,hm,fun i hi=>by
  obtain ⟨s,h1,h2⟩:=h.row hi;exact ⟨_,s,rfl,trivial,by rw [zA4,Nat.zero_add]; exact h1,(h2.loose (L:=LM) fun j=>zBn (hf i j) hk).imp (fun _ _ _=>trivial) fun _ _ hq=>hq.imp fun _ _ _=>trivial⟩⟩
def InvU (w:World) (n:Nat) (t:Value) (W:World):Prop:=
 ∃ (i:Nat) (rb:Nat->Nat),i<=n/\t = .int .i64 (i:Int)/\Below w w W/\MRw W w w n n rb (fun i=>(List.range n).map (idE i)) i
def InvD (w:World) (b n:Nat) (R:Mt) (t:Value) (W:World):Prop:=
 ∃ i:Nat,i<=n/\t = .int .i64 (i:Int)/\Below w w W/\GjM W b (dropTo R n i)
theorem zXH {w:World} {b n k:Nat} {m r:Mt} (h:GjM w b m) (hs:Sq n m) (h1:1<=n) (hn:n<=6) (hf:FitM k m) (hk:gr (n+1) k<32*LM) (hr:inverse m=some r) :
  Calls Tryz.prog 88 #[.slice (some b) n n] w fun e w'=>(∃ b',e = .returned (.tuple #[.slice (some ⟨b',0,none⟩) n n,.int .i64 0])/\w.heap.size<=b'/\GjM w' b' r)/\Below w w w':=by
 have hm:=hs.1;have hk0:k<32*LM:=Nat.lt_of_le_of_lt (zUX (c:=0) (d:=n+1) (by omega)) hk;have HG:=hdq h;have hmk:=zHV n (by omega);have hmq:=zBZ n (by omega)
 have HM:Hid (MatIs w (fun _=>True) (fun _=>True) LM ⟨some ⟨b,0,none⟩,n,n⟩ m):=by
  have:=h.matIs (by omega) hf hk0;rw [hm] at this; exact this
 have hcs:=zV9 hs (by omega);have HC:=hdq (cols_calls HM.out);rw [hcs] at HC;clear h;go_enter Tryz.func88,Tryz.ntmps88
 go_wp2_with fail
 refine HC.out.mono ?_;rintro e w1 ⟨rfl,rfl⟩;go_wp2
 have H0:InvU w n (.int .i64 0) (w.alloc (.cells (zeroS n) 34)):=
  ⟨0,fun _=>0,nzl _,rfl,bal,⟨zeroS n,zAd _ _ rfl,zIb n,fun j hj=>absurd hj (by omega)⟩,fun j hj=>absurd hj (by omega),fun j k hj=>absurd hj (by omega),fun j hj=>absurd hj (by omega),fun j hj=>absurd hj (by omega)⟩
 generalize w.alloc (.cells (zeroS n) 34)=W0 at *;go_loopw [20] (fun t W=>InvU w n t W) (fun t _=>n-(intOf t).toNat)
 case atStart=>exact H0
 case round=>
  clear H0;obtain ⟨i,rb,hi,rfl,hB,hM⟩:=hrel;by_cases hlt:i<n
  ·obtain ⟨cs,q1,q2,q3⟩:=hM.blk;have hyl:=zAa q1;have hii:(i:Int)<(n:Int):=(by omega);have y0:(wr.cell? ⟨w.heap.size,i,none⟩).isSome=true:=by simp only [World.cell?,q1]; simp [q2,hlt]
   obtain ⟨yv,hyv⟩:=Option.isSome_iff_exists.1 y0;have yf:∀ o,wr.frozen? ⟨w.heap.size,o,none⟩=false:=(fun o=>by simp [World.frozen?,q1]);have HMr:=hdq hM;clear hM q3;(go_upto_region 9 with fail);have b0:Below (wr+1) ((wr.setCell ⟨w.heap.size,i,none⟩ (.slice (some wr) n n)).alloc (.cells (zeroQ n) 80)) ((wr.setCell ⟨w.heap.size,i,none⟩ (.slice (some wr) n n)).alloc (.cells (zeroQ n) 80)):=brf _ _;have hsz:(wr.setCell ⟨w.heap.size,i,none⟩ (.slice (some wr) n n)).heap.size=wr.heap.size:=(by simp [World.setCell]);have hsA:((wr.setCell ⟨w.heap.size,i,none⟩ (.slice (some wr) n n)).alloc (.cells (zeroQ n) 80)).heap.size=wr.heap.size+1:=by rw [World.size_alloc,hsz]
   have c0:((wr.setCell ⟨w.heap.size,i,none⟩ (.slice (some wr) n n)).alloc (.cells (zeroQ n) 80)).cell? ⟨w.heap.size,i,none⟩=some (.slice (some wr) n n):=by
    have e1:(wr.setCell ⟨w.heap.size,i,none⟩ (.slice (some wr) n n)).heap[w.heap.size]?=_:=zAe _ q1;have e2:=(Below.heap_alloc (wr.setCell ⟨w.heap.size,i,none⟩ (.slice (some wr) n n)) (.cells (zeroQ n) 80) w (by rw [hsz]; exact hyl)).trans e1;simp only [World.cell?,e2];simp [q2,hlt]
   have r0:=RowAt.made (wr.setCell ⟨w.heap.size,i,none⟩ (.slice (some wr) n n)) n (fun x=>x=wr.heap.size) hsz;have hBA:Below w w ((wr.setCell ⟨w.heap.size,i,none⟩ (.slice (some wr) n n)).alloc (.cells (zeroQ n) 80)):=(hB.setCell (p:=⟨w.heap.size,i,none⟩) (nlr _) _).alloc (by rw [hsz]; omega) _;rw [hsz] at r0;generalize hWA:((wr.setCell ⟨w.heap.size,i,none⟩ (.slice (some wr) n n)).alloc (.cells (zeroQ n) 80))=WA at *;have HWA:=hdq hWA;clear hWA q1 y0 hyv yf hsz b0;refine zAp 7 (fun _ w'=>w'.cell? ⟨w.heap.size,i,none⟩=some (.slice (some wr) n n)) (by kernel_rfl) ?_;refine tx4 0 1 2 3 c0 ?_;refine tx1 4 c0 ?_;refine tk1 5 ?_;intro K hK;go_simp;have hdr:Below WA WA WA.drew:=(brf _ _).drew;refine (zAN 1 (by decide) (by decide) _).mono ?_; rintro e w5 ⟨⟨z,rfl,hz⟩,h5⟩
   dsimp only;have h5':Below WA WA w5:=hdr.trans h5;have c5:=(h5'.cell (p:=⟨w.heap.size,i,none⟩) (by show w.heap.size<_; omega)).trans c0;refine hK.out _ _ c5 ?_;clear hK K;have r5:=r0.below h5';obtain ⟨zv,⟨d0,d1,d2,d3⟩,-⟩:=r5.elem i (by simpa using hlt);have fz:=r5.frozen;dsimp only at d1 d2 d3;refine tx1 6 c5 ?_;refine tk1 7 ?_;intro K hK;go_simp;refine hK.out _ _ (show (put4 w5 wr i z).cell? _=_ from (zCq _ _ _ _ (by show w.heap.size ≠ wr.heap.size; omega)).trans c5) ?_;clear hK K;refine zAf (by kernel_rfl) ?_ _
   have HN:Hid (InvU w n (.int .i64 ((i:Int)+1)) (put4 w5 wr i z)):=⟨i+1,fun j=>if j=i then wr.heap.size else rb j,by omega,by simp,zBq (hBA.trans (h5'.mono hBA.size)) (by omega) _ _,by
    have h6:=HMr.out;have h7:=HWA.out;refine h6.unit hlt (nlr _) (by rw [h7,<-hsA]; exact h5') (hz.imp fun x _ hx=>?_);simp only [New] at hx ⊢;have:=hdr.size;omega⟩
   clear hz h5 h5' c5 r5 d0 d1 d2 d3 fz hdr c0 r0 hBA HMr;go_wp2;go_roundw;case rel=>first | exact HN.out | ((repeat apply Exists.intro); exact ⟨HN.out,rfl⟩)
   case measure=>simp [intOf]; omega
  ·obtain rfl:n=i:=by omega
   have HU:Hid (MatIs wr (fun _=>True) (fun _=>True) LM ⟨some ⟨w,0,none⟩,n,n⟩ (unitM n)):=by
    have h2:GjM wr w (unitM n):=hM.eqm.gjm (by omega)
    have h3:=h2.matIs (k:=1) (by rw [(zVe n).1]; omega) (fun i j=>by
     rcases zWx n i j with e | e
     ·rw [e]; exact Lin.Fits.zero _
     ·rw [e]; exact Lin.Fits.one _) (by decide)
    rw [(zVe n).1] at h3; exact h3
   have HM2:=hdq (HM.out.below hB);have hcu:=zV9 (zVe n) (by omega);have HCc:=hdq (zVW HM2.out HU.out rfl (show n<=100000 by omega) (by omega) (by omega) (nlr _));rw [zXx hs (by omega),hm] at HCc;clear hM;(go_wp2_with fail);refine HCc.out.mono ?_;rintro e w2 ⟨⟨b2,rfl,hb2,cs2,sv2,m1,m2,m3⟩,hbb⟩;have hbl:(beside m).length=n:=(by rw [zUa,hm]);have HG2:Hid (GjM w2 b2 (beside m)):=⟨cs2,m1,m2,fun j hj=>⟨sv2 j,(m3 j hj).1,(m3 j hj).2.imp (fun x _ hx=>hx.2) fun _ _ hq=>hq.imp fun x _ hx=>hx.2⟩⟩;have HB2:=hdq (hB.trans (hbb.mono hB.size));have hwb2:w.heap.size<=b2:=nlt hB.size hb2;have HR2:Hid (Rect (beside m) (n+n)):=by have:=zUI m; rw [hm] at this; exact this
   have HF2:Hid (FitM k (beside m)):=zVE hf;have Hk2:=hdq hk;clear m1 m2 m3 hbb hb2 hB HM2 HU HCc hk;(go_wp2_with fail);refine zVZ.mono ?_;rintro e w3 ⟨rfl,hb3⟩;have HG3:=hdq (HG2.out.below hb3);have HB3:=hdq (HB2.out.trans (hb3.mono HB2.out.size));have HE:=hdq (zXe HG3.out HR2.out (by omega) HF2.out Hk2.out (by omega) (by omega));rw [hbl] at HE;have HInv:=hdq hr;obtain ⟨RM,hRM⟩:∃ RM,RM=(run n 0 (beside m) []).1:=⟨_,rfl⟩;obtain ⟨PL,hPL⟩:∃ PL,PL=(run n 0 (beside m) []).2:=⟨_,rfl⟩;rw [<-hRM,<-hPL] at HE
   have hPn:n<=PL.length/\r=RM.map fun r=>r.drop n:=by
    unfold inverse at hr;rw [hm,<-hRM,<-hPL] at hr
    split at hr
    ·cases hr
    ·cases hr; exact ⟨by omega,rfl⟩
   clear hb3 HG2 HB2 hr;(go_wp2_with fail);refine HE.out.mono ?_;rintro e w4 ⟨⟨⟨tA,tn,tc⟩,rfl,ht1,ht2,hG4⟩,hF4⟩;dsimp only at ht2;subst ht2;have hts:=zU2 HInv.out;have hRl:RM.length=n:=by have:=hts.1; rw [hPn.2,List.length_map,hm] at this; exact this
   have hRr:∀ j,j<n->(RM.getD j []).length=n+n:=fun j hj=>by
    have:=hts.2.1 j (by omega);rw [hPn.2,hm,gdd,List.getElem?_map,gge (by omega)] at this;have e:(RM.getD j [])=RM[j]'(by omega):=by rw [gdd,gge (by omega)]; rfl
    rw [e];have:(RM[j]'(by omega) |>.drop n).length=n:=this;rw [List.length_drop] at this;omega
   have HRE:Hid (r=dropTo RM n n):=by
    have:=zWD RM n;rw [hRl] at this;exact hPn.2.trans this.symm
   have hnl:¬ ((PL.length:Int)<(n:Int)):=by have:=hPn.1; omega
   have H4:InvD w b2 n RM (.int .i64 0) w4:=⟨0,nzl _,rfl,HB3.out.trans (hF4.below HB3.out.size fun y hy=>by subst hy; exact hwb2),by rw [zWF]; exact hG4⟩;clear ht1 hG4 hF4 hts hPn HE hPL hRM HG3 HInv HM HC hmk hmq;go_wp2;(go_loopw [48] (fun t W=>InvD w b2 n RM t W) (fun t _=>n-(intOf t).toNat));case atStart=>exact H4
   case round=>
    clear H4;obtain ⟨i,hi,rfl,hB,hG⟩:=hrel;have hDl:(dropTo RM n i).length=n:=by unfold dropTo; simp [hRl]
    by_cases hlt:i<n
    ·obtain ⟨⟨A1,n1,k1⟩,x1,v1⟩:=hG.row (i:=i) (by omega);have hg1:(dropTo RM n i).getD i []=RM.getD i []:=zXd _ _ (by omega);rw [hg1] at v1;have hn1:n1=n+n:=by have h1:=v1.len; have h2:=hRr i hlt; dsimp only at h1; omega
     obtain ⟨ab,ao,u,e,-⟩:=elemL v1 (k:=0) (by show 0<n1; omega);dsimp only at e x1;subst e;have h1le:n1<=k1:=v1.le;have h1cap:k1<=9223372036854775807:=v1.cap;have gf:=hG.frozen;have gl:=hG.lt;have hii:(i:Int)<(n:Int):=(by omega);have hV:=VecCan.drop (d:=n) v1 (by omega);rw [zA4,show n1-n=n by omega] at hV
     have HN:Hid (InvD w b2 n RM (.int .i64 ((i:Int)+1)) (wr.setCell ⟨b2,i,none⟩ (.slice (some ⟨ab,ao+n*4,none⟩) n (k1-n)))):=⟨i+1,by omega,by simp,hB.setCell (p:=⟨b2,i,none⟩) hwb2 _,by
      rw [zWE _ _ (by omega)];exact hG.set (by omega) hV⟩
     clear hG hV v1 hg1 hB;go_wp2;go_roundw;case rel=>first | exact HN.out | ((repeat apply Exists.intro); exact ⟨HN.out,rfl⟩)
     case measure=>simp [intOf]; omega
    ·(obtain rfl:n=i:=by omega);rw [<-HRE.out] at hG;have HZ:Hid ((∃ b',(.returned (.tuple #[.slice (some b2) n n,.int .i64 0]):Ending) = .returned (.tuple #[.slice (some ⟨b',0,none⟩) n n,.int .i64 0])/\w.heap.size<=b'/\GjM wr b' r)/\Below w w wr):=⟨⟨b2,rfl,hwb2,hG⟩,hB⟩;clear hG hB;go_wp2;exact bodyPost_ret (v:=.tuple #[.slice (some b2) n n,.int .i64 0]) (by simp [results,Tryz.results88,go_sem]) rfl HZ.out
end Mo
namespace Mo
theorem zVp {P:Program} {w:World} {o:Oper} {a:Act} {Q:Exit->Act->World->Prop} {K:Act->World->Prop} (s x:Operand) (t:TypeId)
  (ho:o.op = .call {callee:=.builtin .append,args:=#[s,x],argTypes:=#[t,t]})
  (base:Nat) (e:TypeId) (i:TypeInfo) (z:Value) (size bytes:Nat) (ht:P.underlying t=some (.slice e)) (hi:P.info? e=some i) (hz:i.zero=some z)
  (hsize:i.size=size) (hby:i.bytes=bytes) (hzs:z.cells.size=size) (hsz:0<size)
  (v:Value) (n:Nat) (xs:List Value) (hs:a.eval s=v) (hown:w.ownsRow base e size v n xs)
  (ad:Addr) (m c:Nat) (news:List Value) (hx:a.eval x = .slice (some ad) m c) (hl:news.length=m*size) (hnews:∀ j u,news[j]?=some u->w.cell? (ad.add j)=some u) (h1:∀ u ∈ news,u.oneCell'=true)
  (h63:n+m<=maxLen) (hbytes:(n+m)*bytes<=140737488355328) (hbase:base<=w.heap.size)
  (h:∀ v' w',w'.ownsRow base e size v' (n+m) (xs++news)->w.grownBy w' v.ownBlock->(v'.ownBlock=v.ownBlock\/v'.ownBlock=some w.heap.size)->K (a.put o.dst v') w') :
  Oper.wp P o a w K Q:=by
 obtain ⟨v',w',hr,h2,h3,h4,h5⟩:=run_append_own_at (P:=P) w base t o.type e i z size bytes ht hi hz hsize hby hzs hsz v n xs hown ad m c news hl hnews h1 h63 hbytes hbase;unfold Oper.wp execOp;simp only [ho,resolve,invoke,builtin,Sem.run_bind,Sem.run_pure,Result.andThen_ok,List.map_toArray,List.map_cons,List.map_nil,hs,hx,hr];exact h v' w' h2 h3 h5
def trans (cols:List (List Rat)) (rows:Nat):Mt:=(List.range rows).map fun i=>cols.map fun c=>c.getD i 0
structure TrI (w:World) (rows:Nat) (cols:List (List Rat)) (i j:Nat) (G:Nat->Prop) (v:Value) (qs:List QV) (W:World):Prop where
 bel:Below w w W
 gb:G w
 gin:∀ y,G y->w.heap.size<=y
 blk:∃ cs:Array Value,W.heap[w.heap.size]?=some (.cells cs 34 (0,0))/\cs.size=rows/\(i<rows->cs[i]?=some v)/\(∀ k,k<i->∃ s:SV,cs[k]?=some s.val/\VecCan W (fun x=>¬ G x) (fun x=>¬ G x) s (cols.map fun c=>c.getD k 0))/\∀ k,i<k->k<rows->cs[k]?=some (.slice none 0 0)
 val:ValC W (w+1) G v j qs ((cols.take j).map fun c=>c.getD i 0)
section
variable {w W W2:World} {rows i j:Nat} {cols:List (List Rat)} {G G':Nat->Prop} {v v':Value} {qs:List QV}
theorem TrI.push (h:TrI w rows cols i j G v qs W) (hi:i<rows) (hj:j<cols.length) {o:Obj} {z:QV} (hz:QCan W (fun b=>¬ G b) z ((cols.getD j []).getD i 0)) (hown:W2.ownsRow (w+1) 80 4 v' (j+1) (qs.flatMap cells4q++cells4q z)) (hg:(W.alloc o).grownBy W2 v.ownBlock) (hat:v'.ownBlock=v.ownBlock\/v'.ownBlock=some (W.alloc o).heap.size) :
  TrI w rows cols i (j+1) (fun y=>G y\/v'.ownBlock=some y) v' (qs++[z]) (W2.setCell ⟨w.heap.size,i,none⟩ v'):=by
 obtain ⟨cs,h1,h2,h3,h4,h5⟩:=h.blk;obtain ⟨hv2,hF,hM⟩:=h.val.step hz hown hg hat;have hbl:=zAa h1;have nv:¬ v.ownBlock=some w.heap.size:=fun e=>by have:=(h.val.lt e).1; omega
 have nv':∀ y,v'.ownBlock=some y->¬ y=w.heap.size:=fun y e=>by have:=(hv2.lt e).1; omega
 have hFs:Fr (fun y=>y=w.heap.size) W2 (W2.setCell ⟨w.heap.size,i,none⟩ v'):=(Fr.refl (fun y=>y=w.heap.size) W2).set (p:=⟨w.heap.size,i,none⟩) rfl v';have e1:W2.heap[w.heap.size]?=some (.cells cs 34 (0,0)):=(hF.block _ hbl nv).trans h1;have hG1:(fun y=>G y\/v'.ownBlock=some y) w.heap.size:=.inl h.gb;refine ⟨?_,hG1,fun y hy=>hy.elim (h.gin y) fun e=>by have:=(hv2.lt e).1; omega,⟨_,zAe _ e1,by simpa using h2,fun _=>by simp [h2,hi],fun k hk=>?_,fun k hk hk2=>?_⟩,?_⟩
 ·exact (h.bel.trans (hF.below h.bel.size fun y e=>by have:=(h.val.lt e).1; omega)).setCell (p:=⟨w.heap.size,i,none⟩) (nlr _) _
 ·obtain ⟨s,q1,q2⟩:=h4 k hk;refine ⟨s,by rw [Array.getElem?_setIfInBounds_ne (by omega)]; exact q1,?_⟩;have q3:=vecG q2 hF (fun y e=>h.val.row y e) hM;exact vecG q3 hFs (fun y e=>by subst e; exact hG1) ⟨fun _ h=>h,fun _ h=>.inl h⟩
 ·rw [Array.getElem?_setIfInBounds_ne (by omega)]; exact h5 k hk hk2
 ·have e2:(cols.take (j+1)).map (fun c=>c.getD i 0)=(cols.take j).map (fun c=>c.getD i 0)++[(cols.getD j []).getD i 0]:=by rw [take_snoc' cols j [] hj,List.map_append]; rfl
  rw [e2];exact hv2.keep hFs (fun y e1 e2=>nv' y e1 e2) (fun y e=>by subst e; exact hG1) ⟨fun _ h=>h,fun _ h=>.inl h⟩
theorem TrI.call (h:TrI w rows cols i j G v qs W) (hb:Below W W W2):TrI w rows cols i j G v qs W2:=by
 obtain ⟨cs,h1,h2,h3,h4,h5⟩:=h.blk;have hF:Fr (fun _=>False) W W2:=Fr.of_below hb;have hM:More W G G:=⟨fun _ h=>h,fun _ h=>.inl h⟩;refine ⟨h.bel.trans (hb.mono h.bel.size),h.gb,h.gin,⟨cs,(hb.block _ (zAa h1)).trans h1,h2,h3,fun k hk=>?_,h5⟩,h.val.keep hF (fun _ _ e=>e) (fun _ e=>e.elim) hM⟩;obtain ⟨s,q1,q2⟩:=h4 k hk;exact ⟨s,q1,vecG q2 hF (fun _ e=>e.elim) hM⟩
theorem _root_.Go.Proofs.YtjancagcmghfjaaGreat.ValC.vecB {B k:Nat} {l:List Rat} (h:ValC W B G v k qs l):∃ s:SV,v=s.val/\s.n=k/\VecCan W (fun y=>B<=y) (fun b=>¬ G b) s l:=by
 obtain ⟨s,rfl,hn,hv⟩:=h.vec;refine ⟨s,rfl,hn,hv.len,hv.le,hv.cap,fun j hj=>?_⟩;obtain ⟨ad,u,e,-,hq,hr⟩:=hv.elem j hj;refine ⟨ad,u,e,?_,hq,hr⟩;obtain ⟨A,n,c⟩:=s;dsimp only at e;subst e;have h9:=hq.1;obtain ⟨ab,ao,sp⟩:=ad;rcases h.own.2 with ⟨e1,-⟩ | ⟨g,cap,cur,e1,hg,-⟩
 ·cases e1
 ·cases e1; exact hg
theorem TrI.next (h:TrI w rows cols i cols.length G v qs W) (hi:i<rows):TrI w rows cols (i+1) 0 (fun y=>y=w.heap.size) (.slice none 0 0) [] W:=by
 obtain ⟨cs,h1,h2,h3,h4,h5⟩:=h.blk;have lo:∀ y,w.heap.size+1<=y->¬ y=w.heap.size:=fun y h=>by omega
 have g0:∀ y,¬ G y->¬ y=w.heap.size:=fun y hy e=>hy (e ▸ h.gb)
 refine ⟨h.bel,rfl,fun y e=>by omega,⟨cs,h1,h2,fun hi1=>h5 (i+1) (by omega) hi1,fun k hk=>?_,fun k hk hk2=>h5 k (by omega) hk2⟩,by rw [List.take_zero]; exact ValC.nil _ _ _⟩;by_cases e:k=i
 ·subst e;obtain ⟨s,rfl,hn,hv⟩:=h.val.vecB;rw [List.take_length] at hv;exact ⟨s,h3 hi,hv.imp (fun y _ hy=>lo y hy) fun _ _ hq=>hq.imp fun y _ hy=>g0 y hy⟩
 ·obtain ⟨s,q1,q2⟩:=h4 k (by omega);exact ⟨s,q1,q2.imp (fun y _ hy=>g0 y hy) fun _ _ hq=>hq.imp fun y _ hy=>g0 y hy⟩
theorem TrI.gjm (h:TrI w rows cols rows j (fun y=>y=w.heap.size) v qs W):GjM W w (trans cols rows):=by
 obtain ⟨cs,h1,h2,h3,h4,h5⟩:=h.blk;refine ⟨cs,h1,by simp [trans,h2],fun k hk=>?_⟩;have hk':k<rows:=by simpa [trans] using hk
 obtain ⟨s,q1,q2⟩:=h4 k hk';exact ⟨s,q1,by unfold trans; rw [getD_map_range _ _ hk']; exact q2⟩
end
def TrO (w:World) (rows:Nat) (cols:List (List Rat)) (t:Value) (W:World):Prop:=
 ∃ i:Nat,i<=rows/\t = .int .i64 (i:Int)/\TrI w rows cols i 0 (fun y=>y=w.heap.size) (.slice none 0 0) [] W
def TrN (w:World) (rows:Nat) (cols:List (List Rat)) (i:Nat) (t:Value) (W:World):Prop:=
 ∃ (j:Nat) (G:Nat->Prop) (v:Value) (qs:List QV),j<=cols.length/\t = .int .i64 (j:Int)/\TrI w rows cols i j G v qs W
theorem zWy (n k:Nat) (h:k<n):(zeroS n)[k]?=some (.slice none 0 0):=by
 simp only [zeroS,madeCells];rw [Array.getElem?_map,Array.getElem?_range,if_pos (by simpa using h)];simp [Nat.mod_one]
theorem zVs {w:World} {X Y:Nat->Prop} {s:SV} {cols:List (List Rat)} {rows:Nat} (h:MatCan w X Y s cols) (hr:∀ k,k<s.n->rows<=(cols.getD k []).length) (hn:s.n<=1000) (hrows:rows<=1000) :
  Calls Tryz.prog 93 #[s.val,.int .i64 (rows:Int)] w fun e w'=>(∃ b,e = .returned (.slice (some ⟨b,0,none⟩) rows rows)/\w.heap.size<=b/\GjM w' b (trans cols rows))/\Below w w w':=by
 obtain ⟨sA,sn,sc⟩:=s;have hmk:=zHV rows (by omega);have H:Hid (MatCan w X (fun y=>y<w.heap.size) ⟨sA,sn,sc⟩ cols):=h.imp (fun _ _ hx=>hx) fun _ _ hq=>hq.imp fun y hl _=>hl
 have HR:=hdq hr;have HL:Hid (cols.length=sn):=h.len;have hle:sn<=sc:=h.le;have hcap:sc<=9223372036854775807:=h.cap;obtain ⟨k0,hk0,hx0,hx1,hx2⟩:=info_parts zEv;clear h hr;dsimp only [SV.val];dsimp only at hn;go_enter Tryz.func93,Tryz.ntmps93
 go_wp2
 have H0:TrO w rows cols (.int .i64 0) (w.alloc (.cells (zeroS rows) 34)):=
  ⟨0,nzl _,rfl,bal,rfl,fun y e=>by omega,⟨zeroS rows,zAd _ _ rfl,zIb rows,fun h=>zWy _ _ h,fun k hk=>absurd hk (Nat.not_lt_zero k),fun k _ hk=>zWy _ _ hk⟩,by rw [List.take_zero]; exact ValC.nil _ _ _⟩
 generalize w.alloc (.cells (zeroS rows) 34)=W0 at *;go_loopw [13] (fun t W=>TrO w rows cols t W) (fun t _=>rows-(intOf t).toNat)
 case atStart=>exact H0
 case round=>
  clear H0;obtain ⟨i,hi,rfl,hI⟩:=hrel;by_cases hlt:i<rows
  ·have hii:(i:Int)<(rows:Int):=(by omega);have H1:TrN w rows cols i (.int .i64 0) wr:=⟨0,_,_,_,nzl _,rfl,hI⟩;clear hI;go_wp2;generalize wr=w0 at *;(go_loopw [18] (fun t W=>TrN w rows cols i t W) (fun t _=>sn-(intOf t).toNat));case atStart=>exact H1
   case round=>
    clear H1;obtain ⟨j,G,v,qs,hj,rfl,hI⟩:=hrel;rw [HL.out] at hj;by_cases hlj:j<sn
    ·obtain ⟨ad,⟨rA,rn,rc⟩,e,hx,hc,hrw⟩:=(H.out.belowC hI.bel).row j hlj;dsimp only at e;subst e;have hrn:rows<=rn:=by have h1:=HR.out j hlj; have h2:=hrw.len; dsimp only at h2; omega
     have hrle:rn<=rc:=hrw.le;have hrcap:rc<=9223372036854775807:=hrw.cap;obtain ⟨ab,ao,u,e,hxu,⟨d0,d1,d2,d3⟩,hu⟩:=elemL hrw (k:=i) (by show i<rn; omega);dsimp only at e d1 d2 d3;subst e;dsimp only [SV.val] at hc;obtain ⟨cs,q1,q2,q3,-⟩:=hI.blk;obtain ⟨vA,vc,rfl,vle,vcap⟩:=zKU hI.val.own;have ci:wr.cell? ⟨w.heap.size,i,none⟩=some (.slice vA j vc):=by simp only [World.cell?,q1]; exact q3 hlt
     have cf:∀ o,wr.frozen? ⟨w.heap.size,o,none⟩=false:=(fun o=>by simp [World.frozen?,q1]);have hbl:=zAa q1;have tq:=zAb d0;have hji:(j:Int)<(sn:Int):=(by omega);have hin:(i:Int)<(rn:Int):=(by omega);have HI:=hdq hI;have Hu:=hdq hu;clear hI q1 q3 hrw hu hx hxu;(go_upto_region 8 with fail);refine zAp 11 (fun fl w'=>fl=false->Sees 0 [] wr w') (by kernel_rfl) ?_;have hS0:Sees 0 [] wr wr.drew:=Sees.st (by simp) (nzl _);refine tkE 0 ?_ (fun w' hSw=>?_) (fun _=>hS0) ?_;rotate_left
     ·(skip; go_simp; try with_reducible rfl)
     simp only [zz];refine tkE 1 ?_ (fun w' hSw=>?_) (fun _=>hS0) ?_;rotate_left
     ·(skip; go_simp; try with_reducible rfl)
     simp only [zz];refine tkE 2 ?_ (fun w' hSw=>?_) (fun _=>hS0) ?_;rotate_left
     ·(skip; go_simp; try with_reducible rfl)
     simp only [zz];refine tkE 3 ?_ (fun w' hSw=>?_) (fun _=>hS0) ?_;rotate_left
     ·(skip; go_simp; try with_reducible rfl)
     simp only [zz];refine tkE 4 ?_ (fun w' hSw=>?_) (fun _=>hS0) ?_;rotate_left
     ·(skip; go_simp; try with_reducible rfl)
     simp only [zz];refine tkE 6 ?_ (fun w' hSw=>?_) (fun _=>hS0) ?_;rotate_left
     ·(skip; go_simp; try with_reducible rfl)
     simp only [zz];refine tkE 7 ?_ (fun w' hSw=>?_) (fun _=>hS0) ?_;rotate_left
     ·(skip; go_simp; try with_reducible rfl)
     simp only [zz];refine tkE 8 ?_ (fun w' hSw=>?_) (fun _=>hS0) ?_;rotate_left
     ·(skip; go_simp; try with_reducible rfl)
     simp only [zz];refine tkW 5 (.slice vA j vc) (fun w' hSw=>?_) (fun _=>hS0) ?_
     ·(replace hSw:=hSw rfl; go_simp; try with_reducible rfl)
     simp only [zz];refine tkV 9 10 (u.val) (fun w' hSw=>?_) (fun _=>hS0) ?_
     ·(replace hSw:=hSw rfl; go_simp; try with_reducible rfl)
     simp only [zz];refine tk1 10 ?_;intro K hK;go_simp;refine hK.out _ _ (fun _=>hS0.kept.undrew.sees.al.dr) ?_;clear hK K;refine tk1 11 ?_;intro K hK;have HI2:=hdq (HI.out.call (brf wr wr).drew);refine zVp (.tmp 27) (.tmp 32) 34 rfl (w+1) 80 k0 (.agg #[.bool false,.slice none 0 0,.bool false,.slice none 0 0]) 4 64 Tryz.underlying34 hk0 hx0 hx1 hx2 rfl (by decide) (.slice vA j vc) j (qs.flatMap cells4q) rfl (HI2.out.val.own.alloc _) ⟨wr,0,none⟩ 1 1 (cells4q u) rfl rfl (zA1 wr.drew u) ?one ?b1 ?b2 ?b3 ?_;case one=>intro u hu; simp [cells4q] at hu; rcases hu with rfl | rfl | rfl | rfl <;> rfl
     case b1=>simp [maxLen]; omega
     case b2=>omega
     case b3=>show w.heap.size+1<=(wr.drew.alloc _).heap.size; simp; omega
     intro v' W2 hown hg hat;go_simp;refine hK.out _ _ (fun h=>absurd h (by decide)) ?_;clear hK K;obtain ⟨g9,c9,rfl⟩:=ownsRow_succ hown;have HP:=hdq (HI2.out.push hlt (by rw [HL.out]; exact hlj) (o:=.cells #[.bool u.num.ng,.slice u.num.A u.num.n u.num.c,.bool u.den.ng,.slice u.den.A u.den.n u.den.c] 80) (z:=u) ((Hu.out.below (brf wr wr).drew).imp fun y _ hy hG=>by have:=HI2.out.gin y hG; omega) hown hg hat);have nv:¬ (Value.slice vA j vc).ownBlock=some w.heap.size:=fun e=>by have:=(HI2.out.val.lt e).1; omega
     have e1:W2.heap[w.heap.size]?=wr.heap[w.heap.size]?:=(hg.block _ (by show _<(wr.drew.alloc _).heap.size; simp; omega) fun e=>nv e.symm).trans (Below.heap_alloc wr.drew _ _ (by exact hbl));have ci2:W2.cell? ⟨w.heap.size,i,none⟩=some (.slice vA j vc):=(cob (a:=⟨w.heap.size,i,none⟩) e1).trans ci;have cf2:∀ o,W2.frozen? ⟨w.heap.size,o,none⟩=false:=(fun o=>(World.frozen?_of_block (a:=⟨w.heap.size,o,none⟩) e1).trans (cf o));clear HI2 hown hg hat nv e1 ci cf Hu d0 d1 d2 d3 hc HI hS0 tq;refine tkE 12 ?_ (fun w' hSw=>?_) (fun h=>absurd h (by decide)) ?_;rotate_left
     ·(skip; go_simp; try with_reducible rfl)
     simp only [zz];refine tk1 13 ?_;intro K hK;go_simp;refine hK.out _ _ (fun h=>absurd h (by decide)) ?_;clear hK K;refine zAf (by kernel_rfl) ?_ _;have HN:Hid (TrN w rows cols i (.int .i64 ((j:Int)+1)) (W2.setCell ⟨w.heap.size,i,none⟩ (.slice (some g9) (j+1) c9))):=⟨j+1,_,_,_,by rw [HL.out]; omega,by simp,HP.out⟩;clear HP ci2 cf2;go_wp2;go_roundw;case rel=>first | exact HN.out | ((repeat apply Exists.intro); exact ⟨HN.out,rfl⟩)
     case measure=>simp [intOf]; omega
    ·obtain rfl:sn=j:=by omega
     have HN:Hid (TrO w rows cols (.int .i64 ((i:Int)+1)) wr):=⟨i+1,by omega,by simp,by
      have h1:=HL.out;subst h1;exact hI.next hlt⟩
     clear hI;go_wp2;go_roundw;case rel=>first | exact HN.out | ((repeat apply Exists.intro); exact ⟨HN.out,rfl⟩)
     case measure=>simp [intOf]; omega
  ·(obtain rfl:rows=i:=by omega);have HZ:=hdq (And.intro hI.gjm hI.bel);clear hI;go_wp2;go_ret;exact ⟨⟨w.heap.size,rfl,nlr _,HZ.out.1⟩,HZ.out.2⟩
end Mo
namespace Mo
def colTo (ls:List Ln) (ks:List Nat) (m:Mt) (b j:Nat):List Rat:=(List.range ls.length).map fun k=>factor ls (ks.take j) m k b
theorem zXf (ls:List Ln) (m:Mt) (k b:Nat):factor ls [] m k b=0:=by unfold factor; simp
theorem zVk {ls:List Ln} {ks:List Nat} (m:Mt) {k:Nat} (b:Nat) (h:k ∈ ks):factor ls ks m k b=(ent m (ls.getD k ⟨0,0,0,0⟩).f.toNat b-ent m (ls.getD k ⟨0,0,0,0⟩).t.toNat b) / ((ls.getD k ⟨0,0,0,0⟩).x:Rat):=if_pos h
theorem zVN {ls:List Ln} {ks:List Nat} (m:Mt) {k:Nat} (b:Nat) (h:¬ k ∈ ks):factor ls ks m k b=0:=if_neg h
theorem zXb (ls:List Ln) (ks:List Nat) (m:Mt) (b:Nat):colTo ls ks m b 0=List.replicate ls.length 0:=by
 unfold colTo;apply List.ext_getElem
 ·simp
 ·intro k h1 h2;rw [List.getElem_map,List.getElem_replicate];exact zXf ls m _ b
theorem zXa (ls:List Ln) (ks:List Nat) (m:Mt) (b:Nat) {j:Nat} (hj:j<ks.length):colTo ls ks m b (j+1)=(colTo ls ks m b j).set (ks.getD j 0) ((ent m (ls.getD (ks.getD j 0) ⟨0,0,0,0⟩).f.toNat b-ent m (ls.getD (ks.getD j 0) ⟨0,0,0,0⟩).t.toNat b) / ((ls.getD (ks.getD j 0) ⟨0,0,0,0⟩).x:Rat)):=by
 unfold colTo;rw [zUx 0 hj];apply List.ext_getElem
 ·simp
 ·intro k h1 h2;rw [List.getElem_map,List.getElem_range,List.getElem_set];by_cases e:ks.getD j 0=k
  ·subst e;rw [if_pos rfl];rw [zVk m b (List.mem_append.2 (.inr (List.mem_singleton.2 rfl)))]
  ·rw [if_neg e,List.getElem_map,List.getElem_range];by_cases e2:k ∈ ks.take j
   ·rw [zVk m b (List.mem_append.2 (.inl e2)),zVk m b e2]
   ·rw [zVN m b e2,zVN m b fun h=>(List.mem_append.1 h).elim e2 fun h=>e (List.mem_singleton.1 h).symm]
def FcL (w:World) (ls:List Ln) (ks:List Nat) (m:Mt) (b n:Nat) (t:Value) (W:World):Prop:=
 ∃ j:Nat,j<=n/\t = .int .i64 (j:Int)/\Below w w W/\RowAt W (fun x=>x<w.heap.size\/x=w.heap.size) w (colTo ls ks m b j)
structure FcE (w:World) (cN cL cI N gm:Nat) (s t:SV) (ls:List Ln) (ks:List Nat) (m:Mt):Prop where
 n1:w.cell? ⟨cN,1,none⟩=some (.slice s.A s.n s.c)
 l0:w.cell? cL=some (.slice t.A t.n t.c)
 i0:w.cell? cI=some (.slice (some gm) N N)
 ls:LinesAt w s ls
 ks:NatsAt w t ks
 mat:MatIs w (fun _=>True) (fun _=>True) LM ⟨some ⟨gm,0,none⟩,N,N⟩ m
theorem FcE.below {w w':World} {cN cL cI N gm:Nat} {s t:SV} {ls:List Ln} {ks:List Nat} {m:Mt} (h:FcE w cN cL cI N gm s t ls ks m) (hb:Below w w w'):FcE w' cN cL cI N gm s t ls ks m:=
 ⟨cellB hb h.n1,cellB hb h.l0,cellB hb h.i0,LinesAt.below hb h.ls,h.ks.below hb,h.mat.below hb⟩
theorem zXD {w:World} {cN cL cI N gm b K:Nat} {s t:SV} {ls:List Ln} {ks:List Nat} {m:Mt} (h:FcE w cN cL cI N gm s t ls ks m) (hN:N<=6) (hb:b<N) (hl:ls.length<=10) (hks:∀ k ∈ ks,k<ls.length) (hok:∀ i,i<ls.length->LnOk (N:Int) (ls.getD i ⟨0,0,0,0⟩)) (hf:FitM K m) (hK:K+K+1<32*LM) :
  Calls Tryz.prog 90 #[.int .i64 (b:Int),.pointer (some cN),.pointer (some cL),.pointer (some cI)] w fun e w'=>
   (∃ g,e = .returned (.slice (some ⟨g,0,none⟩) ls.length ls.length)/\w.heap.size<=g/\VecCan w' (New w) (New w) ⟨some ⟨g,0,none⟩,ls.length,ls.length⟩ ((List.range ls.length).map fun k=>factor ls ks m k b))/\Below w w w':=by
 obtain ⟨sA,sn,sc⟩:=s;obtain ⟨tA,tn,tc⟩:=t;have H:=hdq h;have HSn:Hid (ls.length=sn):=h.ls.len;have HTn:Hid (ks.length=tn):=by have:=h.ks.len; rw [List.length_map] at this; exact this
 have hsn:sn<=10:=by have:=HSn.out; omega
 have hsle:sn<=sc:=h.ls.le;have hscap:sc<=9223372036854775807:=h.ls.cap;have htle:tn<=tc:=h.ks.le;have htcap:tc<=9223372036854775807:=h.ks.cap;have HKs:=hdq hks;have HOk:=hdq hok;have HF:=hdq hf;have HK:=hdq hK;have hmq:=zBZ sn (by omega);have c1:=h.n1;have c2:=h.l0;dsimp only at c1 c2;have hc1:=zAb c1;have hc2:=zAb c2;dsimp only at hc1 hc2;rw [HSn.out];obtain ⟨FC,hFC⟩:∃ F,F=(List.range sn).map fun k=>factor ls ks m k b:=⟨_,rfl⟩
 rw [<-hFC];have HFC:=hdq hFC;clear hks hok hf hK h hl hFC;go_enter Tryz.func90,Tryz.ntmps90
 go_wp2;have H0:FcL w ls ks m b tn (.int .i64 0) (w.alloc (.cells (zeroQ sn) 80)):=⟨0,nzl _,rfl,bal,by rw [zXb,HSn.out]; exact RowAt.made w sn _ (.inr rfl)⟩;clear c1 c2;generalize w.alloc (.cells (zeroQ sn) 80)=W0 at *;go_loopw [17] (fun t W=>FcL w ls ks m b tn t W) (fun t _=>tn-(intOf t).toNat)
 case atStart=>exact H0
 case round=>
  clear H0;obtain ⟨j,hj,rfl,hB,hR⟩:=hrel;by_cases hlt:j<tn
  ·obtain ⟨E1,E2,E3,E4,E5,E6⟩:=H.out.below hB;dsimp only at E1 E2;obtain ⟨ad,e,q0⟩:=E5.cell j hlt;dsimp only at e;subst e;have hkl:j<ks.length:=by rw [HTn.out]; exact hlt
   have hmem:ks.getD j 0 ∈ ks:=by rw [gdd,gge hkl]; exact List.getElem_mem hkl
   have hx:=HKs.out _ hmem;have hg:(ks.map fun i:Nat=>(i:Int)).getD j 0=(ks.getD j 0:Int):=(by simp [gdd,hkl]);rw [hg] at q0;have HJ:=hdq (zXa ls ks m b hkl);obtain ⟨la,e,l0,l1,l2,l3⟩:=E4.cell (ks.getD j 0) (by rw [<-HSn.out]; exact hx);dsimp only at e;subst e;have hok:=HOk.out (ks.getD j 0) hx;have hsx:ks.getD j 0<sn:=by rw [<-HSn.out]; exact hx
   clear hmem hg hkl hx;generalize ks.getD j 0=x at *;generalize ls.getD x ⟨0,0,0,0⟩=l at *;obtain ⟨f,t,xx,cc⟩:=l;obtain ⟨k1,k2,k3,k4,k5,k6,k7,-⟩:=hok;dsimp only at k1 k2 k3 k4 k5 k6 k7 l0 l1 l2 l3 HJ;obtain ⟨f,rfl⟩:∃ f':Nat,f=(f':Int):=⟨f.toNat,by omega⟩;obtain ⟨t,rfl⟩:∃ t':Nat,t=(t':Int):=⟨t.toNat,by omega⟩;rw [Int.toNat_natCast,Int.toNat_natCast] at HJ;have hji:(j:Int)<(tn:Int):=(by omega);have hxi:(x:Int)<(sn:Int):=(by omega);have tl:=zAb l0;have tq:=zAb q0;have HE:=hdq (H.out.below hB);clear E3 E4 E5 E6;(go_upto_region 6 with fail);have al:Below wr wr (wr.alloc (.cells #[.int .i64 (f:Int),.int .i64 (t:Int),.int .i64 xx,.int .i64 cc] 47)):=bal;have y0:(wr.alloc (.cells #[.int .i64 (f:Int),.int .i64 (t:Int),.int .i64 xx,.int .i64 cc] 47)).cell? wr=some (.int .i64 (f:Int)):=(by go_simp);have y1:(wr.alloc (.cells #[.int .i64 (f:Int),.int .i64 (t:Int),.int .i64 xx,.int .i64 cc] 47)).cell? ⟨wr.heap.size,1,none⟩=some (.int .i64 (t:Int)):=(by go_simp);have y2:(wr.alloc (.cells #[.int .i64 (f:Int),.int .i64 (t:Int),.int .i64 xx,.int .i64 cc] 47)).cell? ⟨wr.heap.size,2,none⟩=some (.int .i64 xx):=(by go_simp);have ys:wr.heap.size<(wr.alloc (.cells #[.int .i64 (f:Int),.int .i64 (t:Int),.int .i64 xx,.int .i64 cc] 47)).heap.size:=(by simp);have HEA:=hdq (HE.out.below al);have HBA:=hdq (hB.trans (al.mono hB.size));have HRA:=hdq (hR.below al);have hgl:=hR.lt;clear al q0 l0 l1 l2 l3 tl tq E1 E2 hB hR HE;generalize wr.alloc (.cells #[.int .i64 (f:Int),.int .i64 (t:Int),.int .i64 xx,.int .i64 cc] 47)=wA at *;generalize wr.heap.size=bl at *;have i0:=HEA.out.i0;have hi0:=zAb i0;dsimp only at hi0;go_cut [10,17] from 26 to 36 (fun p v W=>∃ (g2:Nat) (z:QV),p = .pointer (some g2)/\v = .int .i64 (j:Int)/\wA.heap.size<=g2/\Box4 W g2 (.bool z.num.ng) (.slice z.num.A z.num.n z.num.c) (.bool z.den.ng) (.slice z.den.A z.den.n z.den.c)/\QCan W (New wA) z (ent m f b-ent m t b)/\Below wA wA W)
   case first=>
    have bWA:w.heap.size<=wA.heap.size:=HBA.out.size;have hfN:f<N:=(by omega);have htN:t<N:=(by omega);have F1:QFit LM (ent m f b):=zBn (HF.out f b) (by have:=HK.out; omega);have F2:QFit LM (ent m t b):=zBn (HF.out t b) (by have:=HK.out; omega)
    go_region_held3 (Sees w [] wA) (exact kp)
     (first
      | (go_at_call 91; ((with_reducible refine (zFd (s:=⟨some ⟨gm,0,none⟩,N,N⟩) (HEA.out.mat.below (Sees.kept (by assumption):Kept w [] wA _).whole) f b hfN (by omega) (nlr _)).mono ?_); rintro e w1 ⟨⟨z1,rfl,hz1⟩,hb1⟩; (have sz1:wA.heap.size<=w1.heap.size:=by exact nlt (Sees.kept (by assumption):Kept w [] wA _).size hb1.size); (obtain ⟨hc1,hf1⟩:=bcell hb1); (have lt1:=fun (b:Nat) h=>ltl (n:=b) h hb1.size)))
      | (go_at_call 91; ((with_reducible refine (zFd (s:=⟨some ⟨gm,0,none⟩,N,N⟩) (HEA.out.mat.below (Sees.kept (by assumption):Kept w [] wA _).whole) t b htN (by omega) (nlr _)).mono ?_); rintro e w2 ⟨⟨z2,rfl,hz2⟩,hb2⟩; (have sz2:wA.heap.size<=w2.heap.size:=by exact nlt (Sees.kept (by assumption):Kept w [] wA _).size hb2.size); (obtain ⟨hc2,hf2⟩:=bcell hb2); (have lt2:=fun (b:Nat) h=>ltl (n:=b) h hb2.size)))
      | (go_at_call 66; ((with_reducible refine (zDx (a:=z1) (b:=z2) ((hz1.below hb2).qis F1) (hz2.qis F2) (nlr _) (nlr _)).mono ?_); rintro e w3 ⟨⟨z3,rfl,hz3⟩,hb3⟩; (have sz3:wA.heap.size<=w3.heap.size:=by exact nlt (Sees.kept (by assumption):Kept w [] wA _).size hb3.size); (obtain ⟨hc3,hf3⟩:=bcell hb3); (have lt3:=fun (b:Nat) h=>ltl (n:=b) h hb3.size); (obtain ⟨hcc13,hf13⟩:=bcell ((hb1.trans (hb2.mono hb1.size)).trans (hb3.mono (nlt hb1.size hb2.size))))))
      | (go_at_call 66; ((with_reducible refine (zDx (a:=z1) (b:=z2) ((hz1.below (hb2.alloc hb2.size _)).qis F1) ((hz2.below (bal)).qis F2) (nlr _) (nlr _)).mono ?_); rintro e w3 ⟨⟨z3,rfl,hz3⟩,hb3⟩; (have sz3:wA.heap.size<=w3.heap.size:=by exact nlt (Sees.kept (by assumption):Kept w [] wA _).size hb3.size); (obtain ⟨hc3,hf3⟩:=bcell hb3); (have lt3:=fun (b:Nat) h=>ltl (n:=b) h hb3.size)))
      | (go_at_call 66; ((with_reducible refine (zDx (a:=z1) (b:=z2) ((hz1.below ((bal).trans (hb2.mono (by simp)))).qis F1) (hz2.qis F2) (nlr _) (nlr _)).mono ?_); rintro e w3 ⟨⟨z3,rfl,hz3⟩,hb3⟩; (have sz3:wA.heap.size<=w3.heap.size:=by exact nlt (Sees.kept (by assumption):Kept w [] wA _).size hb3.size); (obtain ⟨hc3,hf3⟩:=bcell hb3); (have lt3:=fun (b:Nat) h=>ltl (n:=b) h hb3.size); (obtain ⟨hcc23,hf23⟩:=bcell (hb2.trans (hb3.mono hb2.size)))))
      | fail)
    ·rename_i hS;(go_wp2_with fail);go_meet;case rel=>exact ⟨_,z3,rfl,rfl,sz3,bx4,(hz3.below (bal)).lower sz2,hS.kept.whole⟩
    ·rename_i hS;(go_wp2_with fail);go_meet;case rel=>exact ⟨_,z3,rfl,rfl,sz2,bx4,(hz3.set4 (by simp)).lower (by simp; omega),hS.kept.whole⟩
    ·rename_i hS;(go_wp2_with fail);go_meet
     case rel=>
      have b0:Box4 (w1.alloc (.cells #[.bool false,.slice none 0 0,.bool false,.slice none 0 0] 80)) w1 (.bool false) (.slice none 0 0) (.bool false) (.slice none 0 0):=bx4;exact ⟨_,z3,rfl,rfl,sz1,((b0.below hb2 (by simp)).below hb3 (lt2 _ (by simp))).stored _ _ _ _,(hz3.set4 (lt2 _ (by simp))).lower sz2,hS.kept.whole⟩
    ·rename_i hS;(go_wp2_with fail);go_meet
     case rel=>
      have b0:Box4 (wA.alloc (.cells #[.bool false,.slice none 0 0,.bool false,.slice none 0 0] 80)).drew wA (.bool false) (.slice none 0 0) (.bool false) (.slice none 0 0):=bx4;exact ⟨_,z3,rfl,rfl,nlr _,(((b0.below hb1 (by simp)).below hb2 (lt1 _ (by simp))).below hb3 (lt2 _ (lt1 _ (by simp)))).stored _ _ _ _,(hz3.set4 (lt2 _ (lt1 _ (by simp)))).lower sz2,hS.kept.whole⟩
   case rest=>
    obtain ⟨g2,z,rfl,rfl,hg2,bZ,hz,hb3⟩:=hcut;have hbw:w.heap.size<wA.heap.size:=(by omega);have x0:=(hb3.cell (p:=⟨bl,2,none⟩) ys).trans y2;have HB3:=hdq (HBA.out.trans (hb3.mono HBA.out.size));have hR3:=HRA.out.below hb3;have FD:QFit LM (ent m f b-ent m t b):=zBn ((HF.out f b).sub (HF.out t b)) (by have:=HK.out; omega);have Hz:=hdq (hz.qis FD);have FX:QFit LM (xx:Rat):=zBn (k:=10) (Lin.Fits.ofInt (by have h2:(2:Nat) ^ 10=1024:=(by decide); rw [h2]; omega)) (by decide)
    have hxne:(xx:Rat) ≠ 0:=by
     have:xx ≠ 0:=(by omega);exact_mod_cast this
    obtain ⟨z0,z1,z2,z3,-⟩:=id bZ;have lg2:=zAb z0;dsimp only at lg2;have hb3s:=hb3.size;have n1:¬ g2=w.heap.size:=(by omega);have n2:¬ bl=w.heap.size:=(by omega);have hbl3:bl<wc.heap.size:=(by omega);have hgw:w.heap.size<wc.heap.size:=(by omega);have HR3:=hdq hR3;clear y0 y1 y2 i0 hi0 hz FD bZ hb3 HEA HBA HRA hR3;(go_wp2_with fail);(go_upto_region 7 with fail);refine zAp 11 (fun _ w'=>Sees 0 [w.heap.size] wc w') (by kernel_rfl) ?_;have hS0:Sees 0 [w.heap.size] wc wc.drew:=Sees.st (by simp) (nzl _);refine tx4 0 1 2 3 hS0 ?_;refine tx1 4 hS0 ?_;refine tk1 5 ?_;intro K hK;go_simp;have hdr:Below wc wc wc.drew:=(brf _ _).drew;refine (zAN xx (by omega) (by omega) _).mono ?_; rintro e w5 ⟨⟨y,rfl,hy⟩,hb5⟩
    have hS1:=Kept.call2 hb5 hS0;have hb5':Below wc wc w5:=hdr.trans hb5;refine hK.out _ _ hS1 ?_;clear hK K;refine tk1 6 ?_;intro K hK;go_simp;refine (zEY (a:=z) (b:=y) (Hz.out.below hb5') (hy.qis FX) (nlr _) (nlr _) hxne).mono ?_; rintro e w6 ⟨⟨zq,rfl,hzq⟩,hb6⟩
    have hS2:=Kept.call2 hb6 hS1;have hb6':Below wc wc w6:=hb5'.trans (hb6.mono hb5'.size);refine hK.out _ _ hS2 ?_;clear hK K;refine tx1 7 hS2 ?_;refine tx1 8 hS2 ?_;refine tx1 9 hS2 ?_;have r6:=HR3.out.below hb6';have hll:(colTo ls ks m b j).length=sn:=by unfold colTo; rw [List.length_map,List.length_range]; exact HSn.out
    obtain ⟨zv,⟨d0,d1,d2,d3⟩,-⟩:=r6.elem x (by rw [hll]; exact hsx);have fz:=r6.frozen;dsimp only at d1 d2 d3;refine tx1 10 hS2 ?_;refine tk1 11 ?_;intro K hK;go_simp;refine hK.out _ _ (Sees.k4 (g:=w) hS2 (by simp)) ?_;clear hK K;refine zAf (by kernel_rfl) ?_ _
    have HN:Hid (FcL w ls ks m b tn (.int .i64 ((j:Int)+1)) (put4 w6 w x zq)):=⟨j+1,by omega,by simp,zBq (HB3.out.trans (hb6'.mono HB3.out.size)) (nlr _) _ _,by
     rw [HJ.out];exact r6.put4 (by rw [hll]; exact hsx) (hzq.imp fun y _ hy hG=>by simp only [New] at hy; have:=hb5'.size; omega)⟩
    clear hS0 hS1 hS2 hdr hb5 hb5' hb6 hb6' r6 d0 d1 d2 d3 fz hy hzq z0 z1 z2 z3 x0 Hz HB3 HR3;go_wp2;go_roundw;case rel=>first | exact HN.out | ((repeat apply Exists.intro); exact ⟨HN.out,rfl⟩)
    case measure=>simp [intOf]; omega
  ·obtain rfl:tn=j:=by omega
   have HZ:Hid ((∃ g,(.returned (.slice (some w) sn sn):Ending) = .returned (.slice (some ⟨g,0,none⟩) sn sn)/\w.heap.size<=g/\VecCan wr (New w) (New w) ⟨some ⟨g,0,none⟩,sn,sn⟩ FC)/\Below w w wr):=by
    have hta:ks.take tn=ks:=(by rw [<-HTn.out,List.take_length]);have e:colTo ls ks m b tn=FC:=by unfold colTo; rw [hta,HFC.out,HSn.out]
    rw [e] at hR;have hlF:FC.length=sn:=by rw [HFC.out]; simp
    have hv:=hR.vec (by rw [hlF]; omega) sn (by rw [hlF]; exact nlr _) (by omega);rw [hlF] at hv;exact ⟨⟨_,rfl,nlr _,hv.imp (fun y _ hy=>by subst hy; exact nlr _) fun _ _ hq=>hq.imp fun y _ hy=>by simp only [New]; omega⟩,hB⟩
   clear hB hR;go_wp2;go_ret;exact HZ.out
end Mo
end Go.Proofs.YtjancagcmghfjaaGreat
