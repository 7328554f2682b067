/- Texts Rd1 Rd2 PrY of this claim. -/
import Derived.Test.YtlepljpdkbjbhaaGreatPA0
import Derived.Test.YtlepljpdkbjbhaaGreatP37
import Derived.Test.YtlepljpdkbjbhaaGreatP24
import Derived.Test.YtlepljpdkbjbhaaGreatP11
import Derived.Test.YtlepljpdkbjbhaaGreatP25
set_option maxHeartbeats 4000000
namespace Go.Proofs.YtlepljpdkbjbhaaGreat
open Go.RowKit Go.Shelf
set_option maxRecDepth 20000 in
theorem zIP {w:World} {A:Option Addr} {n c i:Nat} {ad:Addr} {u:QV} (hA:A=some ad) (hc:QCell w (ad.add (i*4)) u) (hi:i<n) (hle:n<=c) (hcap:c<=9223372036854775807) :
  Calls Tryz.prog 119 #[.slice A n c,.int .i64 (i:Int)] w fun e w'=>e = .returned u.val/\Below w.heap.size w w':=by
 subst hA;obtain ⟨q0,q1,q2,q3⟩:=hc;have tq:(ad.add (i*4)).block<w.heap.size:=zAb q0;have hii:(i:Int)<(n:Int):=by omega
 have hi0:(0:Int)<=(i:Int):=by omega
 go_enter Tryz.func119,Tryz.ntmps119
 go_wp2;refine bodyPost_ret (v:=u.val) (by simp [results,Tryz.results119,go_sem]) rfl ⟨rfl,?_⟩;exact (brf _ _).alloc (nlr _) _
structure FtS (w:World) (g:Nat->Rat) (k:Nat) (v:Value) (G:Nat->Prop) (s:List QV) (W:World):Prop where
 len:s.length=k
 own:W.ownsRow w.heap.size 30 4 v k (s.flatMap cells4q)
 row:∀ j,v.ownBlock=some j->G j
 gin:∀ x,G x->w.heap.size<=x/\x<W.heap.size
 elem:∀ j,j<k->QCan W (fun b=>¬ G b/\w.heap.size<=b) (s.getD j QV.zero) (g j)
 bel:Below w.heap.size w W
theorem FtS.step {w W W1 W2:World} {v v':Value} {g:Nat->Rat} {k:Nat} {G:Nat->Prop} {s:List QV} {zq:QV} {o:Obj} (h:FtS w g k v G s W) (hb:Below W.heap.size W W1) (hz:QCan W1 (New W.heap.size) zq (g k))
  (hown:W2.ownsRow w.heap.size 30 4 v' (k+1) (s.flatMap cells4q++cells4q zq)) (hg:(W1.alloc o).grownBy W2 v.ownBlock) (hat:v'.ownBlock=v.ownBlock\/v'.ownBlock=some (W1.alloc o).heap.size) :
  FtS w g (k+1) v' (fun y=>G y\/v'.ownBlock=some y) (s++[zq]) W2:=by
 have hsz:W1.heap.size+1<=W2.heap.size:=by have:=hg.size; simpa using this
 have hs1:=hb.size;have hsw:=h.bel.size
 have hvl:∀ j,v.ownBlock=some j->w.heap.size<=j/\j<W.heap.size/\G j:=fun j hj=>by
  obtain ⟨h1,cs,hh⟩:=zAc h.own hj;exact ⟨h1,zAa hh,h.row j hj⟩
 have k1:∀ x,x<W1.heap.size->some x ≠ v.ownBlock->W2.heap[x]?=W1.heap[x]?:=fun x hx h2=>(hg.block x (by simp; omega) h2).trans (Below.heap_alloc _ _ _ hx)
 have keepG:∀ x,x<W.heap.size->¬ G x->W2.heap[x]?=W.heap[x]?:=fun x hx hn=>(k1 x (by omega) fun e=>hn (h.row x e.symm)).trans (hb.block x hx)
 have hv':∀ j,v'.ownBlock=some j->w.heap.size<=j/\j<W2.heap.size/\(G j\/j=W1.heap.size+1):=fun j hj=>by
  obtain ⟨h1,cs,hh⟩:=zAc hown hj;refine ⟨h1,zAa hh,?_⟩;rcases hat with e | e
  ·exact .inl (hvl j (e.symm.trans hj)).2.2
  ·rw [e] at hj; cases hj; exact .inr (by simp)
 refine ⟨by rw [List.length_append,h.len]; rfl,by rw [List.flatMap_append]; simpa using hown,fun j hj=>.inr hj,?_,?_,?_⟩
 ·intro y hy;rcases hy with hy | hy
  ·have:=h.gin y hy; omega
  ·have:=hv' y hy; omega
 ·intro j hj
  have e2:(s++[zq]).getD j QV.zero=if j<k then s.getD j QV.zero else zq:=by
   rw [<-h.len];by_cases hkl:j<s.length
   ·rw [if_pos hkl,zAE _ _ _ hkl]
   ·rw [if_neg hkl,show j=s.length by have:=h.len; omega]; simp [gdd]
  rw [e2];by_cases hkl:j<k
  ·rw [if_pos hkl];have q1:=(h.elem j hkl).imp (Y:=fun b=>(¬ G b/\¬ v'.ownBlock=some b)/\w.heap.size<=b) fun b hb' hx=>⟨⟨hx.1,fun e=>(hv' b e).2.2.elim hx.1 fun h'=>by omega⟩,hx.2⟩
   exact (q1.keep fun a hx hl=>cob (keepG _ hl hx.1.1)).imp fun b _ hx=>⟨fun hg'=>hg'.elim hx.1.1 hx.1.2,hx.2⟩
  ·rw [if_neg hkl];(obtain rfl:j=k:=by omega);have q1:=hz.imp (Y:=fun b=>W.heap.size<=b/\b<W1.heap.size) fun b hb' hx=>⟨hx,hb'⟩
   (refine (q1.keep fun a hx hl=>cob (k1 _ hx.2 fun e=>by have:=(hvl _ e.symm).2.1; omega)).imp fun b _ hx=>⟨fun hg'=>?_,by omega⟩);rcases hg' with hg' | hg'
   ·have:=(h.gin b hg').2; omega
   ·rcases (hv' b hg').2.2 with h' | h'
    ·have:=(h.gin b h').2; omega
    ·omega
 ·have hG1:Below w.heap.size w W1:=h.bel.trans (hb.mono hsw);exact (hG1.alloc (by omega) _).grown hg (by simp; omega) (fun j hj=>(hvl j hj).1)
def FtLoop (w:World) (n:Nat) (g:Nat->Rat) (v i:Value) (W:World):Prop:=∃ k G s,k<=n/\i = .int .i64 ((k:Nat):Int)/\FtS w g k v G s W
theorem own_vecC' {W:World} {base n:Nat} {v:Value} {qs:List QV} {l:List Rat} {X:Nat->Prop} (h:W.ownsRow base 30 4 v n (qs.flatMap cells4q)) (hl:qs.length=n) (hm:l.length=n) (he:∀ k,k<n->QCan W X (qs.getD k QV.zero) (l.getD k 0)) :
  ∃ s:SV,v=s.val/\s.n=n/\VecCan W (fun b=>base<=b) X s l:=by
 rcases h.2 with ⟨rfl,rfl⟩ | ⟨g,cap,cur,rfl,hbg,hh,hnc,hcap,hcur,ht⟩
 ·exact ⟨⟨none,0,0⟩,rfl,rfl,hm,nlr _,nzl _,fun k hk=>absurd hk (Nat.not_lt_zero k)⟩
 ·refine ⟨⟨some ⟨g,0,none⟩,n,cap⟩,rfl,rfl,hm,hnc,(by show cap<=_; exact nlt ‹_› (show maxLen<=9223372036854775807 by decide)),fun k hk=>⟨⟨g,0,none⟩,qs.getD k QV.zero,rfl,hbg,?_,he k hk⟩⟩;have hk':k<n:=hk
  have ec:∀ o,o<4->W.cell? ⟨g,k*4+o,none⟩=(cells4q (qs.getD k QV.zero))[o]?:=fun o ho=>by
   have e2:(cur.toList.take (n*4))[k*4+o]?=(qs.flatMap cells4q)[k*4+o]?:=(by rw [ht]);rw [List.getElem?_take_of_lt (by omega),zCy qs k o (by omega) ho QV.zero] at e2;simp only [World.cell?,hh];simpa using e2
  rw [zA4,Nat.zero_add];exact ⟨ec 0 (by omega),ec 1 (by omega),ec 2 (by omega),ec 3 (by omega)⟩
def VBlk (w:World) (B:Nat) (s:SV) (l:List Rat):Prop:=∃ g,B<=g/\(s.n=0\/(s.A=some ⟨g,0,none⟩/\∃ cs,w.heap[g]?=some (.cells cs 30 (0,0))/\s.n*4<=cs.size))/\VecCan w (fun b=>b=g) (fun b=>b ≠ g/\B<=b) s l
theorem zIE {W:World} {base n:Nat} {v:Value} {qs:List QV} {l:List Rat} {G:Nat->Prop} (h:W.ownsRow base 30 4 v n (qs.flatMap cells4q)) (hl:qs.length=n) (hm:l.length=n) (hrow:∀ j,v.ownBlock=some j->G j) (he:∀ k,k<n->QCan W (fun b=>¬ G b/\base<=b) (qs.getD k QV.zero) (l.getD k 0)) :
  ∃ s:SV,v=s.val/\s.n=n/\VBlk W base s l:=by
 rcases h.2 with ⟨rfl,rfl⟩ | ⟨g,cap,cur,rfl,hbg,hh,hnc,hcap,hcur,ht⟩
 ·exact ⟨⟨none,0,0⟩,rfl,rfl,base,nlr _,.inl rfl,hm,nlr _,nzl _,fun k hk=>absurd hk (Nat.not_lt_zero k)⟩
 ·have hG:G g:=hrow g rfl;refine ⟨⟨some ⟨g,0,none⟩,n,cap⟩,rfl,rfl,g,hbg,.inr ⟨rfl,cur,hh,by show n*4<=cur.size; omega⟩,hm,hnc,(by show cap<=_; exact nlt ‹_› (show maxLen<=9223372036854775807 by decide)),fun k hk=>⟨⟨g,0,none⟩,qs.getD k QV.zero,rfl,rfl,?_,(he k hk).imp fun b _ hb=>⟨fun e=>hb.1 (e ▸ hG),hb.2⟩⟩⟩;have hk':k<n:=hk
  have ec:∀ o,o<4->W.cell? ⟨g,k*4+o,none⟩=(cells4q (qs.getD k QV.zero))[o]?:=fun o ho=>by
   have e2:(cur.toList.take (n*4))[k*4+o]?=(qs.flatMap cells4q)[k*4+o]?:=(by rw [ht]);rw [List.getElem?_take_of_lt (by omega),zCy qs k o (by omega) ho QV.zero] at e2;simp only [World.cell?,hh];simpa using e2
  rw [zA4,Nat.zero_add];exact ⟨ec 0 (by omega),ec 1 (by omega),ec 2 (by omega),ec 3 (by omega)⟩
set_option maxRecDepth 20000 in
theorem zEy {w:World} {X Y:Nat->Prop} {L:Nat} {s:SV} {l:List Rat} (h:VecIs w X Y L s l) (hn:s.n<=1000) (hL:L<=300000) :
  Calls Tryz.prog 63 #[s.val,.int .i64 (s.n:Int)] w fun e w'=>(∃ s':SV,e = .returned s'.val/\VBlk w' w.heap.size s' l)/\Below w.heap.size w w':=by
 obtain ⟨iq0,hiq,hzq0,hzq1,hzq2⟩:=info_parts zEv;obtain ⟨A,n,c⟩:=s;dsimp only [SV.val] at *;have hle:n<=c:=h.le;have hcap:c<=9223372036854775807:=h.cap;have H:=hdq h;have HLen:Hid (l.length=n):=h.len;have HL:=hdq hL;clear h hL;go_enter Tryz.func63,Tryz.ntmps63
 go_wp2;go_loopw [5,6] (fun v i W=>FtLoop w n (fun j=>l.getD j 0) v i W) (fun _ i _=>n-(intOf i).toNat)
 case atStart=>exact ⟨0,fun _=>False,[],nzl _,rfl,rfl,⟨rfl,.inl ⟨rfl,rfl⟩⟩,fun j hj=>by simp [Value.ownBlock] at hj,fun x hx=>hx.elim,fun j hj=>absurd hj (Nat.not_lt_zero j),brf _ _⟩
 case round=>
  obtain ⟨k,G,qs,hk,rfl,hF⟩:=hrel;have HF:=hdq hF;clear hF;by_cases hlt:k<n
  ·have hki:(k:Int)<(n:Int):=(by omega);have hk6:(k:Int)<65536:=(by omega);obtain ⟨ad,u,hA,-,hcl,hu⟩:=(H.out.below HF.out.bel).elem k hlt;dsimp only at hA;have HC:=hdq (zIP hA hcl hlt hle hcap);have HU:=hdq hu;have hlen:=HF.out.len;clear hA hcl hu;(go_wp2_with fail);refine HC.out.mono ?_;rintro e w1 ⟨rfl,hb1⟩;have HU1:=hdq (HU.out.below hb1);(go_wp2_with fail);refine (zDg HU1.out HL.out).mono ?_;rintro e w2 ⟨⟨z,rfl,hz⟩,hb2⟩;have hb12:=hb1.trans (hb2.mono hb1.size);have hz':QCan w2 (New wr.heap.size) z (l.getD k 0):=hz.lower hb1.size
   have hownk:=zAr (W':=w2) HF.out.own fun j hj=>by
    obtain ⟨_,cs,hh⟩:=zAc HF.out.own hj;exact hb12.block j (zAa hh)
   have HB12:=hdq hb12;have HZ:=hdq hz';have HO:=hdq hownk;have hws:=HF.out.bel.size;have hws2:=hb12.size;clear hb1 hb2 hz hz' hownk hb12 hlen;(go_wp2_with (at_builtin; refine wpList_append_own_at _ rfl _ _ 23 rfl w.heap.size 30 iq0 (.agg #[.bool false,.slice none 0 0,.bool false,.slice none 0 0]) 4 64 Tryz.underlying23 hiq hzq0 hzq1 hzq2 rfl (by decide) _ k (qs.flatMap cells4q) rfl (HO.out.alloc _) ⟨w2.heap.size,0,none⟩ 1 1 (cells4q z) rfl rfl (zA1 _ _) (by intro u hu; simp [cells4q] at hu; rcases hu with rfl | rfl | rfl | rfl <;> rfl) (by simp [maxLen]; omega) (by omega) (by simp; omega) ?_));intro v' W5 hown5 hg5 hnil5 hat5
   have Hfin:Hid (FtLoop w n (fun j=>l.getD j 0) v' (.int .i64 ((k+1:Nat):Int)) W5):=
    ⟨k+1,_,_,hlt,rfl,HF.out.step HB12.out HZ.out hown5 hg5 (hat5.imp id fun e=>by rw [e]; simp)⟩
   clear hown5 hg5 hnil5 hat5;go_wp2;go_roundw;case rel=>exact Hfin.out
   case measure=>simp [intOf]; omega
  ·(obtain rfl:k=n:=by omega);go_wp2;have hF:=HF.out;obtain ⟨sv,hsv,hsn,hV⟩:=zIE (l:=l) hF.own hF.len HLen.out hF.row hF.elem;refine bodyPost_ret (v:=sv.val) (by simp [results,Tryz.results63,go_sem,hsv]) rfl ⟨?_,hF.bel⟩;exact ⟨sv,rfl,hV⟩
theorem zE3 {w:World} {X Y:Nat->Prop} {L:Nat} {s:SV} {l:List Rat} (h:VecIs w X Y L s l) (hn:s.n<=1000) (hL:L<=300000) :
  Calls Tryz.prog 63 #[s.val,.int .i64 (s.n:Int)] w fun e w'=>VRet w l e w'/\Below w.heap.size w w':=by
 refine (zEy h hn hL).mono ?_;rintro e w' ⟨⟨sv,rfl,g,hg,-,hV⟩,hb⟩;exact ⟨⟨sv,rfl,hV.imp (fun b _ h=>by subst h; exact hg) fun _ _ h=>h.imp fun _ _ h=>h.2⟩,hb⟩
section
variable {w W W1 W2:World} {n:Int} {B d L:Nat} {os rs:List (List Rat)} {bs:List Rat} {va vb vc v':Value} {G:Nat->Prop} {s1 s2:List SV} {s3:List QV} {o:Obj}
theorem zJT (l1:s1.length=os.length) (l2:s2.length=rs.length) (l3:s3.length=bs.length)
  (hQ:QT w B d n va vb vc (pick3 [] (s1.map SV.val) (s2.map SV.val) (s3.flatMap cells4q)) (pick3 0 os.length rs.length bs.length) G W)
  (e1:∀ m,m<os.length->VecIs W (fun b=>¬ G b/\B<=b) (fun b=>¬ G b/\B<=b) L (s1.getD m ⟨none,0,0⟩) (os.getD m []))
  (e2:∀ m,m<rs.length->VecIs W (fun b=>¬ G b/\B<=b) (fun b=>¬ G b/\B<=b) L (s2.getD m ⟨none,0,0⟩) (rs.getD m []))
  (e3:∀ m,m<bs.length->QIs W (fun b=>¬ G b/\B<=b) L (s3.getD m ⟨⟨false,none,0,0⟩,⟨false,none,0,0⟩⟩) (bs.getD m 0))
  (hb:Below W.heap.size W W1) {x:SV} {l:List Rat} (hx:VecIs W1 (fun b=>¬ G b/\B<=b) (fun b=>¬ G b/\B<=b) L x l)
  (hown:W2.ownsRow B 23 1 v' (os.length+1) (s1.map SV.val++[x.val])) (hg:(W1.alloc o).grownBy W2 va.ownBlock) (hat:v'.ownBlock=va.ownBlock\/v'.ownBlock=some (W1.alloc o).heap.size) :
  ExMid w B d n L (os++[l]) rs bs (W2.setCell ⟨d,1,none⟩ v')/\∀ x,x<W.heap.size->¬ G x->(W2.setCell ⟨d,1,none⟩ v').heap[x]?=W.heap[x]?:=by
 obtain ⟨hQ2,st⟩:=(hQ.call hb).append (f:=1) (by omega) (by omega) (xs:=[x.val]) (v':=v') hown hg hat;have st':=(Step.below G hb).trans st
 have ea:(fun g=>if g=1 then pick3 [] (s1.map SV.val) (s2.map SV.val) (s3.flatMap cells4q) 1++[x.val] else pick3 [] (s1.map SV.val) (s2.map SV.val) (s3.flatMap cells4q) g)=pick3 [] ((s1++[x]).map SV.val) (s2.map SV.val) (s3.flatMap cells4q):=by
  funext g; unfold pick3; by_cases h1:g=1 <;> by_cases h2:g=2 <;> by_cases h3:g=3 <;> simp_all
 have ec:(fun g=>if g=1 then pick3 0 os.length rs.length bs.length 1+1 else pick3 0 os.length rs.length bs.length g)=pick3 0 (os++[l]).length rs.length bs.length:=by
  funext g; unfold pick3; by_cases h1:g=1 <;> by_cases h2:g=2 <;> by_cases h3:g=3 <;> simp_all
 rw [ea,ec] at hQ2;exact ⟨⟨_,_,_,_,s1++[x],s2,s3,by simp [l1],by simp [l2],by simp [l3],hQ2,zHj l1 (fun m hm=>st'.vecK (e1 m hm)) (st.vecK hx),fun m hm=>st'.vecK (e2 m hm),fun m hm=>st'.qisK (e3 m hm)⟩,st'.keep⟩
end
theorem zKb {w y:World} {L:Nat} {n:Int} (hb:Below w.heap.size w y) :
  ExMid w y.heap.size y.heap.size n L [] [] [] (y.alloc (.cells #[.int .i64 n,.slice none 0 0,.slice none 0 0,.slice none 0 0] 25)):=by
 have al:Below y.heap.size y (y.alloc (.cells #[.int .i64 n,.slice none 0 0,.slice none 0 0,.slice none 0 0] 25)):=(brf _ _).alloc (nlr _) _;have e3:∀ f,three (.slice none 0 0) (.slice none 0 0) (.slice none 0 0) f = .slice none 0 0:=fun f=>by unfold three; simp
 refine ⟨.slice none 0 0,.slice none 0 0,.slice none 0 0,fun b=>b=y.heap.size,[],[],[],rfl,rfl,rfl,⟨hb.trans (al.mono hb.size),zAd _ _ rfl,fun f h1 h2=>?_,fun f g j _ _ _ _ _ hj=>?_,fun f j _ _ hj=>?_,fun x hx=>by simp; omega,rfl,fun f j _ _ hj=>?_,hb.size,nlr _⟩,fun m hm=>absurd hm (Nat.not_lt_zero _),fun m hm=>absurd hm (Nat.not_lt_zero _),fun m hm=>absurd hm (Nat.not_lt_zero _)⟩
 ·rw [e3];refine ⟨?_,.inl ⟨rfl,?_⟩⟩ <;> rcases (by omega:f=1\/f=2\/f=3) with rfl | rfl | rfl <;> simp [pick3]
 ·rw [e3] at hj; simp [Value.ownBlock] at hj
 ·rw [e3] at hj; simp [Value.ownBlock] at hj
 ·rw [e3] at hj; simp [Value.ownBlock] at hj
def OffGD (B g d:Nat) (b:Nat):Prop:=(b ≠ g/\b ≠ d)/\B<=b
structure OwnAt (W:World) (B g L:Nat) (q:LPV) (os rs:List (List Rat)) (bs:List Rat):Prop where
 ge:B<=g
 ad:q.O.A=some ⟨g,0,none⟩
 len:os.length=q.O.n
 le:q.O.n<=q.O.c
 cap:q.O.c<=9223372036854775807
 blk:∃ cur,W.heap[g]?=some (.cells cur 23 (0,0))/\q.O.n<=cur.size
 row:∀ i,i<q.O.n->∃ r,W.cell? ⟨g,i,none⟩=some (SV.val r)/\VecIs W (fun b=>b ≠ g/\B<=b) (fun b=>b ≠ g/\B<=b) L r (os.getD i [])
 rows:MatIs W (fun b=>b ≠ g/\B<=b) (fun b=>b ≠ g/\B<=b) L q.R rs
 bounds:VecIs W (fun b=>b ≠ g/\B<=b) (fun b=>b ≠ g/\B<=b) L q.B bs
theorem OwnAt.lp {W:World} {B g L:Nat} {q:LPV} {os rs:List (List Rat)} {bs:List Rat} (h:OwnAt W B g L q os rs bs):LPIs W (fun b=>B<=b) (fun b=>B<=b) L q os rs bs:=
 ⟨⟨h.len,h.le,h.cap,fun i hi=>by
  obtain ⟨r,c,hr⟩:=h.row i hi;exact ⟨⟨g,0,none⟩,r,h.ad,h.ge,by rw [zA4,Nat.zero_add]; exact c,hr.imp (fun _ _ hx=>hx.2) fun _ _ hq=>hq.imp fun _ _ hx=>hx.2⟩⟩,
  h.rows.imp (fun _ _ hx=>hx.2) fun _ _ hq=>hq.imp fun _ _ hx=>hx.2,
  h.bounds.imp (fun _ _ hx=>hx.2) fun _ _ hq=>hq.imp fun _ _ hx=>hx.2⟩
theorem OwnAt.below {W W':World} {B g L:Nat} {q:LPV} {os rs:List (List Rat)} {bs:List Rat} (h:OwnAt W B g L q os rs bs) (hb:Below W.heap.size W W'):OwnAt W' B g L q os rs bs:=by
 obtain ⟨cur,hc,hn⟩:=h.blk
 exact ⟨h.ge,h.ad,h.len,h.le,h.cap,⟨cur,(hb.block _ (zAa hc)).trans hc,hn⟩,fun i hi=>by
  obtain ⟨r,c,hr⟩:=h.row i hi;exact ⟨r,(hb.cell (p:=⟨g,i,none⟩) (zAa hc)).trans c,hr.below hb⟩,h.rows.below hb,h.bounds.below hb⟩
theorem OwnAt.set {W:World} {B g L:Nat} {q:LPV} {os rs:List (List Rat)} {bs:List Rat} (h:OwnAt W B g L q os rs bs) {k:Nat} (hk:k<q.O.n) {x:SV} {l:List Rat} (hx:VecIs W (fun b=>b ≠ g/\B<=b) (fun b=>b ≠ g/\B<=b) L x l) :
  OwnAt (W.setCell ⟨g,k,none⟩ x.val) B g L q (os.set k l) rs bs:=by
 obtain ⟨cur,hc,hn⟩:=h.blk;have kb:∀ b,b ≠ g->(W.setCell ⟨g,k,none⟩ x.val).heap[b]?=W.heap[b]?:=fun b hb=>bhs _ _ _ _ hb
 have kc:∀ a:Addr,(a.block ≠ g/\B<=a.block)->a.block<W.heap.size->(W.setCell ⟨g,k,none⟩ x.val).cell? a=W.cell? a:=fun a ha _=>cob (kb _ ha.1)
 have kq:∀ v q,QIs W (fun b=>b ≠ g/\B<=b) L v q->QIs (W.setCell ⟨g,k,none⟩ x.val) (fun b=>b ≠ g/\B<=b) L v q:=fun v q hq=>hq.keep kc
 have e:=zAe (o:=k) x.val hc;refine ⟨h.ge,h.ad,by rw [List.length_set]; exact h.len,h.le,h.cap,⟨_,e,by simpa using hn⟩,fun i hi=>?_,h.rows.keep kc kq,h.bounds.keep kc kq⟩;by_cases hik:i=k
 ·subst hik;refine ⟨x,?_,?_⟩
  ·simp only [World.cell?,e];simp [show i<cur.size by omega]
  ·have:(os.set i l).getD i []=l:=(by simp [gdd,show i<os.length by have:=h.len; omega]);rw [this]; exact hx.keep kc kq
 ·obtain ⟨r,c,hr⟩:=h.row i hi;refine ⟨r,?_,?_⟩
  ·rw [<-c];simp only [World.cell?,e,hc];simp [Array.getElem?_setIfInBounds,show ¬ k=i from fun h=>hik h.symm]
  ·have:(os.set k l).getD i []=os.getD i []:=(by simp [gdd,List.getElem?_set,show ¬ k=i from fun h=>hik h.symm]);rw [this]; exact hr.keep kc kq
theorem zID {w W:World} {B d L:Nat} {n:Int} {os rs:List (List Rat)} (h:ExMid w B d n L os rs [] W) (ho:1<=os.length) :
  ∃ (g oc:Nat) (R:SV) (vc:Value),R.n=rs.length/\W.heap[d]?=some (.cells #[.int .i64 n,.slice (some ⟨g,0,none⟩) os.length oc,R.val,vc] 25 (0,0))/\B<=g/\g ≠ d/\B<=d/\os.length<=oc/\oc<=9223372036854775807/\
   (∃ cur,W.heap[g]?=some (.cells cur 23 (0,0))/\os.length<=cur.size)/\
   (∀ i,i<os.length->∃ r,W.cell? ⟨g,i,none⟩=some (SV.val r)/\VecIs W (OffGD B g d) (OffGD B g d) L r (os.getD i []))/\
   MatIs W (OffGD B g d) (OffGD B g d) L R rs/\Below w.heap.size w W/\w.heap.size<=B:=by
 obtain ⟨va,vb,vc,G,s1,s2,s3,l1,l2,l3,hQ,e1,e2,e3⟩:=h;obtain ⟨o1,o2,-⟩:=zIC hQ;rcases o1.2 with ⟨-,e0⟩ | ⟨g,oc,cur,rfl,hbg,hh,hnc,hcap,hcur,ht⟩
 ·rw [e0] at ho; omega
 ·have hGg:G g:=hQ.gf 1 g (by omega) (by omega) rfl;have hgd:g ≠ d:=hQ.nod 1 g (by omega) (by omega) rfl;have hof:∀ b,(¬ G b/\B<=b)->OffGD B g d b:=fun b hb=>⟨⟨fun e=>hb.1 (e ▸ hGg),fun e=>hb.1 (e ▸ hQ.gd)⟩,hb.2⟩
  have hrows:∃ R:SV,vb=R.val/\R.n=rs.length/\MatIs W (OffGD B g d) (OffGD B g d) L R rs:=by
   rcases o2.2 with ⟨rfl,hz⟩ | ⟨g2,c2,cur2,rfl,hbg2,hh2,hnc2,hcap2,hcur2,ht2⟩
   ·exact ⟨⟨none,0,0⟩,rfl,hz.symm,hz,nlr _,nzl _,fun k hk=>absurd hk (Nat.not_lt_zero k)⟩
   ·have a1:g2 ≠ g:=(fun e=>hQ.apart 2 1 g2 (by omega) (by omega) (by omega) (by omega) (by omega) rfl (by rw [e]; rfl));have a2:g2 ≠ d:=hQ.nod 2 g2 (by omega) (by omega) rfl;refine ⟨⟨some ⟨g2,0,none⟩,rs.length,c2⟩,rfl,rfl,rfl,hnc2,(by show c2<=_; exact nlt ‹_› (show maxLen<=9223372036854775807 by decide)),fun k hk=>⟨⟨g2,0,none⟩,s2.getD k ⟨none,0,0⟩,rfl,⟨⟨a1,a2⟩,hbg2⟩,?_,(e2 k hk).imp (fun b _ hb=>hof b hb) fun _ _ hq=>hq.imp fun b _ hb=>hof b hb⟩⟩;have hk':k<rs.length:=hk;rw [zA4,Nat.zero_add];have t2:(cur2.toList.take (rs.length*1))[k]?=(s2.map SV.val)[k]?:=(by rw [ht2]);rw [Nat.mul_one,List.getElem?_take_of_lt hk'] at t2;simp only [World.cell?,hh2];have t3:cur2[k]?=(s2.map SV.val)[k]?:=(by simpa using t2);rw [List.getElem?_map,gge (by omega)] at t3;have t4:s2.getD k ⟨none,0,0⟩=s2[k]'(by omega):=(by simp [gdd,gge (show k<s2.length by omega)]);rw [t4];simpa using t3
  obtain ⟨R,rfl,hRn,hR⟩:=hrows;refine ⟨g,oc,R,vc,hRn,hQ.blk,hbg,hgd,hQ.dB,hnc,nlt ‹_› (show maxLen<=9223372036854775807 by decide),⟨cur,hh,by omega⟩,fun k hk=>⟨s1.getD k ⟨none,0,0⟩,?_,(e1 k hk).imp (fun b _ hb=>hof b hb) fun _ _ hq=>hq.imp fun b _ hb=>hof b hb⟩,hR,hQ.bel,hQ.ge⟩;have t2:(cur.toList.take (os.length*1))[k]?=(s1.map SV.val)[k]?:=by rw [ht]
  rw [Nat.mul_one,List.getElem?_take_of_lt hk] at t2;simp only [World.cell?,hh];have t3:cur[k]?=(s1.map SV.val)[k]?:=by simpa using t2
  rw [List.getElem?_map,gge (by omega)] at t3;have t4:s1.getD k ⟨none,0,0⟩=s1[k]'(by omega):=by simp [gdd,gge (show k<s1.length by omega)]
  rw [t4];simpa using t3
theorem zJY {w wr w1 w8:World} {B d g gc L:Nat} {n:Int} {os rs:List (List Rat)} {bs:List Rat} {R Z:SV} (hg:B<=g) (hgd:g ≠ d) (hw:w.heap.size+1<B) (hBd:B<=wr.heap.size) (hdr:d<wr.heap.size) (hgc1:os.length<=gc) (hgc2:gc<=9223372036854775807)
  (hcur:∃ cur,wr.heap[g]?=some (.cells cur 23 (0,0))/\os.length<=cur.size)
  (hrow:∀ i,i<os.length->∃ r,wr.cell? ⟨g,i,none⟩=some (SV.val r)/\VecIs wr (OffGD B g d) (OffGD B g d) L r (os.getD i []))
  (hmat:MatIs wr (OffGD B g d) (OffGD B g d) L R rs) (hb1:Below wr.heap.size wr w1) (hz:VecIs w1 (New wr.heap.size) (New wr.heap.size) L Z bs)
  (hk:∀ b,b ≠ d->b ≠ w.heap.size+1->w8.heap[b]?=w1.heap[b]?) :
  OwnAt w8 w.heap.size g L ⟨n,⟨some ⟨g,0,none⟩,os.length,gc⟩,R,Z⟩ os rs bs:=by
 obtain ⟨cur,hh,hn⟩:=hcur;have hgl:=zAa hh;have ko:∀ b,OffGD B g d b->b<wr.heap.size->w8.heap[b]?=wr.heap[b]?:=fun b hb hl=>(hk b hb.1.2 (by have:=hb.2; omega)).trans (hb1.block b hl)
 have kc:∀ a:Addr,OffGD B g d a.block->a.block<wr.heap.size->w8.cell? a=wr.cell? a:=fun a ha hl=>cob (ko _ ha hl)
 have kz:∀ a:Addr,New wr.heap.size a.block->a.block<w1.heap.size->w8.cell? a=w1.cell? a:=fun a ha hl=>cob (hk _ (by simp only [New] at ha; omega) (by simp only [New] at ha; omega))
 have im:∀ b,OffGD B g d b->b ≠ g/\w.heap.size<=b:=fun b hb=>⟨hb.1.1,by have:=hb.2; omega⟩
 have iz:∀ b,New wr.heap.size b->b ≠ g/\w.heap.size<=b:=fun b hb=>by simp only [New] at hb; omega
 have hg8:w8.heap[g]?=wr.heap[g]?:=(hk g hgd (by omega)).trans (hb1.block g hgl);refine ⟨by show w.heap.size<=g; omega,rfl,rfl,hgc1,hgc2,⟨cur,hg8.trans hh,hn⟩,fun i hi=>?_,?_,?_⟩
 ·obtain ⟨r,c,hr⟩:=hrow i hi;exact ⟨r,(cob (a:=⟨g,i,none⟩) hg8).trans c,(VecAt.keep hr kc fun _ _ hq=>hq.keep kc).imp (fun b _ hb=>im b hb) fun _ _ hq=>hq.imp fun b _ hb=>im b hb⟩
 ·exact (MatAt.keep hmat kc fun _ _ hq=>QIs.keep hq kc).imp (fun b _ hb=>im b hb) fun _ _ hq=>hq.imp fun b _ hb=>im b hb
 ·exact (VecAt.keep hz kz fun _ _ hq=>QIs.keep hq kz).imp (fun b _ hb=>iz b hb) fun _ _ hq=>hq.imp fun b _ hb=>iz b hb
structure OwnB (W:World) (B g L:Nat) (q:LPV) (os rs:List (List Rat)) (bs:List Rat):Prop where
 ge:B<=g
 blk:q.B.n=0\/(q.B.A=some ⟨g,0,none⟩/\∃ cs,W.heap[g]?=some (.cells cs 30 (0,0))/\q.B.n*4<=cs.size)
 obj:MatIs W (fun b=>b ≠ g/\B<=b) (fun b=>b ≠ g/\B<=b) L q.O os
 rows:MatIs W (fun b=>b ≠ g/\B<=b) (fun b=>b ≠ g/\B<=b) L q.R rs
 bounds:VecIs W (fun b=>b=g) (fun b=>b ≠ g/\B<=b) L q.B bs
theorem OwnB.lp {W:World} {B g L:Nat} {q:LPV} {os rs:List (List Rat)} {bs:List Rat} (h:OwnB W B g L q os rs bs):LPIs W (fun b=>B<=b) (fun b=>B<=b) L q os rs bs:=
 ⟨h.obj.imp (fun _ _ hx=>hx.2) fun _ _ hq=>hq.imp fun _ _ hx=>hx.2,h.rows.imp (fun _ _ hx=>hx.2) fun _ _ hq=>hq.imp fun _ _ hx=>hx.2,
  h.bounds.imp (fun _ _ hx=>by subst hx; exact h.ge) fun _ _ hq=>hq.imp fun _ _ hx=>hx.2⟩
theorem OwnB.below {W W':World} {B g L:Nat} {q:LPV} {os rs:List (List Rat)} {bs:List Rat} (h:OwnB W B g L q os rs bs) (hb:Below W.heap.size W W'):OwnB W' B g L q os rs bs:=
 ⟨h.ge,h.blk.imp id fun ⟨e,cs,hc,hn⟩=>⟨e,cs,(hb.block _ (zAa hc)).trans hc,hn⟩,h.obj.below hb,h.rows.below hb,h.bounds.below hb⟩
theorem OwnB.more {W:World} {B g L M:Nat} {q:LPV} {os rs:List (List Rat)} {bs:List Rat} (h:OwnB W B g L q os rs bs) (hL:L<=M):OwnB W B g M q os rs bs:=
 ⟨h.ge,h.blk,h.obj.imp (fun _ _ h=>h) fun _ _ hq=>hq.mono hL,h.rows.imp (fun _ _ h=>h) fun _ _ hq=>hq.mono hL,h.bounds.imp (fun _ _ h=>h) fun _ _ hq=>hq.mono hL⟩
theorem OwnB.set {W:World} {B g L:Nat} {q:LPV} {os rs:List (List Rat)} {bs:List Rat} (h:OwnB W B g L q os rs bs) {k:Nat} (hk:k<q.B.n) {v:QV} {x:Rat} (hx:QIs W (fun b=>b ≠ g/\B<=b) L v x) :
  OwnB (put4 W g k v) B g L q os rs (bs.set k x):=by
 obtain ⟨e0,cs,e,hsz⟩:=h.blk.resolve_left (by omega)
 have e4:(put4 W g k v).heap[g]?=some (.cells ((((cs.setIfInBounds (k*4) (.bool v.num.ng)).setIfInBounds (k*4+1) (.slice v.num.A v.num.n v.num.c)).setIfInBounds (k*4+2) (.bool v.den.ng)).setIfInBounds (k*4+3) (.slice v.den.A v.den.n v.den.c)) 30 (0,0)):=
  zAe _ (zAe _ (zAe _ (zAe _ e)))
 have kc:∀ a:Addr,(a.block ≠ g/\B<=a.block)->a.block<W.heap.size->(put4 W g k v).cell? a=W.cell? a:=fun a ha _=>zCq W g k v ha.1
 have kq:∀ u q,QIs W (fun b=>b ≠ g/\B<=b) L u q->QIs (put4 W g k v) (fun b=>b ≠ g/\B<=b) L u q:=fun u q hq=>hq.keep kc
 have get:∀ o,(put4 W g k v).cell? ⟨g,o,none⟩=((((cs.setIfInBounds (k*4) (.bool v.num.ng)).setIfInBounds (k*4+1) (.slice v.num.A v.num.n v.num.c)).setIfInBounds (k*4+2) (.bool v.den.ng)).setIfInBounds (k*4+3) (.slice v.den.A v.den.n v.den.c))[o]?:=by
  intro o; simp only [World.cell?,e4]; simp
 have get0:∀ o,W.cell? ⟨g,o,none⟩=cs[o]?:=by intro o; simp only [World.cell?,e]; simp
 have hl:=h.bounds.len;refine ⟨h.ge,.inr ⟨e0,_,e4,by simpa using hsz⟩,h.obj.keep kc kq,h.rows.keep kc kq,by rw [List.length_set]; exact hl,h.bounds.le,h.bounds.cap,fun j hj=>?_⟩;by_cases hjk:j=k
 ·subst hjk;refine ⟨⟨g,0,none⟩,v,e0,rfl,?_,?_⟩
  ·rw [zA4,Nat.zero_add];refine ⟨?_,?_,?_,?_⟩ <;> (try dsimp only); all_goals (rw [get]; simp [Array.getElem?_setIfInBounds]; omega)
  ·rw [show (bs.set j x).getD j 0=x by simp [gdd,show j<bs.length by omega]];exact kq _ _ hx
 ·obtain ⟨ad,u,ea,hX,⟨q0,q1,q2,q3⟩,hu⟩:=h.bounds.elem j hj;obtain rfl:ad=⟨g,0,none⟩:=by rw [e0] at ea; exact (Option.some.inj ea).symm
  rw [zA4,Nat.zero_add] at q0 q1 q2 q3;dsimp only at q0 q1 q2 q3;rw [get0] at q0 q1 q2 q3;refine ⟨⟨g,0,none⟩,u,e0,rfl,?_,?_⟩
  ·rw [zA4,Nat.zero_add];refine ⟨?_,?_,?_,?_⟩
   ·rw [get,<-q0]; simp only [Array.getElem?_setIfInBounds]; repeat rw [if_neg (by omega)]
   ·dsimp only; rw [get,<-q1]; simp only [Array.getElem?_setIfInBounds]; repeat rw [if_neg (by omega)]
   ·dsimp only; rw [get,<-q2]; simp only [Array.getElem?_setIfInBounds]; repeat rw [if_neg (by omega)]
   ·dsimp only; rw [get,<-q3]; simp only [Array.getElem?_setIfInBounds]; repeat rw [if_neg (by omega)]
  ·rw [show (bs.set k x).getD j 0=bs.getD j 0 by simp [gdd,List.getElem?_set,show ¬ k=j from fun h=>hjk h.symm]];exact kq _ _ hu
theorem zJi {w wr w1 w8:World} {B d g gc L:Nat} {n:Int} {os rs:List (List Rat)} {bs:List Rat} {R Z:SV} (hg:B<=g) (hgd:g ≠ d) (hw:w.heap.size+1<B) (hBd:B<=wr.heap.size) (hdr:d<wr.heap.size) (hgc1:os.length<=gc) (hgc2:gc<=9223372036854775807)
  (hcur:∃ cur,wr.heap[g]?=some (.cells cur 23 (0,0))/\os.length<=cur.size)
  (hrow:∀ i,i<os.length->∃ r,wr.cell? ⟨g,i,none⟩=some (SV.val r)/\VecIs wr (OffGD B g d) (OffGD B g d) L r (os.getD i []))
  (hmat:MatIs wr (OffGD B g d) (OffGD B g d) L R rs) (hb1:Below wr.heap.size wr w1) (hz:VBlk w1 wr.heap.size Z bs) (hf:∀ k,QFit L (bs.getD k 0))
  (hk:∀ b,b ≠ d->b ≠ w.heap.size+1->w8.heap[b]?=w1.heap[b]?) :
  ∃ gz,OwnB w8 w.heap.size gz L ⟨n,⟨some ⟨g,0,none⟩,os.length,gc⟩,R,Z⟩ os rs bs:=by
 obtain ⟨gz,hgz,hzb,hz⟩:=hz;obtain ⟨cur,hh,hn⟩:=hcur;have hgl:=zAa hh;have ko:∀ b,OffGD B g d b->b<wr.heap.size->w8.heap[b]?=wr.heap[b]?:=fun b hb hl=>(hk b hb.1.2 (by have:=hb.2; omega)).trans (hb1.block b hl)
 have kc:∀ a:Addr,OffGD B g d a.block->a.block<wr.heap.size->w8.cell? a=wr.cell? a:=fun a ha hl=>cob (ko _ ha hl)
 have kn:∀ b,wr.heap.size<=b->w8.heap[b]?=w1.heap[b]?:=fun b hb=>hk _ (by omega) (by omega)
 have hg8:w8.heap[g]?=wr.heap[g]?:=(hk g hgd (by omega)).trans (hb1.block g hgl);have im:∀ b,b<wr.heap.size->OffGD B g d b->b ≠ gz/\w.heap.size<=b:=fun b hl hb=>⟨by omega,by have:=hb.2; omega⟩
 have keepV:∀ (r:SV) (l':List Rat),VecIs wr (OffGD B g d) (OffGD B g d) L r l'->VecIs w8 (fun b=>b ≠ gz/\w.heap.size<=b) (fun b=>b ≠ gz/\w.heap.size<=b) L r l':=fun r l' hr=>
  ((hr.imp (X':=fun b=>b<wr.heap.size/\OffGD B g d b) (R':=QIs wr (fun b=>b<wr.heap.size/\OffGD B g d b) L) (fun b hl hb=>⟨hl,hb⟩) (fun _ _ hq=>hq.imp fun b hl hb=>⟨hl,hb⟩)).keep (R':=QIs w8 (fun b=>b<wr.heap.size/\OffGD B g d b) L) (fun a ha hl=>kc a ha.2 hl) (fun _ _ hq=>hq.keep fun a ha hl=>kc a ha.2 hl)).imp (fun b _ hb=>im b hb.1 hb.2) (fun _ _ hq=>hq.imp fun b _ hb=>im b hb.1 hb.2)
 have keepM:MatIs w8 (fun b=>b ≠ gz/\w.heap.size<=b) (fun b=>b ≠ gz/\w.heap.size<=b) L R rs:=
  ((hmat.imp (X':=fun b=>b<wr.heap.size/\OffGD B g d b) (R':=QIs wr (fun b=>b<wr.heap.size/\OffGD B g d b) L) (fun b hl hb=>⟨hl,hb⟩) (fun _ _ hq=>hq.imp fun b hl hb=>⟨hl,hb⟩)).keep (R':=QIs w8 (fun b=>b<wr.heap.size/\OffGD B g d b) L) (fun a ha hl=>kc a ha.2 hl) (fun _ _ hq=>hq.keep fun a ha hl=>kc a ha.2 hl)).imp (fun b _ hb=>im b hb.1 hb.2) (fun _ _ hq=>hq.imp fun b _ hb=>im b hb.1 hb.2)
 refine ⟨gz,by omega,hzb.imp id (fun ⟨e,cs,hc,hn⟩=>⟨e,cs,(kn _ hgz).trans hc,hn⟩),⟨rfl,hgc1,hgc2,fun i hi=>?_⟩,keepM,?_⟩
 ·obtain ⟨r,c,hr⟩:=hrow i hi;exact ⟨⟨g,0,none⟩,r,rfl,⟨by show g ≠ gz; omega,by show w.heap.size<=g; omega⟩,by rw [zA4,Nat.zero_add]; exact (cob (a:=⟨g,i,none⟩) hg8).trans c,keepV _ _ hr⟩
 ·refine ((hz.loose hf).keep (R':=QIs w8 (fun b=>b ≠ gz/\wr.heap.size<=b) L) (fun a ha hl=>cob (kn _ (by rw [ha]; exact hgz))) (fun _ _ hq=>hq.keep fun a ha hl=>cob (kn _ ha.2))).imp (fun _ _ h=>h) (fun _ _ hq=>hq.imp fun b _ hb=>⟨hb.1,by have:=hb.2; omega⟩)
def OwnS (B:Nat) (W:World) (a b:Addr) (u v:Value) (f:Bool) (w':World):Prop:=(f=false->Sees B [] W w')/\w'.cell? a=some u/\w'.cell? b=some v
def OwL1 (w:World) (p:LPV) (d L:Nat) (os:List (List Rat)) (t:Value) (W:World):Prop:=
 ∃ i:Nat,i<=p.O.n/\t = .int .i64 i/\LPBox W w.heap.size p/\Box4 W (w.heap.size+1) (.int .i64 0) (.slice none 0 0) (.slice none 0 0) (.slice none 0 0)/\ExMid w d d p.n L (os.take i) [] [] W
def OwL2 (w:World) (p:LPV) (d L:Nat) (os rs:List (List Rat)) (t:Value) (W:World):Prop:=
 ∃ i:Nat,i<=p.R.n/\t = .int .i64 i/\LPBox W w.heap.size p/\Box4 W (w.heap.size+1) (.int .i64 0) (.slice none 0 0) (.slice none 0 0) (.slice none 0 0)/\ExMid w d d p.n L os (rs.take i) [] W
theorem zB0 {α:Type} {l:List α} {i:Nat} (h:i<l.length) (z:α):l.take (i+1)=l.take i++[l.getD i z]:=by
 rw [List.take_succ_eq_append_getElem h];simp [gdd,h]
set_option maxRecDepth 40000 in
theorem zIB {w:World} {X Y:Nat->Prop} {L:Nat} {p:LPV} {os rs:List (List Rat)} {bs:List Rat} (h:LPIs w X Y L p os rs bs) (ho1:1<=p.O.n) (ho2:p.O.n<=1000) (hr:p.R.n<=1000) (hb:p.B.n<=1000) (ho:∀ i,(os.getD i []).length<=1000) (hr2:∀ i,(rs.getD i []).length<=1000) (hL:L<=300000) :
  Calls Tryz.prog 19 #[p.val] w fun e w'=>(∃ (q:LPV) (g:Nat),e = .returned q.val/\q.n=p.n/\OwnAt w' w.heap.size g (L+1) q os rs bs/\∃ gz,OwnB w' w.heap.size gz (L+1) q os rs bs)/\Below w.heap.size w w':=by
 obtain ⟨ii0,hii,hzi0,hzi1,hzi2⟩:=info_parts zFA;obtain ⟨z,⟨oA,on,oc⟩,⟨rA,rn,rc⟩,⟨bA,bn,bc⟩⟩:=p;dsimp only at ho1 ho2 hr hb;have H:=hdq h;have HO:=hdq ho;have HR:=hdq hr2;have HL:=hdq hL;have HOl:Hid (os.length=on):=h.obj.len;have HRl:Hid (rs.length=rn):=h.rows.len;have oc1:on<=oc:=h.obj.le;have oc2:oc<=9223372036854775807:=h.obj.cap;have rc1:rn<=rc:=h.rows.le;have rc2:rc<=9223372036854775807:=h.rows.cap;have bc1:bn<=bc:=h.bounds.le;have bc2:bc<=9223372036854775807:=h.bounds.cap;clear h ho hr2 hL;dsimp only [LPV.val] at *;go_enter Tryz.func19,Tryz.ntmps19
 go_upto_region 2 with fail
 have H1:Hid (OwL1 w ⟨z,⟨oA,on,oc⟩,⟨rA,rn,rc⟩,⟨bA,bn,bc⟩⟩ (w.heap.size+1+1) (L+1) os (.int .i64 0) (((w.alloc (.cells #[.int .i64 z,.slice oA on oc,.slice rA rn rc,.slice bA bn bc] 25)).alloc (.cells #[.int .i64 0,.slice none 0 0,.slice none 0 0,.slice none 0 0] 25)).alloc (.cells #[.int .i64 z,.slice none 0 0,.slice none 0 0,.slice none 0 0] 25))):=by
  refine ⟨0,nzl _,rfl,⟨by go_simp,by go_simp,by go_simp,by go_simp,by intro o; go_simp⟩,⟨by go_simp,by go_simp,by go_simp,by go_simp,by intro o; go_simp⟩,?_⟩;rw [List.take_zero];have:=zKb (w:=w) (y:=(w.alloc (.cells #[.int .i64 z,.slice oA on oc,.slice rA rn rc,.slice bA bn bc] 25)).alloc (.cells #[.int .i64 0,.slice none 0 0,.slice none 0 0,.slice none 0 0] 25)) (L:=L+1) (n:=z) (((brf _ _).alloc (nlr _) _).alloc (by simp) _);simpa using this
 generalize ((w.alloc (.cells #[.int .i64 z,.slice oA on oc,.slice rA rn rc,.slice bA bn bc] 25)).alloc (.cells #[.int .i64 0,.slice none 0 0,.slice none 0 0,.slice none 0 0] 25)).alloc (.cells #[.int .i64 z,.slice none 0 0,.slice none 0 0,.slice none 0 0] 25)=W0 at *;go_wp2;go_loopw [4] (fun t W=>OwL1 w ⟨z,⟨oA,on,oc⟩,⟨rA,rn,rc⟩,⟨bA,bn,bc⟩⟩ (w.heap.size+1+1) (L+1) os t W) (fun t _=>on-(intOf t).toNat)
 case atStart=>exact H1.out
 case round=>
  clear H1;obtain ⟨i,hi,rfl,bP,bR,hM⟩:=hrel;by_cases hlt:i<on
  ·skip
   have ht:=zB0 (l:=os) (i:=i) (by have:=HOl.out; omega) [];have HT:=hdq ht;have hTl:(os.take i).length=i:=by rw [List.length_take]; have:=HOl.out; omega
   have HTl:=hdq hTl;clear ht hTl;obtain ⟨va,vb,vc,G,s1,s2,s3,l1,l2,l3,hQ,e1,e2,e3⟩:=hM;have HE:=hdq (And.intro l1 (And.intro l2 (And.intro l3 (And.intro e1 (And.intro e2 e3)))));clear l1 l2 l3 e1 e2 e3;obtain ⟨ad,r,e,-,r0,hr⟩:=(H.out.obj.below hQ.bel).row i hlt;dsimp only at e;subst e;obtain ⟨qA,qn,qc⟩:=r;have HRw:=hdq hr;have hrl:=hr.len;dsimp only at hrl
   have hqn:Hid (qn<=1000):=by
    have h1:=HO.out i;show qn<=1000; omega
   clear hr hrl;obtain ⟨c0,c1,c2,c3,cf⟩:=hQ.cells;have hdl:=hQ.dlt;obtain ⟨p0,p1,p2,p3,-⟩:=id bP;dsimp only at p0 p1 p2 p3;have hbl:=hQ.bel.size;have hal:(ad.add i).block<wr.heap.size:=zAb r0
   have hal0:(ad.add i).block<w.heap.size:=by
    obtain ⟨ad2,r2,e2,-,r02,-⟩:=H.out.obj.row i hlt;cases e2;exact zAb r02
   have t0:w.heap.size<wr.heap.size:=zAb p0;have hdr:Below wr.heap.size wr wr.drew:=(brf _ _).drew;(go_upto_region 5 with fail);refine zAp 15 (OwnS w.heap.size wr ⟨w.heap.size,1,none⟩ (ad.add i) (.slice (some ad) on oc) (.slice qA qn qc)) (by kernel_rfl) ?_;have hS0:Sees w.heap.size [] wr wr.drew:=Sees.st (by simp) hbl;have hp0:wr.drew.cell? ⟨w.heap.size,1,none⟩=some (.slice (some ad) on oc):=p1;have hr0:wr.drew.cell? (ad.add i)=some (.slice qA qn qc):=r0;refine tkX 0 (⟨fun _=>hS0,hp0,hr0⟩) ?_;simp only [zz];refine tkX 2 (⟨fun _=>hS0,hp0,hr0⟩) ?_;simp only [zz];refine tkX 4 (⟨fun _=>hS0,hp0,hr0⟩) ?_;simp only [zz];refine tkX 7 (⟨fun _=>hS0,hp0,hr0⟩) ?_;simp only [zz];refine tkX 9 (⟨fun _=>hS0,hp0,hr0⟩) ?_;simp only [zz];refine tkW 1 (va) (fun w' hSw=>?_) (⟨fun _=>hS0,hp0,hr0⟩) ?_
   ·(replace hSw:=hSw.1 rfl; go_simp; try with_reducible rfl)
   simp only [zz];refine takeA (i:=3) (.slice (some ad) on oc) rfl rfl (by kernel_rfl) (by kernel_rfl) (by kernel_rfl) (by decide) (fun _ _ _ h=>h) (by rfl) (fun w' hSw=>?_) (⟨fun _=>hS0,hp0,hr0⟩) ?_
   ·(obtain ⟨_,-,hc2,-⟩:=hSw; go_simp; try with_reducible rfl)
   simp only [zz];refine takeA (i:=8) (.slice (some ad) on oc) rfl rfl (by kernel_rfl) (by kernel_rfl) (by kernel_rfl) (by decide) (fun _ _ _ h=>h) (by rfl) (fun w' hSw=>?_) (⟨fun _=>hS0,hp0,hr0⟩) ?_
   ·(obtain ⟨_,-,hc2,-⟩:=hSw; go_simp; try with_reducible rfl)
   simp only [zz];refine tkX 5 (⟨fun _=>hS0,hp0,hr0⟩) ?_;simp only [zz];refine tkX 10 (⟨fun _=>hS0,hp0,hr0⟩) ?_;simp only [zz];refine takeA (i:=6) (.slice qA qn qc) rfl rfl (by kernel_rfl) (by kernel_rfl) (by kernel_rfl) (by decide) (fun _ _ _ h=>h) (by rfl) (fun w' hSw=>?_) (⟨fun _=>hS0,hp0,hr0⟩) ?_
   ·(obtain ⟨_,-,-,hc2⟩:=hSw; go_simp; try with_reducible rfl)
   simp only [zz];refine takeA (i:=11) (.slice qA qn qc) rfl rfl (by kernel_rfl) (by kernel_rfl) (by kernel_rfl) (by decide) (fun _ _ _ h=>h) (by rfl) (fun w' hSw=>?_) (⟨fun _=>hS0,hp0,hr0⟩) ?_
   ·(obtain ⟨_,-,-,hc2⟩:=hSw; go_simp; try with_reducible rfl)
   simp only [zz];refine tkX 12 (⟨fun _=>hS0,hp0,hr0⟩) ?_;simp only [zz];refine oneW (i:=13) (by kernel_rfl) rfl (by rfl) ?_;intro K hK;go_simp;(with_reducible refine (zE3 (s:=⟨qA,qn,qc⟩) (HRw.out.below hdr) hqn.out HL.out).mono ?_);rintro e w1 ⟨⟨⟨zA,zn,zc⟩,rfl,hz⟩,hb1⟩;have hS1:=Kept.call2 hb1 hS0;have hb1':Below wr.heap.size wr w1:=hdr.trans hb1;have Hnew:=hdq (zJH hQ hz HRw.out.fit);have hp1:w1.cell? ⟨w.heap.size,1,none⟩=some (.slice (some ad) on oc):=(hb1'.cell (p:=⟨w.heap.size,1,none⟩) t0).trans p1;have hr1:w1.cell? (ad.add i)=some (.slice qA qn qc):=(hb1'.cell (p:=ad.add i) hal).trans r0;refine hK.out _ _ ⟨fun _=>hS1,hp1,hr1⟩ ?_;clear hK K hz hb1;refine oneW (i:=14) (by kernel_rfl) rfl (by rfl) ?_;intro K hK;go_simp;have hw1:w.heap.size<w1.heap.size:=ltl t0 hb1'.size;have hw2:(ad.add i).block<w1.heap.size:=ltl hal hb1'.size;refine hK.out _ _ ⟨fun _=>Sees.al hS1,(World.cell?_alloc_lt _ _ _ hw1).trans hp1,(World.cell?_alloc_lt _ _ _ hw2).trans hr1⟩ ?_;clear hK K;have hown:=(zIC (hQ.call hb1')).1;rw [HTl.out] at hown;refine oneW (i:=15) (by kernel_rfl) rfl (by rfl) ?_;intro K hK;refine zAq _ _ 22 rfl (w.heap.size+1+1) 23 ii0 (.slice none 0 0) 1 24 Tryz.underlying22 hii hzi0 hzi1 hzi2 rfl (by decide) va i (s1.map SV.val) rfl (hown.alloc _) ⟨w1.heap.size,0,none⟩ 1 1 [.slice zA zn zc] rfl rfl (cell_one_new _ _ _) (by intro u hu; simp at hu; rcases hu with rfl <;> rfl) (by simp [maxLen]; omega) (by omega) (by have:=hb1'.size; simp; omega) ?_;intro v' W5 hown5 hg5 hnil5 hat5;have d1:W5.cell? ⟨w.heap.size+1+1,1,none⟩=some va:=(cob (a:=⟨w.heap.size+1+1,1,none⟩) ((hQ.call hb1').app_blk (f:=1) (by omega) (by omega) hg5 (ltl hdl hb1'.size) (.inr rfl))).trans ((hb1'.cell (p:=⟨w.heap.size+1+1,1,none⟩) hdl).trans c1);have df:∀ o,W5.frozen? ⟨w.heap.size+1+1,o,none⟩=false:=(fun o=>(World.frozen?_of_block (a:=⟨w.heap.size+1+1,o,none⟩) ((hQ.call hb1').app_blk (f:=1) (by omega) (by omega) hg5 (ltl hdl hb1'.size) (.inr rfl))).trans ((hQ.call hb1').cells.2.2.2.2 o));have hlow:∀ x,x<w.heap.size+1+1->x<wr.heap.size->¬ G x:=fun x hx _ hg=>by have:=(hQ.gin _ hg).1; omega
   have Hm:Hid (ExMid w (w.heap.size+1+1) (w.heap.size+1+1) z (L+1) (os.take (i+1)) [] [] (W5.setCell ⟨w.heap.size+1+1,1,none⟩ v')/\∀ x,x<wr.heap.size->¬ G x->(W5.setCell ⟨w.heap.size+1+1,1,none⟩ v').heap[x]?=wr.heap[x]?):=by
    obtain ⟨l1,l2,l3,e1,e2,e3⟩:=HE.out;rw [HT.out];refine zJT l1 l2 l3 hQ e1 e2 e3 hb1' (x:=⟨zA,zn,zc⟩) Hnew.out ?_ hg5 hat5;rw [HTl.out]; exact hown5
   have h5:∀ x,x<w.heap.size+1+1->x<wr.heap.size->W5.heap[x]?=wr.heap[x]?:=(fun x h1 h2=>((hQ.call hb1').app_blk (f:=1) (by omega) (by omega) hg5 (ltl h2 hb1'.size) (.inl (hlow x h1 h2))).trans (hb1'.block x h2));have hp5:W5.cell? ⟨w.heap.size,1,none⟩=some (.slice (some ad) on oc):=(cob (a:=⟨w.heap.size,1,none⟩) (h5 _ (show w.heap.size<w.heap.size+1+1 by omega) t0)).trans p1;have hr5:W5.cell? (ad.add i)=some (.slice qA qn qc):=(cob (a:=ad.add i) (h5 _ (show (ad.add i).block<w.heap.size+1+1 by omega) hal)).trans r0;have hP2:w.heap.size+1<wr.heap.size:=zAb bR.1;have bP5:=bP.heap (Hm.out.2 _ t0 (hlow _ (by omega) t0));have bR5:=bR.heap (Hm.out.2 _ hP2 (hlow _ (by omega) hP2));have HP5:=hdq (And.intro bP5 bR5);clear bP5 bR5 bP bR;obtain ⟨g5,c5,rfl⟩:=ownsRow_succ hown5;simp only [Act.put,zz];refine hK.out _ _ ⟨fun h=>absurd h (by decide),hp5,hr5⟩ ?_;clear hK K hown hown5 hg5 hat5 hnil5 hS0 hS1 hQ HE Hnew p0 p1 p2 p3 c0 c1 c2 c3 cf hb1' hp0 hr0 hp1 hr1 r0;refine oneW (i:=16) (by kernel_rfl) rfl (by rfl) ?_;intro K hK;go_simp;refine hK.out _ _ ⟨fun h=>absurd h (by decide),hp5,hr5⟩ ?_;clear hK K;refine oneW (i:=17) (by kernel_rfl) rfl (by rfl) ?_;intro K hK;go_simp;refine hK.out _ _ ⟨fun h=>absurd h (by decide),?_,?_⟩ ?_
   ·exact (cob (a:=⟨w.heap.size,1,none⟩) (bhs _ _ _ _ (show w.heap.size ≠ w.heap.size+1+1 by omega))).trans hp5
   ·exact (cob (a:=ad.add i) (bhs _ _ _ _ (show (ad.add i).block ≠ w.heap.size+1+1 by omega))).trans hr5
   clear hK K d1 df hp5 hr5;refine zAf (by kernel_rfl) ?_ _;have Hfin:Hid (OwL1 w ⟨z,⟨some ad,on,oc⟩,⟨rA,rn,rc⟩,⟨bA,bn,bc⟩⟩ (w.heap.size+1+1) (L+1) os (.int .i64 ((i:Int)+1)) (W5.setCell ⟨w.heap.size+1+1,1,none⟩ (.slice (some ⟨g5,0,none⟩) (i+1) c5))):=⟨i+1,hlt,by simp,HP5.out.1,HP5.out.2,Hm.out.1⟩;clear Hm HP5 h5 hlow;generalize W5.setCell ⟨w.heap.size+1+1,1,none⟩ (.slice (some ⟨g5,0,none⟩) (i+1) c5)=wq at *;go_wp2;go_roundw;case rel=>first | exact Hfin.out | ((repeat apply Exists.intro); exact ⟨Hfin.out,rfl⟩)
   case measure=>simp [intOf]; omega
  ·dsimp only at hi;(obtain rfl:on=i:=by omega);rw [show os.take on=os by rw [<-HOl.out]; exact List.take_length] at hM;obtain ⟨p0,p1,p2,p3,-⟩:=id bP;dsimp only at p0 p1 p2 p3;have H2:Hid (OwL2 w ⟨z,⟨oA,on,oc⟩,⟨rA,rn,rc⟩,⟨bA,bn,bc⟩⟩ (w.heap.size+1+1) (L+1) os rs (.int .i64 0) wr):=⟨0,nzl _,rfl,bP,bR,by rw [List.take_zero]; exact hM⟩;clear hM bP bR hi hlt;go_wp2;clear p0 p1 p2 p3;obtain ⟨wo,hwo⟩:∃ wo:World,wo=wr:=⟨_,rfl⟩;rw [<-hwo] at H2 ⊢;clear hwo;(go_loopw [5] (fun t W=>OwL2 w ⟨z,⟨oA,on,oc⟩,⟨rA,rn,rc⟩,⟨bA,bn,bc⟩⟩ (w.heap.size+1+1) (L+1) os rs t W) (fun t _=>rn-(intOf t).toNat));case atStart=>exact H2.out
   case round=>
    clear H2;obtain ⟨i,hi,rfl,bP,bR,hM⟩:=hrel;by_cases hlt:i<rn
    ·skip
     have ht:=zB0 (l:=rs) (i:=i) (by have:=HRl.out; omega) [];have HT:=hdq ht;have hTl:(rs.take i).length=i:=by rw [List.length_take]; have:=HRl.out; omega
     have HTl:=hdq hTl;clear ht hTl;obtain ⟨va,vb,vc,G,s1,s2,s3,l1,l2,l3,hQ,e1,e2,e3⟩:=hM;have HE:=hdq (And.intro l1 (And.intro l2 (And.intro l3 (And.intro e1 (And.intro e2 e3)))));clear l1 l2 l3 e1 e2 e3;obtain ⟨ad,r,e,-,r0,hr⟩:=(H.out.rows.below hQ.bel).row i hlt;dsimp only at e;subst e;obtain ⟨qA,qn,qc⟩:=r;have HRw:=hdq hr;have hrl:=hr.len;dsimp only at hrl
     have hqn:Hid (qn<=1000):=by
      have h1:=HR.out i;show qn<=1000; omega
     clear hr hrl;obtain ⟨c0,c1,c2,c3,cf⟩:=hQ.cells;have hdl:=hQ.dlt;obtain ⟨p0,p1,p2,p3,-⟩:=id bP;dsimp only at p0 p1 p2 p3;have hbl:=hQ.bel.size;have hal:(ad.add i).block<wr.heap.size:=zAb r0
     have hal0:(ad.add i).block<w.heap.size:=by
      obtain ⟨ad2,r2,e2,-,r02,-⟩:=H.out.rows.row i hlt;cases e2;exact zAb r02
     have t0:w.heap.size<wr.heap.size:=zAb p0;have hdr:Below wr.heap.size wr wr.drew:=(brf _ _).drew;(go_upto_region 9 with fail);refine zAp 15 (OwnS w.heap.size wr ⟨w.heap.size,2,none⟩ (ad.add i) (.slice (some ad) rn rc) (.slice qA qn qc)) (by kernel_rfl) ?_;have hS0:Sees w.heap.size [] wr wr.drew:=Sees.st (by simp) hbl;have hp0:wr.drew.cell? ⟨w.heap.size,2,none⟩=some (.slice (some ad) rn rc):=p2;have hr0:wr.drew.cell? (ad.add i)=some (.slice qA qn qc):=r0;refine tkX 0 (⟨fun _=>hS0,hp0,hr0⟩) ?_;simp only [zz];refine tkX 2 (⟨fun _=>hS0,hp0,hr0⟩) ?_;simp only [zz];refine tkX 4 (⟨fun _=>hS0,hp0,hr0⟩) ?_;simp only [zz];refine tkX 7 (⟨fun _=>hS0,hp0,hr0⟩) ?_;simp only [zz];refine tkX 9 (⟨fun _=>hS0,hp0,hr0⟩) ?_;simp only [zz];refine tkW 1 (vb) (fun w' hSw=>?_) (⟨fun _=>hS0,hp0,hr0⟩) ?_
     ·(replace hSw:=hSw.1 rfl; go_simp; try with_reducible rfl)
     simp only [zz];refine takeA (i:=3) (.slice (some ad) rn rc) rfl rfl (by kernel_rfl) (by kernel_rfl) (by kernel_rfl) (by decide) (fun _ _ _ h=>h) (by rfl) (fun w' hSw=>?_) (⟨fun _=>hS0,hp0,hr0⟩) ?_
     ·(obtain ⟨_,-,hc2,-⟩:=hSw; go_simp; try with_reducible rfl)
     simp only [zz];refine takeA (i:=8) (.slice (some ad) rn rc) rfl rfl (by kernel_rfl) (by kernel_rfl) (by kernel_rfl) (by decide) (fun _ _ _ h=>h) (by rfl) (fun w' hSw=>?_) (⟨fun _=>hS0,hp0,hr0⟩) ?_
     ·(obtain ⟨_,-,hc2,-⟩:=hSw; go_simp; try with_reducible rfl)
     simp only [zz];refine tkX 5 (⟨fun _=>hS0,hp0,hr0⟩) ?_;simp only [zz];refine tkX 10 (⟨fun _=>hS0,hp0,hr0⟩) ?_;simp only [zz];refine takeA (i:=6) (.slice qA qn qc) rfl rfl (by kernel_rfl) (by kernel_rfl) (by kernel_rfl) (by decide) (fun _ _ _ h=>h) (by rfl) (fun w' hSw=>?_) (⟨fun _=>hS0,hp0,hr0⟩) ?_
     ·(obtain ⟨_,-,-,hc2⟩:=hSw; go_simp; try with_reducible rfl)
     simp only [zz];refine takeA (i:=11) (.slice qA qn qc) rfl rfl (by kernel_rfl) (by kernel_rfl) (by kernel_rfl) (by decide) (fun _ _ _ h=>h) (by rfl) (fun w' hSw=>?_) (⟨fun _=>hS0,hp0,hr0⟩) ?_
     ·(obtain ⟨_,-,-,hc2⟩:=hSw; go_simp; try with_reducible rfl)
     simp only [zz];refine tkX 12 (⟨fun _=>hS0,hp0,hr0⟩) ?_;simp only [zz];refine oneW (i:=13) (by kernel_rfl) rfl (by rfl) ?_;intro K hK;go_simp;(with_reducible refine (zE3 (s:=⟨qA,qn,qc⟩) (HRw.out.below hdr) hqn.out HL.out).mono ?_);rintro e w1 ⟨⟨⟨zA,zn,zc⟩,rfl,hz⟩,hb1⟩;have hS1:=Kept.call2 hb1 hS0;have hb1':Below wr.heap.size wr w1:=hdr.trans hb1;have Hnew:=hdq (zJH hQ hz HRw.out.fit);have hp1:w1.cell? ⟨w.heap.size,2,none⟩=some (.slice (some ad) rn rc):=(hb1'.cell (p:=⟨w.heap.size,2,none⟩) t0).trans p2;have hr1:w1.cell? (ad.add i)=some (.slice qA qn qc):=(hb1'.cell (p:=ad.add i) hal).trans r0;refine hK.out _ _ ⟨fun _=>hS1,hp1,hr1⟩ ?_;clear hK K hz hb1;refine oneW (i:=14) (by kernel_rfl) rfl (by rfl) ?_;intro K hK;go_simp;have hw1:w.heap.size<w1.heap.size:=ltl t0 hb1'.size;have hw2:(ad.add i).block<w1.heap.size:=ltl hal hb1'.size;refine hK.out _ _ ⟨fun _=>Sees.al hS1,(World.cell?_alloc_lt _ _ _ hw1).trans hp1,(World.cell?_alloc_lt _ _ _ hw2).trans hr1⟩ ?_;clear hK K;have hown:=(zIC (hQ.call hb1')).2.1;rw [HTl.out] at hown;refine oneW (i:=15) (by kernel_rfl) rfl (by rfl) ?_;intro K hK;refine zAq _ _ 22 rfl (w.heap.size+1+1) 23 ii0 (.slice none 0 0) 1 24 Tryz.underlying22 hii hzi0 hzi1 hzi2 rfl (by decide) vb i (s2.map SV.val) rfl (hown.alloc _) ⟨w1.heap.size,0,none⟩ 1 1 [.slice zA zn zc] rfl rfl (cell_one_new _ _ _) (by intro u hu; simp at hu; rcases hu with rfl <;> rfl) (by simp [maxLen]; omega) (by omega) (by have:=hb1'.size; simp; omega) ?_;intro v' W5 hown5 hg5 hnil5 hat5;have d1:W5.cell? ⟨w.heap.size+1+1,2,none⟩=some vb:=(cob (a:=⟨w.heap.size+1+1,2,none⟩) ((hQ.call hb1').app_blk (f:=2) (by omega) (by omega) hg5 (ltl hdl hb1'.size) (.inr rfl))).trans ((hb1'.cell (p:=⟨w.heap.size+1+1,2,none⟩) hdl).trans c2);have df:∀ o,W5.frozen? ⟨w.heap.size+1+1,o,none⟩=false:=(fun o=>(World.frozen?_of_block (a:=⟨w.heap.size+1+1,o,none⟩) ((hQ.call hb1').app_blk (f:=2) (by omega) (by omega) hg5 (ltl hdl hb1'.size) (.inr rfl))).trans ((hQ.call hb1').cells.2.2.2.2 o));have hlow:∀ x,x<w.heap.size+1+1->x<wr.heap.size->¬ G x:=fun x hx _ hg=>by have:=(hQ.gin _ hg).1; omega
     have Hm:Hid (ExMid w (w.heap.size+1+1) (w.heap.size+1+1) z (L+1) os (rs.take (i+1)) [] (W5.setCell ⟨w.heap.size+1+1,2,none⟩ v')/\∀ x,x<wr.heap.size->¬ G x->(W5.setCell ⟨w.heap.size+1+1,2,none⟩ v').heap[x]?=wr.heap[x]?):=by
      obtain ⟨l1,l2,l3,e1,e2,e3⟩:=HE.out;rw [HT.out];refine zJU l1 l2 l3 hQ e1 e2 e3 hb1' (x:=⟨zA,zn,zc⟩) Hnew.out ?_ hg5 hat5;rw [HTl.out]; exact hown5
     have h5:∀ x,x<w.heap.size+1+1->x<wr.heap.size->W5.heap[x]?=wr.heap[x]?:=(fun x h1 h2=>((hQ.call hb1').app_blk (f:=2) (by omega) (by omega) hg5 (ltl h2 hb1'.size) (.inl (hlow x h1 h2))).trans (hb1'.block x h2));have hp5:W5.cell? ⟨w.heap.size,2,none⟩=some (.slice (some ad) rn rc):=(cob (a:=⟨w.heap.size,2,none⟩) (h5 _ (show w.heap.size<w.heap.size+1+1 by omega) t0)).trans p2;have hr5:W5.cell? (ad.add i)=some (.slice qA qn qc):=(cob (a:=ad.add i) (h5 _ (show (ad.add i).block<w.heap.size+1+1 by omega) hal)).trans r0;have hP2:w.heap.size+1<wr.heap.size:=zAb bR.1;have bP5:=bP.heap (Hm.out.2 _ t0 (hlow _ (by omega) t0));have bR5:=bR.heap (Hm.out.2 _ hP2 (hlow _ (by omega) hP2));have HP5:=hdq (And.intro bP5 bR5);clear bP5 bR5 bP bR;obtain ⟨g5,c5,rfl⟩:=ownsRow_succ hown5;simp only [Act.put,zz];refine hK.out _ _ ⟨fun h=>absurd h (by decide),hp5,hr5⟩ ?_;clear hK K hown hown5 hg5 hat5 hnil5 hS0 hS1 hQ HE Hnew p0 p1 p2 p3 c0 c1 c2 c3 cf hb1' hp0 hr0 hp1 hr1 r0;refine oneW (i:=16) (by kernel_rfl) rfl (by rfl) ?_;intro K hK;go_simp;refine hK.out _ _ ⟨fun h=>absurd h (by decide),hp5,hr5⟩ ?_;clear hK K;refine oneW (i:=17) (by kernel_rfl) rfl (by rfl) ?_;intro K hK;go_simp;refine hK.out _ _ ⟨fun h=>absurd h (by decide),?_,?_⟩ ?_
     ·exact (cob (a:=⟨w.heap.size,2,none⟩) (bhs _ _ _ _ (show w.heap.size ≠ w.heap.size+1+1 by omega))).trans hp5
     ·exact (cob (a:=ad.add i) (bhs _ _ _ _ (show (ad.add i).block ≠ w.heap.size+1+1 by omega))).trans hr5
     clear hK K d1 df hp5 hr5;refine zAf (by kernel_rfl) ?_ _;have Hfin:Hid (OwL2 w ⟨z,⟨oA,on,oc⟩,⟨some ad,rn,rc⟩,⟨bA,bn,bc⟩⟩ (w.heap.size+1+1) (L+1) os rs (.int .i64 ((i:Int)+1)) (W5.setCell ⟨w.heap.size+1+1,2,none⟩ (.slice (some ⟨g5,0,none⟩) (i+1) c5))):=⟨i+1,hlt,by simp,HP5.out.1,HP5.out.2,Hm.out.1⟩;clear Hm HP5 h5 hlow;generalize W5.setCell ⟨w.heap.size+1+1,2,none⟩ (.slice (some ⟨g5,0,none⟩) (i+1) c5)=wq at *;go_wp2;go_roundw;case rel=>first | exact Hfin.out | ((repeat apply Exists.intro); exact ⟨Hfin.out,rfl⟩)
     case measure=>simp [intOf]; omega
    ·dsimp only at hi;(obtain rfl:rn=i:=by omega);rw [show rs.take rn=rs by rw [<-HRl.out]; exact List.take_length] at hM;obtain ⟨p0,p1,p2,p3,-⟩:=id bP;dsimp only at p0 p1 p2 p3;obtain ⟨r0,r1,r2,r3,rf⟩:=id bR;obtain ⟨g,gc,⟨RA,Rn,Rc⟩,vc,hRn,hblk,hg,hgd,hd,hgc1,hgc2,hcur,hrow,hmat,hbel,hge⟩:=zID hM (by rw [HOl.out]; exact ho1);have HG:=hdq (And.intro hRn (And.intro hg (And.intro hgd (And.intro hgc1 (And.intro hgc2 (And.intro hcur (And.intro hrow hmat)))))));have hbl:=hbel.size;have HBn:=hdq (H.out.bounds.below hbel);(obtain ⟨c0,c1,c2,c3,cf⟩:wr.cell? ⟨w.heap.size+1+1,0,none⟩=some (.int .i64 z)/\wr.cell? ⟨w.heap.size+1+1,1,none⟩=some (.slice (some ⟨g,0,none⟩) os.length gc)/\wr.cell? ⟨w.heap.size+1+1,2,none⟩=some (.slice RA Rn Rc)/\wr.cell? ⟨w.heap.size+1+1,3,none⟩=some vc/\∀ o,wr.frozen? ⟨w.heap.size+1+1,o,none⟩=false:=by simp [World.cell?,World.frozen?,hblk]);clear hRn hg hgd hd hgc1 hgc2 hcur hrow hmat hge hM bP hi hlt;(go_wp2_with fail);refine (zEy (s:=⟨bA,bn,bc⟩) HBn.out hb HL.out).mono ?_;rintro e w1 ⟨⟨⟨zA,zn,zc⟩,rfl,hzB⟩,hb1⟩;have HZB:=hdq hzB
     have HZ:Hid (VecIs w1 (New wr.heap.size) (New wr.heap.size) (L+1) ⟨zA,zn,zc⟩ bs):=by
      obtain ⟨gz,hgz,-,hz⟩:=hzB;have hz:VecCan w1 (New wr.heap.size) (New wr.heap.size) ⟨zA,zn,zc⟩ bs:=hz.imp (fun b _ h=>by subst h; exact hgz) fun _ _ h=>h.imp fun _ _ h=>h.2
      exact hz.loose HBn.out.fit
     clear hzB;have hd1:w.heap.size+1+1<wr.heap.size:=zAb c0;have hr1:w.heap.size+1<wr.heap.size:=zAb r0;have bD:Box4 wr (w.heap.size+1+1) (.int .i64 z) (.slice (some ⟨g,0,none⟩) os.length gc) (.slice RA Rn Rc) vc:=⟨c0,c1,c2,c3,cf⟩;replace bD:=bD.below hb1 hd1;replace bR:=bR.below hb1 hr1;clear c0 c1 c2 c3 cf r0 r1 r2 r3 rf p0 p1 p2 p3;obtain ⟨c0,c1,c2,c3,cf⟩:=id bD;obtain ⟨r0,r1,r2,r3,rf⟩:=id bR;(go_upto_region 11 with fail);have k6:∀ b,b ≠ w.heap.size+1+1->(w1.setCell ⟨w.heap.size+1+1,3,none⟩ (.slice zA zn zc)).heap[b]?=w1.heap[b]?:=(fun b hb=>bhs _ _ _ _ hb);have bD6:Box4 (w1.setCell ⟨w.heap.size+1+1,3,none⟩ (.slice zA zn zc)) (w.heap.size+1+1) (.int .i64 z) (.slice (some ⟨g,0,none⟩) os.length gc) (.slice RA Rn Rc) (.slice zA zn zc):=⟨by go_simp,by go_simp,by go_simp,by go_simp,by intro o; go_simp⟩;have bR6:=bR.heap (k6 _ (show w.heap.size+1 ≠ w.heap.size+1+1 by omega));have hb6:Below w.heap.size w1 (w1.setCell ⟨w.heap.size+1+1,3,none⟩ (.slice zA zn zc)):=(brf _ _).setCell (p:=⟨w.heap.size+1+1,3,none⟩) (show w.heap.size<=w.heap.size+1+1 by omega) _;have hs6:(w1.setCell ⟨w.heap.size+1+1,3,none⟩ (.slice zA zn zc)).heap.size=w1.heap.size:=(by simp [World.setCell]);generalize w1.setCell ⟨w.heap.size+1+1,3,none⟩ (.slice zA zn zc)=w6 at *;clear c0 c1 c2 c3 cf r0 r1 r2 r3 rf bD bR;obtain ⟨c0,c1,c2,c3,cf⟩:=id bD6;obtain ⟨r0,r1,r2,r3,rf⟩:=id bR6;go_wp2;have P8:=Put.four (W:=w6) (w.heap.size+1) (.int .i64 z) (.slice (some ⟨g,0,none⟩) os.length gc) (.slice RA Rn Rc) (.slice zA zn zc);have bR8:=bR6.stored (.int .i64 z) (.slice (some ⟨g,0,none⟩) os.length gc) (.slice RA Rn Rc) (.slice zA zn zc);generalize (((w6.setCell ⟨w.heap.size+1,0,none⟩ (.int .i64 z)).setCell ⟨w.heap.size+1,1,none⟩ (.slice (some ⟨g,0,none⟩) os.length gc)).setCell ⟨w.heap.size+1,2,none⟩ (.slice RA Rn Rc)).setCell ⟨w.heap.size+1,3,none⟩ (.slice zA zn zc)=y8 at *;clear r0 r1 r2 r3 rf;obtain ⟨r0,r1,r2,r3,-⟩:=id bR8;obtain ⟨-,g1,g2,g3,g4,g5,g6,g7,g8⟩:=(⟨trivial,HG.out⟩:True/\_);refine bodyPost_ret (v:=.agg #[.int .i64 z,.slice (some ⟨g,0,none⟩) os.length gc,.slice RA Rn Rc,.slice zA zn zc]) (by simp [results,Tryz.results19,go_sem,r0,r1,r2,r3]) rfl ⟨⟨⟨z,⟨some ⟨g,0,none⟩,os.length,gc⟩,⟨RA,Rn,Rc⟩,⟨zA,zn,zc⟩⟩,g,rfl,rfl,?_⟩,?_⟩
     ·exact ⟨zJY g2 g3 (by omega) (by omega) hd1 g4 g5 g6 g7 g8 hb1 HZ.out fun b h1 h2=>(P8.keep b h2).trans (k6 b h1),
       zJi g2 g3 (by omega) (by omega) hd1 g4 g5 g6 g7 g8 hb1 HZB.out HBn.out.fit fun b h1 h2=>(P8.keep b h2).trans (k6 b h1)⟩
     ·exact ((hbel.trans (hb1.mono hbl)).trans hb6).trans (P8.below _ (by omega))
theorem zJZ {V N:Nat} (h:V<=4):5 ^ V*N<=625*N:=Nat.mul_le_mul_right _ (Nat.pow_le_pow_right (by decide) h)
theorem zJh (row:Nat) (up:Bool) (k i:Nat):Lin.Fits k (mch row up i):=by
 unfold mch
 split
 ·split
  ·exact Lin.Fits.one _
  ·exact (Lin.Fits.one _).neg
 ·exact Lin.Fits.zero _
theorem zEc {w:World} {X Y:Nat->Prop} {L V E:Nat} {p:LPV} {os rs:List (List Rat)} {bs:List Rat} (h:LPIs w X Y L p os rs bs) (hV:V<=4) {ch:Option (Nat->Rat)} (hE:E+1-V=Lin.given ch) (hVE:V<=E) (hc:∀ c,ch=some c->∀ i,Lin.Fits (32*(L+1)) (c i)) {D:Lin.Dict} (hD:PInv (prob1 V os rs bs) ch D) :
  (∀ i,Lin.Fits (625*(32*(L+1))) (D.dual (prob1 V os rs bs) i))/\Lin.Fits (625*(32*(L+1))) (D.c 0 V):=by
 have hf:=zBE h hE hc D hD;have hm:∀ j,j<=E->Lin.Fits (625*(32*(L+1))) (D.c 0 j):=fun j hj=>(hf.c j hj).mono (zJZ hV)
 refine ⟨fun i=>?_,hm V hVE⟩;by_cases he:∃ j,j<V/\D.free j=V+i
 ·obtain ⟨j,hj,e⟩:=he;rw [hD.1.dual_free (P:=prob1 V os rs bs) hj e];exact hm j (by omega)
 ·rw [Lin.zER (P:=prob1 V os rs bs) fun j hj e=>he ⟨j,hj,e⟩];exact Lin.Fits.zero _
theorem zIL {p q t:Rat} (h1:0<=t->q<=p) (h2:t<=0->p<=q):0<=qcmp p q*qsign t/\qcmp p q*qsign t<=1:=by
 unfold qcmp qsign
 split <;> (split <;> (try split) <;> (try split)) <;> first | omega | (exfalso; grind)
set_option maxRecDepth 40000 in
theorem zDu {w:World} {p:LPV} {mv:QV} {most:Rat} {n1:Nat} {os rs:List (List Rat)} {bs:List Rat} (h:LPRaw w AllB (QAny w AllB) p os rs bs) (hm:QAny w AllB mv most) (hn1:n1<256) :
  Calls Tryz.prog 8 #[p.val,.int .u8 n1,mv.val] w fun e w'=>e = .returned (.bool true)/\Below w.heap.size w w':=by
 obtain ⟨z,⟨oA,on,oc⟩,⟨rA,rn,rc⟩,⟨bA,bn,bc⟩⟩:=p;replace h:=hdq h;replace hm:=hdq hm;dsimp only [LPV.val,SV.val] at *;have hrc:rn<=9223372036854775807:=nlt h.out.rows.le h.out.rows.cap;go_enter Tryz.func8,Tryz.ntmps8
 go_upto_region 1 with fail
 refine zAo (fun W=>Below w.heap.size w W/\Box4 W w.heap.size (.int .i64 z) (.slice oA on oc) (.slice rA rn rc) (.slice bA bn bc)/\Box4 W (w.heap.size+1) (.bool mv.num.ng) (.slice mv.num.A mv.num.n mv.num.c) (.bool mv.den.ng) (.slice mv.den.A mv.den.n mv.den.c)/\w.heap.size<W.heap.size/\w.heap.size+1<W.heap.size) ⟨(((brf _ _).alloc (by simp <;> omega) _).alloc (by simp <;> omega) _),⟨by go_simp,by go_simp,by go_simp,by go_simp,by intro o; go_simp⟩,⟨by go_simp,by go_simp,by go_simp,by go_simp,by intro o; go_simp⟩,by simp <;> omega,by simp <;> omega⟩ ?_;rintro W ⟨hbW,bP,bM,s0,s1⟩;have hBW:=hbW.size;obtain ⟨p0,p1,p2,p3,-⟩:=id bP;obtain ⟨m0,m1,m2,m3,-⟩:=id bM;clear hBW;go_wp2_with fail
 refine (zFQ (p:=⟨z,⟨oA,on,oc⟩,⟨rA,rn,rc⟩,⟨bA,bn,bc⟩⟩) (h.out.below hbW)).mono ?_;rintro e w1 ⟨⟨b,rfl,hbb⟩,hb1⟩
 cases b with
 | true=>
  clear hbb;replace bP:=bP.below hb1 s0;replace bM:=bM.below hb1 s1;replace s0:=ltl s0 hb1.size;replace s1:=ltl s1 hb1.size;replace hbW:=hbW.trans (hb1.mono hbW.size);clear p0 p1 p2 p3 m0 m1 m2 m3;obtain ⟨p0,p1,p2,p3,-⟩:=id bP;obtain ⟨m0,m1,m2,m3,-⟩:=id bM;go_wp2_with fail
  refine zAG.mono ?_;rintro e wl ⟨rfl,hbl⟩;have hbf:=hbW.trans (hbl.mono hbW.size);go_wp2;go_ret
  exact ⟨rfl,hbf⟩
 | false=>
  have HS:=hdq (And.intro (Short6.back h.out hbW (hbb rfl).1) (hbb rfl).2);clear hbb;replace bP:=bP.below hb1 s0;replace bM:=bM.below hb1 s1;replace s0:=ltl s0 hb1.size;replace s1:=ltl s1 hb1.size;replace hbW:=hbW.trans (hb1.mono hbW.size);clear p0 p1 p2 p3 m0 m1 m2 m3;obtain ⟨p0,p1,p2,p3,-⟩:=id bP;obtain ⟨m0,m1,m2,m3,-⟩:=id bM;go_wp2_with fail
  have al5:(w1.alloc (.cells #[.bool mv.num.ng,.slice mv.num.A mv.num.n mv.num.c,.bool mv.den.ng,.slice mv.den.A mv.den.n mv.den.c] 30)).heap[w1.heap.size]?=some (.cells #[.bool mv.num.ng,.slice mv.num.A mv.num.n mv.num.c,.bool mv.den.ng,.slice mv.den.A mv.den.n mv.den.c] 30 (0,0)):=zAd _ _ rfl;have hb5:Below w1.heap.size w1 (w1.alloc (.cells #[.bool mv.num.ng,.slice mv.num.A mv.num.n mv.num.c,.bool mv.den.ng,.slice mv.den.A mv.den.n mv.den.c] 30)):=(brf _ _).alloc (nlr _) _;replace bP:=bP.below hb5 s0;replace bM:=bM.below hb5 s1;replace s0:=ltl s0 hb5.size;replace s1:=ltl s1 hb5.size;replace hbW:=hbW.trans (hb5.mono hbW.size);clear p0 p1 p2 p3 m0 m1 m2 m3;obtain ⟨p0,p1,p2,p3,-⟩:=id bP;obtain ⟨m0,m1,m2,m3,-⟩:=id bM;refine (zDG (zJ6 al5 (hm.out.below hbW))).mono ?_;rintro e w6 ⟨⟨b,rfl,hbb⟩,hb6⟩
  cases b with
  | true=>
   clear hbb;replace bP:=bP.below hb6 s0;replace bM:=bM.below hb6 s1;replace s0:=ltl s0 hb6.size;replace s1:=ltl s1 hb6.size;replace hbW:=hbW.trans (hb6.mono hbW.size);clear p0 p1 p2 p3 m0 m1 m2 m3;obtain ⟨p0,p1,p2,p3,-⟩:=id bP;obtain ⟨m0,m1,m2,m3,-⟩:=id bM;(go_wp2_with fail);refine zAG.mono ?_;rintro e wl ⟨rfl,hbl⟩;have hbf:=hbW.trans (hbl.mono hbW.size);go_wp2;go_ret
   exact ⟨rfl,hbf⟩
  | false=>
   have HMost:=hdq (zJ3 hm.out al5 (hbb rfl));clear hbb al5;replace bP:=bP.below hb6 s0;replace bM:=bM.below hb6 s1;replace s0:=ltl s0 hb6.size;replace s1:=ltl s1 hb6.size;replace hbW:=hbW.trans (hb6.mono hbW.size);clear p0 p1 p2 p3 m0 m1 m2 m3;obtain ⟨p0,p1,p2,p3,-⟩:=id bP;obtain ⟨m0,m1,m2,m3,-⟩:=id bM;clear hb1 hb5 hb6;by_cases hr0:rn=0
   ·subst hr0;(go_wp2_with fail);refine zAG.mono ?_;rintro e wl ⟨rfl,hbl⟩;have hbf:=hbW.trans (hbl.mono hbW.size);go_wp2;go_ret;exact ⟨rfl,hbf⟩
   ·have hr1:((rn:Int) == 0)=false:=by simp; omega
    have hr2:¬ (rn=0):=hr0;have hr3:(rn == 0)=false:=by simp; omega
    obtain ⟨k,hk⟩:∃ k,n1 % rn=k:=⟨_,rfl⟩;have hkr:k<rn:=by rw [<-hk]; exact Nat.mod_lt _ (by omega)
    have hmod:((n1:Int)).tmod (rn:Int)=(k:Int):=(by rw [zDj,hk]);have hmod':((n1:Int)) % (rn:Int)=(k:Int):=by rw [<-hk]; rfl
    have HK:=hdq hk;clear hk;(go_wp2_with fail);obtain ⟨m,hmm⟩:∃ m,mayB ⟨z,⟨oA,on,oc⟩,⟨rA,rn,rc⟩,⟨bA,bn,bc⟩⟩ os rs=m:=⟨_,rfl⟩
    cases m with
    | false=>
     refine (zDU (p:=⟨z,⟨oA,on,oc⟩,⟨rA,rn,rc⟩,⟨bA,bn,bc⟩⟩) (h.out.below hbW) hmm).mono ?_;rintro e w7 ⟨rfl,hb7⟩;replace bP:=bP.below hb7 s0;replace bM:=bM.below hb7 s1;replace s0:=ltl s0 hb7.size;replace s1:=ltl s1 hb7.size;replace hbW:=hbW.trans (hb7.mono hbW.size);clear p0 p1 p2 p3 m0 m1 m2 m3;obtain ⟨p0,p1,p2,p3,-⟩:=id bP;obtain ⟨m0,m1,m2,m3,-⟩:=id bM;(go_wp2_with fail);have al8:Below w7.heap.size w7 (w7.alloc (.cells #[.bool false,.slice none 0 0,.bool false,.slice none 0 0] 30)):=(brf _ _).alloc (nlr _) _;replace bP:=bP.below al8 s0;replace bM:=bM.below al8 s1;replace s0:=ltl s0 al8.size;replace s1:=ltl s1 al8.size;replace hbW:=hbW.trans (al8.mono hbW.size);clear p0 p1 p2 p3 m0 m1 m2 m3;obtain ⟨p0,p1,p2,p3,-⟩:=id bP;obtain ⟨m0,m1,m2,m3,-⟩:=id bM;(go_wp2_with fail);refine zAG.mono ?_;rintro e wl ⟨rfl,hbl⟩;have hbf:=hbW.trans (hbl.mono hbW.size);go_wp2;go_ret
     exact ⟨rfl,hbf⟩
    | true=>
     have HF:=hdq (zHY HS.out.1 HS.out.2 hmm);obtain ⟨V,rfl⟩:∃ V:Nat,z=V:=⟨z.toNat,by have:=HF.out.1; show z=(z.toNat:Int); simp only at this; omega⟩;have hon:on<=4:=HF.out.2.2.2.1;have hrn:rn<=4:=HF.out.2.2.2.2.1;obtain rfl:rn=bn:=HF.out.2.2.2.2.2.1.symm;have ho1:1<=on:=HF.out.2.2.1;have HC1:Hid (colsOf os<=V):=by have:=HF.out.2.2.2.2.2.2.1; dsimp only at this; show colsOf os<=V; omega
     have HC2:Hid (colsOf rs<=V):=by have:=HF.out.2.2.2.2.2.2.2.1; dsimp only at this; show colsOf rs<=V; omega
     have hV4:V<=4:=by have:=HF.out.2.1; dsimp only at this; omega
     have HP:=hdq (HF.out.2.2.2.2.2.2.2.2);have HO:Hid (os.length=on):=HP.out.obj.len;have HRl:Hid (rs.length=rn):=HP.out.rows.len;have HBl:Hid (bs.length=rn):=HP.out.bounds.len;clear HS hmm HF;refine (zBd (p:=⟨V,⟨oA,on,oc⟩,⟨rA,rn,rc⟩,⟨bA,rn,bc⟩⟩) (V:=V) (HP.out.below hbW) rfl (by omega) ho1 hon (by show rn<=_; omega) rfl HC1.out HC2.out (by omega)).mono ?_;rintro e w7 ⟨ho,hb7⟩;rcases ho with ⟨D0,v,hI0,hE0,rfl,hv⟩ | ⟨D0,-,-,rfl⟩ | ⟨D0,-,-,rfl⟩
     ·have HE0:=hdq (And.intro hI0 hE0);have HV:=hdq hv;clear hI0 hE0 hv;replace bP:=bP.below hb7 s0;replace bM:=bM.below hb7 s1;replace s0:=ltl s0 hb7.size;replace s1:=ltl s1 hb7.size;replace hbW:=hbW.trans (hb7.mono hbW.size);clear p0 p1 p2 p3 m0 m1 m2 m3;obtain ⟨p0,p1,p2,p3,-⟩:=id bP;obtain ⟨m0,m1,m2,m3,-⟩:=id bM;(go_wp2_with fail);have al:Below w7.heap.size w7 (w7.alloc (.cells #[.bool v.num.ng,.slice v.num.A v.num.n v.num.c,.bool v.den.ng,.slice v.den.A v.den.n v.den.c] 30)):=(brf _ _).alloc (nlr _) _;have Pv:QBlk (w7.alloc (.cells #[.bool v.num.ng,.slice v.num.A v.num.n v.num.c,.bool v.den.ng,.slice v.den.A v.den.n v.den.c] 30)) w7.heap.size v:=zAd _ _ rfl;replace HV:=hdq (HV.out.below al);replace bP:=bP.below al s0;replace bM:=bM.below al s1;replace s0:=ltl s0 al.size;replace s1:=ltl s1 al.size;replace hbW:=hbW.trans (al.mono hbW.size);clear p0 p1 p2 p3 m0 m1 m2 m3;obtain ⟨p0,p1,p2,p3,-⟩:=id bP;obtain ⟨m0,m1,m2,m3,-⟩:=id bM;clear al hb7;generalize w7.alloc (.cells #[.bool v.num.ng,.slice v.num.A v.num.n v.num.c,.bool v.den.ng,.slice v.den.A v.den.n v.den.c] 30)=W7 at *;generalize w7.heap.size=bv at *;have sv:=zAa Pv;replace HV:Hid (QCan W7 (fun b=>b<W7.heap.size) v (D0.c 0 (prob1 V os rs bs).n)):=HV.out.imp fun b hb _=>hb
      refine (zIB (p:=⟨V,⟨oA,on,oc⟩,⟨rA,rn,rc⟩,⟨bA,rn,bc⟩⟩) (HP.out.below hbW) ho1 (by show on<=_; omega) (by show rn<=_; omega) (by show rn<=_; omega) (fun i=>nlt (zBT HC1.out i) (by omega)) (fun i=>nlt (zBT HC2.out i) (by omega)) (by omega)).mono ?_;rintro e w8 ⟨⟨⟨z,⟨xA,xn,xc⟩,⟨gA,gn,gc⟩,⟨uA,un,uc⟩⟩,g0,rfl,hz,-,g,hq⟩,hb8⟩;dsimp only at hz;subst hz;have e1:xn=on:=by have:=hq.obj.len; have:=HO.out; dsimp only at *; omega
      have e2:gn=rn:=by have:=hq.rows.len; have:=HRl.out; dsimp only at *; omega
      have e3:un=rn:=by have:=hq.bounds.len; have:=HBl.out; dsimp only at *; omega
      subst e1 e2 e3;have HQ:=hdq hq;replace HV:=hdq (HV.out.below hb8);replace Pv:=heapK Pv hb8;have hgB:=hq.ge;have s17:w.heap.size+1<W7.heap.size:=s1;replace bP:=bP.below hb8 s0;replace bM:=bM.below hb8 s1;replace s0:=ltl s0 hb8.size;replace s1:=ltl s1 hb8.size;replace hbW:=hbW.trans (hb8.mono hbW.size);clear p0 p1 p2 p3 m0 m1 m2 m3;obtain ⟨p0,p1,p2,p3,-⟩:=id bP;obtain ⟨m0,m1,m2,m3,-⟩:=id bM;clear hq hb8;(go_upto_region 10 with fail);have al:Below w8.heap.size w8 (w8.alloc (.cells #[.int .i64 V,.slice xA xn xc,.slice gA un gc,.slice uA un uc] 25)):=(brf _ _).alloc (nlr _) _;have bQ:LBlk (w8.alloc (.cells #[.int .i64 V,.slice xA xn xc,.slice gA un gc,.slice uA un uc] 25)) w8.heap.size V ⟨xA,xn,xc⟩ ⟨gA,un,gc⟩ ⟨uA,un,uc⟩:=zAd _ _ rfl;obtain ⟨e0,cs,hcs,hsz⟩:=HQ.out.blk.resolve_left (by show ¬ (un=0); omega);dsimp only at e0 hsz;have hg8:=zAa hcs;have hd:¬ (w8.heap.size=g):=(by omega);have hd1:¬ (w.heap.size=g):=(by omega);have hd2:¬ (w.heap.size+1=g):=(by omega);have hbv:bv<W7.heap.size:=sv;have hd3:¬ (bv=g):=(by omega);replace HV:=hdq (HV.out.below al);replace Pv:=heapK Pv al;replace HQ:=hdq (HQ.out.below al);replace bP:=bP.below al s0;replace bM:=bM.below al s1;replace s0:=ltl s0 al.size;replace s1:=ltl s1 al.size;replace hbW:=hbW.trans (al.mono hbW.size);clear p0 p1 p2 p3 m0 m1 m2 m3;obtain ⟨p0,p1,p2,p3,-⟩:=id bP;obtain ⟨m0,m1,m2,m3,-⟩:=id bM;clear al hcs hsz cs;generalize w8.alloc (.cells #[.int .i64 V,.slice xA xn xc,.slice gA un gc,.slice uA un uc] 25)=W at *;generalize w8.heap.size=bq at *;subst e0;obtain ⟨-,cs,hcs,hsz⟩:=HQ.out.blk.resolve_left (by show ¬ (un=0); omega);obtain ⟨ad,u,ea,-,hcl,hu⟩:=HQ.out.bounds.elem k hkr;obtain rfl:ad=⟨g,0,none⟩:=(Option.some.inj ea).symm;rw [zA4,Nat.zero_add] at hcl;obtain ⟨c0,c1,c2,c3⟩:=hcl;dsimp only at c0 c1 c2 c3;obtain ⟨q0,q1,q2,q3,-⟩:=zB7 (O:=⟨xA,xn,xc⟩) (R:=⟨gA,un,gc⟩) (B:=⟨some ⟨g,0,none⟩,un,uc⟩) bQ;dsimp only at q0 q1 q2 q3;have sq:=zAa bQ;have sg:g<W.heap.size:=zAa hcs;have hle:un<=uc:=HQ.out.bounds.le;have hcap:uc<=9223372036854775807:=HQ.out.bounds.cap;have gf:∀ o,W.frozen? ⟨g,o,none⟩=false:=(fun o=>by simp [World.frozen?,hcs]);have hki:(k:Int)<(un:Int):=(by omega);have hk0:(0:Int)<=(k:Int):=(by omega);have bW:=hbW.size;have HU:=hdq hu;clear hu ea hsz;refine zAp 11 (fun f w'=>Sees w.heap.size [g] W w'/\(f=false->Sees w.heap.size [] W w')) (by kernel_rfl) ?_;have hS0:Sees w.heap.size [g] W W.drew:=Sees.st (by simp; omega) bW;have hS1:Sees w.heap.size [] W W.drew:=Sees.st (by simp) bW;refine takeA (i:=0) ?_ rfl rfl (by kernel_rfl) (by kernel_rfl) (by kernel_rfl) (by decide) (fun _ _ _ h=>h) (by rfl) (fun w' hSw=>?_) (⟨hS0,fun _=>hS1⟩) ?_;rotate_left
      ·((obtain ⟨_,hSv⟩:=hSw; replace hSw:=hSv.1); go_simp; try with_reducible rfl)
      simp only [zz];refine takeA (i:=1) ?_ rfl rfl (by kernel_rfl) (by kernel_rfl) (by kernel_rfl) (by decide) (fun _ _ _ h=>h) (by rfl) (fun w' hSw=>?_) (⟨hS0,fun _=>hS1⟩) ?_;rotate_left
      ·((obtain ⟨_,hSv⟩:=hSw; replace hSw:=hSv.1); go_simp; try with_reducible rfl)
      simp only [zz];refine takeA (i:=2) ?_ rfl rfl (by kernel_rfl) (by kernel_rfl) (by kernel_rfl) (by decide) (fun _ _ _ h=>h) (by rfl) (fun w' hSw=>?_) (⟨hS0,fun _=>hS1⟩) ?_;rotate_left
      ·((obtain ⟨_,hSv⟩:=hSw; replace hSw:=hSv.1); go_simp; try with_reducible rfl)
      simp only [zz];refine takeA (i:=3) ?_ rfl rfl (by kernel_rfl) (by kernel_rfl) (by kernel_rfl) (by decide) (fun _ _ _ h=>h) (by rfl) (fun w' hSw=>?_) (⟨hS0,fun _=>hS1⟩) ?_;rotate_left
      ·((obtain ⟨_,hSv⟩:=hSw; replace hSw:=hSv.1); go_simp; try with_reducible rfl)
      simp only [zz];refine takeA (i:=4) ?_ rfl rfl (by kernel_rfl) (by kernel_rfl) (by kernel_rfl) (by decide) (fun _ _ _ h=>h) (by rfl) (fun w' hSw=>?_) (⟨hS0,fun _=>hS1⟩) ?_;rotate_left
      ·((obtain ⟨_,hSv⟩:=hSw; replace hSw:=hSv.1); go_simp; try with_reducible rfl)
      simp only [zz];refine takeA (i:=5) ?_ rfl rfl (by kernel_rfl) (by kernel_rfl) (by kernel_rfl) (by decide) (fun _ _ _ h=>h) (by rfl) (fun w' hSw=>?_) (⟨hS0,fun _=>hS1⟩) ?_;rotate_left
      ·((obtain ⟨_,hSv⟩:=hSw; replace hSw:=hSv.1); go_simp; try with_reducible rfl)
      simp only [zz];refine takeA (i:=6) ?_ rfl rfl (by kernel_rfl) (by kernel_rfl) (by kernel_rfl) (by decide) (fun _ _ _ h=>h) (by rfl) (fun w' hSw=>?_) (⟨hS0,fun _=>hS1⟩) ?_;rotate_left
      ·((obtain ⟨_,hSv⟩:=hSw; replace hSw:=hSv.1); go_simp; try with_reducible rfl)
      simp only [zz];refine tkV 7 9 (u.val) (fun w' hSw=>?_) (⟨hS0,fun _=>hS1⟩) ?_
      ·(replace hSw:=hSw.2 rfl; go_simp; try with_reducible rfl)
      simp only [zz];refine takeA (i:=8) ?_ rfl rfl (by kernel_rfl) (by kernel_rfl) (by kernel_rfl) (by decide) (fun _ _ _ h=>h) (by rfl) (fun w' hSw=>?_) (⟨hS0,fun _=>hS1⟩) ?_;rotate_left
      ·((obtain ⟨_,hSv⟩:=hSw; replace hSw:=hSv.1); go_simp; try with_reducible rfl)
      simp only [zz];refine oneW (i:=9) (by kernel_rfl) rfl (by rfl) ?_;intro K hK;go_simp;have hdr:Below W.heap.size W W.drew:=(brf _ _).drew;refine (zCD (a:=u) (b:=mv) (HU.out.below hdr) ((HMost.out.below hbW).below hdr) (by decide) (by decide)).mono ?_;rintro e w9 ⟨⟨t,rfl,ht⟩,hb9⟩;have hS2:=Kept.call2 hb9 hS0;have hS3:=Kept.call2 hb9 hS1;have hb9':Below W.heap.size W w9:=hdr.trans hb9;refine hK.out _ _ ⟨hS2,fun _=>hS3⟩ ?_;clear hK K;have HT:=hdq ht;rw [<-hb9'.cell (p:=⟨g,k*4,none⟩) sg] at c0;rw [<-hb9'.cell (p:=⟨g,_,none⟩) sg] at c1 c2 c3;have gf9:∀ o,w9.frozen? ⟨g,o,none⟩=false:=fun o=>by rw [hb9'.frozen (p:=⟨g,o,none⟩) sg]; exact gf o
      refine takeA (i:=10) ?_ rfl rfl (by kernel_rfl) (by kernel_rfl) (by kernel_rfl) (by decide) (fun _ _ _ h=>h) (by rfl) (fun w' hSw=>?_) (⟨hS2,fun _=>hS3⟩) ?_;rotate_left
      ·((obtain ⟨_,hSv⟩:=hSw; replace hSw:=hSv.1); go_simp; try with_reducible rfl)
      simp only [zz];refine oneW (i:=11) (by kernel_rfl) rfl (by rfl) ?_;intro K hK;go_simp;refine hK.out _ _ ⟨Sees.k4 hS2 (by simp),fun h=>absurd h (by decide)⟩ ?_;clear hK K;refine zAf (by kernel_rfl) ?_ _;have hfit:QFit 16 (bs.getD k 0+most):=zBn (((zAR HU.out.fit).add (zAR HMost.out.fit)).mono (l:=481) (by omega)) (by decide);have hT2:QIs w9 (fun b=>b ≠ g/\W7.heap.size<=b) 16 t (bs.getD k 0+most):=(ht.imp (Y:=fun b=>b ≠ g/\W7.heap.size<=b) fun b _ hx=>by have hx':W.heap.size<=b:=hx; exact ⟨by omega,by omega⟩).qis hfit;have HQ2:=hdq (((HQ.out.below hb9').more (M:=16) (by omega)).set (k:=k) hkr hT2);have bP9:=(bP.below hb9' s0).heap (zAx w9 g k t hd1);have bM9:=(bM.below hb9' s1).heap (zAx w9 g k t hd2);have Pv9:=(zAx w9 g k t hd3).trans (heapK Pv hb9');have bQ9:=(zAx w9 g k t hd).trans (heapK bQ hb9');have HV9:=hdq ((HV.out.below hb9').keep (w':=put4 w9 g k t) fun a ha _=>zCq w9 g k t (by have ha':a.block<W7.heap.size:=ha; intro e; omega));have hbW9:Below w.heap.size w (put4 w9 g k t):=zBq (hbW.trans (hb9'.mono bW)) (by omega) k t;have hsz:(put4 w9 g k t).heap.size=w9.heap.size:=zBI _ _ _ _;clear hS0 hS1 hS2 hS3 hdr hb9 hb9' HT ht hT2 hfit c0 c1 c2 c3 q0 q1 q2 q3 p0 p1 p2 p3 m0 m1 m2 m3 bP bM Pv bQ HV hbW HU HQ gf gf9 hcs s0 s1 sq sg cs hsz;change Exit.then _ _ _ _ (put4 w9 g k t);generalize put4 w9 g k t=wA at *;obtain ⟨p0,p1,p2,p3,-⟩:=id bP9;obtain ⟨m0,m1,m2,m3,-⟩:=id bM9;have s0:w.heap.size<wA.heap.size:=zAb p0;have s1:w.heap.size+1<wA.heap.size:=zAb m0;(go_wp2_with fail);refine (zAn ((HMost.out.below hbW9))).mono ?_;rintro e wB ⟨rfl,hbB⟩;obtain ⟨up,hup⟩:∃ up,up=decide (0<=most):=⟨_,rfl⟩
      have hsg:decide ((0:Int)<=qsign most)=up:=by
       rw [hup];unfold qsign
       split
       ·rename_i h; exact decide_eq_decide.2 ⟨fun h'=>by omega,fun h'=>absurd h' (by grind)⟩
       ·split
        ·rename_i h h'; exact decide_eq_decide.2 ⟨fun _=>by grind,fun _=>by omega⟩
        ·rename_i h h'; exact decide_eq_decide.2 ⟨fun _=>by grind,fun _=>by omega⟩
      have HUp:=hdq hup;clear hup;replace bP9:=bP9.below hbB s0;replace bM9:=bM9.below hbB s1;replace Pv9:=heapK Pv9 hbB;replace bQ9:=heapK bQ9 hbB;replace HV9:=hdq (HV9.out.below hbB);replace HQ2:=hdq (HQ2.out.below hbB);replace hbW9:=hbW9.trans (hbB.mono hbW9.size);replace s0:=ltl s0 hbB.size;replace s1:=ltl s1 hbB.size;clear p0 p1 p2 p3 m0 m1 m2 m3 hbB;obtain ⟨p0,p1,p2,p3,-⟩:=id bP9;obtain ⟨m0,m1,m2,m3,-⟩:=id bM9;(go_wp2_with fail);refine (zBm (row:=k) (up:=up) (p:=⟨V,⟨oA,xn,oc⟩,⟨rA,un,rc⟩,⟨bA,un,bc⟩⟩) (V:=V) (HP.out.below hbW9) rfl (by omega) ho1 hon (by show un<=_; omega) rfl HC1.out HC2.out (by omega) hkr).mono ?_;rintro e wC ⟨hm2,hbC⟩;obtain ⟨D,k1,hD,hm3⟩:=zGA Nat.one_pos HE0.out.1 HE0.out.2 hm2;have HD:=hdq hD;clear hm2 hD;replace bP9:=bP9.below hbC s0;replace bM9:=bM9.below hbC s1;replace Pv9:=heapK Pv9 hbC;replace bQ9:=heapK bQ9 hbC;replace HV9:=hdq (HV9.out.below hbC);replace HQ2:=hdq (HQ2.out.below hbC);replace hbW9:=hbW9.trans (hbC.mono hbW9.size);replace s0:=ltl s0 hbC.size;replace s1:=ltl s1 hbC.size;clear p0 p1 p2 p3 m0 m1 m2 m3;obtain ⟨p0,p1,p2,p3,-⟩:=id bP9;obtain ⟨m0,m1,m2,m3,-⟩:=id bM9
      have hset:∀ i,i<(prob1 V os rs bs).m->(bs.set k (bs.getD k 0+most)).getD i 0=(prob1 V os rs bs).b i+if i=k then most else 0:=by
       intro i hi;show _=bs.getD i 0+_;by_cases hik:i=k
       ·subst hik;rw [if_pos rfl];simp [gdd,show i<bs.length by rw [HBl.out]; omega]
       ·rw [if_neg hik,show (bs.set k (bs.getD k 0+most)).getD i 0=bs.getD i 0 by simp [gdd,List.getElem?_set,show ¬ k=i from fun h=>hik h.symm]];grind
      have HSet:=hdq hset;clear hset;have hkm:k<(prob1 V os rs bs).m:=by show k<rs.length; rw [HRl.out]; exact hkr
      rcases hm3 with ⟨hk1,rfl⟩ | ⟨rfl,mq,rfl,hmz⟩
      ·skip
       obtain ⟨q0,q1,q2,q3,-⟩:=zB7 (O:=⟨xA,xn,xc⟩) (R:=⟨gA,un,gc⟩) (B:=⟨some ⟨g,0,none⟩,un,uc⟩) bQ9;dsimp only at q0 q1 q2 q3;have sq:=zAa bQ9;(go_wp2_with fail);have al:Below wC.heap.size wC (wC.alloc (.cells #[.bool false,.slice none 0 0,.bool false,.slice none 0 0] 30)):=(brf _ _).alloc (nlr _) _;clear q0 q1 q2 q3 sq;replace bP9:=bP9.below al s0;replace bM9:=bM9.below al s1;replace Pv9:=heapK Pv9 al;replace bQ9:=heapK bQ9 al;replace HV9:=hdq (HV9.out.below al);replace HQ2:=hdq (HQ2.out.below al);replace hbW9:=hbW9.trans (al.mono hbW9.size);replace s0:=ltl s0 al.size;replace s1:=ltl s1 al.size;clear p0 p1 p2 p3 m0 m1 m2 m3;obtain ⟨p0,p1,p2,p3,-⟩:=id bP9;obtain ⟨m0,m1,m2,m3,-⟩:=id bM9;clear al;generalize wC.alloc (.cells #[.bool false,.slice none 0 0,.bool false,.slice none 0 0] 30)=wD at *;generalize wC.heap.size=bm at *;refine (zBd (p:=⟨V,⟨xA,xn,xc⟩,⟨gA,un,gc⟩,⟨some ⟨g,0,none⟩,un,uc⟩⟩) (V:=V) HQ2.out.lp rfl (by omega) ho1 hon (by show un<=_; omega) rfl HC1.out HC2.out (by omega)).mono ?_;rintro e wE ⟨ho,hbE⟩;rcases ho with ⟨D2,v2,hI2,hE2,rfl,hv2⟩ | ⟨D2,hI2,hE2,rfl⟩ | ⟨D2,hI2,hE2,rfl⟩
       ·have:=(zCz Nat.one_pos hkm HUp.out HSet.out HE0.out.1 HE0.out.2 HD.out.1 HD.out.2 hI2 hE2).2.2.1 hk1;omega
       ·have hl:=zCz Nat.one_pos hkm HUp.out HSet.out HE0.out.1 HE0.out.2 HD.out.1 HD.out.2 hI2 hE2;have hup:up=false:=by rw [HUp.out]; exact decide_eq_false fun h=>by have:=(hl.1 h).2; omega
        clear hl hI2 hE2;subst hup;replace bP9:=bP9.below hbE s0;replace bM9:=bM9.below hbE s1;replace Pv9:=heapK Pv9 hbE;replace bQ9:=heapK bQ9 hbE;replace HV9:=hdq (HV9.out.below hbE);replace HQ2:=hdq (HQ2.out.below hbE);replace hbW9:=hbW9.trans (hbE.mono hbW9.size);replace s0:=ltl s0 hbE.size;replace s1:=ltl s1 hbE.size;clear p0 p1 p2 p3 m0 m1 m2 m3;obtain ⟨p0,p1,p2,p3,-⟩:=id bP9;obtain ⟨m0,m1,m2,m3,-⟩:=id bM9;clear hbE;(go_wp2_with fail);have al:Below wE.heap.size wE (wE.alloc (.cells #[.bool false,.slice none 0 0,.bool false,.slice none 0 0] 30)):=(brf _ _).alloc (nlr _) _;replace hbW9:=hbW9.trans (al.mono hbW9.size);have hbW:=hbW9;(go_wp2_with fail);refine zAG.mono ?_;rintro e wl ⟨rfl,hbl⟩;have hbf:=hbW.trans (hbl.mono hbW.size);go_wp2;go_ret;exact ⟨rfl,hbf⟩
       ·exact absurd rfl (zCz Nat.one_pos hkm HUp.out HSet.out HE0.out.1 HE0.out.2 HD.out.1 HD.out.2 hI2 hE2).2.1
      ·have HMz:=hdq hmz;clear hmz;obtain ⟨q0,q1,q2,q3,-⟩:=zB7 (O:=⟨xA,xn,xc⟩) (R:=⟨gA,un,gc⟩) (B:=⟨some ⟨g,0,none⟩,un,uc⟩) bQ9;dsimp only at q0 q1 q2 q3;have sq:=zAa bQ9;(go_wp2_with fail);have al:Below wC.heap.size wC (wC.alloc (.cells #[.bool mq.num.ng,.slice mq.num.A mq.num.n mq.num.c,.bool mq.den.ng,.slice mq.den.A mq.den.n mq.den.c] 30)):=(brf _ _).alloc (nlr _) _;have P4:QBlk (wC.alloc (.cells #[.bool mq.num.ng,.slice mq.num.A mq.num.n mq.num.c,.bool mq.den.ng,.slice mq.den.A mq.den.n mq.den.c] 30)) wC.heap.size mq:=zAd _ _ rfl;replace HMz:=hdq (HMz.out.below al);clear q0 q1 q2 q3 sq;replace bP9:=bP9.below al s0;replace bM9:=bM9.below al s1;replace Pv9:=heapK Pv9 al;replace bQ9:=heapK bQ9 al;replace HV9:=hdq (HV9.out.below al);replace HQ2:=hdq (HQ2.out.below al);replace hbW9:=hbW9.trans (al.mono hbW9.size);replace s0:=ltl s0 al.size;replace s1:=ltl s1 al.size;clear p0 p1 p2 p3 m0 m1 m2 m3;obtain ⟨p0,p1,p2,p3,-⟩:=id bP9;obtain ⟨m0,m1,m2,m3,-⟩:=id bM9;clear al;generalize wC.alloc (.cells #[.bool mq.num.ng,.slice mq.num.A mq.num.n mq.num.c,.bool mq.den.ng,.slice mq.den.A mq.den.n mq.den.c] 30)=wD at *;generalize wC.heap.size=bm at *;refine (zBd (p:=⟨V,⟨xA,xn,xc⟩,⟨gA,un,gc⟩,⟨some ⟨g,0,none⟩,un,uc⟩⟩) (V:=V) HQ2.out.lp rfl (by omega) ho1 hon (by show un<=_; omega) rfl HC1.out HC2.out (by omega)).mono ?_;rintro e wE ⟨ho,hbE⟩;replace HMz:=hdq (HMz.out.below hbE);replace P4:=heapK P4 hbE;rcases ho with ⟨D2,v2,hI2,hE2,rfl,hv2⟩ | ⟨D2,hI2,hE2,rfl⟩ | ⟨D2,hI2,hE2,rfl⟩
       ·have hl:=(zCz Nat.one_pos hkm HUp.out HSet.out HE0.out.1 HE0.out.2 HD.out.1 HD.out.2 hI2 hE2).2.2.2 rfl;have f0:=(zEc HP.out hV4 (E:=V) (by simp [Lin.given]) (nlr _) (fun c hc=>by cases hc) HE0.out.1).2;have f1:=(zEc HP.out hV4 (E:=V+1) (by simp [Lin.given]; omega) (by omega) (fun c hc i=>by cases hc; exact zJh _ _ _ _) HD.out.1).1 k;have f2:=(zEc HQ2.out.lp hV4 (E:=V) (by simp [Lin.given]) (nlr _) (fun c hc=>by cases hc) hI2).2;have HF:=hdq (And.intro f0 (And.intro f1 f2));have HV2:=hdq hv2;have HL:=hdq hl.2;clear hl f0 f1 f2 hv2 hI2 hE2;replace bP9:=bP9.below hbE s0;replace bM9:=bM9.below hbE s1;replace Pv9:=heapK Pv9 hbE;replace bQ9:=heapK bQ9 hbE;replace HV9:=hdq (HV9.out.below hbE);replace HQ2:=hdq (HQ2.out.below hbE);replace hbW9:=hbW9.trans (hbE.mono hbW9.size);replace s0:=ltl s0 hbE.size;replace s1:=ltl s1 hbE.size;clear p0 p1 p2 p3 m0 m1 m2 m3;obtain ⟨p0,p1,p2,p3,-⟩:=id bP9;obtain ⟨m0,m1,m2,m3,-⟩:=id bM9;clear hsg;cases up
        all_goals
         (go_upto_region 18 with fail);have al:Below wE.heap.size wE (wE.alloc (.cells #[.bool v2.num.ng,.slice v2.num.A v2.num.n v2.num.c,.bool v2.den.ng,.slice v2.den.A v2.den.n v2.den.c] 30)):=(brf _ _).alloc (nlr _) _;have P6:QBlk (wE.alloc (.cells #[.bool v2.num.ng,.slice v2.num.A v2.num.n v2.num.c,.bool v2.den.ng,.slice v2.den.A v2.den.n v2.den.c] 30)) wE.heap.size v2:=zAd _ _ rfl;replace HV2:=hdq (HV2.out.below al);replace HMz:=hdq (HMz.out.below al);replace P4:=heapK P4 al;replace bP9:=bP9.below al s0;replace bM9:=bM9.below al s1;replace Pv9:=heapK Pv9 al;replace bQ9:=heapK bQ9 al;replace HV9:=hdq (HV9.out.below al);replace HQ2:=hdq (HQ2.out.below al);replace hbW9:=hbW9.trans (al.mono hbW9.size);replace s0:=ltl s0 al.size;replace s1:=ltl s1 al.size;clear p0 p1 p2 p3 m0 m1 m2 m3;obtain ⟨p0,p1,p2,p3,-⟩:=id bP9;obtain ⟨m0,m1,m2,m3,-⟩:=id bM9;clear al hbE;replace HV2:Hid (QCan (wE.alloc (.cells #[.bool v2.num.ng,.slice v2.num.A v2.num.n v2.num.c,.bool v2.den.ng,.slice v2.den.A v2.den.n v2.den.c] 30)) _ v2 (D2.c 0 V)):=HV2;replace HV9:Hid (QCan (wE.alloc (.cells #[.bool v2.num.ng,.slice v2.num.A v2.num.n v2.num.c,.bool v2.den.ng,.slice v2.den.A v2.den.n v2.den.c] 30)) _ v (D0.c 0 V)):=HV9;generalize wE.alloc (.cells #[.bool v2.num.ng,.slice v2.num.A v2.num.n v2.num.c,.bool v2.den.ng,.slice v2.den.A v2.den.n v2.den.c] 30)=W at *;generalize wE.heap.size=bw at *;obtain ⟨u0,u1,u2,u3,-⟩:=zAA P6;obtain ⟨y0,y1,y2,y3,-⟩:=zAA P4;obtain ⟨x0,x1,x2,x3,-⟩:=zAA Pv9;have t6:=zAa P6;have t4:=zAa P4;have tv:=zAa Pv9;have bW:=hbW9.size;obtain ⟨c1,hc1⟩:∃ c,qcmp (D2.c 0 V) (D0.c 0 V+most*D.dual (prob1 V os rs bs) k)=c:=⟨_,rfl⟩;have hc1':c1<=0:=by rw [<-hc1]; exact zJ4 HL.out.1
         obtain ⟨P,hP⟩:∃ P,qcmp (D2.c 0 V) (D0.c 0 V)*qsign most=P:=⟨_,rfl⟩;have hP2:0<=P/\P<=1:=by rw [<-hP]; exact zIL HL.out.2.1 HL.out.2.2
         obtain ⟨hP0,hP1⟩:=hP2;clear HL;have HC1:=hdq hc1;clear hc1 P4 P6 Pv9;refine zAp 1000 (fun _ w'=>Sees w.heap.size [] W w') (by kernel_rfl) ?_;have hS0:Sees w.heap.size [] W W.drew:=Sees.st (by simp) bW;have hdr:Below W.heap.size W W.drew:=(brf _ _).drew;refine tkX 0 (hS0) ?_;simp only [zz];refine tkX 1 (hS0) ?_;simp only [zz];refine tkX 2 (hS0) ?_;simp only [zz];refine tkX 3 (hS0) ?_;simp only [zz];refine oneW (i:=4) (by kernel_rfl) rfl (by rfl) ?_;intro K hK;go_simp;refine (zBb (a:=mv) (b:=mq) ((HMost.out.below hbW9).below hdr) ((HMz.out.below hdr).qis (zBn (L:=4400) HF.out.2.1 (by decide))) (by decide) (by decide)).mono ?_;rintro e f1 ⟨⟨t1,rfl,ht1⟩,hb1⟩;have hS1:=Kept.call2 hb1 hS0;refine hK.out _ _ hS1 ?_;clear hK K hb1 hS0 hdr;have g1:Lin.Fits 140300 (most*D.dual (prob1 V os rs bs) k):=((zAR HMost.out.fit).mul HF.out.2.1).mono (by decide);refine oneW (i:=5) (by kernel_rfl) rfl (by rfl) ?_;intro K hK;go_simp;refine (zCD (a:=v) (b:=t1) ((HV9.out.below hS1.kept.whole).qis (zBn (L:=4400) HF.out.1 (by decide))) (ht1.qis (zBn (L:=4400) g1 (by decide))) (by decide) (by decide)).mono ?_;rintro e f2 ⟨⟨t2,rfl,ht2⟩,hb2⟩;have hS2:=Kept.call2 hb2 hS1;refine hK.out _ _ hS2 ?_;clear hK K hb2 hS1 ht1;have g2:Lin.Fits 280400 (D0.c 0 V+most*D.dual (prob1 V os rs bs) k):=(HF.out.1.add g1).mono (by decide);refine oneW (i:=6) (by kernel_rfl) rfl (by rfl) ?_;intro K hK;go_simp;refine (zBg (a:=v2) (b:=t2) ((HV2.out.below hS2.kept.whole).qis (zBn (L:=11000) HF.out.2.2 (by decide))) (ht2.qis (zBn (L:=9000) g2 (by decide))) (by decide) (by decide)).mono ?_;rintro e f3 ⟨rfl,hb3⟩;have hS3:=Kept.call2 hb3 hS2;refine hK.out _ _ hS3 ?_;clear hK K hb3 hS2 ht2 g1 g2;rw [HC1.out];refine tkX 7 (hS3) ?_;simp only [zz];refine tkX 8 (hS3) ?_;simp only [zz];refine tkX 9 (hS3) ?_;simp only [zz];refine tkX 10 (hS3) ?_;simp only [zz];refine tkX 12 (hS3) ?_;simp only [zz];refine oneW (i:=11) (by kernel_rfl) rfl (by rfl) ?_;intro K hK;go_simp;refine (zBg (a:=v2) (b:=v) ((HV2.out.below hS3.kept.whole).qis (zBn (L:=11000) HF.out.2.2 (by decide))) ((HV9.out.below hS3.kept.whole).qis (zBn (L:=4400) HF.out.1 (by decide))) (by decide) (by decide)).mono ?_;rintro e f4 ⟨rfl,hb4⟩;have hS4:=Kept.call2 hb4 hS3;refine hK.out _ _ hS4 ?_;clear hK K hb4 hS3;refine oneW (i:=13) (by kernel_rfl) rfl (by rfl) ?_;intro K hK;go_simp;refine (zAn (HMost.out.below (hbW9.trans (hS4.kept.whole.mono bW)))).mono ?_;rintro e f5 ⟨rfl,hb5⟩;have hS5:=Kept.call2 hb5 hS4;refine hK.out _ _ hS5 ?_;clear hK K hb5 hS4;have hwr:IntKind.i64.wrap P=P:=IntWalk.i64_in _ (by omega);have hPg:decide (0<=P)=true:=decide_eq_true hP0;refine takeA (i:=14) (.int .i64 P) rfl rfl (by kernel_rfl) (by kernel_rfl) (by kernel_rfl) (by decide) (fun _ _ _ h=>h) (by rfl) (fun w' hSw=>?_) (hS5) ?_
         ·(obtain ⟨_,hSw⟩:=hSw; go_simp; try with_reducible rfl)
         simp only [zz];refine tkX 15 (hS5) ?_;simp only [zz];refine tkX 16 (hS5) ?_;simp only [zz];refine tkX 17 (hS5) ?_;simp only [zz];refine oneW (i:=18) (by kernel_rfl) rfl (by rfl) ?_;intro K hK;go_simp;refine zAG.mono ?_;rintro e f6 ⟨rfl,hb6⟩;have hS6:=Kept.call2 hb6 hS5;refine hK.out _ _ hS6 ?_;clear hK K hb6 hS5;refine tkX 19 (hS6) ?_;simp only [zz];refine tkX 20 (hS6) ?_;simp only [zz];refine zAf (by kernel_rfl) ?_ _;have hbf:=hbW9.trans (hS6.kept.whole.mono bW);clear hS6;go_wp2;go_ret;exact ⟨rfl,hbf⟩
       ·have hl:=zCz Nat.one_pos hkm HUp.out HSet.out HE0.out.1 HE0.out.2 HD.out.1 HD.out.2 hI2 hE2;have hup:up=false:=by rw [HUp.out]; exact decide_eq_false fun h=>by have:=(hl.1 h).2; omega
        clear hl hI2 hE2;subst hup;replace bP9:=bP9.below hbE s0;replace bM9:=bM9.below hbE s1;replace Pv9:=heapK Pv9 hbE;replace bQ9:=heapK bQ9 hbE;replace HV9:=hdq (HV9.out.below hbE);replace HQ2:=hdq (HQ2.out.below hbE);replace hbW9:=hbW9.trans (hbE.mono hbW9.size);replace s0:=ltl s0 hbE.size;replace s1:=ltl s1 hbE.size;clear p0 p1 p2 p3 m0 m1 m2 m3;obtain ⟨p0,p1,p2,p3,-⟩:=id bP9;obtain ⟨m0,m1,m2,m3,-⟩:=id bM9;clear hbE;(go_wp2_with fail);have al:Below wE.heap.size wE (wE.alloc (.cells #[.bool false,.slice none 0 0,.bool false,.slice none 0 0] 30)):=(brf _ _).alloc (nlr _) _;replace hbW9:=hbW9.trans (al.mono hbW9.size);have hbW:=hbW9;(go_wp2_with fail);refine zAG.mono ?_;rintro e wl ⟨rfl,hbl⟩;have hbf:=hbW.trans (hbl.mono hbW.size);go_wp2;go_ret;exact ⟨rfl,hbf⟩
       ·exact absurd rfl (zCz Nat.one_pos hkm HUp.out HSet.out HE0.out.1 HE0.out.2 HD.out.1 HD.out.2 hI2 hE2).2.1
     ·skip
      replace bP:=bP.below hb7 s0;replace bM:=bM.below hb7 s1;replace s0:=ltl s0 hb7.size;replace s1:=ltl s1 hb7.size;replace hbW:=hbW.trans (hb7.mono hbW.size);clear p0 p1 p2 p3 m0 m1 m2 m3;obtain ⟨p0,p1,p2,p3,-⟩:=id bP;obtain ⟨m0,m1,m2,m3,-⟩:=id bM;(go_wp2_with fail);have al8:Below w7.heap.size w7 (w7.alloc (.cells #[.bool false,.slice none 0 0,.bool false,.slice none 0 0] 30)):=(brf _ _).alloc (nlr _) _;replace bP:=bP.below al8 s0;replace bM:=bM.below al8 s1;replace s0:=ltl s0 al8.size;replace s1:=ltl s1 al8.size;replace hbW:=hbW.trans (al8.mono hbW.size);clear p0 p1 p2 p3 m0 m1 m2 m3;obtain ⟨p0,p1,p2,p3,-⟩:=id bP;obtain ⟨m0,m1,m2,m3,-⟩:=id bM;(go_wp2_with fail);refine zAG.mono ?_;rintro e wl ⟨rfl,hbl⟩;have hbf:=hbW.trans (hbl.mono hbW.size);go_wp2;go_ret;exact ⟨rfl,hbf⟩
     ·skip
      replace bP:=bP.below hb7 s0;replace bM:=bM.below hb7 s1;replace s0:=ltl s0 hb7.size;replace s1:=ltl s1 hb7.size;replace hbW:=hbW.trans (hb7.mono hbW.size);clear p0 p1 p2 p3 m0 m1 m2 m3;obtain ⟨p0,p1,p2,p3,-⟩:=id bP;obtain ⟨m0,m1,m2,m3,-⟩:=id bM;(go_wp2_with fail);have al8:Below w7.heap.size w7 (w7.alloc (.cells #[.bool false,.slice none 0 0,.bool false,.slice none 0 0] 30)):=(brf _ _).alloc (nlr _) _;replace bP:=bP.below al8 s0;replace bM:=bM.below al8 s1;replace s0:=ltl s0 al8.size;replace s1:=ltl s1 al8.size;replace hbW:=hbW.trans (al8.mono hbW.size);clear p0 p1 p2 p3 m0 m1 m2 m3;obtain ⟨p0,p1,p2,p3,-⟩:=id bP;obtain ⟨m0,m1,m2,m3,-⟩:=id bM;(go_wp2_with fail);refine zAG.mono ?_;rintro e wl ⟨rfl,hbl⟩;have hbf:=hbW.trans (hbl.mono hbW.size);go_wp2;go_ret;exact ⟨rfl,hbf⟩
end Go.Proofs.YtlepljpdkbjbhaaGreat
