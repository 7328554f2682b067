/- Texts Dict3 of this claim. -/
import Derived.Test.YtbpngececjihlaaGreatB11
set_option maxHeartbeats 4000000
set_option maxRecDepth 40000
namespace Go.Proofs.YtbpngececjihlaaGreat
open Go.RowKit Go.Shelf
variable {s:SV} {L B d n i j V M K:Nat} {X Y G:Nat->Prop} {w w' W:World} {q:Rat} {gs:List Nat} {va vb vc v:Value} {xs:List Value} {T:TypeId} {bs:List Rat} {os rs:List (List Rat)} {p:LPV}
theorem zG1:(Tryz.prog.info? 3).map (fun i=>(i.zero,i.size,i.bytes))=some (some (.int .i64 0),1,8):=kj
theorem zFA:(Tryz.prog.info? 23).map (fun i=>(i.zero,i.size,i.bytes))=some (some (.slice none 0 0),1,24):=kj
def iv (l:List Nat):List Value:=l.map fun (x:Nat)=>Value.int .i64 (x:Int)
theorem zPb (l:List Nat):(iv l).length=l.length:=by simp [iv]
def lists (a b c d:List Value) (f:Nat):List Value:=if f=1 then a else if f=2 then b else if f=3 then c else if f=4 then d else []
theorem lists1 (a b c d:List Value) (x:Value):(fun g=>if g=1 then lists a b c d 1++[x] else lists a b c d g)=lists (a++[x]) b c d:=by
 funext g; unfold lists; by_cases h:g=1 <;> simp [h]
theorem lists2 (a b c d:List Value) (x:Value):(fun g=>if g=2 then lists a b c d 2++[x] else lists a b c d g)=lists a (b++[x]) c d:=by
 funext g; unfold lists; by_cases h:g=2 <;> simp [h]
theorem lists3 (a b c d:List Value) (x:Value):(fun g=>if g=3 then lists a b c d 3++[x] else lists a b c d g)=lists a b (c++[x]) d:=by
 funext g; unfold lists; by_cases h:g=3 <;> simp [h]
theorem lists4 (a b c d:List Value) (x:Value):(fun g=>if g=4 then lists a b c d 4++[x] else lists a b c d g)=lists a b c (d++[x]):=by
 funext g; unfold lists; by_cases h:g=4 <;> simp [h]
abbrev LPBox (W:World) (b:Nat) (p:LPV):Prop:=Box4 W b (.int .i64 p.n) (.slice p.O.A p.O.n p.O.c) (.slice p.R.A p.R.n p.R.c) (.slice p.B.A p.B.n p.B.c)
def NLoop1 (w:World) (p:LPV) (V:Nat) (t:Value) (W:World):Prop:=
 ∃ k:Nat,k<=V/\t = .int .i64 k/\LPBox W w p/\∃ vb G,DS w (w+1) V (V+1) (.slice none 0 0) vb (.slice none 0 0) (.slice none 0 0) (lists [] (iv (List.range k)) [] []) [] [] G W
def rowAt0 (rs:List (List Rat)) (bs:List Rat) (V i:Nat):List Rat:=(List.range V).map (fun k=>(rs.getD i []).getD k 0)++[bs.getD i 0]
theorem zPs (rs:List (List Rat)) (bs:List Rat) (V i:Nat):(rowAt0 rs bs V i).length=V+1:=by simp [rowAt0]
def NLoop2 (w:World) (p:LPV) (V:Nat) (rs:List (List Rat)) (bs:List Rat) (t:Value) (W:World):Prop:=
 ∃ i:Nat,i<=p.R.n/\t = .int .i64 i/\LPBox W w p/\∃ va vb vc G Rb,Rb.length=i/\
  DS w (w+1) V (V+1) va vb vc (.slice none 0 0) (lists (iv ((List.range i).map (V+·))) (iv (List.range V)) (Rb.map (rowVal (V+1))) []) Rb ((List.range i).map (rowAt0 rs bs V)) G W
def NLoop3 (w:World) (p:LPV) (V i:Nat) (rs:List (List Rat)) (bs:List Rat) (va vb vc:Value) (G:Nat->Prop) (Rb:List Nat) (g:Nat) (t:Value) (W:World):Prop:=
 ∃ k:Nat,k<=V/\t = .int .i64 k/\LPBox W w p/\RowAt W G g (fillTo (fun k=>(rs.getD i []).getD k 0) (V+1) k)/\
  DS w (w+1) V (V+1) va vb vc (.slice none 0 0) (lists (iv ((List.range i).map (V+·))) (iv (List.range V)) (Rb.map (rowVal (V+1))) []) Rb ((List.range i).map (rowAt0 rs bs V)) G W
theorem QFit.zero (L:Nat):QFit (L+1) 0:=⟨by show 0<_; exact Num.pow_pos' _,by show 1<_; exact Nat.one_lt_pow om dj⟩
theorem MatAt.fit {m:List (List Rat)} (h:MatIs w X Y L s m) (i k:Nat):QFit (L+1) ((m.getD i []).getD k 0):=by
 by_cases hi:i<s.n
 ·obtain ⟨ad,r,e,hx,hc,hr⟩:=h.row i hi;by_cases hk:k<r.n
  ·obtain ⟨_,v,_,_,_,hq⟩:=hr.elem k hk;exact hq.fit
  ·rw [zAw _ _ _ (by rw [hr.len]; omega)]; exact QFit.zero L
 ·rw [zAw m _ _ (by rw [h.len]; omega),zAw _ _ _ si]; exact QFit.zero L
def costAt0 (os:List (List Rat)) (V l:Nat):List Rat:=(List.range V).map (fun k=>-((os.getD l []).getD k 0))++[0]
theorem zPi (os:List (List Rat)) (V l:Nat):(costAt0 os V l).length=V+1:=by simp [costAt0]
theorem zPt (os:List (List Rat)) (V l:Nat):fillTo (fun k=>-((os.getD l []).getD k 0)) (V+1) V=costAt0 os V l:=by
 simp [fillTo,costAt0]
def NLoop4 (w:World) (p:LPV) (V:Nat) (os rs:List (List Rat)) (bs:List Rat) (t:Value) (W:World):Prop:=
 ∃ i:Nat,i<=p.O.n/\t = .int .i64 i/\LPBox W w p/\∃ va vb vc vd G Rb Cb,Rb.length=p.R.n/\Cb.length=i/\
  DS w (w+1) V (V+1) va vb vc vd (lists (iv ((List.range p.R.n).map (V+·))) (iv (List.range V)) (Rb.map (rowVal (V+1))) (Cb.map (rowVal (V+1)))) (Rb++Cb) ((List.range p.R.n).map (rowAt0 rs bs V)++(List.range i).map (costAt0 os V)) G W
def NLoop5 (w:World) (p:LPV) (V i:Nat) (os rs:List (List Rat)) (bs:List Rat) (va vb vc vd:Value) (G:Nat->Prop) (Rb Cb:List Nat) (g:Nat) (t:Value) (W:World):Prop:=
 ∃ k:Nat,k<=V/\t = .int .i64 k/\LPBox W w p/\RowAt W G g (fillTo (fun k=>-((os.getD i []).getD k 0)) (V+1) k)/\
  DS w (w+1) V (V+1) va vb vc vd (lists (iv ((List.range p.R.n).map (V+·))) (iv (List.range V)) (Rb.map (rowVal (V+1))) (Cb.map (rowVal (V+1)))) (Rb++Cb) ((List.range p.R.n).map (rowAt0 rs bs V)++(List.range i).map (costAt0 os V)) G W
theorem QIs.keptOld' {v:QV} (h:QIs w (Was Y B) L v q) (k:Kept B gs w w'):QIs w' (Was Y B) L v q:=by
 obtain ⟨x,y,h1,h2,h3⟩:=h; exact ⟨x,y,h1.keptWas k,h2.keptWas k,h3⟩
theorem zPy (f:Nat->Rat) (V:Nat) (x:Rat):(fillTo f (V+1) V).set V x=(List.range V).map f++[x]:=by
 unfold fillTo;rw [List.set_append_right _ _ si];simp
theorem DS.cells {n1:Nat} {nv:Int} {vd:Value} {al:Nat->List Value} {rs:List Nat} {rl:List (List Rat)} (h:DS w d nv n1 va vb vc vd al rs rl G W) :
  W.cell? d=some (.int .i64 nv)/\W.cell? ⟨d,1,none⟩=some va/\W.cell? ⟨d,2,none⟩=some vb/\W.cell? ⟨d,3,none⟩=some vc/\W.cell? ⟨d,4,none⟩=some vd/\∀ o,W.frozen? ⟨d,o,none⟩=false:=by
 simp [World.cell?,World.frozen?,h.blk]
theorem own_arr' {base:Nat} {f:Nat->Value} (h:W.ownsRow base T 1 v n xs) (hx:∀ k,k<n->xs[k]?=some (f k)) :
  ∃ s:SV,v=s.val/\Arr W s n T f/\∀ g,s.A=some ⟨g,0,none⟩->v.ownBlock=some g:=by
 obtain ⟨h1,h2⟩:=h;rcases h2 with ⟨rfl,rfl⟩ | ⟨g,cap,cur,rfl,hg,hh,hnc,hcap,hcur,ht⟩
 ·exact ⟨⟨none,0,0⟩,rfl,⟨rfl,nlr _,dj,.inl ⟨rfl,rfl⟩⟩,fun g e=>by cases e⟩
 ·refine ⟨⟨some ⟨g,0,none⟩,n,cap⟩,rfl,⟨rfl,hnc,hcap,.inr ⟨g,cur,rfl,hh,fun k hk=>?_⟩⟩,fun g' e=>by cases e; rfl⟩;have e2:(cur.toList.take (n*1))[k]?=xs[k]?:=by rw [ht]
  rw [Nat.mul_one,List.getElem?_take_of_lt hk,hx k hk] at e2;simpa using e2
def probOf (V:Nat) (os rs:List (List Rat)) (bs:List Rat):Lin.Prob:=⟨V,rs.length,os.length,fun i k=>(rs.getD i []).getD k 0,fun i=>bs.getD i 0,fun l k=>(os.getD l []).getD k 0⟩
theorem zF6 (V:Nat) (os rs:List (List Rat)) (bs:List Rat) (i:Nat):rowAt0 rs bs V i=rowL V ((probOf V os rs bs).start.a i):=by
 unfold rowAt0 rowL;rw [List.range_succ,List.map_append];congr 1
 ·apply List.map_congr_left;intro k hk;rw [List.mem_range] at hk;simp [Lin.Prob.start,probOf,hk]
 ·simp [Lin.Prob.start,probOf]
theorem zFi (V:Nat) (os rs:List (List Rat)) (bs:List Rat) (l:Nat):costAt0 os V l=rowL V ((probOf V os rs bs).start.c l):=by
 unfold costAt0 rowL;rw [List.range_succ,List.map_append];congr 1
 ·apply List.map_congr_left;intro k hk;rw [List.mem_range] at hk;simp [Lin.Prob.start,probOf,hk]
 ·simp [Lin.Prob.start,probOf]
theorem zAE {α:Type} (a b:List α) (y:α) (h:i<a.length):(a++b).getD i y=a.getD i y:=by
 simp only [gdd]; rw [List.getElem?_append_left h]
theorem zBS {α:Type} (a b:List α) (y:α) :(a++b).getD (a.length+i) y=b.getD i y:=by
 simp only [gdd]; rw [List.getElem?_append_right om]; simp
theorem zAS {α:Type} (f:Nat->α) (y:α) (h:i<n):((List.range n).map f).getD i y=f i:=by
 simp [h]
theorem zDw {l:List Nat} (h:l.Nodup) (hi:i<l.length) (hj:j<l.length) (e:l.getD i 0=l.getD j 0):i=j:=by
 simp only [gdd,gge hi,gge hj,Option.getD_some] at e;refine (List.getElem?_inj hi h).1 ?_;rw [gge hi,gge hj,e]
def NewRet (w:World) (V:Nat) (os rs:List (List Rat)) (bs:List Rat) (e:Ending) (w':World):Prop:=
 ∃ (x:DV) (G:Nat->Prop),e = .returned (.pointer (some x.d))/\DA w' G x V rs.length os.length (probOf V os rs bs).start 0 (-1) (-1)/\(∀ b,G b->w.heap.size<=b)/\Below w w w'
theorem DS.done {vd:Value} {Rb Cb:List Nat} (hR:Rb.length=M) (hC:Cb.length=K)
  (h:DS w d V (V+1) va vb vc vd (lists (iv ((List.range M).map (V+·))) (iv (List.range V)) (Rb.map (rowVal (V+1))) (Cb.map (rowVal (V+1)))) (Rb++Cb) ((List.range M).map (rowAt0 rs bs V)++(List.range K).map (costAt0 os V)) G W) :
  ∃ x:DV,x.d=d/\DA W G x V M K (probOf V os rs bs).start 0 (-1) (-1):=by
 have o1:=h.own 1 om om;have o2:=h.own 2 om om;have o3:=h.own 3 om om;have o4:=h.own 4 om om;have l1:(lists (iv ((List.range M).map (V+·))) (iv (List.range V)) (Rb.map (rowVal (V+1))) (Cb.map (rowVal (V+1))) 1).length=M:=by simp [lists,iv]
 have l2:(lists (iv ((List.range M).map (V+·))) (iv (List.range V)) (Rb.map (rowVal (V+1))) (Cb.map (rowVal (V+1))) 2).length=V:=by simp [lists,iv]
 have l3:(lists (iv ((List.range M).map (V+·))) (iv (List.range V)) (Rb.map (rowVal (V+1))) (Cb.map (rowVal (V+1))) 3).length=M:=by simp [lists,hR]
 have l4:(lists (iv ((List.range M).map (V+·))) (iv (List.range V)) (Rb.map (rowVal (V+1))) (Cb.map (rowVal (V+1))) 4).length=K:=by simp [lists,hC]
 rw [l1] at o1;rw [l2] at o2;rw [l3] at o3;rw [l4] at o4;obtain ⟨s1,e1,a1,b1⟩:=own_arr' (f:=fun i=>.int .i64 ((probOf V os rs bs).start.basic i:Nat)) o1 fun k hk=>by simp [lists,iv,hk,Lin.Prob.start,probOf]
 obtain ⟨s2,e2,a2,b2⟩:=own_arr' (f:=fun j=>.int .i64 ((probOf V os rs bs).start.free j:Nat)) o2 fun k hk=>by simp [lists,iv,hk,Lin.Prob.start]
 obtain ⟨s3,e3,a3,b3⟩:=own_arr' (f:=fun i=>rowVal (V+1) ((Rb++Cb).getD i 0)) o3 fun k hk=>by
  have hk':k<Rb.length:=om
  rw [zAE _ _ _ hk'];simp [lists,hk']
 obtain ⟨s4,e4,a4,b4⟩:=own_arr' (f:=fun l=>rowVal (V+1) ((Rb++Cb).getD (M+l) 0)) o4 fun k hk=>by
  have hk':k<Cb.length:=om
  rw [<-hR,zBS];simp [lists,hk']
 have f1:va=s1.val:=e1;have f2:vb=s2.val:=e2;have f3:vc=s3.val:=e3;have f4:vd=s4.val:=e4;have hb:=h.blk;rw [f1,f2,f3,f4] at hb;have hlen:(Rb++Cb).length=M+K:=by simp [hR,hC]
 refine ⟨⟨d,s1,s2,s3,s4,fun i=>(Rb++Cb).getD i 0,fun l=>(Rb++Cb).getD (M+l) 0⟩,rfl,⟨hb,a1,a2,a3,a4,fun i hi=>?_,fun l hl=>?_,fun i j hi hj e=>zDw h.nod om om e,fun i j hi hj e=>?_,fun i l hi hl e=>?_,fun g e e'=>?_,fun b hg=>(h.gin b hg).2,h.gd,
  fun g e=>h.gf 1 g om om (b1 g e),fun g e=>h.gf 2 g om om (b2 g e),fun g e=>h.gf 3 g om om (b3 g e),fun g e=>h.gf 4 g om om (b4 g e)⟩⟩
 ·have:=(h.rows i om).1;rw [zAE ((List.range M).map (rowAt0 rs bs V)) _ _ (by simpa using hi),zAS _ _ hi,zF6 V os rs bs i] at this;exact this
 ·have:=(h.rows (M+l) om).1
  have e:((List.range M).map (rowAt0 rs bs V)++(List.range K).map (costAt0 os V)).getD (M+l) []=costAt0 os V l:=by
   have:=zBS ((List.range M).map (rowAt0 rs bs V)) ((List.range K).map (costAt0 os V)) [] (i:=l);rw [List.length_map,List.length_range] at this;rw [this,zAS _ _ hl]
  rw [e,zFi V os rs bs l] at this;exact this
 ·have:=zDw h.nod (i:=M+i) (j:=M+j) om om e;omega
 ·have:=zDw h.nod (i:=i) (j:=M+l) om om e;omega
 ·exact h.apart 1 2 g om om om om om (b1 g e) (b2 g e')
theorem zPa (h:LPIs w X Y L p os rs bs) (hV:p.n=V) (hV2:V<=64) (ho2:p.O.n<=4) (hr:p.R.n<=128) (hb:p.B.n=p.R.n) (hL:L+1<=LM) :
  Calls Tryz.prog 80 #[p.val] w fun e w'=>NewRet w V os rs bs e w':=by
 obtain ⟨i0,hi,hz0,hz1,hz2⟩:=info_parts zG1;obtain ⟨j0,hj,hy0,hy1,hy2⟩:=info_parts zFA;have HL1:=hdq hL;have HL:Hid (L<=LM):=by show L<=LM; omega
 clear hL;obtain ⟨pn,O,R,⟨BA,Bn,Bc⟩⟩:=p;dsimp only at hV ho2 hr hb;subst hV;have HB:=hdq hb;clear hb
 have H0:NLoop1 w ⟨V,O,R,⟨BA,Bn,Bc⟩⟩ V (.int .i64 0) ((w.alloc (.cells #[V,O,R,.slice BA Bn Bc] 25)).alloc (.cells #[V,(),(),(),(),.int .i64 0,.int .i64 (-1),.int .i64 (-1)] 193)):=by
  refine ⟨0,nzl _,rfl,bx4,.slice none 0 0,fun x=>x=w.heap.size+1,⟨(bal).alloc si _,zAd _ _ si,fun f h1 h2=>?_,fun f g j _ h1 h2 _ _ hj=>?_,fun i hi=>absurd hi si,si,fun x hx=>by simp; omega,rfl,fun f j h1 h2 hj=>?_,om⟩⟩
  ·have e1:four () () () () f = .slice none 0 0:=by unfold four; simp
   have e2:lists [] (iv (List.range 0)) [] [] f=[]:=by unfold lists; simp [iv]
   rw [e1,e2];exact ⟨rfl,.inl ⟨rfl,rfl⟩⟩
  ·have e1:four () () () () f = .slice none 0 0:=by unfold four; simp
   rw [e1] at hj; cases hj
  ·have e1:four () () () () f = .slice none 0 0:=by unfold four; simp
   rw [e1] at hj; cases hj
 show Calls _ _ #[.agg #[V,O,R,.slice BA Bn Bc]] _ _;go_enter Tryz.func80,Tryz.ntmps80
 go_wp2;generalize (w.alloc (.cells #[V,O,R,.slice BA Bn Bc] 25)).alloc (.cells #[V,(),(),(),(),.int .i64 0,.int .i64 (-1),.int .i64 (-1)] 193)=W0 at *;go_loopw [17] (fun t W=>NLoop1 w ⟨V,O,R,⟨BA,Bn,Bc⟩⟩ V t W) (fun t _=>V-(intOf t).toNat)
 case atStart=>exact H0
 case round=>
  clear H0;obtain ⟨k,hk,rfl,bP,vb,G,hD⟩:=hrel;obtain ⟨c0,c1,c2,c3,c4,cf⟩:=hD.cells;have hdl:=hD.dlt;by_cases hlt:k<V
  ·have hown:=hD.own 2 om om;rw [show four () vb () () 2=vb from rfl,show lists [] (iv (List.range k)) [] [] 2=iv (List.range k) from rfl,show fieldType 2=3 from rfl,zPb,List.length_range] at hown;(go_wp2_with (at_builtin; refine wpList_append_own_at _ rfl _ _ 48 rfl (w+1+1) 3 i0 (.int .i64 0) 1 8 Tryz.underlying48 hi hz0 hz1 hz2 rfl dj vb k (iv (List.range k)) rfl (hown.alloc _) ⟨wr,0,none⟩ 1 1 (iv [k]) rfl rfl ?cells ?one ?b1 ?b2 ?b3 ?_));case cells=>exact cell_one_new _ _ _
   case one=>intro u hu; simp [iv] at hu; subst hu; rfl
   case b1=>simp [maxLen]; omega
   case b2=>omega
   case b3=>simp; omega
   intro v' W2 hown2 hg hnil hat;obtain ⟨g',c',rfl⟩:=ownsRow_succ hown2;have hblk:=hD.app_blk (f:=2) om om hg (nlr _);have hlow:=hD.app_blk (f:=2) (x:=w) om om hg om
   have hD2:=hD.append (f:=2) om om (x:=.int .i64 k) (v':=.slice (some g') (k+1) c') (by
    show W2.ownsRow _ 3 1 _ ((iv (List.range k)).length+1) (iv (List.range k)++[Value.int .i64 k]);rw [zPb,List.length_range]; exact hown2) hg (by rcases hat with e | e; exact .inl e; exact .inr (by rw [e]; simp))
   have d2:W2.cell? ⟨w.heap.size+1,2,none⟩=some vb:=(cob (a:=⟨w.heap.size+1,2,none⟩) hblk).trans c2;have df:∀ o,W2.frozen? ⟨w.heap.size+1,o,none⟩=false:=(fun o=>(World.frozen?_of_block (a:=⟨w.heap.size+1,o,none⟩) hblk).trans (cf o));rw [lists2] at hD2;have bP2:LPBox (W2.setCell ⟨w.heap.size+1,2,none⟩ (.slice (some g') (k+1) c')) w ⟨V,O,R,⟨BA,Bn,Bc⟩⟩:=(bP.heap hlow).far4 om _;have HD2:=hdq hD2;clear c0 c1 c2 c3 c4 cf hD hown hown2 hg hat hnil hblk hlow hD2;go_wp2;go_roundw
   case rel=>exact ⟨k+1,om,by go_num,bP2,_,_,by
    have e:iv (List.range (k+1))=iv (List.range k)++[Value.int .i64 (k:Int)]:=(by simp [iv,List.range_succ]);rw [e]; exact HD2.out⟩
   case measure=>simp [intOf]; omega
  ·have hkV:k=V:=om;rw [hkV] at hD;clear c0 c1 c2 c3 c4 cf hk hkV;have H1:NLoop2 w ⟨V,O,R,⟨BA,Bn,Bc⟩⟩ V rs bs (.int .i64 0) wr:=⟨0,nzl _,rfl,bP,_,vb,_,G,[],rfl,hD⟩;clear hD;go_wp2;clear bP hlt;obtain ⟨wo,hwo⟩:∃ wo:World,wo=wr:=⟨_,rfl⟩;rw [<-hwo] at H1 ⊢;clear hwo;(go_loopw [34] (fun t W=>NLoop2 w ⟨V,O,R,⟨BA,Bn,Bc⟩⟩ V rs bs t W) (fun t _=>R.n-(intOf t).toNat));case atStart=>exact H1
   case round=>
    clear H1;obtain ⟨i,hi',rfl,bP,va,vb2,vc,G2,Rb,hRb,hD⟩:=hrel;have HRb:=hdq hRb;clear hRb;by_cases hlt:i<R.n
    ·have hmk:∀ w,(Instr.makeSlice 23 (.int .i64 ((V:Int)+1)) (.int .i64 ((V:Int)+1))).run Tryz.prog w = .ok (.slice (some ⟨w,0,none⟩) (V+1) (V+1)) (w.alloc (.cells (zeroQ (V+1)) 30)):=by
      intro w;have:=zBZ (V+1) om w;simpa using this
     have hdl:=hD.dlt;have t0:w.heap.size<wr.heap.size:=om;go_wp2;have al:Below wr wr (wr.alloc (.cells (zeroQ (V+1)) 30)):=bal
     have H2:NLoop3 w ⟨V,O,R,⟨BA,Bn,Bc⟩⟩ V i rs bs va vb2 vc (fun x=>G2 x\/x=wr.heap.size) Rb wr (.int .i64 0) (wr.alloc (.cells (zeroQ (V+1)) 30)):=
      ⟨0,nzl _,rfl,bP.below al t0,by rw [zEe]; exact RowAt.made wr (V+1) _ (.inr rfl),hD.grow (fun x hx=>.inl hx) (fun x hx=>by
       rcases hx with h1 | h1
       ·exact .inl h1
       ·exact .inr (by simp; omega)) al⟩
     have Hg:Hid (wr.heap.size ∉ Rb):=fun hm=>by
      obtain ⟨j,hj,e⟩:=List.mem_iff_getElem.1 hm;have:=(hD.rows j hj).1.lt;rw [gdd,gge hj,e] at this;simp at this
     obtain ⟨g,hgd⟩:∃ g,g=wr.heap.size:=⟨_,rfl⟩;have hgw:w.heap.size+1<g:=om;rw [<-hgd] at H2 Hg ⊢;clear hD bP al hmk hdl t0 hgd;generalize (fun x=>G2 x\/x=g)=G3 at *;generalize wr.alloc (.cells (zeroQ (V+1)) 30)=W1 at *;(go_loopw [43] (fun t W=>NLoop3 w ⟨V,O,R,⟨BA,Bn,Bc⟩⟩ V i rs bs va vb2 vc G3 Rb g t W) (fun t _=>V-(intOf t).toNat));case atStart=>exact H2
     case round=>
      clear H2;obtain ⟨k2,hk2,rfl,bP,hR,hD⟩:=hrel;have hRl:=hR.lt;have hG:=hdq hD.gin;by_cases hk3:k2<V
      ·(go_wp2_with fail);refine (zFd (s:=R) (h.rows.below hD.bel) i k2 hlt om HL.out).mono ?_; rintro e w1 ⟨⟨z,rfl,hz⟩,h1⟩
       have hR1:=hR.below h1;obtain ⟨zv,⟨d0,d1,d2,d3⟩,-⟩:=hR1.elem k2 (by rw [zBj _ om]; omega);have fz:=hR1.frozen;dsimp only at d1 d2 d3;have hkl:k2<V+1:=om
       have Hfin:Hid (NLoop3 w ⟨V,O,R,⟨BA,Bn,Bc⟩⟩ V i rs bs va vb2 vc G3 Rb g (.int .i64 ((k2:Int)+1)) (put4 w1 g k2 z)):=
        ⟨k2+1,om,si,(bP.below h1 om).heap (zAx _ _ _ _ om),by
         rw [<-zGw _ (show k2<V+1 by omega)];exact hR1.put4 (by rw [zBj _ om]; omega) (hz.imp fun x _ hx hg=>by have:=(hG.out x hg).2; simp only [New] at hx; omega),
         (hD.call h1).put4 hR1 Hg.out k2 z⟩
       clear bP hR hD hR1;go_wp2;go_roundw;case rel=>exact Hfin.out
       case measure=>simp [intOf]; omega
      ·have hkV:k2=V:=om;rw [hkV] at hR;clear hkV hk2;go_wp2;clear hk3;obtain ⟨ad,v,e,hx,hqc,hqv⟩:=h.bounds.elem i (by show i<Bn; rw [HB.out]; exact hlt);dsimp only at e;subst e;have q0:(ad.add (i*4)).block<w:=zAb hqc.1;obtain ⟨c0,c1,c2,c3⟩:=hqc.keep (w':=wr) (fun a ha hl=>hD.bel.cell (by rw [ha]; exact hl));have HQ:=hdq ((hqv.imp (Y:=Was Y w) fun b hb hy=>⟨hy,hb⟩).below hD.bel);have hcap:=h.bounds.cap;have hle:=h.bounds.le;dsimp only at hcap hle;have hin:i<Bn:=by rw [HB.out]; exact hlt
       clear hqc hqv hx;have hBw:=hD.bel.size;have q1:(ad.add (i*4)).block<wr:=om;have q2:¬ ((ad.add (i*4)).block=g):=om;have q3:ad.block<w:=by rw [zAj] at q0; exact q0
       have q4:¬ (w.heap.size=g):=om;have q5:w.heap.size<wr.heap.size:=om;have q6:(0:Int)<=(V:Int):=om;have q7:(V:Int)<(V:Int)+1:=om;have q8:V<V+1:=om;obtain ⟨zv,⟨d0,d1,d2,d3⟩,-⟩:=hR.elem V (by rw [zBj _ om]; omega);have fz:=hR.frozen;dsimp only at d1 d2 d3
       go_region_held3 (Sees w [g] wr) (exact kp)
        (first
         | (go_at_call 99; ((with_reducible refine (zAT (a:=v) (HQ.out.keptOld' sk) HL.out).mono ?_); rintro e w3 ⟨⟨z,rfl,hz⟩,hb3⟩)))
       rename_i hS;clear hS c0 c1 c2 c3 d0 d1 d2 d3 fz q0 q1 q2 q3 hcap hle hin HQ;have h13:Below wr wr w3:=(brf _ wr).drew.trans hb3;have hR1:=hR.below h13;have hR2:=hR1.put4 (k:=V) (v:=z) (q:=bs.getD i 0) (by rw [zBj _ om]; omega) (hz.imp fun x _ hx hg=>by have:=(hG.out x hg).2; simp only [New,World.size_drew] at hx; omega);rw [show (fillTo (fun k=>(rs.getD i []).getD k 0) (V+1) V).set V (bs.getD i 0)=rowAt0 rs bs V i from zPy _ _ _] at hR2;have hD2:=((hD.call h13).put4 hR1 Hg.out V z).addRow hR2 (zPs _ _ _ _) Hg.out (by rw [List.length_map,List.length_range,HRb.out]);rw [show (List.range i).map (rowAt0 rs bs V)++[rowAt0 rs bs V i]=(List.range (i+1)).map (rowAt0 rs bs V) by simp [List.range_succ]] at hD2
       refine zGZ (fun W=>LPBox W w ⟨V,O,R,⟨some ad,Bn,Bc⟩⟩/\DS w (w+1) V (V+1) va vb2 vc () (lists (iv ((List.range i).map (V+·))) (iv (List.range V)) (Rb.map (rowVal (V+1))) []) (Rb++[g]) ((List.range (i+1)).map (rowAt0 rs bs V)) G3 W)
        ⟨(bP.below h13 om).heap (zAx _ _ _ _ om),hD2⟩ ?_
       clear hD2 hR2 hR1 h13 hR hD bP hz hb3 hG hRl;rintro W ⟨bP,hD⟩;obtain ⟨c0,c1,c2,c3,c4,cf⟩:=hD.cells;have hdl:=hD.dlt;have hown:=hD.own 3 om om;rw [show four va vb2 vc () 3=vc from rfl,show lists (iv ((List.range i).map (V+·))) (iv (List.range V)) (Rb.map (rowVal (V+1))) [] 3=Rb.map (rowVal (V+1)) from rfl,show fieldType 3=23 from rfl,List.length_map,HRb.out] at hown;(go_wp2_with (at_builtin; refine wpList_append_own_at _ rfl _ _ 22 rfl (w+1+1) 23 j0 () 1 24 Tryz.underlying22 hj hy0 hy1 hy2 rfl dj vc i (Rb.map (rowVal (V+1))) rfl (hown.alloc _) ⟨W,0,none⟩ 1 1 [rowVal (V+1) g] rfl rfl ?cells ?one ?b1 ?b2 ?b3 ?_));case cells=>exact cell_one_new _ _ _
       case one=>intro u hu; simp at hu; subst hu; rfl
       case b1=>simp [maxLen]; omega
       case b2=>omega
       case b3=>simp; omega
       intro v' W2 hown2 hg hnil hat;obtain ⟨g',c',rfl⟩:=ownsRow_succ hown2;have hblk:=hD.app_blk (f:=3) om om hg (nlr _);have hlow:=hD.app_blk (f:=3) (x:=w) om om hg om
       have hD2:=hD.append (f:=3) om om (x:=rowVal (V+1) g) (v':=.slice (some g') (i+1) c') (by
        show W2.ownsRow _ 23 1 _ ((Rb.map (rowVal (V+1))).length+1) (Rb.map (rowVal (V+1))++[rowVal (V+1) g]);rw [List.length_map,HRb.out]; exact hown2) hg (by rcases hat with e | e; exact .inl e; exact .inr (by rw [e]; simp))
       have d2:W2.cell? ⟨w.heap.size+1,3,none⟩=some vc:=(cob (a:=⟨w.heap.size+1,3,none⟩) hblk).trans c3;have df:∀ o,W2.frozen? ⟨w.heap.size+1,o,none⟩=false:=(fun o=>(World.frozen?_of_block (a:=⟨w.heap.size+1,o,none⟩) hblk).trans (cf o));rw [lists3,show Rb.map (rowVal (V+1))++[rowVal (V+1) g]=(Rb++[g]).map (rowVal (V+1)) by simp] at hD2;have bP2:LPBox (W2.setCell ⟨w.heap.size+1,3,none⟩ (.slice (some g') (i+1) c')) w ⟨V,O,R,⟨some ad,Bn,Bc⟩⟩:=(bP.heap hlow).far4 om _;have HD2:=hdq hD2;clear c0 c1 c2 c3 c4 cf hD hown hown2 hg hat hnil hblk hlow hD2 bP;go_wp2;clear d2 df;obtain ⟨G4,HG4⟩:∃ G4:Nat->Prop,Hid (G4=fun y=>G3 y\/(Value.slice (some g') (i+1) c').ownBlock=some y):=⟨_,rfl⟩;have hD:=HD2.out;rw [<-HG4.out] at hD;simp only [Nat.reduceEqDiff,if_false,if_true] at hD;generalize W2.setCell ⟨w.heap.size+1,3,none⟩ (.slice (some g') (i+1) c')=W3 at *;obtain ⟨-,c1,-,-,-,cf⟩:=hD.cells;have p0:=bP2.1;dsimp only at p0;have hown:=hD.own 1 om om;rw [show four va vb2 (.slice (some g') (i+1) c') () 1=va from rfl,show lists (iv ((List.range i).map (V+·))) (iv (List.range V)) ((Rb++[g]).map (rowVal (V+1))) [] 1=iv ((List.range i).map (V+·)) from rfl,show fieldType 1=3 from rfl,zPb,List.length_map,List.length_range] at hown;have hdl:=hD.dlt;have hsum:IntKind.i64.wrap ((V:Int)+(i:Int))=(V:Int)+(i:Int):=IntWalk.i64_in _ om;refine zAp 10 (fun f w'=>w'.cell? w=some (.int .i64 V)/\(f=false->w'.cell? ⟨w.heap.size+1,1,none⟩=some va)) kj ?_;refine takeA (i:=0) (.pointer (some ⟨w+1,0,none⟩)) rfl rfl kj kj kj dj (fun _ _ _ h=>h) (by rfl) (fun w' hSw=>?_) ⟨p0,fun _=>c1⟩ ?_
       ·go_simp
       simp only [zz];refine takeA (i:=1) (.pointer (some ⟨w+1,0,none⟩)) rfl rfl kj kj kj dj (fun _ _ _ h=>h) (by rfl) (fun w' hSw=>?_) ⟨p0,fun _=>c1⟩ ?_
       ·go_simp
       simp only [zz];refine takeA (i:=2) (.pointer (some ⟨w+1,0,none⟩)) rfl rfl kj kj kj dj (fun _ _ _ h=>h) (by rfl) (fun w' hSw=>?_) ⟨p0,fun _=>c1⟩ ?_
       ·go_simp
       simp only [zz];refine takeA (i:=3) (.pointer (some ⟨w.heap.size+1,1,none⟩)) rfl rfl kj kj kj dj (fun _ _ _ h=>h) (by rfl) (fun w' hSw=>?_) ⟨p0,fun _=>c1⟩ ?_
       ·go_simp
       simp only [zz];refine takeW (i:=4) va rfl rfl kj kj kj kj kj (fun _ _ _ h=>h) (by rfl) (fun w' hSw=>?_) ⟨p0,fun _=>c1⟩ ?_
       ·have:=hSw.2 rfl;go_simp
       simp only [zz];refine takeA (i:=5) (.pointer (some w)) rfl rfl kj kj kj dj (fun _ _ _ h=>h) (by rfl) (fun w' hSw=>?_) ⟨p0,fun _=>c1⟩ ?_
       ·go_simp
       simp only [zz];refine takeA (i:=6) V rfl rfl kj kj kj dj (fun _ _ _ h=>h) (by rfl) (fun w' hSw=>?_) ⟨p0,fun _=>c1⟩ ?_
       ·obtain ⟨_,hSw,_⟩:=hSw; go_simp
       simp only [zz];refine takeA (i:=7) (.int .i64 i) rfl rfl kj kj kj dj (fun _ _ _ h=>h) (by rfl) (fun w' hSw=>?_) ⟨p0,fun _=>c1⟩ ?_
       ·go_simp
       simp only [zz];refine takeA (i:=8) (.int .i64 ((V:Int)+(i:Int))) rfl rfl kj kj kj dj (fun _ _ _ h=>h) (by rfl) (fun w' hSw=>?_) ⟨p0,fun _=>c1⟩ ?_
       ·go_simp
       simp only [zz];refine tk1 9 ?_;intro K hK;go_simp;have al:Below W3 W3 (W3.alloc (.cells #[.int .i64 ((V:Int)+(i:Int))] 3)).drew:=(bal).drew;refine hK.out _ _ ⟨(al.cell (p:=w) (by show w.heap.size<_; omega)).trans p0,fun _=>(al.cell (p:=⟨w.heap.size+1,1,none⟩) hdl).trans c1⟩ ?_;clear hK K;refine tk1 10 ?_;intro K hK;refine zAq _ _ 48 rfl (w+1+1) 3 i0 (.int .i64 0) 1 8 Tryz.underlying48 hi hz0 hz1 hz2 rfl dj va i (iv ((List.range i).map (V+·))) rfl (hown.alloc _) ⟨W3,0,none⟩ 1 1 [.int .i64 ((V:Int)+(i:Int))] rfl rfl (cell_one_new _ _ _) (by intro u hu; simp at hu; subst hu; rfl) (by simp [maxLen]; omega) om (by simp; omega) ?_;intro v' W5 hown5 hg5 hnil5 hat5;obtain ⟨g5,c5,rfl⟩:=ownsRow_succ hown5;have hg:(W3.alloc (.cells #[.int .i64 ((V:Int)+(i:Int))] 3)).grownBy W5 va.ownBlock:=⟨hg5.1,hg5.2,hg5.3,hg5.size,hg5.block⟩;have hblk:=hD.app_blk (f:=1) om om hg (nlr _);have hlow:=hD.app_blk (f:=1) (x:=w) om om hg om
       have hD5:=hD.append (f:=1) om om (x:=.int .i64 ((V:Int)+(i:Int))) (v':=.slice (some g5) (i+1) c5) (by
        show W5.ownsRow _ 3 1 _ ((iv ((List.range i).map (V+·))).length+1) _;rw [zPb,List.length_map,List.length_range]; exact hown5) hg (by rcases hat5 with e | e; exact .inl e; exact .inr (by rw [e]; simp))
       rw [lists1] at hD5;have d1:W5.cell? ⟨w.heap.size+1,1,none⟩=some va:=(cob (a:=⟨w.heap.size+1,1,none⟩) hblk).trans c1;have df:∀ o,W5.frozen? ⟨w.heap.size+1,o,none⟩=false:=(fun o=>(World.frozen?_of_block (a:=⟨w.heap.size+1,o,none⟩) hblk).trans (cf o));have p5:W5.cell? w=some (.int .i64 V):=(cob (a:=w) hlow).trans p0;simp only [Act.put,zz];refine hK.out _ _ ⟨p5,fun h=>absurd h dj⟩ ?_;clear hK K;refine tk1 11 ?_;intro K hK;go_simp;refine hK.out _ _ ⟨p5,fun h=>absurd h dj⟩ ?_;clear hK K;refine tk1 12 ?_;intro K hK;go_simp;refine hK.out _ _ ⟨p5,fun h=>absurd h dj⟩ ?_;clear hK K;refine tk1 13 ?_;intro K hK;go_simp;refine hK.out _ _ ⟨(World.cell?_setCell_far _ _ _ _ si).trans p5,fun h=>absurd h dj⟩ ?_;clear hK K;refine zAf kj ?_ _;have HD5:=hdq hD5;have HP5:Hid (LPBox (W5.setCell ⟨w.heap.size+1,1,none⟩ (.slice (some g5) (i+1) c5)) w ⟨V,O,R,⟨some ad,Bn,Bc⟩⟩):=(bP2.heap hlow).far4 om _;clear hD5 hD hown hown5 hg hg5 hnil5 hat5 d1 df p5 hblk hlow HD2 HG4 c1 cf p0 hsum al;go_wp2;have e:iv ((List.range (i+1)).map (V+·))=iv ((List.range i).map (V+·))++[Value.int .i64 ((V:Int)+(i:Int))]:=(by simp [iv,List.range_succ]);have hD6:=HD5.out;rw [<-e] at hD6;exact ⟨⟨i+1,by show i+1<=R.n; omega,si,HP5.out,_,_,_,_,Rb++[g],by simp [HRb.out],hD6⟩,by simp [intOf]; omega⟩
    ·have hiR:i=R.n:=by have hi2:i<=R.n:=hi'; omega
     rw [hiR] at hD HRb;have H3:NLoop4 w ⟨V,O,R,⟨BA,Bn,Bc⟩⟩ V os rs bs (.int .i64 0) wr:=⟨0,nzl _,rfl,bP,va,vb2,vc,_,G2,Rb,[],HRb.out,rfl,by simpa using hD⟩;clear hiR hD;go_wp2;clear bP hlt;obtain ⟨w4,hw4⟩:∃ w4:World,w4=wr:=⟨_,rfl⟩;rw [<-hw4] at H3 ⊢;clear hw4;(go_loopw [92] (fun t W=>NLoop4 w ⟨V,O,R,⟨BA,Bn,Bc⟩⟩ V os rs bs t W) (fun t _=>O.n-(intOf t).toNat));case atStart=>exact H3
     case round=>
      clear H3;obtain ⟨l,hl',rfl,bP,va,vb2,vc,vd,G2,Rb,Cb,hRb,hCb,hD⟩:=hrel;have hl2:l<=O.n:=hl';have HRb:Hid (Rb.length=R.n):=hRb;have HCb:=hdq hCb;clear hRb hCb hl';by_cases hlt:l<O.n
      ·have hmk:∀ w,(Instr.makeSlice 23 (.int .i64 ((V:Int)+1)) (.int .i64 ((V:Int)+1))).run Tryz.prog w = .ok (.slice (some ⟨w,0,none⟩) (V+1) (V+1)) (w.alloc (.cells (zeroQ (V+1)) 30)):=by
        intro w;have:=zBZ (V+1) om w;simpa using this
       have hdl:=hD.dlt;have t0:w.heap.size<wr.heap.size:=om;go_wp2;have al:Below wr wr (wr.alloc (.cells (zeroQ (V+1)) 30)):=bal
       have H2:NLoop5 w ⟨V,O,R,⟨BA,Bn,Bc⟩⟩ V l os rs bs va vb2 vc vd (fun x=>G2 x\/x=wr.heap.size) Rb Cb wr (.int .i64 0) (wr.alloc (.cells (zeroQ (V+1)) 30)):=
        ⟨0,nzl _,rfl,bP.below al t0,by rw [zEe]; exact RowAt.made wr (V+1) _ (.inr rfl),hD.grow (fun x hx=>.inl hx) (fun x hx=>by
         rcases hx with h1 | h1
         ·exact .inl h1
         ·exact .inr (by simp; omega)) al⟩
       have Hg:Hid (wr.heap.size ∉ Rb++Cb):=fun hm=>by
        obtain ⟨j,hj,e⟩:=List.mem_iff_getElem.1 hm;have:=(hD.rows j hj).1.lt;rw [gdd,gge hj,e] at this;simp at this
       obtain ⟨g,hgd⟩:∃ g,g=wr.heap.size:=⟨_,rfl⟩;have hgw:w.heap.size+1<g:=om;rw [<-hgd] at H2 Hg ⊢;clear hD bP al hmk hdl t0 hgd;generalize (fun x=>G2 x\/x=g)=G3 at *;generalize wr.alloc (.cells (zeroQ (V+1)) 30)=W1 at *;(go_loopw [101] (fun t W=>NLoop5 w ⟨V,O,R,⟨BA,Bn,Bc⟩⟩ V l os rs bs va vb2 vc vd G3 Rb Cb g t W) (fun t _=>V-(intOf t).toNat));case atStart=>exact H2
       case round=>
        clear H2;obtain ⟨k2,hk2,rfl,bP,hR,hD⟩:=hrel;have hRl:=hR.lt;have hG:=hdq hD.gin;by_cases hk3:k2<V
        ·(go_wp2_with fail);refine (zFd (s:=O) (h.obj.below hD.bel) l k2 hlt om HL.out).mono ?_; rintro e w0 ⟨⟨z0,rfl,hz0'⟩,h0⟩
         (go_wp2_with fail);refine (zHK (a:=z0) (hz0'.qis (h.obj.fit l k2)) HL1.out).mono ?_; rintro e w1 ⟨⟨z,rfl,hz⟩,h1'⟩
         have h1:=h0.trans (h1'.mono h0.size);have hR1:=hR.below h1;have hz1:=hz.lower (B':=wr) h0.size;obtain ⟨zv,⟨d0,d1,d2,d3⟩,-⟩:=hR1.elem k2 (by rw [zBj _ om]; omega);have fz:=hR1.frozen;dsimp only at d1 d2 d3;have hkl:k2<V+1:=om
         have Hfin:Hid (NLoop5 w ⟨V,O,R,⟨BA,Bn,Bc⟩⟩ V l os rs bs va vb2 vc vd G3 Rb Cb g (.int .i64 ((k2:Int)+1)) (put4 w1 g k2 z)):=
          ⟨k2+1,om,si,(bP.below h1 om).heap (zAx _ _ _ _ om),by
           rw [<-zGw _ (show k2<V+1 by omega)];exact hR1.put4 (by rw [zBj _ om]; omega) (hz1.imp fun x _ hx hg=>by have:=(hG.out x hg).2; simp only [New] at hx; omega),
           (hD.call h1).put4 hR1 Hg.out k2 z⟩
         clear bP hR hD hR1 hz0' hz hz1;go_wp2;go_roundw;case rel=>exact Hfin.out
         case measure=>simp [intOf]; omega
        ·have hkV:k2=V:=om;rw [hkV,zPt] at hR;clear hkV hk2;have hD2:=hD.addRow hR (zPi _ _ _) Hg.out (by simp [HRb.out,HCb.out]);rw [show (List.range R.n).map (rowAt0 rs bs V)++(List.range l).map (costAt0 os V)++[costAt0 os V l]=(List.range R.n).map (rowAt0 rs bs V)++(List.range (l+1)).map (costAt0 os V) by simp [List.range_succ],List.append_assoc] at hD2;clear hD hR;obtain ⟨c0,c1,c2,c3,c4,cf⟩:=hD2.cells;have hdl:=hD2.dlt;have hown:=hD2.own 4 om om;rw [show four va vb2 vc vd 4=vd from rfl,show lists (iv ((List.range R.n).map (V+·))) (iv (List.range V)) (Rb.map (rowVal (V+1))) (Cb.map (rowVal (V+1))) 4=Cb.map (rowVal (V+1)) from rfl,show fieldType 4=23 from rfl,List.length_map,HCb.out] at hown;(go_wp2_with (at_builtin; refine wpList_append_own_at _ rfl _ _ 22 rfl (w+1+1) 23 j0 () 1 24 Tryz.underlying22 hj hy0 hy1 hy2 rfl dj vd l (Cb.map (rowVal (V+1))) rfl (hown.alloc _) ⟨wr,0,none⟩ 1 1 [rowVal (V+1) g] rfl rfl ?cells ?one ?b1 ?b2 ?b3 ?_));case one=>first | rfl | (intro u hu; simp at hu; subst hu; rfl)
         case b1=>first | omega | (simp [maxLen]; omega)
         case b2=>first | omega | (simp; omega)
         case b3=>first | omega | (simp; omega)
         intro v' W2 hown2 hg hnil hat;obtain ⟨g',c',rfl⟩:=ownsRow_succ hown2;have hblk:=hD2.app_blk (f:=4) om om hg (nlr _);have hlow:=hD2.app_blk (f:=4) (x:=w) om om hg om
         have hD3:=hD2.append (f:=4) om om (x:=rowVal (V+1) g) (v':=.slice (some g') (l+1) c') (by
          show W2.ownsRow _ 23 1 _ ((Cb.map (rowVal (V+1))).length+1) (Cb.map (rowVal (V+1))++[rowVal (V+1) g]);rw [List.length_map,HCb.out]; exact hown2) hg (by rcases hat with e | e; exact .inl e; exact .inr (by rw [e]; simp))
         have d2:W2.cell? ⟨w.heap.size+1,4,none⟩=some vd:=(cob (a:=⟨w.heap.size+1,4,none⟩) hblk).trans c4;have df:∀ o,W2.frozen? ⟨w.heap.size+1,o,none⟩=false:=(fun o=>(World.frozen?_of_block (a:=⟨w.heap.size+1,o,none⟩) hblk).trans (cf o));rw [lists4,show Cb.map (rowVal (V+1))++[rowVal (V+1) g]=(Cb++[g]).map (rowVal (V+1)) by simp] at hD3;have bP2:LPBox (W2.setCell ⟨w.heap.size+1,4,none⟩ (.slice (some g') (l+1) c')) w ⟨V,O,R,⟨BA,Bn,Bc⟩⟩:=(bP.heap hlow).far4 om _;have HD3:=hdq hD3;clear c0 c1 c2 c3 c4 cf hD2 hown hown2 hg hat hnil hblk hlow hD3 bP;go_wp2;exact ⟨⟨l+1,by show l+1<=O.n; omega,si,bP2,_,_,_,_,_,Rb,Cb++[g],HRb.out,by simp [HCb.out],HD3.out⟩,by simp [intOf]; omega⟩
      ·have hlO:l=O.n:=om;rw [hlO] at hD HCb;clear hlO;have HD:=hdq hD;have HGe:Hid (∀ b,G2 b->w.heap.size<=b):=fun b hb=>by have:=(hD.gin b hb).1; omega
       have HO:Hid (os.length=O.n):=h.obj.len;have HR:Hid (rs.length=R.n):=h.rows.len;have HBel:=hdq hD.bel;clear hD bP;go_wp2;go_ret;obtain ⟨x,hx,hA⟩:=DS.done HRb.out HCb.out HD.out;rw [<-HO.out,<-HR.out] at hA;exact ⟨x,G2,by rw [hx]; rfl,hA,HGe.out,HBel.out⟩
end Go.Proofs.YtbpngececjihlaaGreat
