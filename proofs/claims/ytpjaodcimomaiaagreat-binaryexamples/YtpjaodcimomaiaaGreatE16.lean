/- Texts Dict3 of this claim. -/
import Derived.Test.YtpjaodcimomaiaaGreatEA0
import Derived.Test.YtpjaodcimomaiaaGreatE11
import Derived.Test.YtpjaodcimomaiaaGreatE07
import Derived.Test.YtpjaodcimomaiaaGreatE12
set_option maxHeartbeats 4000000
namespace Go.Proofs.YtpjaodcimomaiaaGreat
open Go.RowKit Go.Shelf
theorem zG1:(Tryz.prog.info? 3).map (fun i=>(i.zero,i.size,i.bytes))=some (some (.int .i64 0),1,8):=by kernel_rfl
theorem zFA:(Tryz.prog.info? 24).map (fun i=>(i.zero,i.size,i.bytes))=some (some (.slice none 0 0),1,24):=by kernel_rfl
def iv (l:List Nat):List Value:=l.map fun (x:Nat)=>Value.int .i64 (x:Int)
def lists (a b c d:List Value) (f:Nat):List Value:=if f=1 then a else if f=2 then b else if f=3 then c else if f=4 then d else []
abbrev LPBox (W:World) (b:Nat) (p:LPV):Prop:=Box4 W b (.int .i64 p.n) (.slice p.O.A p.O.n p.O.c) (.slice p.R.A p.R.n p.R.c) (.slice p.B.A p.B.n p.B.c)
def rowAt0 (rs:List (List Rat)) (bs:List Rat) (V i:Nat):List Rat:=(List.range V).map (fun k=>(rs.getD i []).getD k 0)++[bs.getD i 0]
theorem QFit.zero (L:Nat):QFit (L+1) 0:=⟨by show 0<_; exact Num.pow_pos' _,by show 1<_; exact Nat.one_lt_pow (by omega) (by decide)⟩
theorem MatAt.fit {w:World} {X Y:Nat->Prop} {L:Nat} {s:SV} {m:List (List Rat)} (h:MatIs w X Y L s m) (i k:Nat):QFit (L+1) ((m.getD i []).getD k 0):=by
 by_cases hi:i<s.n
 ·obtain ⟨ad,r,e,hx,hc,hr⟩:=h.row i hi;by_cases hk:k<r.n
  ·obtain ⟨_,v,_,_,_,hq⟩:=hr.elem k hk;exact hq.fit
  ·rw [zAw _ _ _ (by rw [hr.len]; omega)]; exact QFit.zero L
 ·rw [zAw m _ _ (by rw [h.len]; omega),zAw _ _ _ (by simp)]; exact QFit.zero L
def costAt0 (os:List (List Rat)) (V l:Nat):List Rat:=(List.range V).map (fun k=>-((os.getD l []).getD k 0))++[0]
theorem DS.cells {w W:World} {d n1:Nat} {nv:Int} {va vb vc vd:Value} {al:Nat->List Value} {rs:List Nat} {rl:List (List Rat)} {G:Nat->Prop} (h:DS w d nv n1 va vb vc vd al rs rl G W) :
  W.cell? ⟨d,0,none⟩=some (.int .i64 nv)/\W.cell? ⟨d,1,none⟩=some va/\W.cell? ⟨d,2,none⟩=some vb/\W.cell? ⟨d,3,none⟩=some vc/\W.cell? ⟨d,4,none⟩=some vd/\∀ o,W.frozen? ⟨d,o,none⟩=false:=by
 simp [World.cell?,World.frozen?,h.blk]
theorem own_arr' {W:World} {base:Nat} {T:TypeId} {v:Value} {n:Nat} {xs:List Value} {f:Nat->Value} (h:W.ownsRow base T 1 v n xs) (hx:∀ k,k<n->xs[k]?=some (f k)) :
  ∃ s:SV,v=s.val/\Arr W s n T f/\∀ g,s.A=some ⟨g,0,none⟩->v.ownBlock=some g:=by
 obtain ⟨h1,h2⟩:=h;rcases h2 with ⟨rfl,rfl⟩ | ⟨g,cap,cur,rfl,hg,hh,hnc,hcap,hcur,ht⟩
 ·exact ⟨⟨none,0,0⟩,rfl,⟨rfl,nlr _,by decide,.inl ⟨rfl,rfl⟩⟩,fun g e=>by cases e⟩
 ·refine ⟨⟨some ⟨g,0,none⟩,n,cap⟩,rfl,⟨rfl,hnc,hcap,.inr ⟨g,cur,rfl,hh,fun k hk=>?_⟩⟩,fun g' e=>by cases e; rfl⟩;have e2:(cur.toList.take (n*1))[k]?=xs[k]?:=by rw [ht]
  rw [Nat.mul_one,List.getElem?_take_of_lt hk,hx k hk] at e2;simpa using e2
def probOf (V:Nat) (os rs:List (List Rat)) (bs:List Rat):Lin.Prob:=⟨V,rs.length,os.length,fun i k=>(rs.getD i []).getD k 0,fun i=>bs.getD i 0,fun l k=>(os.getD l []).getD k 0⟩
theorem zF6 (V:Nat) (os rs:List (List Rat)) (bs:List Rat) (i:Nat):rowAt0 rs bs V i=rowL V ((probOf V os rs bs).start.a i):=by
 unfold rowAt0 rowL;rw [List.range_succ,List.map_append];congr 1
 ·apply List.map_congr_left;intro k hk;rw [List.mem_range] at hk;simp [Lin.Prob.start,probOf,hk]
 ·simp [Lin.Prob.start,probOf]
theorem zFi (V:Nat) (os rs:List (List Rat)) (bs:List Rat) (l:Nat):costAt0 os V l=rowL V ((probOf V os rs bs).start.c l):=by
 unfold costAt0 rowL;rw [List.range_succ,List.map_append];congr 1
 ·apply List.map_congr_left;intro k hk;rw [List.mem_range] at hk;simp [Lin.Prob.start,probOf,hk]
 ·simp [Lin.Prob.start,probOf]
theorem zAE {α:Type} (a b:List α) (y:α) {i:Nat} (h:i<a.length):(a++b).getD i y=a.getD i y:=by
 simp only [gdd]; rw [List.getElem?_append_left h]
theorem zBS {α:Type} (a b:List α) (y:α) {i:Nat}:(a++b).getD (a.length+i) y=b.getD i y:=by
 simp only [gdd]; rw [List.getElem?_append_right (by omega)]; simp
theorem zAS {α:Type} (f:Nat->α) (y:α) {n i:Nat} (h:i<n):((List.range n).map f).getD i y=f i:=by
 simp [h]
theorem zDw {l:List Nat} (h:l.Nodup) {i j:Nat} (hi:i<l.length) (hj:j<l.length) (e:l.getD i 0=l.getD j 0):i=j:=by
 simp only [gdd,gge hi,gge hj,Option.getD_some] at e;refine (List.getElem?_inj hi h).1 ?_;rw [gge hi,gge hj,e]
theorem DS.done {w W:World} {d V M K:Nat} {va vb vc vd:Value} {G:Nat->Prop} {Rb Cb:List Nat} {os rs:List (List Rat)} {bs:List Rat} (hR:Rb.length=M) (hC:Cb.length=K)
  (h:DS w d V (V+1) va vb vc vd (lists (iv ((List.range M).map (V+·))) (iv (List.range V)) (Rb.map (rowVal (V+1))) (Cb.map (rowVal (V+1)))) (Rb++Cb) ((List.range M).map (rowAt0 rs bs V)++(List.range K).map (costAt0 os V)) G W) :
  ∃ x:DV,x.d=d/\DA W G x V M K (probOf V os rs bs).start 0 (-1) (-1):=by
 have o1:=h.own 1 (by omega) (by omega);have o2:=h.own 2 (by omega) (by omega);have o3:=h.own 3 (by omega) (by omega);have o4:=h.own 4 (by omega) (by omega);have l1:(lists (iv ((List.range M).map (V+·))) (iv (List.range V)) (Rb.map (rowVal (V+1))) (Cb.map (rowVal (V+1))) 1).length=M:=by simp [lists,iv]
 have l2:(lists (iv ((List.range M).map (V+·))) (iv (List.range V)) (Rb.map (rowVal (V+1))) (Cb.map (rowVal (V+1))) 2).length=V:=by simp [lists,iv]
 have l3:(lists (iv ((List.range M).map (V+·))) (iv (List.range V)) (Rb.map (rowVal (V+1))) (Cb.map (rowVal (V+1))) 3).length=M:=by simp [lists,hR]
 have l4:(lists (iv ((List.range M).map (V+·))) (iv (List.range V)) (Rb.map (rowVal (V+1))) (Cb.map (rowVal (V+1))) 4).length=K:=by simp [lists,hC]
 rw [l1] at o1;rw [l2] at o2;rw [l3] at o3;rw [l4] at o4;obtain ⟨s1,e1,a1,b1⟩:=own_arr' (f:=fun i=>.int .i64 ((probOf V os rs bs).start.basic i:Nat)) o1 fun k hk=>by simp [lists,iv,hk,Lin.Prob.start,probOf]
 obtain ⟨s2,e2,a2,b2⟩:=own_arr' (f:=fun j=>.int .i64 ((probOf V os rs bs).start.free j:Nat)) o2 fun k hk=>by simp [lists,iv,hk,Lin.Prob.start]
 obtain ⟨s3,e3,a3,b3⟩:=own_arr' (f:=fun i=>rowVal (V+1) ((Rb++Cb).getD i 0)) o3 fun k hk=>by
  have hk':k<Rb.length:=by omega
  rw [zAE _ _ _ hk'];simp [lists,hk']
 obtain ⟨s4,e4,a4,b4⟩:=own_arr' (f:=fun l=>rowVal (V+1) ((Rb++Cb).getD (M+l) 0)) o4 fun k hk=>by
  have hk':k<Cb.length:=by omega
  rw [<-hR,zBS];simp [lists,hk']
 have f1:va=s1.val:=e1;have f2:vb=s2.val:=e2;have f3:vc=s3.val:=e3;have f4:vd=s4.val:=e4;have hb:=h.blk;rw [f1,f2,f3,f4] at hb;have hlen:(Rb++Cb).length=M+K:=by simp [hR,hC]
 refine ⟨⟨d,s1,s2,s3,s4,fun i=>(Rb++Cb).getD i 0,fun l=>(Rb++Cb).getD (M+l) 0⟩,rfl,⟨hb,a1,a2,a3,a4,fun i hi=>?_,fun l hl=>?_,fun i j hi hj e=>zDw h.nod (by omega) (by omega) e,fun i j hi hj e=>?_,fun i l hi hl e=>?_,fun g e e'=>?_,fun b hg=>(h.gin b hg).2,h.gd,
  fun g e=>h.gf 1 g (by omega) (by omega) (b1 g e),fun g e=>h.gf 2 g (by omega) (by omega) (b2 g e),fun g e=>h.gf 3 g (by omega) (by omega) (b3 g e),fun g e=>h.gf 4 g (by omega) (by omega) (b4 g e)⟩⟩
 ·have:=(h.rows i (by omega)).1;rw [zAE ((List.range M).map (rowAt0 rs bs V)) _ _ (by simpa using hi),zAS _ _ hi,zF6 V os rs bs i] at this;exact this
 ·have:=(h.rows (M+l) (by omega)).1
  have e:((List.range M).map (rowAt0 rs bs V)++(List.range K).map (costAt0 os V)).getD (M+l) []=costAt0 os V l:=by
   have:=zBS ((List.range M).map (rowAt0 rs bs V)) ((List.range K).map (costAt0 os V)) [] (i:=l);rw [List.length_map,List.length_range] at this;rw [this,zAS _ _ hl]
  rw [e,zFi V os rs bs l] at this;exact this
 ·have:=zDw h.nod (i:=M+i) (j:=M+j) (by omega) (by omega) e;omega
 ·have:=zDw h.nod (i:=i) (j:=M+l) (by omega) (by omega) e;omega
 ·exact h.apart 1 2 g (by omega) (by omega) (by omega) (by omega) (by omega) (b1 g e) (b2 g e')
end Go.Proofs.YtpjaodcimomaiaaGreat
