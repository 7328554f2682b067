/- Texts Dict3 of this claim. -/
import Derived.Test.YtbpngececjihlaaGreatY11
set_option maxHeartbeats 4000000
namespace Go.Proofs.YtbpngececjihlaaGreat
open Go.RowKit Go.Shelf
variable {s:SV} {L n base i:Nat} {X Y:Nat->Prop} {w W:World} {xs:List Value} {v:Value} {T:TypeId}
theorem zG1:(Tryz.prog.info? 3).map (fun i=>(i.zero,i.size,i.bytes))=some (some (.int .i64 0),1,8):=by kernel_rfl
theorem zFA:(Tryz.prog.info? 23).map (fun i=>(i.zero,i.size,i.bytes))=some (some (.slice none 0 0),1,24):=by kernel_rfl
def iv (l:List Nat):List Value:=l.map fun (x:Nat)=>Value.int .i64 (x:Int)
def lists (a b c d:List Value) (f:Nat):List Value:=if f=1 then a else if f=2 then b else if f=3 then c else if f=4 then d else []
abbrev LPBox (W:World) (b:Nat) (p:LPV):Prop:=Box4 W b (.int .i64 p.n) (.slice p.O.A p.O.n p.O.c) (.slice p.R.A p.R.n p.R.c) (.slice p.B.A p.B.n p.B.c)
theorem QFit.zero (L:Nat):QFit (L+1) 0:=⟨by show 0<_; exact Num.pow_pos' _,by show 1<_; exact Nat.one_lt_pow (by omega) (by decide)⟩
theorem MatAt.fit {m:List (List Rat)} (h:MatIs w X Y L s m) (i k:Nat):QFit (L+1) ((m.getD i []).getD k 0):=by
 by_cases hi:i<s.n
 ·obtain ⟨ad,r,e,hx,hc,hr⟩:=h.row i hi;by_cases hk:k<r.n
  ·obtain ⟨_,v,_,_,_,hq⟩:=hr.elem k hk;exact hq.fit
  ·rw [zAw _ _ _ (by rw [hr.len]; omega)]; exact QFit.zero L
 ·rw [zAw m _ _ (by rw [h.len]; omega),zAw _ _ _ (by simp)]; exact QFit.zero L
theorem own_arr' {f:Nat->Value} (h:W.ownsRow base T 1 v n xs) (hx:∀ k,k<n->xs[k]?=some (f k)) :
  ∃ s:SV,v=s.val/\Arr W s n T f/\∀ g,s.A=some ⟨g,0,none⟩->v.ownBlock=some g:=by
 obtain ⟨h1,h2⟩:=h;rcases h2 with ⟨rfl,rfl⟩ | ⟨g,cap,cur,rfl,hg,hh,hnc,hcap,hcur,ht⟩
 ·exact ⟨⟨none,0,0⟩,rfl,⟨rfl,nlr _,by decide,.inl ⟨rfl,rfl⟩⟩,fun g e=>by cases e⟩
 ·refine ⟨⟨some ⟨g,0,none⟩,n,cap⟩,rfl,⟨rfl,hnc,hcap,.inr ⟨g,cur,rfl,hh,fun k hk=>?_⟩⟩,fun g' e=>by cases e; rfl⟩;have e2:(cur.toList.take (n*1))[k]?=xs[k]?:=by rw [ht]
  rw [Nat.mul_one,List.getElem?_take_of_lt hk,hx k hk] at e2;simpa using e2
theorem zAE {α:Type} (a b:List α) (y:α) (h:i<a.length):(a++b).getD i y=a.getD i y:=by
 simp only [gdd]; rw [List.getElem?_append_left h]
end Go.Proofs.YtbpngececjihlaaGreat
