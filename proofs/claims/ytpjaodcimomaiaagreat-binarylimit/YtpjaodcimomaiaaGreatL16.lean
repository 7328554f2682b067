/- Texts Dict3 of this claim. -/
import Derived.Test.YtpjaodcimomaiaaGreatL12
set_option maxHeartbeats 4000000
namespace Go.Proofs.YtpjaodcimomaiaaGreat
open Go.RowKit Go.Shelf
variable {xs:List Value} {n i:Nat} {v:Value} {T:TypeId} {W:World}
theorem zG1:(Tryz.prog.info? 3).map (fun i=>(i.zero,i.size,i.bytes))=some (some (.int .i64 0),1,8):=by kernel_rfl
theorem zFA:(Tryz.prog.info? 24).map (fun i=>(i.zero,i.size,i.bytes))=some (some (.slice none 0 0),1,24):=by kernel_rfl
def iv (l:List Nat):List Value:=l.map fun (x:Nat)=>Value.int .i64 (x:Int)
theorem QFit.zero (L:Nat):QFit (L+1) 0:=⟨by show 0<_; exact Num.pow_pos' _,by show 1<_; exact Nat.one_lt_pow (by omega) (by decide)⟩
theorem own_arr' {base:Nat} {f:Nat->Value} (h:W.ownsRow base T 1 v n xs) (hx:∀ k,k<n->xs[k]?=some (f k)) :
  ∃ s:SV,v=s.val/\Arr W s n T f/\∀ g,s.A=some ⟨g,0,none⟩->v.ownBlock=some g:=by
 obtain ⟨h1,h2⟩:=h;rcases h2 with ⟨rfl,rfl⟩ | ⟨g,cap,cur,rfl,hg,hh,hnc,hcap,hcur,ht⟩
 ·exact ⟨⟨none,0,0⟩,rfl,⟨rfl,nlr _,by decide,.inl ⟨rfl,rfl⟩⟩,fun g e=>by cases e⟩
 ·refine ⟨⟨some ⟨g,0,none⟩,n,cap⟩,rfl,⟨rfl,hnc,hcap,.inr ⟨g,cur,rfl,hh,fun k hk=>?_⟩⟩,fun g' e=>by cases e; rfl⟩;have e2:(cur.toList.take (n*1))[k]?=xs[k]?:=by rw [ht]
  rw [Nat.mul_one,List.getElem?_take_of_lt hk,hx k hk] at e2;simpa using e2
theorem zAE {α:Type} (a b:List α) (y:α) (h:i<a.length):(a++b).getD i y=a.getD i y:=by
 simp only [gdd]; rw [List.getElem?_append_left h]
theorem zAS {α:Type} (f:Nat->α) (y:α) (h:i<n):((List.range n).map f).getD i y=f i:=by
 simp [h]
end Go.Proofs.YtpjaodcimomaiaaGreat
