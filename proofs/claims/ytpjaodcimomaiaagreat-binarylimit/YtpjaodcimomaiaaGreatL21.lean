/- Texts Enter Improve Solve Alive1 of this claim. -/
import Derived.Test.YtpjaodcimomaiaaGreatL20
set_option maxHeartbeats 4000000
namespace Go.Proofs.YtpjaodcimomaiaaGreat
open Go.RowKit Go.Shelf
attribute [local go_sem] Oper.semAt_some
section
variable {w W Wd:World} {B d V:Nat} {p:Nat->Prop} {D:Lin.Dict} {cf:Bool} {pre:List {j:Nat // j<V/\p j}} {y:{j:Nat // j<V/\p j}} {v:Value}
end
end Go.Proofs.YtpjaodcimomaiaaGreat
namespace Go.Proofs.YtpjaodcimomaiaaGreat
open Go.RowKit Go.Shelf
variable {z:Int} {b B B':Nat} {w:World} {T:TypeId}
def LRet (w:World) (V:Nat) (os rs:List (List Rat)) (bs:List Rat) (e:Ending) (w':World):Prop:=
 ∃ p:LPV,e = .returned p.val/\p.n=V/\MatCan w' (New w.heap.size) (New w.heap.size) p.O os/\MatCan w' (New w.heap.size) (New w.heap.size) p.R rs/\VecCan w' (New w.heap.size) (New w.heap.size) p.B bs
theorem IntsAt.one (hc:w.cell? ⟨b,0,none⟩=some (.int .i64 z)) (h1:-9223372036854775808<=z) (h2:z<=9223372036854775807):IntsAt w ⟨some ⟨b,0,none⟩,1,1⟩ [z]:=
 ⟨rfl,nlr _,by show 1<=_; omega,fun x hx=>by simp at hx; subst hx; exact ⟨h1,h2⟩,fun i hi=>by
  obtain rfl:i=0:=by have hi':i<1:=hi; omega
  exact ⟨⟨b,0,none⟩,rfl,by rw [zA4]; exact hc⟩⟩
theorem VecAt.low {s:SV} {l:List Rat} (h:VecCan w (New B) (New B) s l) (hB:B'<=B):VecCan w (New B') (New B') s l:=h.imp (fun _ _ hb=>nlt hB hb) fun _ _ hq=>hq.lower hB
theorem MatAt.low {s:SV} {l:List (List Rat)} (h:MatCan w (New B) (New B) s l) (hB:B'<=B):MatCan w (New B') (New B') s l:=h.imp (fun _ _ hb=>nlt hB hb) fun _ _ hq=>hq.lower hB
theorem IntsAt.blk {l:List Int} {f:Nat × Nat} (h:w.heap[b]?=some (.cells (l.map fun z=>Value.int .i64 z).toArray T f)) (hl:l.length<=1000) (hr:∀ x ∈ l,-9223372036854775808<=x/\x<=9223372036854775807):IntsAt w ⟨some ⟨b,0,none⟩,l.length,l.length⟩ l:=
 ⟨rfl,nlr _,by show l.length<=_; omega,hr,fun i hi=>⟨⟨b,0,none⟩,rfl,by
  have hi':i<l.length:=hi;rw [zA4,Nat.zero_add]; simp only [World.cell?,h]; simp [hi']⟩⟩
theorem IntsMat.blk {ss:List SV} {m:List (List Int)} {f:Nat × Nat} (h:w.heap[b]?=some (.cells (ss.map SV.val).toArray T f)) (hl:ss.length<=1000) (hm:m.length=ss.length) (hr:∀ i,i<ss.length->IntsAt w (ss.getD i ⟨none,0,0⟩) (m.getD i [])/\(ss.getD i ⟨none,0,0⟩).n<=1000):IntsMat w ⟨some ⟨b,0,none⟩,ss.length,ss.length⟩ m:=
 ⟨hm,nlr _,by show ss.length<=_; omega,fun i hi=>⟨⟨b,0,none⟩,ss.getD i ⟨none,0,0⟩,rfl,by
  have hi':i<ss.length:=hi;rw [zA4,Nat.zero_add]; simp only [World.cell?,h]; simp [hi'],(hr i hi).1,(hr i hi).2⟩⟩
end Go.Proofs.YtpjaodcimomaiaaGreat
