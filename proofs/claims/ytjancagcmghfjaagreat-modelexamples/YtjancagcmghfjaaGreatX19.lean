/- Texts MoL MoM of this claim. -/
import Derived.Test.YtjancagcmghfjaaGreatX11
set_option maxHeartbeats 4000000
namespace Go.Proofs.YtjancagcmghfjaaGreat
open Go.RowKit Go.Shelf
namespace Gj
structure GjM (W:World) (b:Nat) (m:Mt):Prop where
 blk:∃ cs:Array Value,W.heap[b]?=some (.cells cs 34 (0,0))/\cs.size=m.length/\∀ i,i<m.length->∃ s:SV,cs[i]?=some s.val/\VecCan W (fun x=>x ≠ b) (fun x=>x ≠ b) s (m.getD i [])
section
variable {W W':World} {b:Nat} {m:Mt}
theorem GjM.lt (h:GjM W b m):b<W.heap.size:=by obtain ⟨cs,h1,-⟩:=h.blk; exact zAa h1
theorem GjM.row (h:GjM W b m) {i:Nat} (hi:i<m.length):∃ s:SV,W.cell? ⟨b,i,none⟩=some (.slice s.A s.n s.c)/\VecCan W (fun x=>x ≠ b) (fun x=>x ≠ b) s (m.getD i []):=by
 obtain ⟨cs,h1,-,h3⟩:=h.blk;obtain ⟨s,h4,h5⟩:=h3 i hi;exact ⟨s,by simp only [World.cell?,h1]; exact h4,h5⟩
theorem GjM.frozen (h:GjM W b m) (o:Nat):W.frozen? ⟨b,o,none⟩=false:=by
 obtain ⟨cs,h1,-⟩:=h.blk;simp [World.frozen?,h1]
theorem zUL {X:Nat->Prop} {s:SV} {l:List Rat} (h:VecCan W X X s l) (hk:∀ p:Addr,X p.block->p.block<W->W'.cell? p=W.cell? p):VecCan W' X X s l:=
 h.keep (fun p hx hl=>hk p hx hl) fun _ _ hq=>hq.keep fun p hx hl=>hk p hx hl
theorem GjM.fr (h:GjM W b m) (hk:∀ x,x<W.heap.size->W'.heap[x]?=W.heap[x]?):GjM W' b m:=by
 obtain ⟨cs,h1,h2,h3⟩:=h.blk;refine ⟨cs,(hk b h.lt).trans h1,h2,fun i hi=>?_⟩;obtain ⟨s,h4,h5⟩:=h3 i hi;exact ⟨s,h4,zUL h5 fun p _ hl=>cob (hk _ hl)⟩
theorem GjM.below (h:GjM W b m) (hb:Below W W W'):GjM W' b m:=h.fr fun x hx=>hb.block x hx
theorem GjM.set (h:GjM W b m) {i:Nat} (hi:i<m.length) {s:SV} {l:List Rat} (hs:VecCan W (fun x=>x ≠ b) (fun x=>x ≠ b) s l):GjM (W.setCell ⟨b,i,none⟩ (.slice s.A s.n s.c)) b (m.set i l):=by
 obtain ⟨cs,h1,h2,h3⟩:=h.blk;have hk:∀ p:Addr,p.block ≠ b->p.block<W->(W.setCell ⟨b,i,none⟩ (.slice s.A s.n s.c)).cell? p=W.cell? p:=fun p hp _=>cob (bhs _ _ _ _ hp)
 refine ⟨cs.setIfInBounds i (.slice s.A s.n s.c),by rw [zAe _ h1],by simp [h2],fun j hj=>?_⟩;rw [List.length_set] at hj;rw [zT6 _ _ _ _ _ hi,Array.getElem?_setIfInBounds];by_cases e:i=j
 ·subst e;rw [if_pos rfl,if_pos (by omega),if_pos rfl];exact ⟨s,rfl,zUL hs hk⟩
 ·rw [if_neg e,if_neg (Ne.symm e)];obtain ⟨t,h4,h5⟩:=h3 j hj;exact ⟨t,h4,zUL h5 hk⟩
end
end Gj
namespace Mo
open Gj
structure EqM (W:World) (b:Nat) (G:Nat->Prop) (rb:Nat->Nat) (n:Nat) (m:Mt):Prop where
 sq:Sq n m
 gb:G b
 inj:∀ i j,i<n->j<n->rb i=rb j->i=j
 ne:∀ i,i<n->rb i ≠ b
 row:∀ i,i<n->RowAt W G (rb i) (m.getD i [])
 blk:∃ cs:Array Value,W.heap[b]?=some (.cells cs 34 (0,0))/\cs.size=n/\∀ i,i<n->cs[i]?=some (.slice (some ⟨rb i,0,none⟩) n n)
section
variable {W W':World} {b n:Nat} {G:Nat->Prop} {rb:Nat->Nat} {m:Mt}
theorem EqM.lt (h:EqM W b G rb n m):b<W.heap.size:=by obtain ⟨cs,h1,-⟩:=h.blk; exact zAa h1
theorem EqM.cell (h:EqM W b G rb n m) {i:Nat} (hi:i<n):W.cell? ⟨b,i,none⟩=some (.slice (some ⟨rb i,0,none⟩) n n):=by
 obtain ⟨cs,h1,-,h3⟩:=h.blk;simp only [World.cell?,h1]; exact h3 i hi
theorem EqM.elem (h:EqM W b G rb n m) {i j:Nat} (hi:i<n) (hj:j<n):∃ v:QV,QCell W ⟨rb i,j*4,none⟩ v/\QCan W (fun x=>¬ G x) v (ent m i j):=
 (h.row i hi).elem j (by rw [h.sq.2 i (by rw [h.sq.1]; exact hi)]; exact hj)
theorem EqM.below (h:EqM W b G rb n m) (hb:Below W W W'):EqM W' b G rb n m:=by
 obtain ⟨cs,h1,h2⟩:=h.blk;exact ⟨h.sq,h.gb,h.inj,h.ne,fun i hi=>(h.row i hi).below hb,cs,(hb.block b h.lt).trans h1,h2⟩
theorem EqM.put (h:EqM W b G rb n m) {i j:Nat} (hi:i<n) (hj:j<n) {v:QV} {q:Rat} (hv:QCan W (fun x=>¬ G x) v q):EqM (put4 W (rb i) j v) b G rb n (m.set i ((m.getD i []).set j q)):=by
 have hi':i<m.length:=by rw [h.sq.1]; exact hi
 have hr:=(h.row i hi).put4 (k:=j) (by rw [h.sq.2 i hi']; exact hj) hv
 have hb:(put4 W (rb i) j v).heap[b]?=W.heap[b]?:=by
  unfold put4;rw [bhs _ _ _ _ (Ne.symm (h.ne i hi)),bhs _ _ _ _ (Ne.symm (h.ne i hi)),bhs _ _ _ _ (Ne.symm (h.ne i hi)),bhs _ _ _ _ (Ne.symm (h.ne i hi))]
 obtain ⟨cs,h1,h2⟩:=h.blk;refine ⟨⟨by rw [List.length_set]; exact h.sq.1,fun r hr=>?_⟩,h.gb,h.inj,h.ne,fun r hr'=>?_,cs,hb.trans h1,h2⟩
 ·rw [List.length_set] at hr;rw [zT6 _ _ _ _ _ hi']
  split
  ·rw [List.length_set]; exact h.sq.2 i hi'
  ·exact h.sq.2 r hr
 ·rw [zT6 _ _ _ _ _ hi'];by_cases e:r=i
  ·rw [if_pos e,e]; exact hr
  ·rw [if_neg e];exact (h.row r hr').put4_other (h.row i hi).mem (fun e2=>e (h.inj _ _ hi hr' e2).symm) j v
theorem EqM.add (h:EqM W b G rb n m) {i j:Nat} (hi:i<n) (hj:j<n) {v:QV} {q:Rat} (hv:QCan W (fun x=>¬ G x) v (ent m i j+q)):EqM (put4 W (rb i) j v) b G rb n (addAt m i j q):=h.put hi hj hv
theorem EqM.gjm (h:EqM W b G rb n m) (hn:n<=9223372036854775807):GjM W b m:=by
 obtain ⟨cs,h1,h2,h3⟩:=h.blk;refine ⟨cs,h1,by rw [h2,h.sq.1],fun i hi=>?_⟩;have hi':i<n:=by rw [<-h.sq.1]; exact hi
 have hl:=h.sq.2 i hi;have hv:=(h.row i hi').vec (by rw [hl]; exact hn) n (by rw [hl]; exact nlr _) hn;rw [hl] at hv;exact ⟨_,h3 i hi',hv.imp (fun x _ hx=>by subst hx; exact h.ne i hi') fun _ _ hq=>hq.imp fun x _ hx e=>hx (by subst e; exact h.gb)⟩
end
end Mo
end Go.Proofs.YtjancagcmghfjaaGreat
