/- Texts Dict2 of this claim. -/
import Derived.Test.YtlepljpdkbjbhaaGreatT07
namespace Go.Proofs.YtlepljpdkbjbhaaGreat
open Go.RowKit
abbrev rowVal (n b : Nat) : Value := .slice (some ⟨b, 0, none⟩) n n
def fieldType (f : Nat) : TypeId := if f ≤ 2 then 3 else 23
def four (a b c d : Value) (f : Nat) : Value := if f = 1 then a else if f = 2 then b else if f = 3 then c else d
structure DS (w : World) (d : Nat) (nv : Int) (n1 : Nat) (va vb vc vd : Value) (al : Nat → List Value) (rs : List Nat) (rl : List (List Rat)) (G : Nat → Prop) (W : World) : Prop where
 bel : Below w.heap.size w W
 blk : W.heap[d]? = some (.cells #[.int .i64 nv, va, vb, vc, vd, .int .i64 0, .int .i64 (-1), .int .i64 (-1)] 162 (0, 0))
 own : ∀ f, 1 ≤ f → f ≤ 4 → W.ownsRow (d + 1) (fieldType f) 1 (four va vb vc vd f) (al f).length (al f)
 apart : ∀ f g j, f ≠ g → 1 ≤ f → f ≤ 4 → 1 ≤ g → g ≤ 4 → (four va vb vc vd f).ownBlock = some j → (four va vb vc vd g).ownBlock ≠ some j
 rows : ∀ i, i < rs.length → RowAt W G (rs.getD i 0) (rl.getD i []) ∧ (rl.getD i []).length = n1
 nod : rs.Nodup
 gin : ∀ x, G x → d ≤ x ∧ x < W.heap.size
 gd : G d
 gf : ∀ f j, 1 ≤ f → f ≤ 4 → (four va vb vc vd f).ownBlock = some j → G j
 ge : w.heap.size < d
section
variable {w W W' : World} {d n1 : Nat} {nv : Int} {va vb vc vd : Value} {al : Nat → List Value} {rs : List Nat} {rl : List (List Rat)} {G : Nat → Prop}
theorem DS.dlt (h : DS w d nv n1 va vb vc vd al rs rl G W) : d < W.heap.size := lt_of_block h.blk
theorem DS.call (h : DS w d nv n1 va vb vc vd al rs rl G W) (hb : Below W.heap.size W W') : DS w d nv n1 va vb vc vd al rs rl G W' :=
 ⟨h.bel.trans (hb.mono h.bel.size), (hb.block d h.dlt).trans h.blk,
  fun f h1 h2 => own_keep (h.own f h1 h2) fun j hj => by
   obtain ⟨_, cs, hh⟩ := own_block (h.own f h1 h2) hj
   exact hb.block j (lt_of_block hh),
  h.apart, fun i hi => ⟨(h.rows i hi).1.below hb, (h.rows i hi).2⟩, h.nod, fun x hx => ⟨(h.gin x hx).1, Nat.lt_of_lt_of_le (h.gin x hx).2 hb.size⟩, h.gd, h.gf, h.ge⟩
theorem four_turn (a b c d v : Value) (f g : Nat) (h1 : 1 ≤ f) (h2 : f ≤ 4) (h3 : 1 ≤ g) (h4 : g ≤ 4) :
  four (if f = 1 then v else a) (if f = 2 then v else b) (if f = 3 then v else c) (if f = 4 then v else d) g = if g = f then v else four a b c d g := by
 unfold four
 rcases (by omega : f = 1 ∨ f = 2 ∨ f = 3 ∨ f = 4) with rfl | rfl | rfl | rfl <;> rcases (by omega : g = 1 ∨ g = 2 ∨ g = 3 ∨ g = 4) with rfl | rfl | rfl | rfl <;> simp
theorem DS.append (h : DS w d nv n1 va vb vc vd al rs rl G W) {f : Nat} (h1 : 1 ≤ f) (h2 : f ≤ 4) {x v' : Value} {o : Obj} {W2 : World}
  (hown : W2.ownsRow (d + 1) (fieldType f) 1 v' ((al f).length + 1) (al f ++ [x])) (hg : (W.alloc o).grownBy W2 (four va vb vc vd f).ownBlock)
  (hat : v'.ownBlock = (four va vb vc vd f).ownBlock ∨ v'.ownBlock = some (W.alloc o).heap.size) :
  DS w d nv n1 (if f = 1 then v' else va) (if f = 2 then v' else vb) (if f = 3 then v' else vc) (if f = 4 then v' else vd) (fun g => if g = f then al f ++ [x] else al g) rs rl (fun y => G y ∨ v'.ownBlock = some y) (W2.setCell ⟨d, f, none⟩ v') := by
 have hsz : W.heap.size < W2.heap.size := by have := hg.size; simp at this; omega
 have hnd : ∀ g j, 1 ≤ g → g ≤ 4 → (four va vb vc vd g).ownBlock = some j → j ≠ d := fun g j g1 g2 hj e => by
  have := (own_block (h.own g g1 g2) hj).1; omega
 have keep : ∀ k, k < W.heap.size → (four va vb vc vd f).ownBlock ≠ some k → W2.heap[k]? = W.heap[k]? := fun k hk hne =>
  (hg.block k (by simp; omega) (fun e => hne e.symm)).trans (Below.heap_alloc _ _ _ hk)
 have hblk2 : W2.heap[d]? = _ := (keep d h.dlt (fun e => hnd f d h1 h2 e rfl)).trans h.blk
 have kset : ∀ k, k ≠ d → (W2.setCell ⟨d, f, none⟩ v').heap[k]? = W2.heap[k]? := fun k hk => Below.heap_setCell _ _ _ _ hk
 have hvd : ∀ j, v'.ownBlock = some j → j ≠ d ∧ j < W2.heap.size ∧ d < j := fun j hj => by
  obtain ⟨g1, cs, hh⟩ := own_block hown hj
  exact ⟨by omega, lt_of_block hh, by omega⟩
 have hrowne : ∀ i, i < rs.length → rs.getD i 0 ≠ d ∧ (four va vb vc vd f).ownBlock ≠ some (rs.getD i 0) := fun i hi => by
  obtain ⟨cs, e, _⟩ := (h.rows i hi).1.blk
  constructor
  ·intro hd; rw [hd, h.blk] at e; cases e
  ·intro hj
   obtain ⟨_, cs', hh⟩ := own_block (h.own f h1 h2) hj
   rw [e] at hh
   have : (fieldType f) ≠ 30 := by unfold fieldType; split <;> decide
   simp only [Option.some.injEq, Obj.cells.injEq] at hh
   exact this hh.2.1.symm
 refine ⟨?_, ?_, ?_, ?_, ?_, h.nod, ?_, .inl h.gd, ?_, h.ge⟩
 ·have h3 : Below w.heap.size (W.alloc o) W2 := (Below.refl _ _).grown hg (by have := h.bel.size; simp; omega) (fun j hj => by have := (own_block (h.own f h1 h2) hj).1; have := h.ge; omega)
  exact ((h.bel.alloc h.bel.size _).trans h3).setCell (p := ⟨d, f, none⟩) (by have := h.ge; show w.heap.size ≤ d; omega) _
 ·rw [heap_setCell_blk _ hblk2]
  rcases (by omega : f = 1 ∨ f = 2 ∨ f = 3 ∨ f = 4) with rfl | rfl | rfl | rfl <;> simp
 ·intro g g1 g2
  rw [four_turn va vb vc vd v' f g h1 h2 g1 g2]
  by_cases e : g = f
  ·subst e
   simp only [if_true]
   rw [List.length_append]
   exact own_keep hown fun j hj => kset j (hvd j hj).1
  ·simp only [if_neg e]
   refine own_keep (h.own g g1 g2) fun j hj => ?_
   obtain ⟨_, cs, hh⟩ := own_block (h.own g g1 g2) hj
   exact (kset j (hnd g j g1 g2 hj)).trans (keep j (lt_of_block hh) (h.apart g f j e g1 g2 h1 h2 hj))
 ·intro g k j hgk g1 g2 k1 k2
  rw [four_turn va vb vc vd v' f g h1 h2 g1 g2, four_turn va vb vc vd v' f k h1 h2 k1 k2]
  have old : ∀ g j, 1 ≤ g → g ≤ 4 → (four va vb vc vd g).ownBlock = some j → j < W.heap.size := fun g j g1 g2 hj => by
   obtain ⟨_, cs, hh⟩ := own_block (h.own g g1 g2) hj
   exact lt_of_block hh
  by_cases eg : g = f
  ·by_cases ek : k = f
   ·omega
   ·rw [if_pos eg, if_neg ek]
    intro hj hk
    rcases hat with e | e
    ·rw [e] at hj; exact h.apart f k j (by omega) h1 h2 k1 k2 hj hk
    ·rw [e] at hj; cases hj
     have := old k _ k1 k2 hk; simp at this; omega
  ·rw [if_neg eg]
   by_cases ek : k = f
   ·rw [if_pos ek]
    intro hj hk
    rcases hat with e | e
    ·rw [e] at hk; exact h.apart g f j (by omega) g1 g2 h1 h2 hj hk
    ·rw [e] at hk; cases hk
     have := old g _ g1 g2 hj; simp at this; omega
   ·rw [if_neg ek]; exact h.apart g k j hgk g1 g2 k1 k2
 ·intro i hi
  obtain ⟨r1, r2⟩ := h.rows i hi
  refine ⟨?_, r2⟩
  have r1' : RowAt W (fun y => G y ∨ v'.ownBlock = some y) (rs.getD i 0) (rl.getD i []) := r1.grow (fun x hx => .inl hx) fun x hx hG => by
   rcases hG with hG | hG
   ·exact hG
   ·rcases hat with e | e
    ·rw [e] at hG; exact h.gf f x h1 h2 hG
    ·rw [e] at hG; cases hG; simp at hx; omega
  refine r1'.keep ((kset _ (hrowne i hi).1).trans (keep _ r1.lt (hrowne i hi).2)) fun p hp hl => ?_
  refine World.cell?_of_block ((kset p.block (fun e => hp (.inl (by rw [e]; exact h.gd)))).trans (keep _ hl fun e => hp (.inl (h.gf f _ h1 h2 e))))
 ·intro x hx
  rcases hx with hx | hx
  ·have := h.gin x hx; exact ⟨this.1, by simp [World.setCell]; omega⟩
  ·have := hvd x hx; exact ⟨by omega, by simp [World.setCell]; omega⟩
 ·intro g j g1 g2
  rw [four_turn va vb vc vd v' f g h1 h2 g1 g2]
  split
  ·intro hj; exact .inr hj
  ·intro hj; exact .inl (h.gf g j g1 g2 hj)
theorem DS.app_blk (h : DS w d nv n1 va vb vc vd al rs rl G W) {f x : Nat} (h1 : 1 ≤ f) (h2 : f ≤ 4) {o : Obj} {W2 : World} (hg : (W.alloc o).grownBy W2 (four va vb vc vd f).ownBlock) (hx : x ≤ d) : W2.heap[x]? = W.heap[x]? :=
 (hg.block x (by have := h.dlt; simp; omega) (fun e => by have := (own_block (h.own f h1 h2) e.symm).1; omega)).trans (Below.heap_alloc _ _ _ (by have := h.dlt; omega))
theorem Box4.heap {W W' : World} {b : Nat} {u0 u1 u2 u3 : Value} (h : Box4 W b u0 u1 u2 u3) (hk : W'.heap[b]? = W.heap[b]?) : Box4 W' b u0 u1 u2 u3 :=
 ⟨(World.cell?_of_block (a := ⟨b, 0, none⟩) hk).trans h.1, (World.cell?_of_block (a := ⟨b, 1, none⟩) hk).trans h.2.1, (World.cell?_of_block (a := ⟨b, 2, none⟩) hk).trans h.2.2.1, (World.cell?_of_block (a := ⟨b, 3, none⟩) hk).trans h.2.2.2.1, fun o => (World.frozen?_of_block (a := ⟨b, o, none⟩) hk).trans (h.2.2.2.2 o)⟩
theorem DS.grow (h : DS w d nv n1 va vb vc vd al rs rl G W) {G' : Nat → Prop} (hG : ∀ x, G x → G' x) (hn : ∀ x, G' x → G x ∨ (W.heap.size ≤ x ∧ x < W'.heap.size)) (hb : Below W.heap.size W W') : DS w d nv n1 va vb vc vd al rs rl G' W' := by
 have hsz := hb.size
 have h' := h.call hb
 refine ⟨h'.bel, h'.blk, h'.own, h'.apart, fun i hi => ⟨((h.rows i hi).1.grow hG fun x hx hg => ?_).below hb, (h.rows i hi).2⟩, h.nod, fun x hx => ?_, hG _ h.gd, fun f j a b c => hG _ (h.gf f j a b c), h.ge⟩
 ·rcases hn x hg with h1 | h1
  ·exact h1
  ·omega
 ·rcases hn x hx with h1 | h1
  ·have := h.gin x h1; exact ⟨this.1, by omega⟩
  ·have := h.dlt; exact ⟨by omega, h1.2⟩
theorem DS.put4 (h : DS w d nv n1 va vb vc vd al rs rl G W) {g : Nat} {l : List Rat} (hR : RowAt W G g l) (hg : g ∉ rs) (k : Nat) (v : QV) : DS w d nv n1 va vb vc vd al rs rl G (put4 W g k v) := by
 obtain ⟨cs, e, _⟩ := hR.blk
 have hd : d ≠ g := by rintro rfl; rw [h.blk] at e; cases e
 refine ⟨put4_below h.bel (by have := (h.gin g hR.mem).1; have := h.ge; omega) k v, (put4_heap W g k v hd).trans h.blk, fun f f1 f2 => ?_, h.apart, fun i hi => ?_, h.nod, fun x hx => by rw [put4_size]; exact h.gin x hx, h.gd, h.gf, h.ge⟩
 ·refine own_keep (h.own f f1 f2) fun j hj => put4_heap W g k v ?_
  rintro rfl
  obtain ⟨_, cs', hh⟩ := own_block (h.own f f1 f2) hj
  rw [e] at hh
  have : (fieldType f) ≠ 30 := by unfold fieldType; split <;> decide
  simp only [Option.some.injEq, Obj.cells.injEq] at hh
  exact this hh.2.1.symm
 ·refine ⟨(h.rows i hi).1.put4_other hR.mem (fun e => hg ?_) k v, (h.rows i hi).2⟩
  rw [e, List.getD_eq_getElem?_getD, List.getElem?_eq_getElem hi]
  exact List.getElem_mem _
theorem getD_snoc {α : Type} (l : List α) (x y : α) (i : Nat) : (l ++ [x]).getD i y = if i < l.length then l.getD i y else if i = l.length then x else y := by
 simp only [List.getD_eq_getElem?_getD]
 by_cases h : i < l.length
 ·rw [List.getElem?_append_left h, if_pos h]
 ·rw [List.getElem?_append_right (by omega), if_neg h]
  by_cases h2 : i = l.length
  ·subst h2; simp
  ·rw [if_neg h2, List.getElem?_eq_none (by simp; omega)]; rfl
theorem DS.addRow (h : DS w d nv n1 va vb vc vd al rs rl G W) {g : Nat} {l : List Rat} (hR : RowAt W G g l) (hl : l.length = n1) (hg : g ∉ rs) (hlen : rl.length = rs.length) : DS w d nv n1 va vb vc vd al (rs ++ [g]) (rl ++ [l]) G W := by
 refine ⟨h.bel, h.blk, h.own, h.apart, fun i hi => ?_, ?_, h.gin, h.gd, h.gf, h.ge⟩
 ·rw [getD_snoc, getD_snoc, hlen]
  by_cases h1 : i < rs.length
  ·rw [if_pos h1, if_pos h1]; exact h.rows i h1
  ·rw [List.length_append] at hi
   simp only [List.length_cons, List.length_nil, Nat.zero_add] at hi
   rw [if_neg h1, if_neg h1, if_pos (by omega), if_pos (by omega)]
   exact ⟨hR, hl⟩
 ·rw [List.nodup_append]
  refine ⟨h.nod, by simp, fun x hx y hy => ?_⟩
  simp at hy
  subst hy
  rintro rfl
  exact hg hx
end
end Go.Proofs.YtlepljpdkbjbhaaGreat
