/- Texts LP1 LP2 LP3 LP4 RestrM Restr Comb of this claim. -/
import Derived.Test.YtlepljpdkbjbhaaGreatT22
namespace Go.Proofs.YtlepljpdkbjbhaaGreat
open Go.RowKit Go.Shelf
def MPart (lo hi b : Nat) (m : List (List Rat)) (w : World) : Prop :=
 lo ≤ b ∧ b < hi ∧ ∃ (cs : Array Value) (sv : Nat → SV), w.heap[b]? = some (.cells cs 23 (0, 0)) ∧ cs.size = m.length ∧ ∀ j, j < m.length → cs[j]? = some (sv j).val ∧ VecCan w (fun x => lo ≤ x ∧ x < hi ∧ x ≠ b) (fun x => lo ≤ x ∧ x < hi ∧ x ≠ b) (sv j) (m.getD j [])
def VPart (lo hi b : Nat) (l : List Rat) (w : World) : Prop :=
 lo ≤ b ∧ b < hi ∧ RowAt w (fun x => ¬ (lo ≤ x ∧ x < hi ∧ x ≠ b)) b l
theorem MPart.keep {w w' : World} {lo hi b : Nat} {m : List (List Rat)} (h : MPart lo hi b m w) (hk : ∀ x, lo ≤ x → x < hi → w'.heap[x]? = w.heap[x]?) : MPart lo hi b m w' := by
 obtain ⟨h1, h2, cs, sv, h3, h4, h5⟩ := h
 exact ⟨h1, h2, cs, sv, (hk b h1 h2).trans h3, h4, fun j hj => ⟨(h5 j hj).1, (h5 j hj).2.keep (fun a ha _ => World.cell?_of_block (hk _ ha.1 ha.2.1)) fun v q hq => hq.keep fun a ha _ => World.cell?_of_block (hk _ ha.1 ha.2.1)⟩⟩
theorem VPart.keep {w w' : World} {lo hi b : Nat} {l : List Rat} (h : VPart lo hi b l w) (hk : ∀ x, lo ≤ x → x < hi → w'.heap[x]? = w.heap[x]?) : VPart lo hi b l w' := by
 obtain ⟨h1, h2, h3⟩ := h
 refine ⟨h1, h2, h3.mem, ?_, fun k hkl => ?_⟩
 ·obtain ⟨cs, e, hs⟩ := h3.blk
  exact ⟨cs, (hk b h1 h2).trans e, hs⟩
 ·obtain ⟨v, g1, g2⟩ := h3.elem k hkl
  have hc : ∀ o, w'.cell? ⟨b, o, none⟩ = w.cell? ⟨b, o, none⟩ := fun o => World.cell?_of_block (hk b h1 h2)
  refine ⟨v, ⟨(hc _).trans g1.1, (hc _).trans g1.2.1, (hc _).trans g1.2.2.1, (hc _).trans g1.2.2.2⟩, g2.keep fun a ha _ => World.cell?_of_block ?_⟩
  have ha' := Classical.not_not.1 ha
  exact hk _ ha'.1 ha'.2.1
end Go.Proofs.YtlepljpdkbjbhaaGreat
namespace Go.Proofs.YtlepljpdkbjbhaaGreat
open Go.RowKit Go.Shelf
structure QT (w : World) (B d : Nat) (n : Int) (va vb vc : Value) (al : Nat → List Value) (cnt : Nat → Nat) (G : Nat → Prop) (W : World) : Prop where
 bel : Below w.heap.size w W
 blk : W.heap[d]? = some (.cells #[.int .i64 n, va, vb, vc] 25 (0, 0))
 own : ∀ f, 1 ≤ f → f ≤ 3 → W.ownsRow B (qft f) (qfw f) (three va vb vc f) (cnt f) (al f)
 apart : ∀ f g j, f ≠ g → 1 ≤ f → f ≤ 3 → 1 ≤ g → g ≤ 3 → (three va vb vc f).ownBlock = some j → (three va vb vc g).ownBlock ≠ some j
 nod : ∀ f j, 1 ≤ f → f ≤ 3 → (three va vb vc f).ownBlock = some j → j ≠ d
 gin : ∀ x, G x → B ≤ x ∧ x < W.heap.size
 gd : G d
 gf : ∀ f j, 1 ≤ f → f ≤ 3 → (three va vb vc f).ownBlock = some j → G j
 ge : w.heap.size ≤ B
 dB : B ≤ d
section
variable {w W W' : World} {B d : Nat} {n : Int} {va vb vc : Value} {al : Nat → List Value} {cnt : Nat → Nat} {G : Nat → Prop}
theorem QT.dlt (h : QT w B d n va vb vc al cnt G W) : d < W.heap.size := lt_of_block h.blk
theorem QT.call (h : QT w B d n va vb vc al cnt G W) (hb : Below W.heap.size W W') : QT w B d n va vb vc al cnt G W' :=
 ⟨h.bel.trans (hb.mono h.bel.size), (hb.block d h.dlt).trans h.blk,
  fun f h1 h2 => own_keep (h.own f h1 h2) fun j hj => by
   obtain ⟨_, cs, hh⟩ := own_block (h.own f h1 h2) hj
   exact hb.block j (lt_of_block hh),
  h.apart, h.nod, fun x hx => ⟨(h.gin x hx).1, Nat.lt_of_lt_of_le (h.gin x hx).2 hb.size⟩, h.gd, h.gf, h.ge, h.dB⟩
theorem QT.cells (h : QT w B d n va vb vc al cnt G W) : W.cell? ⟨d, 0, none⟩ = some (.int .i64 n) ∧ W.cell? ⟨d, 1, none⟩ = some va ∧ W.cell? ⟨d, 2, none⟩ = some vb ∧ W.cell? ⟨d, 3, none⟩ = some vc ∧ ∀ o, W.frozen? ⟨d, o, none⟩ = false := by
 simp [World.cell?, World.frozen?, h.blk]
theorem QT.append (h : QT w B d n va vb vc al cnt G W) {f : Nat} (h1 : 1 ≤ f) (h2 : f ≤ 3) {xs : List Value} {v' : Value} {o : Obj} {W2 : World}
  (hown : W2.ownsRow B (qft f) (qfw f) v' (cnt f + 1) (al f ++ xs)) (hg : (W.alloc o).grownBy W2 (three va vb vc f).ownBlock)
  (hat : v'.ownBlock = (three va vb vc f).ownBlock ∨ v'.ownBlock = some (W.alloc o).heap.size) :
  QT w B d n (if f = 1 then v' else va) (if f = 2 then v' else vb) (if f = 3 then v' else vc) (fun g => if g = f then al f ++ xs else al g) (fun g => if g = f then cnt f + 1 else cnt g) (fun y => G y ∨ v'.ownBlock = some y) (W2.setCell ⟨d, f, none⟩ v') ∧
  Step W (W2.setCell ⟨d, f, none⟩ v') G (fun y => G y ∨ v'.ownBlock = some y) := by
 have hsz : W.heap.size < W2.heap.size := by have := hg.size; simp at this; omega
 have hnd := h.nod
 have keep : ∀ k, k < W.heap.size → (three va vb vc f).ownBlock ≠ some k → W2.heap[k]? = W.heap[k]? := fun k hk hne =>
  (hg.block k (by simp; omega) (fun e => hne e.symm)).trans (Below.heap_alloc _ _ _ hk)
 have hblk2 : W2.heap[d]? = _ := (keep d h.dlt (fun e => hnd f d h1 h2 e rfl)).trans h.blk
 have kset : ∀ k, k ≠ d → (W2.setCell ⟨d, f, none⟩ v').heap[k]? = W2.heap[k]? := fun k hk => Below.heap_setCell _ _ _ _ hk
 have hdW := h.dlt
 have hvd : ∀ j, v'.ownBlock = some j → j ≠ d ∧ j < W2.heap.size ∧ B ≤ j := fun j hj => by
  obtain ⟨g1, cs, hh⟩ := own_block hown hj
  refine ⟨?_, lt_of_block hh, g1⟩
  rcases hat with e | e
  ·exact h.nod f j h1 h2 (e.symm.trans hj)
  ·rw [e] at hj; cases hj; simp; omega
 refine ⟨⟨?_, ?_, ?_, ?_, ?_, ?_, .inl h.gd, ?_, h.ge, h.dB⟩, ⟨by simp [World.setCell]; omega, fun b hb hgb => ?_, fun b hb hgb => ?_⟩⟩
 ·have h3 : Below w.heap.size (W.alloc o) W2 := (Below.refl _ _).grown hg (by have := h.bel.size; simp; omega) (fun j hj => by have := (own_block (h.own f h1 h2) hj).1; have := h.ge; omega)
  exact ((h.bel.alloc h.bel.size _).trans h3).setCell (p := ⟨d, f, none⟩) (Nat.le_trans h.ge h.dB) _
 ·rw [heap_setCell_blk _ hblk2]
  rcases (by omega : f = 1 ∨ f = 2 ∨ f = 3) with rfl | rfl | rfl <;> simp
 ·intro g g1 g2
  rw [three_turn va vb vc v' f g h1 h2 g1 g2]
  by_cases e : g = f
  ·subst e
   simp only [if_true]
   exact own_keep hown fun j hj => kset j (hvd j hj).1
  ·simp only [if_neg e]
   refine own_keep (h.own g g1 g2) fun j hj => ?_
   obtain ⟨_, cs, hh⟩ := own_block (h.own g g1 g2) hj
   exact (kset j (hnd g j g1 g2 hj)).trans (keep j (lt_of_block hh) (h.apart g f j e g1 g2 h1 h2 hj))
 ·intro g k j hgk g1 g2 k1 k2
  rw [three_turn va vb vc v' f g h1 h2 g1 g2, three_turn va vb vc v' f k h1 h2 k1 k2]
  have old : ∀ g j, 1 ≤ g → g ≤ 3 → (three va vb vc g).ownBlock = some j → j < W.heap.size := fun g j g1 g2 hj => by
   obtain ⟨_, cs, hh⟩ := own_block (h.own g g1 g2) hj
   exact lt_of_block hh
  by_cases eg : g = f
  ·by_cases ek : k = f
   ·omega
   ·rw [if_pos eg, if_neg ek]
    intro hj hk
    rcases hat with e | e
    ·rw [e] at hj; exact h.apart f k j (by omega) h1 h2 k1 k2 hj hk
    ·rw [e] at hj; cases hj
     have := old k _ k1 k2 hk; simp at this; omega
  ·rw [if_neg eg]
   by_cases ek : k = f
   ·rw [if_pos ek]
    intro hj hk
    rcases hat with e | e
    ·rw [e] at hk; exact h.apart g f j (by omega) g1 g2 h1 h2 hj hk
    ·rw [e] at hk; cases hk
     have := old g _ g1 g2 hj; simp at this; omega
   ·rw [if_neg ek]; exact h.apart g k j hgk g1 g2 k1 k2
 ·intro g j g1 g2
  rw [three_turn va vb vc v' f g h1 h2 g1 g2]
  split
  ·intro hj; exact (hvd j hj).1
  ·intro hj; exact h.nod g j g1 g2 hj
 ·intro x hx
  rcases hx with hx | hx
  ·have := h.gin x hx; exact ⟨this.1, by simp [World.setCell]; omega⟩
  ·have := hvd x hx; exact ⟨by omega, by simp [World.setCell]; omega⟩
 ·intro g j g1 g2
  rw [three_turn va vb vc v' f g h1 h2 g1 g2]
  split
  ·intro hj; exact .inr hj
  ·intro hj; exact .inl (h.gf g j g1 g2 hj)
 ·exact (kset b (fun e => hgb (by rw [e]; exact h.gd))).trans (keep b hb fun e => hgb (h.gf f b h1 h2 e))
 ·rcases hgb with hgb | hgb
  ·exact hgb
  ·rcases hat with e | e
   ·rw [e] at hgb; exact h.gf f b h1 h2 hgb
   ·rw [e] at hgb; cases hgb; simp at hb; omega
end
section
variable {W W' : World} {G G' K : Nat → Prop} {L : Nat}
end
def ExMid (w : World) (B d : Nat) (n : Int) (L : Nat) (os rs : List (List Rat)) (bs : List Rat) (W : World) : Prop :=
 ∃ (va vb vc : Value) (G : Nat → Prop) (s1 s2 : List SV) (s3 : List QV), s1.length = os.length ∧ s2.length = rs.length ∧ s3.length = bs.length ∧
  QT w B d n va vb vc (pick3 [] (s1.map SV.val) (s2.map SV.val) (s3.flatMap cells4q)) (pick3 0 os.length rs.length bs.length) G W ∧
  (∀ m, m < os.length → VecIs W (fun b => ¬ G b ∧ B ≤ b) (fun b => ¬ G b ∧ B ≤ b) L (s1.getD m ⟨none, 0, 0⟩) (os.getD m [])) ∧
  (∀ m, m < rs.length → VecIs W (fun b => ¬ G b ∧ B ≤ b) (fun b => ¬ G b ∧ B ≤ b) L (s2.getD m ⟨none, 0, 0⟩) (rs.getD m [])) ∧
  (∀ m, m < bs.length → QIs W (fun b => ¬ G b ∧ B ≤ b) L (s3.getD m ⟨⟨false, none, 0, 0⟩, ⟨false, none, 0, 0⟩⟩) (bs.getD m 0))
section
variable {w W W1 W2 : World} {n : Int} {B d L : Nat} {os rs : List (List Rat)} {bs : List Rat} {va vb vc v' : Value} {G : Nat → Prop} {s1 s2 : List SV} {s3 : List QV} {o : Obj}
end
theorem MPart.own {W : World} {lo hi b B : Nat} {m : List (List Rat)} (h : MPart lo hi b m W) (hB : B ≤ lo) (hn : m.length ≤ 1000000) :
  ∃ ss : List SV, ss.length = m.length ∧ W.ownsRow B 23 1 (.slice (some ⟨b, 0, none⟩) m.length m.length) m.length (ss.map SV.val) ∧ ∀ k, k < m.length → VecCan W (fun x => lo ≤ x ∧ x < hi ∧ x ≠ b) (fun x => lo ≤ x ∧ x < hi ∧ x ≠ b) (ss.getD k ⟨none, 0, 0⟩) (m.getD k []) := by
 obtain ⟨h1, h2, cs, sv, h3, h4, h5⟩ := h
 refine ⟨(List.range m.length).map sv, by simp, ⟨by simp, .inr ⟨b, m.length, cs, rfl, by omega, h3, Nat.le_refl _, by simp only [maxLen]; omega, by omega, ?_⟩⟩, fun k hk => ?_⟩
 ·rw [Nat.mul_one, List.take_of_length_le (by simp; omega)]
  apply List.ext_getElem
  ·simp [h4]
  ·intro i g1 g2
   have hi' : i < m.length := by simp at g2; exact g2
   have := (h5 i hi').1
   rw [Array.getElem?_eq_getElem (by omega)] at this
   simpa using this
 ·rw [getD_mapr _ _ _ _ hk]
  exact (h5 k hk).2
theorem VPart.own {W : World} {lo hi b B : Nat} {l : List Rat} (h : VPart lo hi b l W) (hB : B ≤ lo) (hn : l.length ≤ 1000000) :
  ∃ ss : List QV, ss.length = l.length ∧ W.ownsRow B 30 4 (.slice (some ⟨b, 0, none⟩) l.length l.length) l.length (ss.flatMap cells4q) ∧ ∀ k, k < l.length → QCan W (fun x => lo ≤ x ∧ x < hi ∧ x ≠ b) (ss.getD k ⟨⟨false, none, 0, 0⟩, ⟨false, none, 0, 0⟩⟩) (l.getD k 0) := by
 obtain ⟨h1, h2, h3⟩ := h
 obtain ⟨f, hf⟩ := Deep.choose_lt (α := QV) (n := l.length) (p := fun k v => QCell W ⟨b, k * 4, none⟩ v ∧ QCan W (fun x => ¬ ¬ (lo ≤ x ∧ x < hi ∧ x ≠ b)) v (l.getD k 0)) (fun k hk => h3.elem k hk)
 obtain ⟨cs, e, hs⟩ := h3.blk
 have hfl : ∀ n, (((List.range n).map f).flatMap cells4q).length = n * 4 := fun n => by
  induction n with
  | zero => rfl
  | succ n ih => rw [List.range_succ, List.map_append, List.flatMap_append, List.length_append, ih]; simp [cells4q]; omega
 refine ⟨(List.range l.length).map f, by simp, ⟨hfl _, .inr ⟨b, l.length, cs, rfl, by omega, e, Nat.le_refl _, by simp only [maxLen]; omega, by omega, ?_⟩⟩, fun k hk => ?_⟩
 ·rw [List.take_of_length_le (by simp; omega)]
  apply List.ext_getElem?
  intro i
  by_cases hi' : i < l.length * 4
  ·have hk : i / 4 < l.length := by omega
   have e1 := flat_get ((List.range l.length).map f) (i / 4) (i % 4) (by simpa using hk) (by omega) ⟨⟨false, none, 0, 0⟩, ⟨false, none, 0, 0⟩⟩
   rw [show i / 4 * 4 + i % 4 = i by omega, getD_mapr _ _ _ _ hk] at e1
   rw [e1]
   obtain ⟨q0, q1, q2, q3⟩ := (hf (i / 4) hk).1
   simp only [World.cell?, e] at q0 q1 q2 q3
   have ei : i = i / 4 * 4 + i % 4 := by omega
   have ho : i % 4 < 4 := by omega
   generalize i / 4 = k at *
   generalize i % 4 = o at *
   subst ei
   rcases (by omega : o = 0 ∨ o = 1 ∨ o = 2 ∨ o = 3) with rfl | rfl | rfl | rfl <;> simp only [cells4q, List.getElem?_cons_zero, List.getElem?_cons_succ, Array.getElem?_toList]
   ·simpa using q0
   ·simpa using q1
   ·simpa using q2
   ·simpa using q3
  ·rw [List.getElem?_eq_none (by simp; omega), List.getElem?_eq_none (by rw [hfl]; omega)]
 ·rw [getD_mapr _ _ _ _ hk]
  exact (hf k hk).2.imp fun x _ hx => Classical.not_not.1 hx
end Go.Proofs.YtlepljpdkbjbhaaGreat
namespace Go.Proofs.YtlepljpdkbjbhaaGreat
open Go.RowKit Go.Shelf
theorem cell_fourN (w : World) (v : QV) : ∀ j u, (cells4q v)[j]? = some u → (w.alloc (.cells #[.bool v.num.ng, .slice v.num.A v.num.n v.num.c, .bool v.den.ng, .slice v.den.A v.den.n v.den.c] 30)).cell? (Addr.add ⟨w.heap.size, 0, none⟩ j) = some u := by
 intro j u h
 rw [add_mk, Nat.zero_add]
 have e : (w.alloc (.cells #[.bool v.num.ng, .slice v.num.A v.num.n v.num.c, .bool v.den.ng, .slice v.den.A v.den.n v.den.c] 30)).heap[w.heap.size]? = some (.cells #[.bool v.num.ng, .slice v.num.A v.num.n v.num.c, .bool v.den.ng, .slice v.den.A v.den.n v.den.c] 30 (0, 0)) := heap_new _ _ rfl
 simp only [World.cell?, e]
 simpa [cells4q] using h
theorem ExMid.call {w W W' : World} {B d L : Nat} {n : Int} {os rs : List (List Rat)} {bs : List Rat} (h : ExMid w B d n L os rs bs W) (hb : Below W.heap.size W W') : ExMid w B d n L os rs bs W' := by
 obtain ⟨va, vb, vc, G, s1, s2, s3, l1, l2, l3, hQ, e1, e2, e3⟩ := h
 exact ⟨va, vb, vc, G, s1, s2, s3, l1, l2, l3, hQ.call hb, fun m hm => (e1 m hm).below hb, fun m hm => (e2 m hm).below hb, fun m hm => (e3 m hm).below hb⟩
end Go.Proofs.YtlepljpdkbjbhaaGreat
namespace Go.Proofs.YtlepljpdkbjbhaaGreat
open Go.RowKit Go.Shelf
end Go.Proofs.YtlepljpdkbjbhaaGreat
namespace Go.Proofs.YtlepljpdkbjbhaaGreat
open Go.RowKit Go.Shelf Lin
theorem vcmp_add (f g : Nat → Rat) (a : Nat) : ∀ b, vcmp f g (a + b) = if vcmp f g a = 0 then vcmp (fun i => f (a + i)) (fun i => g (a + i)) b else vcmp f g a
 | 0 => by rw [Nat.add_zero]; split <;> simp_all [vcmp]
 | b + 1 => by
  show (if vcmp f g (a + b) = 0 then qcmp (f (a + b)) (g (a + b)) else vcmp f g (a + b)) = _
  rw [vcmp_add f g a b]
  by_cases h : vcmp f g a = 0
  ·simp only [if_pos h]; rfl
  ·simp only [if_neg h]
theorem qcmp_neg (p q : Rat) : qcmp (- p) (- q) = qcmp q p := by
 unfold qcmp; grind
theorem vcmp_neg (f g : Nat → Rat) : ∀ n, vcmp (fun i => - f i) (fun i => - g i) n = vcmp g f n
 | 0 => rfl
 | n + 1 => by
  show (if vcmp (fun i => - f i) (fun i => - g i) n = 0 then qcmp (- f n) (- g n) else _) = (if vcmp g f n = 0 then qcmp (g n) (f n) else vcmp g f n)
  rw [vcmp_neg f g n, qcmp_neg]
theorem vcmp_congr {f f' g g' : Nat → Rat} : ∀ {n : Nat}, (∀ i, i < n → f i = f' i) → (∀ i, i < n → g i = g' i) → vcmp f g n = vcmp f' g' n
 | 0, _, _ => rfl
 | n + 1, h, h' => by
  show (if vcmp f g n = 0 then qcmp (f n) (g n) else vcmp f g n) = (if vcmp f' g' n = 0 then qcmp (f' n) (g' n) else vcmp f' g' n)
  rw [vcmp_congr (fun i hi => h i (by omega)) fun i hi => h' i (by omega), h n (by omega), h' n (by omega)]
theorem vcmp_lex {f g : Nat → Rat} {N : Nat} (h : LexPos N fun l => f l - g l) : vcmp f g N = 1 := by
 obtain ⟨i, hi, h1, h2⟩ := h
 rw [vcmp_first (x := i) (fun j hj => by have := h2 j hj; grind) (by grind) hi]
 unfold qcmp; grind
theorem dotL_sum {V : Nat} {r x : List Rat} (hr : r.length ≤ V) (hx : x.length = V) : dotL r x = sum V fun k => r.getD k 0 * x.getD k 0 := by
 unfold dotL
 rw [hx, Nat.min_eq_left hr]
 have h : ∀ d, sum (r.length + d) (fun k => r.getD k 0 * x.getD k 0) = sum r.length fun k => r.getD k 0 * x.getD k 0 := fun d => by
  induction d with
  | zero => rfl
  | succ d ih =>
   show sum (r.length + d) _ + r.getD (r.length + d) 0 * x.getD (r.length + d) 0 = _
   rw [ih, getD_none r _ _ (by omega)]; grind
 rw [← h (V - r.length), show r.length + (V - r.length) = V by omega]
theorem lpcmp_obj {V : Nat} {os rs : List (List Rat)} {bs x y : List Rat} (hc : colsOf os ≤ V) (hx : x.length = V) (hy : y.length = V) :
  lpcmp os x y = vcmp (fun l => (probOf V os rs bs).obj l fun k => x.getD k 0) (fun l => (probOf V os rs bs).obj l fun k => y.getD k 0) (os.length + V) := by
 have e1 : ∀ z : List Rat, z.length = V → ∀ i, i < os.length → (probOf V os rs bs).obj i (fun k => z.getD k 0) = (os.map fun r => dotL r z).getD i 0 := fun z hz i hi => by
  rw [show (os.map fun r => dotL r z).getD i 0 = dotL (os.getD i []) z by simp [List.getD_eq_getElem?_getD, hi], dotL_sum (getD_cols hc i) hz]
  show (if i < os.length then _ else _) = _
  rw [if_pos hi]; rfl
 have e2 : ∀ z : List Rat, ∀ i, (probOf V os rs bs).obj (os.length + i) (fun k => z.getD k 0) = - z.getD i 0 := fun z i => by
  show (if os.length + i < os.length then _ else - z.getD (os.length + i - os.length) 0) = _
  rw [if_neg (by omega), show os.length + i - os.length = i by omega]
 rw [vcmp_add, vcmp_congr (n := os.length) (e1 x hx) (e1 y hy)]
 simp only [e2]
 rw [vcmp_neg]
 unfold lpcmp
 rw [hx, hy, Nat.max_self]
section
variable {V : Nat} {os rs : List (List Rat)} {bs row : List Rat} {most : Rat}
theorem opt_vec {w w' : World} {P : Prob} {r : RV} {k N : Nat} (h : Solved w P r w') (hk : r.kind = 1) (h1 : 1 ≤ k) (h0 : P.start.Fits P k) (hN : 5 ^ P.n * k ≤ N) (hN2 : N < 32 * 6000) : ∃ l : List Rat, l.length = P.n ∧ (∀ i, Lin.Fits N (l.getD i 0)) ∧ VecIs w' AllB AllB 6000 r.X l ∧ P.Optimal fun k => l.getD k 0 := by
 have hh := h
 rcases h with ⟨_, D, l, hg, hf, hc, hl, hopt, hx, _⟩ | ⟨hk', _⟩ | ⟨hk', _⟩
 ·have hF : ∀ i, Lin.Fits N (l.getD i 0) := fun i => (opt_fits hh hk h1 h0 hl hopt i).mono hN
  exact ⟨l, hl, hF, (hx.loose fun i => qfit_to (hF i) hN2).imp (fun _ _ _ => trivial) fun _ _ hq => hq.imp fun _ _ _ => trivial, hopt⟩
 ·rw [hk] at hk'; cases hk'
 ·rw [hk] at hk'; cases hk'
end
end Go.Proofs.YtlepljpdkbjbhaaGreat
namespace Go.Proofs.YtlepljpdkbjbhaaGreat
open Go.RowKit Go.Shelf
theorem mat_one {w : World} {b : Nat} {s : SV} {l : List Rat} (h : w.heap[b]? = some (.cells #[s.val] 23 (0, 0))) (hv : VecAt w AllB (QAny w AllB) s l) : MatAt w AllB (QAny w AllB) ⟨some ⟨b, 0, none⟩, 1, 1⟩ [l] :=
 ⟨rfl, Nat.le_refl _, by show 1 ≤ _; omega, fun k hk => by
  obtain rfl : k = 0 := by have : k < 1 := hk; omega
  exact ⟨⟨b, 0, none⟩, s, rfl, trivial, by simp [Addr.add, World.cell?, h], hv⟩⟩
theorem vecAny_below {w W : World} {s : SV} {l : List Rat} (h : VecAt w AllB (QAny w AllB) s l) (hb : Below w.heap.size w W) : VecAt W AllB (QAny W AllB) s l := h.keep (fun _ _ hl => hb.cell hl) fun _ _ hq => hq.below hb
theorem row_short {w W : World} {b : Nat} {s : SV} {l : List Rat} (hh : VecAt w AllB (QAny w AllB) s l) (hb : Below w.heap.size w W) (h : W.heap[b]? = some (.cells #[s.val] 23 (0, 0))) (hv : MatIs W AllB AllB 6 ⟨some ⟨b, 0, none⟩, 1, 1⟩ [l]) : VecIs w AllB AllB 6 s l := by
 obtain ⟨ad, r, e, -, hc, hr⟩ := hv.row 0 (by show 0 < 1; omega)
 cases e
 have e1 : W.cell? (Addr.add ⟨b, 0, none⟩ 0) = some s.val := by simp [Addr.add, World.cell?, h]
 rw [e1] at hc
 obtain ⟨A, n, c⟩ := s
 obtain ⟨A', n', c'⟩ := r
 simp only [SV.val, Option.some.injEq, Value.slice.injEq] at hc
 obtain ⟨rfl, rfl, rfl⟩ := hc
 exact hh.back hb hr
theorem resize_length (l : List Rat) (n : Nat) : (resize l n).length = n := by simp [resize]
theorem resize_fit {l : List Rat} {L : Nat} (h : ∀ k, QFit (L + 1) (l.getD k 0)) (n k : Nat) : QFit (L + 1) ((resize l n).getD k 0) := by
 by_cases hk : k < n
 ·rw [resize, getD_mapr _ _ _ _ hk]; exact h k
 ·rw [getD_none _ _ _ (by rw [resize_length]; omega)]; exact QFit.zero L
theorem VecAt.allB {w : World} {X Y : Nat → Prop} {L : Nat} {s : SV} {l : List Rat} (h : VecIs w X Y L s l) : VecIs w AllB AllB L s l := h.imp (fun _ _ _ => trivial) fun _ _ hq => hq.imp fun _ _ _ => trivial
theorem equalO_calls {w : World} {X Y X' Y' : Nat → Prop} {L M V : Nat} {sa sb : SV} {la lb : List Rat} (b : Bool) (ha : VecIs w X Y L sa la) (hb : VecIs w X' Y' M sb lb) (hL : L ≤ LM) (hM : M ≤ LM) (hla : la.length = V) (hlb : lb.length = V) (hV : V ≤ 1000000) (h : (∀ i, i < V → la.getD i 0 = lb.getD i 0) ↔ b = true) :
  Calls Tryz.prog 22 #[sa.val, sb.val] w fun e w' => e = .returned (.bool b) ∧ Below w.heap.size w w' := by
 have e1 : sa.n = V := by rw [← hla]; exact ha.len.symm
 have e2 : sb.n = V := by rw [← hlb]; exact hb.len.symm
 refine (equal_calls ha hb hL hM (by omega) (by omega)).mono ?_
 rintro e w' ⟨rfl, hb'⟩
 rw [e1, e2, Nat.max_self]
 refine ⟨?_, hb'⟩
 congr 2
 cases b with
 | true => exact beq_iff_eq.2 (vcmp_eq_zero.2 (h.2 rfl))
 | false =>
  refine beq_eq_false_iff_ne.2 fun e => ?_
  have := h.1 (vcmp_eq_zero.1 e)
  cases this
end Go.Proofs.YtlepljpdkbjbhaaGreat
namespace Go.Proofs.YtlepljpdkbjbhaaGreat
open Go.RowKit Go.Shelf
attribute [local go_sem] Oper.semAt_some
theorem run_make_q0 (n : Nat) (hn : n ≤ 1000000) (w : World) :
  (Instr.makeSlice 23 (.int .i64 0) (.int .i64 (n : Int))).run Tryz.prog w = .ok (.slice (some ⟨w.heap.size, 0, none⟩) 0 n) (w.alloc (.cells (zeroQ n) 30)) := by
 obtain ⟨i0, hi, hz0, hz1, hz2⟩ := info_parts q_info
 have hr := run_make (P := Tryz.prog) w 23 30 i0 (.agg #[.bool false, .slice none 0 0, .bool false, .slice none 0 0]) Tryz.underlying23 hi hz0 .i64 .i64 0 n (by omega) (by omega) (by rw [hz2]; omega) (by omega)
 rw [hz1] at hr
 simpa [zeroQ, Value.cells] using hr
structure CbS (w : World) (fv : Value) (g : Nat → Rat) (pre : List Nat) (v : Value) (G : Nat → Prop) (s : List QV) (W : World) : Prop where
 len : s.length = pre.length
 box : Boxed W (w.heap.size + 1 + 1) 23 v
 fnb : Boxed W w.heap.size 70 fv
 own : W.ownsRow (w.heap.size + 1) 30 4 v pre.length (s.flatMap cells4q)
 row : ∀ j, v.ownBlock = some j → G j
 gb : G (w.heap.size + 1 + 1)
 gin : ∀ x, G x → (x = w.heap.size + 1 ∨ x = w.heap.size + 1 + 1 ∨ w.heap.size + 5 ≤ x) ∧ x < W.heap.size
 elem : ∀ k, k < pre.length → QCan W (fun b => ¬ G b ∧ w.heap.size ≤ b) (s.getD k QV.zero) (g (pre.getD k 0))
 four : w.heap.size + 4 < W.heap.size
 car : Carry (fun y => y ≤ w.heap.size ∨ y = w.heap.size + 3 ∨ y = w.heap.size + 4) w W
def CInv (w : World) (fv : Value) (g : Nat → Rat) (pre : List Nat) (W : World) : Prop := ∃ v G s, CbS w fv g pre v G s W
theorem CInv.own {w : World} {fv : Value} {g : Nat → Rat} : Own (CInv w fv g) := fun _ W W' _ hs hg hr => by
 obtain ⟨v, G, s, h⟩ := hs
 exact ⟨v, G, s, h.len, grown_cells hg hr h.box, grown_cells hg hr h.fnb, own_grown hg hr h.own, h.row, h.gb, fun x hx => ⟨(h.gin x hx).1, Nat.lt_of_lt_of_le (h.gin x hx).2 hg.size⟩, fun k hk => (h.elem k hk).carry (Carry.grown hg hr), Nat.lt_of_lt_of_le h.four hg.size, h.car.trans (Carry.grown hg hr)⟩
theorem CbS.step {w W W1 W2 : World} {fv v v' : Value} {g : Nat → Rat} {pre : List Nat} {G : Nat → Prop} {s : List QV} {x : Nat} {zq : QV} {o : Obj} (h : CbS w fv g pre v G s W) (hb : Below W.heap.size W W1) (hz : QCan W1 (New W.heap.size) zq (g x))
  (hown : W2.ownsRow (w.heap.size + 1) 30 4 v' (pre.length + 1) (s.flatMap cells4q ++ cells4q zq)) (hg : (W1.alloc o).grownBy W2 v.ownBlock) (hat : v'.ownBlock = v.ownBlock ∨ v'.ownBlock = some (W1.alloc o).heap.size) :
  CInv w fv g (pre ++ [x]) (W2.setCell ⟨w.heap.size + 1 + 1, 0, none⟩ v') ∧ Carry (fun y => y ≤ w.heap.size ∨ y = w.heap.size + 3 ∨ y = w.heap.size + 4) W (W2.setCell ⟨w.heap.size + 1 + 1, 0, none⟩ v') ∧
   (∀ (k : Nat) (o : Obj), W.heap[k]? = some o → o.isCells = false → (W2.setCell ⟨w.heap.size + 1 + 1, 0, none⟩ v').heap[k]? = some o) ∧ W.heap.size ≤ (W2.setCell ⟨w.heap.size + 1 + 1, 0, none⟩ v').heap.size ∧ Below w.heap.size W (W2.setCell ⟨w.heap.size + 1 + 1, 0, none⟩ v') := by
 have hbl := lt_of_block h.box
 have hsz : W1.heap.size + 1 ≤ W2.heap.size := by have := hg.size; simpa using this
 have hs1 := hb.size
 have hss : (W2.setCell ⟨w.heap.size + 1 + 1, 0, none⟩ v').heap.size = W2.heap.size := by simp [World.setCell]
 have hvl : ∀ j, v.ownBlock = some j → w.heap.size + 1 ≤ j ∧ j < W.heap.size ∧ j ≠ w.heap.size + 1 + 1 ∧ G j := fun j hj => by
  obtain ⟨h1, cs, hh⟩ := own_block h.own hj
  exact ⟨h1, lt_of_block hh, cells_ne hh h.box (by decide), h.row j hj⟩
 have k1 : ∀ k, k < W1.heap.size → k ≠ w.heap.size + 1 + 1 → some k ≠ v.ownBlock → (W2.setCell ⟨w.heap.size + 1 + 1, 0, none⟩ v').heap[k]? = W1.heap[k]? := fun k hk h1 h2 =>
  (Below.heap_setCell _ _ _ _ h1).trans ((hg.block k (by simp; omega) h2).trans (Below.heap_alloc _ _ _ hk))
 have keep : ∀ k, k < W.heap.size → k ≠ w.heap.size + 1 + 1 → some k ≠ v.ownBlock → (W2.setCell ⟨w.heap.size + 1 + 1, 0, none⟩ v').heap[k]? = W.heap[k]? := fun k hk h1 h2 => (k1 k (by omega) h1 h2).trans (hb.block k hk)
 have keepG : ∀ k, k < W.heap.size → ¬ G k → (W2.setCell ⟨w.heap.size + 1 + 1, 0, none⟩ v').heap[k]? = W.heap[k]? := fun k hk hn => keep k hk (fun e => hn (by rw [e]; exact h.gb)) fun e => hn (h.row k e.symm)
 have hv' : ∀ j, v'.ownBlock = some j → w.heap.size + 1 ≤ j ∧ j < W2.heap.size ∧ j ≠ w.heap.size + 1 + 1 ∧ (G j ∨ j = W1.heap.size + 1) := fun j hj => by
  obtain ⟨h1, cs, hh⟩ := own_block hown hj
  refine ⟨h1, lt_of_block hh, ?_⟩
  rcases hat with e | e
  ·have := hvl j (e.symm.trans hj); exact ⟨this.2.2.1, .inl this.2.2.2⟩
  ·rw [e] at hj; cases hj; exact ⟨by simp; omega, .inr (by simp)⟩
 have carX : Carry (fun y => y ≤ w.heap.size ∨ y = w.heap.size + 3 ∨ y = w.heap.size + 4) W (W2.setCell ⟨w.heap.size + 1 + 1, 0, none⟩ v') := ⟨by omega, fun k cs t f hx hk => (keepG k (lt_of_block hk) fun hgk => by have := (h.gin k hgk).1; omega).trans hk⟩
 refine ⟨⟨v', fun y => G y ∨ v'.ownBlock = some y, s ++ [zq], ?_, ?_, ?_, ?_, fun j hj => .inr hj, .inl h.gb, ?_, ?_, by have := h.four; omega, h.car.trans carX⟩, carX, fun k o hk ho => ?_, by omega, ?_⟩
 ·rw [List.length_append, List.length_append, h.len]; rfl
 ·have hB : Boxed W2 (w.heap.size + 1 + 1) 23 v := (hg.block _ (by simp; omega) (fun e => (hvl _ e.symm).2.2.1 rfl)).trans ((Below.heap_alloc _ _ _ (by omega)).trans ((hb.block _ hbl).trans h.box))
  exact Boxed.set v' hB
 ·exact (keepG _ (lt_of_block h.fnb) fun hgk => by have := (h.gin _ hgk).1; omega).trans h.fnb
 ·rw [List.length_append, List.flatMap_append]
  refine own_keep (v := v') (n := pre.length + 1) ?_ fun j hj => Below.heap_setCell _ _ _ _ (hv' j hj).2.2.1
  simpa using hown
 ·intro y hy
  rcases hy with hy | hy
  ·have := h.gin y hy; omega
  ·have := hv' y hy
   rcases this.2.2.2 with hg' | e
   ·have := h.gin y hg'; omega
   ·have := (h.gin _ h.gb).2
    have h4 := h.car.size
    refine ⟨.inr (.inr ?_), by omega⟩
    have h5 : w.heap.size + 4 < W.heap.size := h.four
    omega
 ·intro k hk
  rw [List.length_append] at hk
  have hk' : k < pre.length + 1 := hk
  have e1 : (pre ++ [x]).getD k 0 = if k < pre.length then pre.getD k 0 else x := by
   by_cases hkl : k < pre.length
   ·rw [if_pos hkl, getD_append_left _ _ _ hkl]
   ·rw [if_neg hkl, show k = pre.length by omega]; simp [List.getD_eq_getElem?_getD]
  have e2 : (s ++ [zq]).getD k QV.zero = if k < pre.length then s.getD k QV.zero else zq := by
   rw [← h.len]
   by_cases hkl : k < s.length
   ·rw [if_pos hkl, getD_append_left _ _ _ hkl]
   ·rw [if_neg hkl, show k = s.length by rw [h.len]; rw [h.len] at hkl; omega]; simp [List.getD_eq_getElem?_getD]
  rw [e1, e2]
  by_cases hkl : k < pre.length
  ·rw [if_pos hkl, if_pos hkl]
   have q1 := (h.elem k hkl).imp (Y := fun b => (¬ G b ∧ ¬ v'.ownBlock = some b) ∧ w.heap.size ≤ b) fun b hb' hx => ⟨⟨hx.1, fun e => (hv' b e).2.2.2.elim hx.1 fun h' => by omega⟩, hx.2⟩
   exact (q1.keep fun a hx hl => World.cell?_of_block (keepG _ hl hx.1.1)).imp fun b _ hx => ⟨fun hg' => hg'.elim hx.1.1 hx.1.2, hx.2⟩
  ·rw [if_neg hkl, if_neg hkl]
   have q1 := hz.imp (Y := fun b => W.heap.size ≤ b ∧ b < W1.heap.size) fun b hb' hx => ⟨hx, hb'⟩
   refine (q1.keep fun a hx hl => World.cell?_of_block (k1 _ hx.2 (by omega) fun e => by have := (hvl _ e.symm).2.1; omega)).imp fun b _ hx => ⟨fun hg' => ?_, by have := h.car.size; omega⟩
   rcases hg' with hg' | hg'
   ·have := (h.gin b hg').2; omega
   ·rcases (hv' b hg').2.2.2 with h' | h'
    ·have := (h.gin b h').2; omega
    ·omega
 ·refine (keep k (lt_of_block hk) (fun e => ?_) fun e => ?_).trans hk
  ·rw [e, show W.heap[w.heap.size + 1 + 1]? = _ from h.box] at hk; cases hk; cases ho
  ·obtain ⟨_, cs, hh⟩ := own_block h.own e.symm
   rw [hh] at hk; cases hk; cases ho
 ·have hG1 : Below w.heap.size W W1 := hb.mono h.car.size
  have h3 : Below w.heap.size (W1.alloc o) W2 := (Below.refl _ _).grown hg (by have := h.car.size; simp; omega) (fun j hj => by have := (hvl j hj).1; omega)
  exact ((hG1.alloc (by have := h.car.size; omega) _).trans h3).setCell (p := ⟨w.heap.size + 1 + 1, 0, none⟩) (by show w.heap.size ≤ w.heap.size + 1 + 1; omega) _
theorem VecAt.keep' {W W' : World} {X Y : Nat → Prop} {s : SV} {l : List Rat} (h : VecCan W X Y s l) (hk : Carry (fun _ => True) W W') : VecCan W' X Y s l :=
 ⟨h.len, h.le, h.cap, fun k hkn => by
  obtain ⟨ad, v, e, hx, hc, hq⟩ := h.elem k hkn
  exact ⟨ad, v, e, hx, hc.carry (X := fun _ => True) hk trivial, hq.carry (hk.mono fun _ _ => trivial)⟩⟩
theorem own_vecC {W : World} {base n : Nat} {v : Value} {qs : List QV} {l : List Rat} {X : Nat → Prop} (h : W.ownsRow base 30 4 v n (qs.flatMap cells4q)) (hl : qs.length = n) (hm : l.length = n) (he : ∀ k, k < n → QCan W X (qs.getD k ⟨⟨false, none, 0, 0⟩, ⟨false, none, 0, 0⟩⟩) (l.getD k 0)) :
  ∃ s : SV, v = s.val ∧ s.n = n ∧ VecCan W (fun b => base ≤ b) X s l := by
 rcases h.2 with ⟨rfl, rfl⟩ | ⟨g, cap, cur, rfl, hbg, hh, hnc, hcap, hcur, ht⟩
 ·exact ⟨⟨none, 0, 0⟩, rfl, rfl, hm, Nat.le_refl _, Nat.zero_le _, fun k hk => absurd hk (Nat.not_lt_zero k)⟩
 ·refine ⟨⟨some ⟨g, 0, none⟩, n, cap⟩, rfl, rfl, hm, hnc, (by show cap ≤ _; exact Nat.le_trans ‹_› (show maxLen ≤ 9223372036854775807 by decide)), fun k hk => ⟨⟨g, 0, none⟩, qs.getD k ⟨⟨false, none, 0, 0⟩, ⟨false, none, 0, 0⟩⟩, rfl, hbg, ?_, he k hk⟩⟩
  have hk' : k < n := hk
  have ec : ∀ o, o < 4 → W.cell? ⟨g, k * 4 + o, none⟩ = (cells4q (qs.getD k ⟨⟨false, none, 0, 0⟩, ⟨false, none, 0, 0⟩⟩))[o]? := fun o ho => by
   have e2 : (cur.toList.take (n * 4))[k * 4 + o]? = (qs.flatMap cells4q)[k * 4 + o]? := by rw [ht]
   rw [List.getElem?_take_of_lt (by omega), flat_get qs k o (by omega) ho ⟨⟨false, none, 0, 0⟩, ⟨false, none, 0, 0⟩⟩] at e2
   simp only [World.cell?, hh]
   simpa using e2
  rw [add_mk, Nat.zero_add]
  exact ⟨ec 0 (by omega), ec 1 (by omega), ec 2 (by omega), ec 3 (by omega)⟩
set_option maxRecDepth 100000 in
set_option maxHeartbeats 8000000 in
theorem combine_calls {w : World} {X Y X' Y' : Nat → Prop} {L M f : Nat} {caps : Array Value} {g : Nat → Rat} {sa sb : SV} {la lb : List Rat} (ha : VecIs w X Y L sa la) (hb : VecIs w X' Y' M sb lb) (hna : sa.n ≤ 1000000) (hnb : sb.n ≤ 1000000) (hcall : ∀ (args : Array Value) (w : World), Sem.run Tryz.prog (callFunc f args) w = .ok (.enter f args) w)
  (hA : ∀ W x y i, Carry (fun b => b < w.heap.size) w W → QIs W AllB L x (la.getD i 0) → QIs W AllB M y (lb.getD i 0) → Calls Tryz.prog f (#[x.val, y.val] ++ caps) W fun e w' => QRet W (g i) e w' ∧ Below W.heap.size W w') :
  Calls Tryz.prog 64 #[sa.val, sb.val, (.func (.func f) #[] caps)] w fun e w' => VRet w ((List.range (max sa.n sb.n)).map g) e w' ∧ Below w.heap.size w w' := by
 refine (callsIn_wide (n := 6)).1 ?_
 obtain ⟨iq0, hiq, hzq0, hzq1, hzq2⟩ := info_parts q_info
 have h0a : QIs w (fun _ => True) L QV.zero 0 := ⟨0, 0, ⟨[], WordsAt.nil _ _ _ _ (Nat.zero_le _), Nat.zero_le _, rfl⟩, ⟨[], WordsAt.nil _ _ _ _ (Nat.zero_le _), Nat.zero_le _, rfl⟩, by simp [qv]⟩
 have h0b : QIs w (fun _ => True) M QV.zero 0 := ⟨0, 0, ⟨[], WordsAt.nil _ _ _ _ (Nat.zero_le _), Nat.zero_le _, rfl⟩, ⟨[], WordsAt.nil _ _ _ _ (Nat.zero_le _), Nat.zero_le _, rfl⟩, by simp [qv]⟩
 obtain ⟨va, hva, hqa⟩ := (ha.imp (X' := fun y => y < w.heap.size) (R' := QIs w (fun _ => True) L) (fun b hb _ => hb) (fun _ _ h => h.any)).elems h0a
 obtain ⟨vb, hvb, hqb⟩ := (hb.imp (X' := fun y => y < w.heap.size) (R' := QIs w (fun _ => True) M) (fun b hb _ => hb) (fun _ _ h => h.any)).elems h0b
 have HA := Lib.hid hva
 have HB := Lib.hid hvb
 have HQA : Hid (∀ i, QIs w (fun y => y < w.heap.size) L (va i) (la.getD i 0)) := fun i => (hqa i).imp fun b hb _ => hb
 have HQB : Hid (∀ i, QIs w (fun y => y < w.heap.size) M (vb i) (lb.getD i 0)) := fun i => (hqb i).imp fun b hb _ => hb
 have HF := Lib.hid hA
 obtain ⟨A, la', ca⟩ := sa
 obtain ⟨B, lb', cb⟩ := sb
 have cpa : la' ≤ ca := ha.le
 have cpb : lb' ≤ cb := hb.le
 have cpa2 : ca ≤ 9223372036854775807 := ha.cap
 have cpb2 : cb ≤ 9223372036854775807 := hb.cap
 clear ha hb h0a h0b hva hvb hqa hqb hA
 dsimp only [SV.val] at hna hnb ⊢
 obtain ⟨N, hN⟩ : ∃ N, N = max la' lb' := ⟨_, rfl⟩
 rw [← hN]
 have HN := Lib.hid hN
 have hmax : max (la' : Int) (lb' : Int) = (N : Int) := by omega
 have hNl : N ≤ 1000000 := by omega
 have hmk := run_make_q0 N hNl
 clear hN
 refine callsIn_of_wp_marks Tryz.func64 rfl trivial ?_ rfl
 simp only [Tryz.ntmps64, List.size_toArray, List.length_cons, List.length_nil, Nat.reduceAdd, Nat.reduceSub, Array.replicate_succ, Array.replicate_zero, List.push_toArray, List.append_toArray, List.nil_append, List.cons_append]
 gi_wp2
 refine ⟨trivial, ?_⟩
 refine (qpairs_in A B la' ca lb' cb).mono ?_
 rintro e w2 ⟨rfl, rfl⟩
 gi_wp2
 clear hmk
 obtain ⟨W0, hW0⟩ : ∃ W0, ((((w.alloc (.cells #[(.func (.func f) #[] caps)] 70)).alloc (.cells (zeroQ N) 30)).alloc (.cells #[.slice (some ⟨w.heap.size + 1, 0, none⟩) 0 N] 23)).alloc (.cells #[.slice A la' ca] 23)).alloc (.cells #[.slice B lb' cb] 23) = W0 := ⟨_, rfl⟩
 rw [hW0]
 have hk0 : Below w.heap.size w W0 := by rw [← hW0]; exact (((((Below.refl _ w).alloc (Nat.le_refl _) _).alloc (by simp) _).alloc (by simp; omega) _).alloc (by simp; omega) _).alloc (by simp; omega) _
 have hs0 : W0.heap.size = w.heap.size + 5 := by rw [← hW0]; simp
 have x0 : Boxed W0 w.heap.size 70 (.func (.func f) #[] caps) := by rw [← hW0]; exact alk (alk (alk (alk (heap_new _ _ rfl))))
 have x1 : W0.heap[w.heap.size + 1]? = some (.cells (zeroQ N) 30 (0, 0)) := by rw [← hW0]; exact alk (alk (alk (heap_new _ _ (by simp))))
 have x2 : Boxed W0 (w.heap.size + 1 + 1) 23 (.slice (some ⟨w.heap.size + 1, 0, none⟩) 0 N) := by rw [← hW0]; exact alk (alk (heap_new _ _ (by simp)))
 have x3 : Boxed W0 (w.heap.size + 1 + 1 + 1) 23 (.slice A la' ca) := by rw [← hW0]; exact alk (heap_new _ _ (by simp))
 have x4 : Boxed W0 (w.heap.size + 1 + 1 + 1 + 1) 23 (.slice B lb' cb) := by rw [← hW0]; exact heap_new _ _ (by simp)
 clear hW0
 have hC0 : CbS w (.func (.func f) #[] caps) g [] (.slice (some ⟨w.heap.size + 1, 0, none⟩) 0 N) (fun y => y = w.heap.size + 1 ∨ y = w.heap.size + 1 + 1) [] W0 :=
  ⟨rfl, x2, x0, ⟨rfl, .inr ⟨w.heap.size + 1, N, zeroQ N, rfl, Nat.le_refl _, x1, Nat.zero_le _, by simp only [maxLen]; omega, by rw [zeroQ_size]; omega, rfl⟩⟩, fun j hj => .inl (by simpa [Value.ownBlock] using hj.symm), .inr rfl, fun x hx => by omega, fun k hk => absurd hk (Nat.not_lt_zero _), by omega, Carry.of_below hk0⟩
 have HC0 := Lib.hid hC0
 clear hC0 x1
 refine wpIn_rangeFunc_ownH (F := Fence.wide) rfl (by omega) (gf := 140) (lb := #[.pointer (some ⟨w.heap.size + 1 + 1 + 1, 0, none⟩), .pointer (some ⟨w.heap.size + 1 + 1 + 1 + 1, 0, none⟩)]) rfl trivial (enters_of Tryz.func140 (by kernel_rfl) rfl)
  (qpairs_stops (X := fun y => y ≤ w.heap.size ∨ y = w.heap.size + 3 ∨ y = w.heap.size + 4) (sa := ⟨A, la', ca⟩) (sb := ⟨B, lb', cb⟩) (va := va) (vb := vb) (N := N) (by omega) x3 x4 (.inr (.inl rfl)) (.inr (.inr rfl))
   ((HA.out.carry (Carry.of_below hk0)).imp fun b hb => .inl (by omega)) ((HB.out.carry (Carry.of_below hk0)).imp fun b hb => .inl (by omega)) HN.out hNl)
  (fun h k => h.trans k) (fun W l o o' _ hl ho _ => Carry.putObj o' hl ho) (Below.refl _ _) (fun _ => rfl)
  (fun pre W => CInv w (.func (.func f) #[] caps) g pre W ∧ Below w.heap.size w W)
  (fun _ _ _ => False)
  (OwnFrom.and (Own.from CInv.own _) (ownFrom_below (Nat.le_refl _) (by omega)))
  (fun _ _ _ _ _ hs _ _ => hs)
  ⟨⟨_, _, _, HC0.out⟩, hk0⟩
  (fun x a' W => ∃ d, a' = { tmps := #[.slice A la' ca, .slice B lb' cb, (.func (.func f) #[] caps), undef, undef, .pointer (some ⟨w.heap.size, 0, none⟩), .slice none 0 0, .pointer (some ⟨w.heap.size + 1 + 1, 0, none⟩), .pointer (some ⟨d, 0, none⟩), .pointer (some ⟨d + 1, 0, none⟩), .slice A la' ca, .int .i64 la', .slice B lb' cb, .int .i64 lb', .int .i64 N, .slice (some ⟨w.heap.size + 1, 0, none⟩) 0 N, .slice A la' ca, .slice B lb' cb, .func (.func 140) #[] #[.pointer (some ⟨w.heap.size + 1 + 1 + 1, 0, none⟩), .pointer (some ⟨w.heap.size + 1 + 1 + 1 + 1, 0, none⟩)], (va x).val, (vb x).val, undef, undef, undef, undef, undef, undef, undef, undef], defers := [] } ∧ QBlk W d (va x) ∧ QBlk W (d + 1) (vb x))
  (fun x a' _ W W' row hs hg hr => ?hAx) ?assign ?body ?done ?stop
 case hAx =>
  obtain ⟨d, e, g1, g2⟩ := hs
  exact ⟨d, e, grown_cells hg (fun r e => (hr r e).2) g1, grown_cells hg (fun r e => (hr r e).2) g2⟩
 case stop =>
  rintro D c pre W _ _ h _
  exact h.elim
 case assign =>
  intro l pre x W K hI hK
  gi_wp2
  have al : Below W.heap.size W ((W.alloc (.cells #[.bool (va x).num.ng, .slice (va x).num.A (va x).num.n (va x).num.c, .bool (va x).den.ng, .slice (va x).den.A (va x).den.n (va x).den.c] 30)).alloc (.cells #[.bool (vb x).num.ng, .slice (vb x).num.A (vb x).num.n (vb x).num.c, .bool (vb x).den.ng, .slice (vb x).den.A (vb x).den.n (vb x).den.c] 30)) := ((Below.refl _ _).alloc (Nat.le_refl _) _).alloc (by simp) _
  obtain ⟨⟨v, G, s, h⟩, hB⟩ := hI
  have hgb : W.grownBy ((W.alloc (.cells #[.bool (va x).num.ng, .slice (va x).num.A (va x).num.n (va x).num.c, .bool (va x).den.ng, .slice (va x).den.A (va x).den.n (va x).den.c] 30)).alloc (.cells #[.bool (vb x).num.ng, .slice (vb x).num.A (vb x).num.n (vb x).num.c, .bool (vb x).den.ng, .slice (vb x).den.A (vb x).den.n (vb x).den.c] 30)) none := ⟨al.os, al.tape, al.output, al.size, fun k hk _ => al.block k hk⟩
  exact hK _ _ ⟨al.size, fun k o _ hk _ => (al.block k (lt_of_block hk)).trans hk⟩ (Carry.of_below al) ⟨CInv.own _ _ _ _ ⟨v, G, s, h⟩ hgb (fun r e => by cases e), hB.trans (al.mono hB.size)⟩ ⟨W.heap.size, rfl, alk (heap_new _ _ rfl), heap_new _ _ (by simp)⟩
 case body =>
  rintro l pre x a' W _ _ ⟨⟨v, G, s, h⟩, hB⟩ ⟨d, rfl, g1, g2⟩ hlt
  have hqa := ((HQA.out x).carry (h.car.mono fun y hy => .inl (by omega))).any
  have hqb := ((HQB.out x).carry (h.car.mono fun y hy => .inl (by omega))).any
  obtain ⟨a0, a1, a2, a3, -⟩ := qblk_box g1
  obtain ⟨b0, b1, b2, b3, -⟩ := qblk_box g2
  have c4 := h.fnb.cell
  have c2 := h.box.cell
  have lb1 := lt_of_block g1
  have lb2 := lt_of_block g2
  have lb3 := lt_of_block h.box
  have lb4 := lt_of_block h.fnb
  have Hs := Lib.hid hs0
  have HH := Lib.hid h
  clear hs0 x0 x2 x3 x4 hk0 h HC0
  have hBs := hB.size
  have hdr : Below W.heap.size W W.drew := (Below.refl _ _).drew
  gi_wp2
  refine wpIn_round_G 6 (fun f w' => f = false → Sees w.heap.size [] W w') (by kernel_rfl) (by kernel_rfl) (by rintro ⟨_, _, h⟩; exact h) ?_
  have hS0 : Sees w.heap.size [] W W.drew := Sees.st (by simp) hBs
  refine tkW 0 (v) (fun w' hSw => ?_) (fun _ => hS0) ?_
  ·(replace hSw := hSw rfl; go_simp; try with_reducible rfl)
  simp only [zzA, zzB, zzC]
  refine tkV 1 4 ((.func (.func f) #[] caps)) (fun w' hSw => ?_) (fun _ => hS0) ?_
  ·(replace hSw := hSw rfl; go_simp; try with_reducible rfl)
  simp only [zzA, zzB, zzC]
  refine tkV 2 4 ((va x).val) (fun w' hSw => ?_) (fun _ => hS0) ?_
  ·(replace hSw := hSw rfl; go_simp; try with_reducible rfl)
  simp only [zzA, zzB, zzC]
  refine tkV 3 4 ((vb x).val) (fun w' hSw => ?_) (fun _ => hS0) ?_
  ·(replace hSw := hSw rfl; go_simp; try with_reducible rfl)
  simp only [zzA, zzB, zzC]
  refine oneW (i := 4) (by kernel_rfl) rfl (by rfl) ?_
  intro K hK
  go_simp
  refine (HF.out W.drew (va x) (vb x) x ?cr (hqa.below hdr) (hqb.below hdr)).mono ?_
  case cr => exact ((HH.out.car.mono fun y hy => .inl (by omega)).trans (Carry.of_below hdr))
  rintro e w1 ⟨⟨zq, rfl, hz⟩, hb1⟩
  have hS1 := Kept.call2 hb1 hS0
  have hb1' : Below W.heap.size W w1 := hdr.trans hb1
  refine hK.out _ _ (fun _ => hS1) ?_
  clear hK K a0 a1 a2 a3 b0 b1 b2 b3 c4 hqa hqb
  refine oneW (i := 5) (by kernel_rfl) rfl (by rfl) ?_
  intro K hK
  go_simp
  refine hK.out _ _ (fun _ => Sees.al hS1) ?_
  clear hK K
  have hown := own_keep HH.out.own fun j hj => hb1'.block j (by obtain ⟨_, cs, hh⟩ := own_block HH.out.own hj; exact lt_of_block hh)
  refine oneW (i := 6) (by kernel_rfl) rfl (by rfl) ?_
  intro K hK
  refine oper_append_own _ _ 23 rfl (w.heap.size + 1) 30 iq0 (.agg #[.bool false, .slice none 0 0, .bool false, .slice none 0 0]) 4 64 Tryz.underlying23 hiq hzq0 hzq1 hzq2 rfl (by decide) v pre.length (s.flatMap cells4q) rfl (hown.alloc _) ⟨w1.heap.size, 0, none⟩ 1 1 (cells4q zq) rfl rfl (cell_fourN _ _) (by intro u hu; simp [cells4q] at hu; rcases hu with rfl | rfl | rfl | rfl <;> rfl) (by simp [maxLen]; omega) (by omega) (by have := hb1'.size; simp; omega) ?_
  intro v' W5 hown5 hg5 hnil5 hat5
  have Hst := Lib.hid (HH.out.step hb1' hz hown5 hg5 hat5)
  have hlv : ∀ j, v.ownBlock = some j → j ≠ w.heap.size + 1 + 1 := fun j hj => by
   obtain ⟨_, cs, hh⟩ := own_block HH.out.own hj
   exact cells_ne hh HH.out.box (by decide)
  have d1 : Boxed W5 (w.heap.size + 1 + 1) 23 v := (hg5.block _ (by have := hb1'.size; simp; omega) (fun e => hlv _ e.symm rfl)).trans ((Below.heap_alloc _ _ _ (by have := hb1'.size; omega)).trans ((hb1'.block _ lb3).trans HH.out.box))
  have d2 := d1.cell
  have d3 := d1.frozen
  obtain ⟨g5, c5, rfl⟩ := ownsRow_succ hown5
  simp only [Act.put, List.setIfInBounds_toArray, List.set_cons_zero, List.set_cons_succ]
  refine hK.out _ _ (fun h => absurd h (by decide)) ?_
  clear hK K hown hown5 hg5 hat5 hnil5 hS0 hS1 hb1' hz hb1 hlv d1
  refine oneW (i := 7) (by kernel_rfl) rfl (by rfl) ?_
  intro K hK
  go_simp
  refine hK.out _ _ (fun h => absurd h (by decide)) ?_
  clear hK K d2 d3
  refine wpAnyG_done (by kernel_rfl) ?_ _
  gi_wp2
  obtain ⟨s1, s2, s3, s4, s5⟩ := Hst.out
  exact ⟨⟨s4, fun k o _ hk ho => s3 k o hk ho⟩, s2, s1, hB.trans s5⟩
 case done =>
  rintro Dd ys W hDd rfl ⟨⟨v, G, s, h⟩, hB⟩ hK0
  have c1 := h.box.cell
  have Hs := Lib.hid hs0
  have HH := Lib.hid h
  clear hs0 x0 x2 x3 x4 h HC0
  gi_wp2
  refine ⟨by simp, .inl ⟨_, _, rfl, run_takeDeferred hK0, ?_⟩⟩
  have hcr : Carry (fun _ => True) W (W.putObj Dd (.deferred none)) := Carry.grown (grownBy_putObj' W Dd (.deferred none)) (fun r e => by cases e; exact ⟨_, hK0, rfl⟩)
  have hl : (List.range N).length = N := List.length_range
  have hown : W.ownsRow (w.heap.size + 1) 30 4 v N (s.flatMap cells4q) := by have := HH.out.own; rw [hl] at this; exact this
  obtain ⟨sv, e1, e2, e3⟩ := own_vecC (X := fun b => ¬ G b ∧ w.heap.size ≤ b) (l := (List.range N).map g) hown (by rw [HH.out.len, hl]) (by rw [List.length_map, hl]) (fun k hk => by
   have := HH.out.elem k (by rw [hl]; exact hk)
   rw [show (List.range N).getD k 0 = k by simp [List.getD_eq_getElem?_getD, hk]] at this
   rw [getD_mapr _ _ _ _ hk]
   exact this)
  subst e1
  refine ⟨_, results_tmp rfl _ _ _, ⟨sv, rfl, ?_⟩, ?_⟩
  ·exact (e3.keep' hcr).imp (fun b _ hb => by simp only [New]; omega) fun v q hq => hq.imp fun b _ hb => hb.2
  ·exact hB.trans (belowK_b (w := w) (Nat.le_refl _) W Dd _ _ (by have := Hs.out; omega) hK0 rfl rfl)
end Go.Proofs.YtlepljpdkbjbhaaGreat
