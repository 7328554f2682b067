/- Texts Solved AliveM Alive2 Alive3 Scal1 Scal2 ScalB ScalC Dot MulVec LP1 LP2 LP3 LP4 RestrM OptmM ObjM of this claim. -/
import Derived.Test.YtlepljpdkbjbhaaGreatA0
import Derived.Test.YtlepljpdkbjbhaaGreatT20
import Derived.Test.YtlepljpdkbjbhaaGreatT19
import Derived.Test.YtlepljpdkbjbhaaGreatT08
import Derived.Test.YtlepljpdkbjbhaaGreatT12
set_option maxHeartbeats 4000000
namespace Go.Proofs.YtlepljpdkbjbhaaGreat
namespace Lin
theorem Prob.Feasible.congr {P : Prob} {x y : Nat → Rat} (h : P.Feasible x) (e : ∀ k, k < P.n → x k = y k) : P.Feasible y :=
 ⟨fun k hk => by rw [← e k hk]; exact h.1 k hk, fun i hi => by rw [zAy (g := fun k => P.A i k * x k) fun k hk => by rw [e k hk]]; exact h.2 i hi⟩
theorem Prob.Better.congr {P : Prob} {x x' y y' : Nat → Rat} (h : P.Better x y) (e : ∀ k, k < P.n → x k = x' k) (e' : ∀ k, k < P.n → y k = y' k) : P.Better x' y' :=
 LexPos.congr h fun l hl => by rw [zBm e hl, zBm e' hl]
theorem Prob.Optimal.congr {P : Prob} {x y : Nat → Rat} (h : P.Optimal x) (e : ∀ k, k < P.n → x k = y k) : P.Optimal y :=
 ⟨h.1.congr e, fun z hz => (h.2 z hz).elim (fun hb => .inl (hb.congr e fun _ _ => rfl)) fun hs => .inr fun k hk => by rw [hs k hk, e k hk]⟩
theorem Prob.Unbounded.congr {P : Prob} {x y d d' : Nat → Rat} (h : P.Unbounded x d) (e : ∀ k, k < P.n → x k = y k) (e' : ∀ k, k < P.n → d k = d' k) : P.Unbounded y d' :=
 ⟨h.1.congr e, fun k hk => by rw [← e' k hk]; exact h.2.1 k hk, fun i hi => by rw [zAy (g := fun k => P.A i k * d k) fun k hk => by rw [e' k hk]]; exact h.2.2.1 i hi, LexPos.congr h.2.2.2 fun l _ => zAy fun k hk => by rw [e' k hk]⟩
end Lin
open Go.RowKit Go.Shelf
theorem zA7 {L : Nat} {q : Rat} (h : QFit L q) : Lin.Fits (32 * L) q := by
 have e : Num.base ^ L = 2 ^ (32 * L) := by rw [Nat.pow_mul]; rfl
 exact ⟨by rw [← e]; exact Nat.le_of_lt h.1, by rw [← e]; exact Nat.le_of_lt h.2⟩
theorem VecAt.fit {w : World} {X Y : Nat → Prop} {L : Nat} {s : SV} {l : List Rat} (h : VecIs w X Y L s l) (k : Nat) : QFit (L + 1) (l.getD k 0) := by
 by_cases hk : k < s.n
 ·obtain ⟨_, v, _, _, _, hq⟩ := h.elem k hk;exact hq.fit
 ·rw [zAP _ _ _ (by rw [h.len]; omega)]; exact QFit.zero L
def Solved (w : World) (P : Lin.Prob) (r : RV) (w' : World) : Prop :=
 (r.kind = 1 ∧ ∃ (D : Lin.Dict) (l : List Rat), Lin.Good P D ∧ Lin.Feas P D ∧ (∀ j, j < P.n → ¬ CandP P D j) ∧ l.length = P.n ∧ P.Optimal (fun k => l.getD k 0) ∧ VecCan w' (New w.heap.size) (New w.heap.size) r.X l ∧ MatCan w' (New w.heap.size) (New w.heap.size) r.Y ((List.range P.m).map fun i => (List.range (P.K + P.n)).map (priceTo D P.n P.m P.K P.n i))) ∨
 (r.kind = 2 ∧ ∃ (D : Lin.Dict) (k : Nat), Lin.Good P D ∧ k < P.m ∧ D.a k P.n < 0 ∧ (∀ j, j < P.n → 0 ≤ D.a k j) ∧ (∀ x, ¬ P.Feasible x) ∧ VecCan w' (New w.heap.size) (New w.heap.size) r.F ((List.range P.m).map (farkasOf D P.n k))) ∨
 (r.kind = 3 ∧ ∃ l l' : List Rat, l.length = P.n ∧ l'.length = P.n ∧ P.Unbounded (fun k => l.getD k 0) (fun k => l'.getD k 0) ∧ VecCan w' (New w.heap.size) (New w.heap.size) r.X l ∧ VecCan w' (New w.heap.size) (New w.heap.size) r.R l' ∧ ∃ (D : Lin.Dict) (s : Nat), Lin.Good P D ∧ s < P.n ∧ l = (List.range P.n).map (D.point P) ∧ l' = (List.range P.n).map (D.dir P s))
theorem zIk {w w' : World} {P : Lin.Prob} {e : Ending} (h : SolveRet w P e w') : ∃ r : RV, e = .returned (.tuple #[r.val, .int .i64 0]) ∧ Solved w P r w' := by
 obtain ⟨r, he, hr⟩ := h;refine ⟨r, he, ?_⟩;rcases hr with ⟨hk, D, l, hg, hf, ho, rfl, hx, hy, _, _⟩ | ⟨hk, D, k, l, hg, h1, h2, h3, rfl, hF, _, _, _⟩ | ⟨hk, D, s, l, l', hg, hf, hs, hc, hn, rfl, rfl, hx, hr, _, _⟩
 ·exact .inl ⟨hk, D, _, hg, hf, ho, by simp, (Lin.zEs hg hf ho).congr fun k hk => by rw [zAJ _ _ hk], hx, hy⟩
 ·exact .inr (.inl ⟨hk, D, k, hg, h1, h2, h3, fun x => Lin.zEW hg h1 h2 h3 x, hF⟩)
 ·exact .inr (.inr ⟨hk, _, _, by simp, by simp, (Lin.zFJ hg hf hs hc (fun i hi => by have := hn i hi; grind)).congr (fun k hk => by rw [zAJ _ _ hk]) fun k hk => by rw [zAJ _ _ hk], hx, hr, D, s, hg, hs, rfl, rfl⟩)
theorem zBj {w : World} {X Y : Nat → Prop} {L V : Nat} {p : LPV} {os rs : List (List Rat)} {bs : List Rat} (h : LPIs w X Y L p os rs bs) (hV : p.n = V) (hV2 : V ≤ 8) (ho1 : 1 ≤ p.O.n) (ho2 : p.O.n ≤ 4) (hr : p.R.n ≤ 128) (hb : p.B.n = p.R.n) (hco : colsOf os ≤ V) (hcr : colsOf rs ≤ V) (hL : L ≤ 100) :
  Calls Tryz.prog 21 #[p.val] w fun e w' => (∃ r : RV, e = .returned (.tuple #[r.val, .int .i64 0]) ∧ Solved w (probOf V os rs bs) r w') ∧ Below w.heap.size w w' := by
 have h5 : 5 ^ V ≤ 390625 := nlt (Nat.pow_le_pow_right (by omega) hV2) (by decide);have h6 : 5 ^ V * (32 * (L + 1)) ≤ 390625 * (32 * 101) := Nat.mul_le_mul h5 (by omega);refine (zGg (kb := 5 ^ V * (32 * (L + 1))) h hV (by omega) ho1 ho2 hr hb hco hcr (by rw [zAB]; omega) (fun D hD => ?_) (by rw [zAB]; omega)).mono ?_
 ·refine hD.fits (by omega) ⟨fun i j hi hj => ?_, fun l j hl hj => ?_⟩
  ·show Lin.Fits _ (if j < V then (rs.getD i []).getD j 0 else bs.getD i 0)
   split
   ·exact zA7 (h.rows.fit i j)
   ·exact zA7 (h.bounds.fit i)
  ·show Lin.Fits _ (if j < V then - (os.getD l []).getD j 0 else 0)
   split
   ·exact (zA7 (h.obj.fit l j)).neg
   ·exact Lin.Fits.zero _
 ·rintro e w' ⟨hs, hb⟩;exact ⟨zIk hs, hb⟩
open Lin
theorem zIY {k : Nat} (h : k < 2) : k = 0 ∨ k = 1 := by omega
theorem zID {k : Nat} (h : k < 3) : k = 0 ∨ k = 1 ∨ k = 2 := by omega
abbrev pa : Prob := probOf 2 [rats [3, 5]] [rats [1, 0], rats [0, 2], rats [3, 2]] (rats [4, 12, 18])
abbrev pb : Prob := probOf 1 [rats [1]] [rats [1]] [((-1 : Int) : Rat)]
abbrev pc : Prob := probOf 2 [rats [1, 0]] [rats [-1, 1]] [((2 : Int) : Rat)]
abbrev pd : Prob := probOf 1 [rats [0]] [rats [-1]] [((-3 : Int) : Rat)]
theorem sum1 (f : Nat → Rat) : Lin.sum 1 f = f 0 := by simp [Lin.sum]; grind
theorem sum2 (f : Nat → Rat) : Lin.sum 2 f = f 0 + f 1 := by simp [Lin.sum]; grind
theorem zH7 (y : Nat → Rat) : pa.Feasible y ↔ (0 ≤ y 0 ∧ 0 ≤ y 1) ∧ y 0 ≤ 4 ∧ 2 * y 1 ≤ 12 ∧ 3 * y 0 + 2 * y 1 ≤ 18 := by
 constructor
 ·rintro ⟨h1, h2⟩;have a0 := h1 0 (by decide);have a1 := h1 1 (by decide);have b0 := h2 0 (by decide);have b1 := h2 1 (by decide);have b2 := h2 2 (by decide);simp only [pa, probOf, sum2, rats] at b0 b1 b2;simp at b0 b1 b2;refine ⟨⟨a0, a1⟩, ?_, ?_, ?_⟩ <;> grind
 ·rintro ⟨⟨a0, a1⟩, b0, b1, b2⟩;refine ⟨fun k hk => ?_, fun i hi => ?_⟩
  ·rcases zIY hk with rfl | rfl
   ·exact a0
   ·exact a1
  ·rcases zID hi with rfl | rfl | rfl <;> simp only [pa, probOf, sum2, rats] <;> simp <;> grind
theorem zJn : pa.Optimal (fun k => ([2, 6] : List Rat).getD k 0) := by
 refine ⟨(zH7 _).2 (by simp; grind), fun y hy => ?_⟩;obtain ⟨⟨a0, a1⟩, b0, b1, b2⟩ := (zH7 y).1 hy;by_cases h : 3 * y 0 + 5 * y 1 < 36
 ·refine .inl ⟨0, by decide, ?_, fun j hj => absurd hj (by omega)⟩;simp only [Prob.obj, pa, probOf, sum2, rats];simp;grind
 ·refine .inr fun k hk => ?_
  have e1 : y 1 = 6 := by grind
  have e0 : y 0 = 2 := by grind
  rcases zIY hk with rfl | rfl
  ·simp [e0]
  ·simp [e1]
theorem zJa (x : Nat → Rat) : ¬ pb.Feasible x := by
 rintro ⟨h1, h2⟩;have a0 := h1 0 (by decide);have b0 := h2 0 (by decide);simp only [pb, probOf, sum1, rats] at b0;simp at b0;grind
theorem zH9 {D : Dict} (g : Lin.Good pb D) {k : Nat} (hk : k < pb.m) (hneg : D.a k pb.n < 0) (hnn : ∀ j, j < pb.n → 0 ≤ D.a k j) : 0 < farkasOf D pb.n k 0 := by
 obtain rfl : k = 0 := by have hk' : k < 1 := hk; omega
 have hneg' : D.a 0 1 < 0 := hneg;have h0 : 0 ≤ D.a 0 0 := hnn 0 (by decide);have hb : D.basic 0 < 2 := g.bLt 0 (by decide);have hf : D.free 0 < 2 := g.fLt 0 (by decide);have hap : D.basic 0 ≠ D.free 0 := g.apart 0 0 (by decide) (by decide);unfold farkasOf;by_cases h : D.basic 0 = pb.n + 0
 ·rw [if_pos h]; grind
 ·rw [if_neg h];have hb0 : D.basic 0 = 0 := by have : D.basic 0 ≠ 1 := h; omega
  have hf0 : D.free 0 = 1 := by omega
  have hfind : find D.free (pb.n + 0) pb.n = 0 := by
   show find D.free 1 1 = 0;simp [find, hf0]
  rw [hfind, if_pos (by decide)];by_cases h1' : 0 < D.a 0 0
  ·exact h1'
  ·exfalso;have h1 : 0 = D.a 0 0 := by grind
   have hs : pb.Sys (fun v => if v = 0 then 0 else -1) := fun i hi => by
    obtain rfl : i = 0 := by have hi' : i < 1 := hi; omega
    show (if 1 + 0 = 0 then (0 : Rat) else -1) = _;simp only [pb, probOf, sum1, rats];simp;grind
   have hr := (g.rows _).1 hs 0 (by decide)
   have e : val pb.n D.free (D.a 0) (fun v => if v = 0 then 0 else -1) = D.a 0 1 := by
    show D.a 0 1 - Lin.sum 1 _ = _;rw [sum1, ← h1]; grind
   rw [e, hb0] at hr;simp at hr;grind
theorem zJo : pc.Unbounded (fun _ => 0) (fun k => if k = 0 then 1 else 0) := by
 refine ⟨⟨fun k hk => by grind, fun i hi => ?_⟩, fun k hk => by dsimp only; split <;> grind, fun i hi => ?_, ⟨0, by decide, ?_, fun j hj => absurd hj (by omega)⟩⟩
 ·obtain rfl : i = 0 := by have hi' : i < 1 := hi; omega
  simp only [pc, probOf, sum2, rats]; simp; grind
 ·obtain rfl : i = 0 := by have hi' : i < 1 := hi; omega
  simp only [pc, probOf, sum2, rats]; simp; grind
 ·simp only [pc, probOf, sum2, rats]; simp; grind
theorem zIa (y : Nat → Rat) : pd.Feasible y ↔ 0 ≤ y 0 ∧ 3 ≤ y 0 := by
 constructor
 ·rintro ⟨h1, h2⟩;have a0 := h1 0 (by decide);have b0 := h2 0 (by decide);simp only [pd, probOf, sum1, rats] at b0;simp at b0;exact ⟨a0, by grind⟩
 ·rintro ⟨a0, b0⟩;refine ⟨fun k hk => ?_, fun i hi => ?_⟩
  ·obtain rfl : k = 0 := by have hk' : k < 1 := hk; omega
   exact a0
  ·obtain rfl : i = 0 := by have hi' : i < 1 := hi; omega
   simp only [pd, probOf, sum1, rats]; simp; grind
theorem zJp : pd.Optimal (fun k => ([3] : List Rat).getD k 0) := by
 refine ⟨(zIa _).2 (by simp; grind), fun y hy => ?_⟩;obtain ⟨a0, b0⟩ := (zIa y).1 hy;by_cases h : 3 < y 0
 ·refine .inl ⟨1, by decide, ?_, fun j hj => ?_⟩
  ·simp only [Prob.obj, pd, probOf, sum1, rats];simp;grind
  ·(obtain rfl : j = 0 := by omega);simp only [Prob.obj, pd, probOf, sum1, rats];simp;grind
 ·refine .inr fun k hk => ?_
  obtain rfl : k = 0 := by have hk' : k < 1 := hk; omega
  simp; grind
section
variable {w w' : World} {P : Lin.Prob} {r : RV}
theorem Solved.opt (h : Solved w P r w') {x : Nat → Rat} (ho : P.Optimal x) : r.kind = 1 ∧ ∃ l : List Rat, l.length = P.n ∧ (∀ k, k < P.n → l.getD k 0 = x k) ∧ VecCan w' (New w.heap.size) (New w.heap.size) r.X l := by
 rcases h with ⟨hk, D, l, _, _, _, hl, hopt, hx, _⟩ | ⟨_, D, k, _, _, _, _, hno, _⟩ | ⟨_, l, l', _, _, hu, _, _⟩
 ·exact ⟨hk, l, hl, fun k hk => Lin.Prob.Optimal.unique hopt ho hk, hx⟩
 ·exact absurd ho.1 (hno x)
 ·exact absurd ho (hu.no_optimal x)
theorem Solved.inf (h : Solved w P r w') (hn : ∀ x, ¬ P.Feasible x) : r.kind = 2 ∧ ∃ (D : Lin.Dict) (k : Nat), Lin.Good P D ∧ k < P.m ∧ D.a k P.n < 0 ∧ (∀ j, j < P.n → 0 ≤ D.a k j) ∧ VecCan w' (New w.heap.size) (New w.heap.size) r.F ((List.range P.m).map (farkasOf D P.n k)) := by
 rcases h with ⟨hk, D, l, _, _, _, hl, hopt, hx, _⟩ | ⟨hk, D, k, h1, h2, h3, h4, _, h5⟩ | ⟨_, l, l', _, _, hu, _, _⟩
 ·exact absurd hopt.1 (hn _)
 ·exact ⟨hk, D, k, h1, h2, h3, h4, h5⟩
 ·exact absurd hu.1 (hn _)
theorem Solved.unb (h : Solved w P r w') {x d : Nat → Rat} (hu : P.Unbounded x d) : r.kind = 3 ∧ ∃ l l' : List Rat, l.length = P.n ∧ l'.length = P.n ∧ P.Unbounded (fun k => l.getD k 0) (fun k => l'.getD k 0) ∧ VecCan w' (New w.heap.size) (New w.heap.size) r.X l ∧ VecCan w' (New w.heap.size) (New w.heap.size) r.R l' := by
 rcases h with ⟨hk, D, l, _, _, _, hl, hopt, hx, _⟩ | ⟨hk, D, k, h1, h2, h3, h4, hno, h5⟩ | ⟨hk, l, l', h1, h2, h3, h4, h5, _⟩
 ·exact absurd hopt (hu.no_optimal _)
 ·exact absurd hu.1 (hno _)
 ·exact ⟨hk, l, l', h1, h2, h3, h4, h5⟩
end
theorem LRet.lpis {w' : World} {B L : Nat} {p : LPV} {os rs : List (List Rat)} {bs : List Rat} (ho : MatCan w' (New B) (New B) p.O os) (hr : MatCan w' (New B) (New B) p.R rs) (hb : VecCan w' (New B) (New B) p.B bs)
  (fo : ∀ i k, QFit L ((os.getD i []).getD k 0)) (fr : ∀ i k, QFit L ((rs.getD i []).getD k 0)) (fb : ∀ k, QFit L (bs.getD k 0)) : LPIs w' (New B) (New B) L p os rs bs :=
 ⟨⟨ho.len, ho.le, ho.cap, fun i hi => by
   obtain ⟨ad, r, e, hx, hc, hv⟩ := ho.row i hi
   exact ⟨ad, r, e, hx, hc, hv.len, hv.le, hv.cap, fun k hk => by
    obtain ⟨ad', v, e', hx', hc', hq⟩ := hv.elem k hk;exact ⟨ad', v, e', hx', hc', hq.qis (fo i k)⟩⟩⟩,
  ⟨hr.len, hr.le, hr.cap, fun i hi => by
   obtain ⟨ad, r, e, hx, hc, hv⟩ := hr.row i hi
   exact ⟨ad, r, e, hx, hc, hv.len, hv.le, hv.cap, fun k hk => by
    obtain ⟨ad', v, e', hx', hc', hq⟩ := hv.elem k hk;exact ⟨ad', v, e', hx', hc', hq.qis (fr i k)⟩⟩⟩,
  ⟨hb.len, hb.le, hb.cap, fun k hk => by
   obtain ⟨ad', v, e', hx', hc', hq⟩ := hb.elem k hk;exact ⟨ad', v, e', hx', hc', hq.qis (fb k)⟩⟩⟩
theorem zG7 {z : Int} (h : z.natAbs < 1000) : QFit 1 (z : Rat) := by
 have e : Num.base ^ 1 = 4294967296 := by decide
 exact ⟨by rw [e]; simp; omega, by rw [e]; simp⟩
theorem zBv {l : List Int} (h : ∀ z ∈ l, z.natAbs < 1000) (k : Nat) : QFit 1 ((rats l).getD k 0) := by
 unfold rats;rw [gdd, List.getElem?_map]
 cases e : l[k]? with
 | none => exact QFit.zero 0
 | some z => exact zG7 (h z (List.mem_of_getElem? e))
theorem zHJ {m : List (List Int)} (h : ∀ l ∈ m, ∀ z ∈ l, z.natAbs < 1000) (i k : Nat) : QFit 1 (((m.map rats).getD i []).getD k 0) := by
 have e : (m.map rats).getD i [] = rats (m.getD i []) := by
  simp only [gdd, List.getElem?_map];cases m[i]? <;> rfl
 rw [e];refine zBv (fun z hz => ?_) k;by_cases hi : i < m.length
 ·refine h _ (List.getElem_mem hi) z ?_;simpa [gdd, hi] using hz
 ·rw [zAP _ _ _ (by omega)] at hz; cases hz
set_option maxRecDepth 20000 in
theorem zD9 {w : World} : Calls Tryz.prog 66 #[.agg #[.int .i64 0, .slice none 0 0, .slice none 0 0, .slice none 0 0]] w fun e w' => e = .returned (.bool false) ∧ Below w.heap.size w w' := by
 go_enter Tryz.func66, Tryz.ntmps66
 go_wp2_with fail
 refine (zCX (p := ⟨0, ⟨none, 0, 0⟩, ⟨none, 0, 0⟩, ⟨none, 0, 0⟩⟩) (by decide) (by decide) (by decide)).mono ?_; rintro e w1 ⟨rfl, hb1⟩
 have hb0 : Below w.heap.size w w1 := ((brf _ _).alloc (nlr _) _).trans (hb1.mono (by simp));dsimp only;go_wp2;go_ret;exact ⟨rfl, hb0.alloc hb0.size _⟩
set_option maxRecDepth 20000 in
theorem zD7 {w : World} : Calls Tryz.prog 21 #[.agg #[.int .i64 0, .slice none 0 0, .slice none 0 0, .slice none 0 0]] w fun e w' => e = .returned (.tuple #[.agg zeroR, .int .i64 1]) ∧ Below w.heap.size w w' := by
 go_enter Tryz.func21, Tryz.ntmps21
 go_wp2_with fail
 obtain ⟨W1, hW1⟩ : ∃ W1, W1 = (w.alloc (.cells #[.int .i64 0, .slice none 0 0, .slice none 0 0, .slice none 0 0] 25)).alloc (.cells zeroR 37) := ⟨_, rfl⟩;rw [← hW1];have hbW : Below w.heap.size w W1 := by rw [hW1]; exact ((brf _ _).alloc (nlr _) _).alloc (by simp) _
 have hX1 : Box6 W1 (w.heap.size + 1) (.int .u8 0) (.slice none 0 0) (.slice none 0 0) (.slice none 0 0) (.slice none 0 0) (.int .i64 0) := by rw [hW1]; exact zAc _ _ (by simp)
 have hs1 : w.heap.size + 1 < W1.heap.size := zAb hX1;clear hW1;refine zD9.mono ?_; rintro e w2 ⟨rfl, hb2⟩
 have hX2 : Box6 w2 (w.heap.size + 1) (.int .u8 0) (.slice none 0 0) (.slice none 0 0) (.slice none 0 0) (.slice none 0 0) (.int .i64 0) := (hb2.block _ hs1).trans hX1;have hbf := hbW.trans (hb2.mono hbW.size);obtain ⟨s0, s1, s2, s3, s4, s5, s6⟩ := zAE hX2;clear hb2 hX1 hbW;go_wp2;obtain ⟨v0, v1, v2, v3, v4, v5, -⟩ := zAE (zBU hX2 (.int .u8 0) (.slice none 0 0) (.slice none 0 0) (.slice none 0 0) (.slice none 0 0) (.int .i64 0));simp only [put6] at v0 v1 v2 v3 v4 v5;exact bodyPost_ret (v := .tuple #[.agg zeroR, .int .i64 1]) (by simp [results, Tryz.results21, go_sem, v0, v1, v2, v3, v4, v5]) rfl ⟨rfl, zBp hbf (by omega) _ _ _ _ _ _⟩
abbrev rcells (k : Int) (r : RV) : Array Value := #[.int .u8 k, .slice r.X.A r.X.n r.X.c, .slice r.Y.A r.Y.n r.Y.c, .slice r.R.A r.R.n r.R.c, .slice r.F.A r.F.n r.F.c, .int .i64 r.pv]
abbrev RBox (W : World) (b : Nat) (k : Int) (r : RV) : Prop := W.heap[b]? = some (.cells (rcells k r) 37 (0, 0))
theorem zBH {w : World} {B V : Nat} {p : LPV} {os rs : List (List Int)} {bs : List Rat} (ho : MatCan w (New B) (New B) p.O (os.map rats)) (hr : MatCan w (New B) (New B) p.R (rs.map rats)) (hb : VecCan w (New B) (New B) p.B bs) (hV : p.n = V) (hV2 : V ≤ 8)
  (ho1 : 1 ≤ os.length) (ho2 : os.length ≤ 4) (hr1 : rs.length ≤ 8) (hbl : bs.length = rs.length) (so : ∀ l ∈ os, l.length ≤ V ∧ ∀ z ∈ l, z.natAbs < 1000) (sr : ∀ l ∈ rs, l.length ≤ V ∧ ∀ z ∈ l, z.natAbs < 1000) (sb : ∀ k, QFit 1 (bs.getD k 0)) :
  Calls Tryz.prog 21 #[p.val] w fun e w' => (∃ r : RV, e = .returned (.tuple #[r.val, .int .i64 0]) ∧ Solved w (probOf V (os.map rats) (rs.map rats) bs) r w') ∧ Below w.heap.size w w' := by
 have e1 := ho.len;have e2 := hr.len;have e3 := hb.len;rw [List.length_map] at e1 e2;refine zBj (L := 1) (LRet.lpis ho hr hb (zHJ fun l hl => (so l hl).2) (zHJ fun l hl => (sr l hl).2) sb) hV hV2 (by omega) (by omega) (by omega) (by omega) (zAN.2 fun l hl => ?_) (zAN.2 fun l hl => ?_) (by decide)
 ·obtain ⟨l', hl', rfl⟩ := List.mem_map.1 hl;rw [rats, List.length_map]; exact (so l' hl').1
 ·obtain ⟨l', hl', rfl⟩ := List.mem_map.1 hl;rw [rats, List.length_map]; exact (sr l' hl').1
theorem zC8 {w : World} {c : Array Value} {T : TypeId} {g r : List Int} {z : Int} (hg : g.length ≤ 1000) (hr : r.length ≤ 1000) (gr : ∀ x ∈ g, -9223372036854775808 ≤ x ∧ x ≤ 9223372036854775807) (rr : ∀ x ∈ r, -9223372036854775808 ≤ x ∧ x ≤ 9223372036854775807) (h1 : -9223372036854775808 ≤ z) (h2 : z ≤ 9223372036854775807) :
  Calls Tryz.prog 61 #[.slice (some ⟨w.heap.size + 1, 0, none⟩) g.length g.length, .slice (some ⟨w.heap.size + 1 + 1, 0, none⟩) r.length r.length, .int .i64 z] (((w.alloc (.cells c T)).alloc (.cells (g.map fun z => Value.int .i64 z).toArray 2)).alloc (.cells (r.map fun z => Value.int .i64 z).toArray 2))
   fun e w' => LRet w g.length [rats g] [rats r] [(z : Rat)] e w' ∧ Below w.heap.size w w' ∧ w'.heap[w.heap.size]? = some (.cells c T (0, 0)) := by
 obtain ⟨W, hW⟩ : ∃ W, W = ((w.alloc (.cells c T)).alloc (.cells (g.map fun z => Value.int .i64 z).toArray 2)).alloc (.cells (r.map fun z => Value.int .i64 z).toArray 2) := ⟨_, rfl⟩;rw [← hW];have i0 : W.heap[w.heap.size]? = some (.cells c T (0, 0)) := by rw [hW]; exact (Below.heap_alloc _ _ _ (by simp <;> omega)).trans ((Below.heap_alloc _ _ _ (by simp)).trans (zAc _ _ rfl))
 have i1 : W.heap[w.heap.size + 1]? = some (.cells (g.map fun z => Value.int .i64 z).toArray 2 (0, 0)) := by rw [hW]; exact (Below.heap_alloc _ _ _ (by simp)).trans (zAc _ _ (by simp))
 have i2 : W.heap[w.heap.size + 1 + 1]? = some (.cells (r.map fun z => Value.int .i64 z).toArray 2 (0, 0)) := by rw [hW]; exact zAc _ _ (by simp)
 have hb : Below w.heap.size w W := by rw [hW]; exact (((brf _ _).alloc (nlr _) _).alloc (by simp) _).alloc (by simp <;> omega) _
 clear hW;refine (zHX (sg := ⟨some ⟨w.heap.size + 1, 0, none⟩, g.length, g.length⟩) (sr := ⟨some ⟨w.heap.size + 1 + 1, 0, none⟩, r.length, r.length⟩) (IntsAt.blk i1 hg gr) (IntsAt.blk i2 hr rr) h1 h2 hg hr).mono ?_;rintro e w' ⟨⟨p, rfl, hn, ho, hr, hv⟩, hb'⟩;exact ⟨⟨p, rfl, hn, ho.low hb.size, hr.low hb.size, hv.low hb.size⟩, hb.trans (hb'.mono hb.size), (hb'.block _ (zAb i0)).trans i0⟩
theorem zAl {w w' : World} {b : Nat} {bl : Obj} (h : w.heap[b]? = some bl) (hb : Below w.heap.size w w') : w'.heap[b]? = some bl := (hb.block _ (zAb h)).trans h
theorem zA2 {w : World} {b : Nat} {k : Int} {r : RV} (h : RBox w b k r) : w.cell? ⟨b, 0, none⟩ = some (.int .u8 k) ∧ w.cell? ⟨b, 1, none⟩ = some (.slice r.X.A r.X.n r.X.c) ∧ w.cell? ⟨b, 4, none⟩ = some (.slice r.F.A r.F.n r.F.c) := by
 simp only [World.cell?, h]; exact ⟨rfl, rfl, rfl⟩
theorem VecAt.loose {w : World} {X Y : Nat → Prop} {L : Nat} {s : SV} {l : List Rat} (h : VecCan w X Y s l) (f : ∀ k, QFit L (l.getD k 0)) : VecIs w X Y L s l :=
 ⟨h.len, h.le, h.cap, fun k hk => by
  obtain ⟨ad', v, e', hx', hc', hq⟩ := h.elem k hk;exact ⟨ad', v, e', hx', hc', hq.qis (f k)⟩⟩
theorem zBF {w : World} {X Y X' Y' : Nat → Prop} {L M : Nat} {sa sb : SV} {l : List Rat} (ha : VecIs w X Y L sa l) (hb : VecIs w X' Y' M sb l) (hL : L ≤ LM) (hM : M ≤ LM) (hna : sa.n ≤ 1000000) (hnb : sb.n ≤ 1000000) :
  Calls Tryz.prog 22 #[sa.val, sb.val] w fun e w' => e = .returned (.bool true) ∧ Below w.heap.size w w' := by
 refine (zF0 ha hb hL hM hna hnb).mono ?_;rintro e w' ⟨rfl, hb⟩;rw [zFK.2 (fun i _ => rfl)];exact ⟨rfl, hb⟩
theorem zJc (q : Rat) : ∃ L, QFit L q := by
 refine ⟨q.num.natAbs + q.den, ?_, ?_⟩
 ·exact Nat.lt_of_le_of_lt (Nat.le_add_right _ _) (Nat.lt_pow_self (by decide))
 ·exact Nat.lt_of_le_of_lt (Nat.le_add_left _ _) (Nat.lt_pow_self (by decide))
theorem zJs {l : List Rat} (n : l.length = 2) (h : ∀ k, k < 2 → l.getD k 0 = ([2, 6] : List Rat).getD k 0) : l = rats [2, 6] := by
 match l, n with
 | [a, b], _ =>
  have h0 := h 0 (by omega);have h1 := h 1 (by omega);simp at h0 h1;subst h0 h1;simp [rats]
theorem zJl {l : List Rat} (n : l.length = 1) (h : ∀ k, k < 1 → l.getD k 0 = ([3] : List Rat).getD k 0) : l = rats [3] := by
 match l, n with
 | [a], _ =>
  have h0 := h 0 (by omega);simp at h0;subst h0;simp [rats]
set_option maxRecDepth 40000 in
theorem zBg {w : World} : Calls Tryz.prog 18 #[] w fun e w' => e = .returned (.bool true) ∧ Below w.heap.size w w' := by
 go_enter Tryz.func18, Tryz.ntmps18
 go_wp2_with fail
 refine zEh.mono ?_; rintro e w1 ⟨⟨p1, rfl, hn1, ho1, hr1, hv1⟩, hb1⟩
 go_wp2_with fail
 refine (zBH (os := [[3, 5]]) (rs := [[1, 0], [0, 2], [3, 2]]) ho1 hr1 hv1 hn1 (by decide) (by decide) (by decide) (by decide) (by decide) (by decide) (by decide) (zBv (by decide))).mono ?_;rintro e w2 ⟨⟨r1, rfl, hs1⟩, hb2⟩;obtain ⟨k1, l1, n1, x1, v1⟩ := hs1.opt zJn;have hbw2 := hb1.trans (hb2.mono hb1.size);clear ho1 hr1 hv1 hs1 hb1 hn1 hb2;go_wp2_with fail
 refine (zC8 (w := w2) (c := rcells 1 r1) (g := [1]) (r := [1]) (z := -1) (by decide) (by decide) (by decide) (by decide) (by decide) (by decide)).mono ?_;rintro e w3 ⟨⟨p2, rfl, hn2, ho2, hr2, hv2⟩, hb3, q1⟩;go_wp2_with fail
 refine (zBH (os := [[1]]) (rs := [[1]]) ho2 hr2 hv2 hn2 (by decide) (by decide) (by decide) (by decide) (by decide) (by decide) (by decide) (zBv (l := [-1]) (by decide))).mono ?_;rintro e w4 ⟨⟨r2, rfl, hs2⟩, hb4⟩;obtain ⟨k2, D, kk, g2, kk1, kk2, kk3, f2⟩ := hs2.inf zJa;have hF := zH9 g2 kk1 kk2 kk3;have h24 := hb3.trans (hb4.mono hb3.size);have hbw4 := hbw2.trans (h24.mono hbw2.size);replace v1 := v1.belowC h24;replace q1 := zAl q1 hb4;clear ho2 hr2 hv2 hs2 hn2 hb3 hb4 h24 hbw2 g2 kk1 kk2 kk3;go_wp2_with fail
 refine (zC8 (w := w4) (c := rcells 2 r2) (g := [1, 0]) (r := [-1, 1]) (z := 2) (by decide) (by decide) (by decide) (by decide) (by decide) (by decide)).mono ?_;rintro e w5 ⟨⟨p3, rfl, hn3, ho3, hr3, hv3⟩, hb5, q2⟩;go_wp2_with fail
 refine (zBH (os := [[1, 0]]) (rs := [[-1, 1]]) ho3 hr3 hv3 hn3 (by decide) (by decide) (by decide) (by decide) (by decide) (by decide) (by decide) (zBv (l := [2]) (by decide))).mono ?_;rintro e w6 ⟨⟨r3, rfl, hs3⟩, hb6⟩;obtain ⟨k3, -⟩ := hs3.unb zJo;have h46 := hb5.trans (hb6.mono hb5.size);have hbw6 := hbw4.trans (h46.mono hbw4.size);replace v1 := v1.belowC h46;replace f2 := f2.belowC h46;replace q1 := zAl q1 h46;replace q2 := zAl q2 hb6;clear ho3 hr3 hv3 hs3 hn3 hb5 hb6 h46 hbw4;go_wp2_with fail
 refine (zC8 (w := w6) (c := rcells 3 r3) (g := [0]) (r := [-1]) (z := -3) (by decide) (by decide) (by decide) (by decide) (by decide) (by decide)).mono ?_;rintro e w7 ⟨⟨p4, rfl, hn4, ho4, hr4, hv4⟩, hb7, q3⟩;go_wp2_with fail
 refine (zBH (os := [[0]]) (rs := [[-1]]) ho4 hr4 hv4 hn4 (by decide) (by decide) (by decide) (by decide) (by decide) (by decide) (by decide) (zBv (l := [-3]) (by decide))).mono ?_;rintro e w8 ⟨⟨r4, rfl, hs4⟩, hb8⟩;obtain ⟨k4, l4, n4, x4, v4⟩ := hs4.opt zJp;have h68 := hb7.trans (hb8.mono hb7.size);have hbw8 := hbw6.trans (h68.mono hbw6.size);replace v1 := v1.belowC h68;replace f2 := f2.belowC h68;replace q1 := zAl q1 h68;replace q2 := zAl q2 h68;replace q3 := zAl q3 hb8;clear ho4 hr4 hv4 hs4 hn4 hb7 hb8 h68 hbw6;go_wp2_with fail
 have q4' : (w8.alloc (.cells (rcells 1 r4) 37)).heap[w8.heap.size]? = some (.cells (rcells 1 r4) 37 (0, 0)) := zAc _ _ rfl;have al8 : Below w8.heap.size w8 (w8.alloc (.cells (rcells 1 r4) 37)) := (brf _ _).alloc (nlr _) _;refine zD7.mono ?_;rintro e w9 ⟨rfl, hb9⟩;have q4 := zAl q4' hb9;have h89 := al8.trans (hb9.mono al8.size);have hbw9 := hbw8.trans (h89.mono hbw8.size);replace v1 := v1.belowC h89;replace v4 := v4.belowC h89;replace f2 := f2.belowC h89;replace q1 := zAl q1 h89;replace q2 := zAl q2 h89;replace q3 := zAl q3 h89;obtain rfl := zJs n1 x1;obtain rfl := zJl n4 x4;clear al8 q4' hb9 h89 hbw8 x1 x4 n1 n4;go_upto_region 6 with fail
 obtain ⟨W, hW⟩ : ∃ W, W = w9.alloc (.cells zeroR 37) := ⟨_, rfl⟩;rw [← hW];have h9W : Below w9.heap.size w9 W := by rw [hW]; exact (brf _ _).alloc (nlr _) _
 have hbW := hbw9.trans (h9W.mono hbw9.size);have hBW := hbW.size;replace v1 := hdq ((v1.belowC h9W).loose (L := 1) (zBv (by decide)));replace v4 := hdq ((v4.belowC h9W).loose (L := 1) (zBv (by decide)));replace f2 := f2.belowC h9W;obtain ⟨q10, q11, q14⟩ := zA2 (zAl q1 h9W);obtain ⟨q20, q21, q24⟩ := zA2 (zAl q2 h9W);obtain ⟨q30, q31, q34⟩ := zA2 (zAl q3 h9W);obtain ⟨q40, q41, q44⟩ := zA2 (zAl q4 h9W);have s1 := zAb (zAl q1 h9W);have s2 := zAb (zAl q2 h9W);have s4 := zAb (zAl q4 h9W);clear q1 q2 q3 q4 h9W hW hbw9;go_upto_region 8 with fail
 have f3 : VecCan W (New w3.heap.size) (New w3.heap.size) r2.F [farkasOf D pb.n kk 0] := f2;clear f2 q10 q14 q20 q21 q30 q31 q34 q40 q44 k1 k2 k3 k4;generalize farkasOf D pb.n kk 0 = q at *;generalize r2.F = F at *;obtain ⟨fA, fn, fc⟩ := F;obtain rfl : 1 = fn := f3.len;have f4 : 1 ≤ fc := f3.le;have f5 : fc ≤ 9223372036854775807 := f3.cap;obtain ⟨ad, qv, e, -, ⟨c0, c1, c2, c3⟩, hq⟩ := f3.elem 0 (by show 0 < 1; omega);dsimp only at e c0 c1 c2 c3 hq q24;subst e;have hq' : Hid (QCan W (New w3.heap.size) qv q) := hq;clear hq;have ea : ad.add (0 * 4) = ad := by cases ad; rfl
 rw [ea] at c0 c1 c2 c3;have hadl := zAa c0;clear ea;refine zAo 1000 (fun _ w' => Sees w.heap.size [] W w') (by kernel_rfl) ?_;have hS0 : Sees w.heap.size [] W W.drew := Sees.st (by simp) hBW;refine tkX 0 (hS0) ?_;simp only [zz];refine tkX 1 (hS0) ?_;simp only [zz];refine oneW (i := 2) (by kernel_rfl) rfl (by rfl) ?_;intro K hK;go_simp;have hA : (W.alloc (.cells #[.int .i64 2, .int .i64 6] 2)).drew.heap[W.heap.size]? = some (.cells #[.int .i64 2, .int .i64 6] 2 (0, 0)) := zAc _ _ rfl;have hS1 : Sees w.heap.size [] W (W.alloc (.cells #[.int .i64 2, .int .i64 6] 2)).drew := Sees.ad hS0;refine hK.out _ _ hS1 ?_;clear hK K;generalize (W.alloc (.cells #[.int .i64 2, .int .i64 6] 2)).drew = wa at *;refine oneW (i := 3) (by kernel_rfl) rfl (by rfl) ?_;intro K hK;go_simp;refine (zBd (s := ⟨some ⟨W.heap.size, 0, none⟩, 2, 2⟩) (l := [2, 6]) (IntsAt.blk (l := [2, 6]) hA (by decide) (by decide)) (by show 2 ≤ 1000; omega)).mono ?_;rintro e wb ⟨⟨⟨zA, zn, zc⟩, rfl, hz⟩, hbb⟩;dsimp only [SV.val];have hS2 := Kept.call2 hbb hS1;refine hK.out _ _ hS2 ?_;clear hK K;refine oneW (i := 4) (by kernel_rfl) rfl (by rfl) ?_;intro K hK;go_simp;refine (zBF (sa := r1.X) (sb := ⟨zA, zn, zc⟩) (v1.out.below hS2.kept.whole) (hz.loose (L := 1) (zBv (l := [2, 6]) (by decide))) (by rw [zAB]; omega) (by rw [zAB]; omega) (by rw [← v1.out.len]; decide) (by rw [← hz.len]; decide)).mono ?_;rintro e wc ⟨rfl, hbc⟩;dsimp only;have hS3 := Kept.call2 hbc hS2;refine hK.out _ _ hS3 ?_;clear hK K hS1 hS2 hz hbb hbc hA;refine tkX 5 (hS3) ?_;simp only [zz];refine tkX 6 (hS3) ?_;simp only [zz];refine tkX 7 (hS3) ?_;simp only [zz];refine oneW (i := 8) (by kernel_rfl) rfl (by rfl) ?_;intro K hK;go_simp;have hA : (wc.alloc (.cells #[.int .i64 3] 2)).heap[wc.heap.size]? = some (.cells #[.int .i64 3] 2 (0, 0)) := zAc _ _ rfl;have hS4 : Sees w.heap.size [] W (wc.alloc (.cells #[.int .i64 3] 2)) := Sees.al hS3;refine hK.out _ _ hS4 ?_;clear hK K;generalize wc.alloc (.cells #[.int .i64 3] 2) = wd at *;refine oneW (i := 9) (by kernel_rfl) rfl (by rfl) ?_;intro K hK;go_simp;refine (zBd (s := ⟨some ⟨wc.heap.size, 0, none⟩, 1, 1⟩) (l := [3]) (IntsAt.blk (l := [3]) hA (by decide) (by decide)) (by show 1 ≤ 1000; omega)).mono ?_;rintro e we ⟨⟨⟨yA, yn, yc⟩, rfl, hy⟩, hbe⟩;dsimp only [SV.val];have hS5 := Kept.call2 hbe hS4;refine hK.out _ _ hS5 ?_;clear hK K;refine oneW (i := 10) (by kernel_rfl) rfl (by rfl) ?_;intro K hK;go_simp;refine (zBF (sa := r4.X) (sb := ⟨yA, yn, yc⟩) (v4.out.below hS5.kept.whole) (hy.loose (L := 1) (zBv (l := [3]) (by decide))) (by rw [zAB]; omega) (by rw [zAB]; omega) (by rw [← v4.out.len]; decide) (by rw [← hy.len]; decide)).mono ?_;rintro e wf ⟨rfl, hbf⟩;dsimp only;have hS6 := Kept.call2 hbf hS5;refine hK.out _ _ hS6 ?_;clear hK K hS3 hS4 hS5 hy hbe hbf hA;refine tkX 11 (hS6) ?_;simp only [zz];refine tkX 12 (hS6) ?_;simp only [zz];refine tkX 13 (hS6) ?_;simp only [zz];refine tkX 14 (hS6) ?_;simp only [zz];refine tkX 15 (hS6) ?_;simp only [zz];refine tkX 16 (hS6) ?_;simp only [zz];refine tkX 17 (hS6) ?_;simp only [zz];refine tkX 18 (hS6) ?_;simp only [zz];refine tkX 19 (hS6) ?_;simp only [zz];refine tkX 20 (hS6) ?_;simp only [zz];refine tkX 21 (hS6) ?_;simp only [zz];refine takeA (i := 22) (qv.val) rfl rfl (by kernel_rfl) (by kernel_rfl) (by kernel_rfl) (by decide) (fun _ _ _ h => h) (by rfl) (fun w' hSw => ?_) (hS6) ?_
 ·((obtain ⟨_, hSw⟩ := hSw); (try dsimp only at hSw); have e0 := ((hSw.kept.whole).cell hadl).trans c0; go_simp; try with_reducible rfl)
 simp only [zz];refine oneW (i := 23) (by kernel_rfl) rfl (by rfl) ?_;intro K hK;go_simp;obtain ⟨L, hL⟩ := zJc q;refine (zAn ((hq'.out.below hS6.kept.whole).qis hL)).mono ?_;rintro e wg ⟨rfl, hbg⟩;dsimp only;have hS7 := Kept.call2 hbg hS6;refine hK.out _ _ hS7 ?_;clear hK K hS6;rw [zFz hF];refine tkX 24 (hS7) ?_;simp only [zz];refine tkX 25 (hS7) ?_;simp only [zz];refine tkX 26 (hS7) ?_;simp only [zz];refine zAf (by kernel_rfl) ?_ _;have hbf := hbW.trans (hS7.kept.whole.mono hBW);go_wp2;go_ret;exact ⟨rfl, hbf⟩
namespace Lin
theorem zIo (n : Nat) (c : Rat) (f : Nat → Rat) : sum n (fun k => c * f k) = c * sum n f := by
 induction n with
 | zero => simp [sum]
 | succ n ih => simp only [sum, ih]; grind
end Lin
open Lin
open Go.RowKit
def three (a b c : Value) (f : Nat) : Value := if f = 1 then a else if f = 2 then b else c
def qft (f : Nat) : TypeId := if f ≤ 2 then 23 else 30
def qfw (f : Nat) : Nat := if f ≤ 2 then 1 else 4
structure Step (W W' : World) (G G' : Nat → Prop) : Prop where
 size : W.heap.size ≤ W'.heap.size
 keep : ∀ b, b < W.heap.size → ¬ G b → W'.heap[b]? = W.heap[b]?
 back : ∀ b, b < W.heap.size → G' b → G b
theorem Step.refl (W : World) (G : Nat → Prop) : Step W W G G := ⟨nlr _, fun _ _ _ => rfl, fun _ _ h => h⟩
theorem Step.below {W W' : World} (G : Nat → Prop) (h : Below W.heap.size W W') : Step W W' G G := ⟨h.size, fun b hb _ => h.block b hb, fun _ _ h => h⟩
theorem Step.trans {W W' W2 : World} {G G' G2 : Nat → Prop} (h : Step W W' G G') (k : Step W' W2 G' G2) : Step W W2 G G2 :=
 ⟨nlt h.size k.size, fun b hb hg => (k.keep b (ltl hb h.size) fun hg' => hg (h.back b hb hg')).trans (h.keep b hb hg), fun b hb hg => h.back b hb (k.back b (ltl hb h.size) hg)⟩
section
variable {W W' : World} {G G' : Nat → Prop} {L : Nat}
theorem Step.cell (s : Step W W' G G') {a : Addr} (hl : a.block < W.heap.size) (hg : ¬ G a.block) : W'.cell? a = W.cell? a := cob (s.keep _ hl hg)
theorem Step.qis (s : Step W W' G G') {v : QV} {q : Rat} (h : QIs W (fun b => ¬ G b) L v q) : QIs W' (fun b => ¬ G' b) L v q := by
 have h2 : QIs W (fun b => ¬ G b ∧ ¬ G' b) L v q := h.imp fun b hb hx => ⟨hx, fun hg => hx (s.back b hb hg)⟩
 have h3 : QIs W' (fun b => ¬ G b ∧ ¬ G' b) L v q := h2.keep fun a hx hl => s.cell hl hx.1
 exact h3.imp fun b _ hx => hx.2
theorem Step.old (s : Step W W' G G') {d : Nat} (hd : ∀ x, G x → d ≤ x) {v : QV} {q : Rat} (h : QCan W (Old d) v q) : QCan W' (Old d) v q :=
 h.keep fun a hx hl => s.cell hl fun hg => by have := hd _ hg; simp only [Old] at hx; omega
theorem Step.box4 (s : Step W W' G G') {b : Nat} {u0 u1 u2 u3 : Value} (h : Box4 W b u0 u1 u2 u3) (hl : b < W.heap.size) (hg : ¬ G b) : Box4 W' b u0 u1 u2 u3 := h.heap (s.keep b hl hg)
end
structure QS (w : World) (d : Nat) (n : Int) (va vb vc : Value) (al : Nat → List Value) (cnt : Nat → Nat) (G : Nat → Prop) (W : World) : Prop where
 bel : Below w.heap.size w W
 blk : W.heap[d]? = some (.cells #[.int .i64 n, va, vb, vc] 25 (0, 0))
 own : ∀ f, 1 ≤ f → f ≤ 3 → W.ownsRow (d + 1) (qft f) (qfw f) (three va vb vc f) (cnt f) (al f)
 apart : ∀ f g j, f ≠ g → 1 ≤ f → f ≤ 3 → 1 ≤ g → g ≤ 3 → (three va vb vc f).ownBlock = some j → (three va vb vc g).ownBlock ≠ some j
 gin : ∀ x, G x → d ≤ x ∧ x < W.heap.size
 gd : G d
 gf : ∀ f j, 1 ≤ f → f ≤ 3 → (three va vb vc f).ownBlock = some j → G j
 ge : w.heap.size ≤ d
section
variable {w W W' : World} {d : Nat} {n : Int} {va vb vc : Value} {al : Nat → List Value} {cnt : Nat → Nat} {G : Nat → Prop}
theorem QS.dlt (h : QS w d n va vb vc al cnt G W) : d < W.heap.size := zAb h.blk
theorem QS.call (h : QS w d n va vb vc al cnt G W) (hb : Below W.heap.size W W') : QS w d n va vb vc al cnt G W' :=
 ⟨h.bel.trans (hb.mono h.bel.size), (hb.block d h.dlt).trans h.blk,
  fun f h1 h2 => zAA (h.own f h1 h2) fun j hj => by
   obtain ⟨_, cs, hh⟩ := zAe (h.own f h1 h2) hj;exact hb.block j (zAb hh),
  h.apart, fun x hx => ⟨(h.gin x hx).1, ltl (h.gin x hx).2 hb.size⟩, h.gd, h.gf, h.ge⟩
theorem QS.cells (h : QS w d n va vb vc al cnt G W) : W.cell? ⟨d, 0, none⟩ = some (.int .i64 n) ∧ W.cell? ⟨d, 1, none⟩ = some va ∧ W.cell? ⟨d, 2, none⟩ = some vb ∧ W.cell? ⟨d, 3, none⟩ = some vc ∧ ∀ o, W.frozen? ⟨d, o, none⟩ = false := by
 simp [World.cell?, World.frozen?, h.blk]
theorem zBc (a b c v : Value) (f g : Nat) (h1 : 1 ≤ f) (h2 : f ≤ 3) (h3 : 1 ≤ g) (h4 : g ≤ 3) :
  three (if f = 1 then v else a) (if f = 2 then v else b) (if f = 3 then v else c) g = if g = f then v else three a b c g := by
 unfold three;rcases (by omega : f = 1 ∨ f = 2 ∨ f = 3) with rfl | rfl | rfl <;> rcases (by omega : g = 1 ∨ g = 2 ∨ g = 3) with rfl | rfl | rfl <;> simp
theorem QS.app_blk (h : QS w d n va vb vc al cnt G W) {f : Nat} (h1 : 1 ≤ f) (h2 : f ≤ 3) {o : Obj} {W2 : World} (hg : (W.alloc o).grownBy W2 (three va vb vc f).ownBlock) {x : Nat} (hx : x < W.heap.size) (hgx : ¬ G x ∨ x = d) : W2.heap[x]? = W.heap[x]? :=
 (hg.block x (by simp; omega) (fun e => by
  rcases hgx with hgx | rfl
  ·exact hgx (h.gf f x h1 h2 e.symm)
  ·have := (zAe (h.own f h1 h2) e.symm).1; omega)).trans (Below.heap_alloc _ _ _ hx)
theorem QS.append (h : QS w d n va vb vc al cnt G W) {f : Nat} (h1 : 1 ≤ f) (h2 : f ≤ 3) {xs : List Value} {v' : Value} {o : Obj} {W2 : World}
  (hown : W2.ownsRow (d + 1) (qft f) (qfw f) v' (cnt f + 1) (al f ++ xs)) (hg : (W.alloc o).grownBy W2 (three va vb vc f).ownBlock)
  (hat : v'.ownBlock = (three va vb vc f).ownBlock ∨ v'.ownBlock = some (W.alloc o).heap.size) :
  QS w d n (if f = 1 then v' else va) (if f = 2 then v' else vb) (if f = 3 then v' else vc) (fun g => if g = f then al f ++ xs else al g) (fun g => if g = f then cnt f + 1 else cnt g) (fun y => G y ∨ v'.ownBlock = some y) (W2.setCell ⟨d, f, none⟩ v') ∧
  Step W (W2.setCell ⟨d, f, none⟩ v') G (fun y => G y ∨ v'.ownBlock = some y) := by
 have hsz : W.heap.size < W2.heap.size := by have := hg.size; simp at this; omega
 have hnd : ∀ g j, 1 ≤ g → g ≤ 3 → (three va vb vc g).ownBlock = some j → j ≠ d := fun g j g1 g2 hj e => by
  have := (zAe (h.own g g1 g2) hj).1; omega
 have keep : ∀ k, k < W.heap.size → (three va vb vc f).ownBlock ≠ some k → W2.heap[k]? = W.heap[k]? := fun k hk hne =>
  (hg.block k (by simp; omega) (fun e => hne e.symm)).trans (Below.heap_alloc _ _ _ hk)
 have hblk2 : W2.heap[d]? = _ := (keep d h.dlt (fun e => hnd f d h1 h2 e rfl)).trans h.blk;have kset : ∀ k, k ≠ d → (W2.setCell ⟨d, f, none⟩ v').heap[k]? = W2.heap[k]? := fun k hk => bhs _ _ _ _ hk
 have hvd : ∀ j, v'.ownBlock = some j → j ≠ d ∧ j < W2.heap.size ∧ d < j := fun j hj => by
  obtain ⟨g1, cs, hh⟩ := zAe hown hj;exact ⟨by omega, zAb hh, by omega⟩
 refine ⟨⟨?_, ?_, ?_, ?_, ?_, .inl h.gd, ?_, h.ge⟩, ⟨by simp [World.setCell]; omega, fun b hb hgb => ?_, fun b hb hgb => ?_⟩⟩
 ·have h3 : Below w.heap.size (W.alloc o) W2 := (brf _ _).grown hg (by have := h.bel.size; simp; omega) (fun j hj => by have := (zAe (h.own f h1 h2) hj).1; have := h.ge; omega);exact ((h.bel.alloc h.bel.size _).trans h3).setCell (p := ⟨d, f, none⟩) h.ge _
 ·rw [zAd _ hblk2];rcases (by omega : f = 1 ∨ f = 2 ∨ f = 3) with rfl | rfl | rfl <;> simp
 ·intro g g1 g2;rw [zBc va vb vc v' f g h1 h2 g1 g2];by_cases e : g = f
  ·subst e;simp only [if_true];exact zAA hown fun j hj => kset j (hvd j hj).1
  ·simp only [if_neg e];(refine zAA (h.own g g1 g2) fun j hj => ?_);obtain ⟨_, cs, hh⟩ := zAe (h.own g g1 g2) hj;exact (kset j (hnd g j g1 g2 hj)).trans (keep j (zAb hh) (h.apart g f j e g1 g2 h1 h2 hj))
 ·intro g k j hgk g1 g2 k1 k2;rw [zBc va vb vc v' f g h1 h2 g1 g2, zBc va vb vc v' f k h1 h2 k1 k2]
  have old : ∀ g j, 1 ≤ g → g ≤ 3 → (three va vb vc g).ownBlock = some j → j < W.heap.size := fun g j g1 g2 hj => by
   obtain ⟨_, cs, hh⟩ := zAe (h.own g g1 g2) hj;exact zAb hh
  by_cases eg : g = f
  ·by_cases ek : k = f
   ·omega
   ·rw [if_pos eg, if_neg ek];intro hj hk;rcases hat with e | e
    ·rw [e] at hj; exact h.apart f k j (by omega) h1 h2 k1 k2 hj hk
    ·rw [e] at hj; cases hj
     have := old k _ k1 k2 hk; simp at this; omega
  ·rw [if_neg eg];by_cases ek : k = f
   ·rw [if_pos ek];intro hj hk;rcases hat with e | e
    ·rw [e] at hk; exact h.apart g f j (by omega) g1 g2 h1 h2 hj hk
    ·rw [e] at hk; cases hk
     have := old g _ g1 g2 hj; simp at this; omega
   ·rw [if_neg ek]; exact h.apart g k j hgk g1 g2 k1 k2
 ·intro x hx;rcases hx with hx | hx
  ·have := h.gin x hx; exact ⟨this.1, by simp [World.setCell]; omega⟩
  ·have := hvd x hx; exact ⟨by omega, by simp [World.setCell]; omega⟩
 ·intro g j g1 g2;rw [zBc va vb vc v' f g h1 h2 g1 g2]
  split
  ·intro hj; exact .inr hj
  ·intro hj; exact .inl (h.gf g j g1 g2 hj)
 ·exact (kset b (fun e => hgb (by rw [e]; exact h.gd))).trans (keep b hb fun e => hgb (h.gf f b h1 h2 e))
 ·rcases hgb with hgb | hgb
  ·exact hgb
  ·rcases hat with e | e
   ·rw [e] at hgb; exact h.gf f b h1 h2 hgb
   ·rw [e] at hgb; cases hgb; simp at hb; omega
end
def pick3 {α : Type} (z a b c : α) (f : Nat) : α := if f = 1 then a else if f = 2 then b else if f = 3 then c else z
theorem QIs.sizes {w : World} {X : Nat → Prop} {L : Nat} {v : QV} {q : Rat} (h : QIs w X L v q) : v.num.n ≤ L ∧ v.den.n ≤ L := by
 obtain ⟨x, y, ⟨lx, hx, k1, ex⟩, ⟨ly, hy, k2, ey⟩, e⟩ := h;exact ⟨k1, k2⟩
structure ScB (w : World) (p : LPV) (jv kv : QV) (jq kq : Rat) (d : Nat) (W : World) : Prop where
 bP : LPBox W w.heap.size p
 bJ : Box4 W (w.heap.size + 1) (.bool jv.num.ng) (.slice jv.num.A jv.num.n jv.num.c) (.bool jv.den.ng) (.slice jv.den.A jv.den.n jv.den.c)
 bK : Box4 W (w.heap.size + 1 + 1) (.bool kv.num.ng) (.slice kv.num.A kv.num.n kv.num.c) (.bool kv.den.ng) (.slice kv.den.A kv.den.n kv.den.c)
 hj : QCan W (Old d) jv jq
 hk : QCan W (Old d) kv kq
 dl : w.heap.size + 1 + 1 < d
theorem zIB : Lin.Fits 1 ((1 : Int) : Rat) := Lin.Fits.ofInt (by decide)
structure Put (W W' : World) (b : Nat) : Prop where
 size : W'.heap.size = W.heap.size
 keep : ∀ c, c ≠ b → W'.heap[c]? = W.heap[c]?
 below : ∀ B, B ≤ b → Below B W W'
theorem Put.one {W : World} (b o : Nat) (x : Value) : Put W (W.setCell ⟨b, o, none⟩ x) b :=
 ⟨by simp [World.setCell], fun c hc => bhs _ _ _ _ hc, fun B hB => (brf _ _).setCell (p := ⟨b, o, none⟩) hB _⟩
theorem Put.trans {W W' W2 : World} {b : Nat} (h : Put W W' b) (k : Put W' W2 b) : Put W W2 b :=
 ⟨k.size.trans h.size, fun c hc => (k.keep c hc).trans (h.keep c hc), fun B hB => (h.below B hB).trans (k.below B hB)⟩
theorem Put.four {W : World} (b : Nat) (x0 x1 x2 x3 : Value) : Put W ((((W.setCell ⟨b, 0, none⟩ x0).setCell ⟨b, 1, none⟩ x1).setCell ⟨b, 2, none⟩ x2).setCell ⟨b, 3, none⟩ x3) b :=
 (((Put.one _ _ _).trans (Put.one _ _ _)).trans (Put.one _ _ _)).trans (Put.one _ _ _)
theorem Put.qcan {W W' : World} {b B : Nat} (h : Put W W' b) (hb : b < B) {v : QV} {q : Rat} (hq : QCan W (New B) v q) : QCan W' (New B) v q :=
 hq.keep fun a ha _ => cob (h.keep _ (by simp only [New] at ha; omega))
theorem zHn {w : World} {p : LPV} {os rs : List (List Rat)} {bs : List Rat} (h : Short6 w AllB AllB p os rs bs) (h2 : mayB p os rs = true → p.n ≤ 4 ∧ p.R.n ≤ 4) (hm : mayB p os rs = true) :
  0 ≤ p.n ∧ p.n ≤ 4 ∧ 1 ≤ p.O.n ∧ p.O.n ≤ 4 ∧ p.R.n ≤ 4 ∧ p.B.n = p.R.n ∧ (colsOf os : Int) ≤ p.n ∧ (colsOf rs : Int) ≤ p.n ∧ LPIs w AllB AllB 6 p os rs bs := by
 obtain ⟨a1, a2⟩ := h2 hm;simp only [mayB, decide_eq_true_eq] at hm;obtain ⟨b1, b2, b3, b4, b5, b6, b7, b8⟩ := hm;exact ⟨b1, a1, b3, b4, a2, b6, b7, b8, h.1, h.2.1 (by omega), h.2.2 (by omega)⟩
theorem zB7 {k L : Nat} {q : Rat} (h : Lin.Fits k q) (hk : k < 32 * L) : QFit L q := by
 have e : Num.base ^ L = 2 ^ (32 * L) := by rw [Nat.pow_mul]; rfl
 have h2 : 2 ^ k < 2 ^ (32 * L) := Nat.pow_lt_pow_right (by omega) hk;exact ⟨by rw [e]; exact Nat.lt_of_le_of_lt h.1 h2, by rw [e]; exact Nat.lt_of_le_of_lt h.2 h2⟩
theorem zGI {α β : Type} {R : α → β → Prop} {a : List α} {b : List β} {x y : α} {l z : β} (hl : a.length = b.length) (h : ∀ m, m < b.length → R (a.getD m y) (b.getD m z)) (hx : R x l) : ∀ m, m < (b ++ [l]).length → R ((a ++ [x]).getD m y) ((b ++ [l]).getD m z) := by
 intro m hm;rw [List.length_append] at hm;simp only [List.length_cons, List.length_nil, Nat.zero_add] at hm;rw [zCJ, zCJ, hl];by_cases h1 : m < b.length
 ·rw [if_pos h1, if_pos h1]; exact h m h1
 ·rw [if_neg h1, if_neg h1, if_pos (by omega), if_pos (by omega)]; exact hx
def cells4q (v : QV) : List Value := [.bool v.num.ng, .slice v.num.A v.num.n v.num.c, .bool v.den.ng, .slice v.den.A v.den.n v.den.c]
theorem ScB.step {w W W' : World} {p : LPV} {jv kv : QV} {jq kq : Rat} {d : Nat} {G G' : Nat → Prop} (h : ScB w p jv kv jq kq d W) (hG : ∀ x, G x → d ≤ x) (hd : d ≤ W.heap.size) (st : Step W W' G G') : ScB w p jv kv jq kq d W' :=
 have dl := h.dl
 ⟨st.box4 h.bP (by omega) (fun hg => by have := hG _ hg; omega), st.box4 h.bJ (by omega) (fun hg => by have := hG _ hg; omega), st.box4 h.bK (by omega) (fun hg => by have := hG _ hg; omega), st.old hG h.hj, st.old hG h.hk, h.dl⟩
section
variable {w W W1 W2 : World} {p : LPV} {jv kv : QV} {jq kq : Rat} {d : Nat} {os rs : List (List Rat)} {bs : List Rat} {va vb vc v' : Value} {G : Nat → Prop} {s1 s2 : List SV} {s3 : List QV} {o : Obj}
end
theorem zDB (qs : List QV) (k o : Nat) (hk : k < qs.length) (ho : o < 4) (z : QV) : (qs.flatMap cells4q)[k * 4 + o]? = (cells4q (qs.getD k z))[o]? := by
 induction qs generalizing k with
 | nil => simp at hk
 | cons q qs ih =>
  rw [List.flatMap_cons]
  cases k with
  | zero => rw [List.getElem?_append_left (by simp [cells4q]; omega)]; simp
  | succ k =>
   rw [List.getElem?_append_right (by simp [cells4q]; omega)];have : (k + 1) * 4 + o - (cells4q q).length = k * 4 + o := by simp [cells4q]; omega
   rw [this, ih k (by simpa using hk)];simp
open Go.RowKit Go.Shelf Lin
theorem zCR {w : World} {X Y : Nat → Prop} {L V : Nat} {p : LPV} {os rs : List (List Rat)} {bs : List Rat} (h : LPIs w X Y L p os rs bs) : (probOf V os rs bs).start.Fits (probOf V os rs bs) (32 * (L + 1)) := by
 refine ⟨fun i j hi hj => ?_, fun l j hl hj => ?_⟩
 ·show Lin.Fits _ (if j < V then (rs.getD i []).getD j 0 else bs.getD i 0)
  split
  ·exact zA7 (h.rows.fit i j)
  ·exact zA7 (h.bounds.fit i)
 ·show Lin.Fits _ (if j < V then - (os.getD l []).getD j 0 else 0)
  split
  ·exact (zA7 (h.obj.fit l j)).neg
  ·exact Lin.Fits.zero _
theorem zG3 {P : Prob} {D : Dict} {k : Nat} (h : D.Fits P k) (v : Nat) : Lin.Fits k (D.point P v) := by
 unfold Dict.point
 split
 ·rename_i hf; exact h.1 _ _ hf (nlr _)
 ·exact Lin.Fits.zero _
theorem zIG {w w' : World} {P : Prob} {r : RV} {k : Nat} (h : Solved w P r w') (hk : r.kind = 1) (h1 : 1 ≤ k) (h0 : P.start.Fits P k) {l : List Rat} (hl : l.length = P.n) (ho : P.Optimal fun k => l.getD k 0) (v : Nat) : Lin.Fits (5 ^ P.n * k) (l.getD v 0) := by
 rcases h with ⟨_, D, l', hg, hf, hc, hl', hopt, hx, _⟩ | ⟨hk', _⟩ | ⟨hk', _⟩
 ·by_cases hv : v < P.n
  ·have e := ho.unique (zEs hg hf hc) hv;rw [e];exact zG3 (hg.fits h1 h0) v
  ·rw [zAP _ _ _ (by omega)]; exact Lin.Fits.zero _
 ·rw [hk] at hk'; cases hk'
 ·rw [hk] at hk'; cases hk'
theorem zAI {rs : List (List Rat)} {V : Nat} (h : colsOf rs ≤ V) (c : Nat) : (rs.getD c []).length ≤ V := by
 by_cases hi : c < rs.length
 ·exact zAN.1 h _ (by simp [hi])
 ·rw [zAP rs _ _ (by omega)]; simp
attribute [local go_sem] Oper.semAt_some
theorem zCm {q : Rat} : qsign q = 0 ↔ q = 0 := by
 unfold qsign; grind
abbrev QBlk (W : World) (b : Nat) (v : QV) : Prop := W.heap[b]? = some (.cells #[.bool v.num.ng, .slice v.num.A v.num.n v.num.c, .bool v.den.ng, .slice v.den.A v.den.n v.den.c] 30 (0, 0))
theorem zBw {W : World} {b : Nat} {v : QV} (h : QBlk W b v) : Box4 W b (.bool v.num.ng) (.slice v.num.A v.num.n v.num.c) (.bool v.den.ng) (.slice v.den.A v.den.n v.den.c) := by
 refine ⟨?_, ?_, ?_, ?_, fun o => ?_⟩ <;> simp [World.cell?, World.frozen?, h]
theorem zGG {W : World} {b : Nat} {v t : QV} (h : QBlk W b v) : QBlk ((((W.setCell ⟨b, 0, none⟩ (.bool t.num.ng)).setCell ⟨b, 1, none⟩ (.slice t.num.A t.num.n t.num.c)).setCell ⟨b, 2, none⟩ (.bool t.den.ng)).setCell ⟨b, 3, none⟩ (.slice t.den.A t.den.n t.den.c)) b t := by
 unfold QBlk;rw [zAd _ (zAd _ (zAd _ (zAd _ h)))];simp
def DotPost (w : World) (S : Nat) (Z : Nat → Prop) (t : Rat) (e : Ending) (w' : World) : Prop :=
 e = .returned (.tuple #[]) ∧ ∃ s2 : QV, QBlk w' S s2 ∧ QCan w' (fun b => Z b ∨ w.heap.size ≤ b) s2 t ∧ Fr (fun b => b = S) w w'
set_option maxRecDepth 20000 in
theorem zGU {w : World} {X Y Z : Nat → Prop} {L M K S : Nat} {x y s : QV} {p q r : Rat} (hx : QIs w X L x p) (hy : QIs w Y M y q) (hs : QCan w Z s r) (hS0 : QBlk w S s) (hL : L ≤ LM) (hM : M ≤ LM) (hK : K ≤ LM) (hr : QFit K r) (hp : QFit K (p * q)) :
  Calls Tryz.prog 82 #[x.val, y.val, .pointer (some ⟨S, 0, none⟩)] w fun e w' => DotPost w S Z (r + p * q) e w' := by
 have HX := hdq hx;have HY := hdq hy;have HS := hdq hs;have hSl := zAb hS0;have hS := zBw hS0;have HB := hdq hS0;clear hS0;have HL := hdq hL;have HM := hdq hM;have HK := hdq hK;have HR := hdq hr;have HP := hdq hp;clear hx hy hs hL hM hK hr hp;go_enter Tryz.func82, Tryz.ntmps82
 go_upto_region 1 with fail
 refine zAi (fun W => Below w.heap.size w W ∧ Box4 W w.heap.size (.bool x.num.ng) (.slice x.num.A x.num.n x.num.c) (.bool x.den.ng) (.slice x.den.A x.den.n x.den.c) ∧ Box4 W (w.heap.size + 1) (.bool y.num.ng) (.slice y.num.A y.num.n y.num.c) (.bool y.den.ng) (.slice y.den.A y.den.n y.den.c) ∧ w.heap.size < W.heap.size ∧ w.heap.size + 1 < W.heap.size) ⟨(((brf _ _).alloc (by simp <;> omega) _).alloc (by simp <;> omega) _), ⟨by go_simp, by go_simp, by go_simp, by go_simp, by intro o; go_simp⟩, ⟨by go_simp, by go_simp, by go_simp, by go_simp, by intro o; go_simp⟩, by simp <;> omega, by simp <;> omega⟩ ?_;rintro W ⟨hbW, bX, bY, s0, s1⟩;have hBW := hbW.size;obtain ⟨x0, x1, x2, x3, -⟩ := id bX;obtain ⟨y0, y1, y2, y3, -⟩ := id bY;go_wp2_with fail
 refine (zAn (v := x) (HX.out.below hbW)).mono ?_;rintro e w1 ⟨rfl, hb1⟩;have bS := hS.below hbW hSl;have sS := ltl hSl hbW.size;clear hS hBW;replace bX := bX.below hb1 s0;replace bY := bY.below hb1 s1;replace bS := bS.below hb1 sS;replace s0 := ltl s0 hb1.size;replace s1 := ltl s1 hb1.size;replace sS := ltl sS hb1.size;replace hbW := hbW.trans (hb1.mono hbW.size);clear x0 x1 x2 x3 y0 y1 y2 y3;obtain ⟨x0, x1, x2, x3, -⟩ := id bX;obtain ⟨y0, y1, y2, y3, -⟩ := id bY;by_cases hp0 : p = 0
 ·have e0 : qsign p = 0 := zCm.2 hp0;have Hz : Hid (p * q = 0) := by show p * q = 0; rw [hp0, Rat.zero_mul]
  rw [e0];clear e0 hp0;go_wp2;go_end0;refine ⟨rfl, s, (hbW.block _ hSl).trans HB.out, ?_, Fr.of_below hbW⟩;rw [Hz.out, Rat.add_zero];exact (HS.out.below hbW).imp fun b _ hb => .inl hb
 ·have e0 : ¬ (qsign p = 0) := fun h => hp0 (zCm.1 h)
  have e1 : (qsign p != 0) = true := by simpa using e0
  clear hp0 e0;go_wp2_with fail
  refine (zAn (v := y) (HY.out.below hbW)).mono ?_;rintro e w2 ⟨rfl, hb2⟩;replace bX := bX.below hb2 s0;replace bY := bY.below hb2 s1;replace bS := bS.below hb2 sS;replace s0 := ltl s0 hb2.size;replace s1 := ltl s1 hb2.size;replace sS := ltl sS hb2.size;replace hbW := hbW.trans (hb2.mono hbW.size);clear x0 x1 x2 x3 y0 y1 y2 y3;obtain ⟨x0, x1, x2, x3, -⟩ := id bX;obtain ⟨y0, y1, y2, y3, -⟩ := id bY;by_cases hq0 : q = 0
  ·have e2 : qsign q = 0 := zCm.2 hq0;have Hz : Hid (p * q = 0) := by show p * q = 0; rw [hq0, Rat.mul_zero]
   rw [e2];clear e2 hq0;go_wp2;go_end0;refine ⟨rfl, s, (hbW.block _ hSl).trans HB.out, ?_, Fr.of_below hbW⟩;rw [Hz.out, Rat.add_zero];exact (HS.out.below hbW).imp fun b _ hb => .inl hb
  ·have e2 : ¬ (qsign q = 0) := (fun h => hq0 (zCm.1 h));have e3 : (qsign q != 0) = true := (by simpa using e2);clear hq0 e2;obtain ⟨z0, z1, z2, z3, -⟩ := id bS;(go_upto_region 2 with fail);refine zAo 5 (fun f w' => f = false → Sees w.heap.size [] w2 w') (by kernel_rfl) ?_;have hS0 : Sees w.heap.size [] w2 w2.drew := Sees.st (by simp) hbW.size;refine tkW 0 (s.val) (fun w' hSw => ?_) (fun _ => hS0) ?_
   ·(replace hSw := hSw rfl; go_simp; try with_reducible rfl)
   simp only [zz];refine tkW 1 (x.val) (fun w' hSw => ?_) (fun _ => hS0) ?_
   ·(replace hSw := hSw rfl; go_simp; try with_reducible rfl)
   simp only [zz];refine tkW 2 (y.val) (fun w' hSw => ?_) (fun _ => hS0) ?_
   ·(replace hSw := hSw rfl; go_simp; try with_reducible rfl)
   simp only [zz];refine oneW (i := 3) (by kernel_rfl) rfl (by rfl) ?_;intro K hK;go_simp;(with_reducible refine (zBP (a := x) (b := y) (HX.out.below hbW.drew) (HY.out.below hbW.drew) HL.out HM.out).mono ?_);rintro e v1 ⟨⟨u, rfl, hu⟩, hc1⟩;have hS1 := Kept.call2 hc1 hS0;refine hK.out _ _ (fun _ => hS1) ?_;clear hK K hS0;refine oneW (i := 4) (by kernel_rfl) rfl (by rfl) ?_;intro K hK;go_simp;(with_reducible refine (zEw (a := s) (b := u) ((HS.out.below (hbW.trans (hS1.kept.whole.mono hbW.size))).qis HR.out) (hu.qis HP.out) HK.out HK.out).mono ?_);rintro e v2 ⟨⟨t, rfl, ht⟩, hc2⟩;have hS2 := Kept.call2 hc2 hS1;refine hK.out _ _ (fun _ => hS2) ?_;have hb2' := hS2.kept.whole;have bS2 := bS.below hb2' sS;have ht2 := ht.lower hS1.kept.size;clear hK K hS1 hu ht hc1 hc2;clear z0 z1 z2 z3;obtain ⟨z0, z1, z2, z3, z4⟩ := id bS2;refine oneW (i := 5) (by kernel_rfl) rfl (by rfl) ?_;intro K hK;go_simp;refine hK.out _ _ (fun h => absurd h (by decide)) ?_;clear hK K;have P8 := Put.four (W := v2) S (.bool t.num.ng) (.slice t.num.A t.num.n t.num.c) (.bool t.den.ng) (.slice t.den.A t.den.n t.den.c);have bS8 := zGG (t := t) ((hb2'.block _ sS).trans ((hbW.block _ hSl).trans HB.out));have F8 : Fr (fun b => b = S) v2 _ := ((((Fr.refl (fun b => b = S) v2).set (p := ⟨S, 0, none⟩) rfl (.bool t.num.ng)).set (p := ⟨S, 1, none⟩) rfl (.slice t.num.A t.num.n t.num.c)).set (p := ⟨S, 2, none⟩) rfl (.bool t.den.ng)).set (p := ⟨S, 3, none⟩) rfl (.slice t.den.A t.den.n t.den.c);generalize (((v2.setCell ⟨S, 0, none⟩ (.bool t.num.ng)).setCell ⟨S, 1, none⟩ (.slice t.num.A t.num.n t.num.c)).setCell ⟨S, 2, none⟩ (.bool t.den.ng)).setCell ⟨S, 3, none⟩ (.slice t.den.A t.den.n t.den.c) = y8 at *;have ht8 := P8.qcan (B := w2.heap.size) sS ht2;have hF : Fr (fun b => b = S) w y8 := (Fr.of_below (hbW.trans (hb2'.mono hbW.size))).trans F8;clear z0 z1 z2 z3 z4 P8 F8 ht2 bS2 hS2;refine zAf (by kernel_rfl) ?_ _;go_wp2;go_end0;exact ⟨rfl, t, bS8, ht8.imp fun b _ hb => .inr (nlt hbW.size hb), hF⟩
def lsum (f : Nat → Rat) (l : List Nat) : Rat := l.foldl (fun s i => s + f i) 0
theorem zDV (f : Nat → Rat) (l : List Nat) (x : Nat) : lsum f (l ++ [x]) = lsum f l + f x := by simp [lsum, List.foldl_append]
theorem zC5 (f : Nat → Rat) : ∀ n, lsum f (List.range n) = Lin.sum n f
 | 0 => rfl
 | n + 1 => by rw [List.range_succ, zDV, zC5 f n]; rfl
theorem zFr {f : Nat → Rat} {k : Nat} (h : ∀ i, Lin.Fits k (f i)) : ∀ l : List Nat, Lin.Fits (l.length * (k + 1)) (lsum f l) := by
 intro l;obtain ⟨r, rfl⟩ : ∃ r : List Nat, r.reverse = l := ⟨l.reverse, List.reverse_reverse l⟩
 induction r with
 | nil => exact Lin.Fits.zero _
 | cons x r ih =>
  rw [List.reverse_cons, zDV];refine (ih.add (h x)).mono ?_;simp only [List.length_append, List.length_reverse, List.length_cons, List.length_nil];have : (r.length + (0 + 1)) * (k + 1) = r.length * (k + 1) + (k + 1) := by rw [Nat.add_mul]; omega
  omega
theorem VecAt.take {w : World} {X : Nat → Prop} {R : QV → Rat → Prop} {A : Option Addr} {m c : Nat} {l : List Rat} (h : VecAt w X R ⟨A, m, c⟩ l) {n : Nat} (hn : n ≤ m) : VecAt w X R ⟨A, n, c⟩ (l.take n) := by
 have h1 : l.length = m := h.len;have h2 : m ≤ c := h.le;refine ⟨by rw [List.length_take, h1]; show min n m = n; omega, nlt hn h2, h.cap, fun k hk => ?_⟩;obtain ⟨ad, v, e, hx, hc, hr⟩ := h.elem k (ltl hk hn);refine ⟨ad, v, e, hx, hc, ?_⟩;have hk' : k < n := hk
 rwa [show (l.take n).getD k 0 = l.getD k 0 by simp [List.getElem?_take_of_lt hk']]
theorem zIc (W : World) (X : Nat → Prop) : QCan W X QV.zero 0 := ⟨⟨rfl, by rw [show Num.words (0 : Rat).num.natAbs = [] by simp [Num.words]]; exact WordsAt.nil _ _ _ _ (nzl _)⟩, ⟨rfl, by rw [show Num.words (cden 0).natAbs = [] by simp [Num.words, cden]]; exact WordsAt.nil _ _ _ _ (nzl _)⟩⟩
theorem alk {w : World} {b : Nat} {x o : Obj} (h : w.heap[b]? = some x) : (w.alloc o).heap[b]? = some x := (Below.heap_alloc _ _ _ (zAb h)).trans h
theorem drk {w : World} {b : Nat} {x : Obj} (h : w.heap[b]? = some x) : w.drew.heap[b]? = some x := h
def DotInv (w : World) (f : Nat → Rat) (pre : List Nat) (W : World) : Prop :=
 (∃ s : QV, QBlk W (w.heap.size + 1) s ∧ QCan W (fun b => w.heap.size + 1 < b) s (lsum f pre)) ∧ QBlk W w.heap.size QV.zero ∧
 Boxed W (w.heap.size + 1 + 1) 109 (.func (.func 82) #[] #[.pointer (some ⟨w.heap.size + 1, 0, none⟩)]) ∧ Carry (fun y => y ≠ w.heap.size + 1) w W
theorem DotInv.own {w : World} {f : Nat → Rat} : Own (DotInv w f) := fun _ _ _ _ hs hg hr => by
 obtain ⟨⟨s, h1, h2⟩, h3, h4, h5⟩ := hs;exact ⟨⟨s, zAj hg hr h1, h2.carry (Carry.grown hg hr)⟩, zAj hg hr h3, zAj hg hr h4, h5.trans (Carry.grown hg hr)⟩
set_option maxRecDepth 100000 in
theorem zHD {w : World} {X Y X' Y' : Nat → Prop} {L M kb : Nat} {sa sb : SV} {la lb : List Rat} (ha : VecIs w X Y L sa la) (hb : VecIs w X' Y' M sb lb) (hL : L ≤ LM) (hM : M ≤ LM) (hna : sa.n ≤ 1000000) (hkb : 1000000 * (kb + 1) < 32 * LM) (hf : ∀ i, Lin.Fits kb (la.getD i 0 * lb.getD i 0)) :
  Calls Tryz.prog 30 #[sa.val, sb.val] w fun e w' => QRet w (Lin.sum (min sa.n sb.n) fun i => la.getD i 0 * lb.getD i 0) e w' ∧ Below w.heap.size w w' := by
 refine (callsIn_wide (n := 6)).1 ?_;obtain ⟨A, la', ca⟩ := sa;obtain ⟨B, lb', cb⟩ := sb;obtain ⟨N, hN⟩ : ∃ N, N = min la' lb' := ⟨_, rfl⟩;have hNa : N ≤ la' := by omega
 have hNb : N ≤ lb' := by omega
 have cpa : la' ≤ ca := ha.le;have cpb : lb' ≤ cb := hb.le;have cpa2 : ca ≤ 9223372036854775807 := ha.cap;have cpb2 : cb ≤ 9223372036854775807 := hb.cap;have hmin : min (la' : Int) (lb' : Int) = (N : Int) := by omega
 have HL := hdq hL;have HM := hdq hM;have h0a : QIs w (fun _ => True) L QV.zero 0 := ⟨0, 0, ⟨[], WordsAt.nil _ _ _ _ (nzl _), nzl _, rfl⟩, ⟨[], WordsAt.nil _ _ _ _ (nzl _), nzl _, rfl⟩, by simp [qv]⟩;have h0b : QIs w (fun _ => True) M QV.zero 0 := ⟨0, 0, ⟨[], WordsAt.nil _ _ _ _ (nzl _), nzl _, rfl⟩, ⟨[], WordsAt.nil _ _ _ _ (nzl _), nzl _, rfl⟩, by simp [qv]⟩;obtain ⟨va, hva, hqa⟩ := ((ha.take hNa).imp (X' := fun y => y < w.heap.size) (R' := QIs w (fun _ => True) L) (fun b hb _ => hb) (fun _ _ h => h.any)).elems h0a;obtain ⟨vb, hvb, hqb⟩ := ((hb.take hNb).imp (X' := fun y => y < w.heap.size) (R' := QIs w (fun _ => True) M) (fun b hb _ => hb) (fun _ _ h => h.any)).elems h0b;have HA := hdq hva;have HB := hdq hvb;have HQA : Hid (∀ i, QIs w (fun y => y < w.heap.size) L (va i) ((la.take N).getD i 0)) := fun i => (hqa i).imp fun b hb _ => hb
 have HQB : Hid (∀ i, QIs w (fun y => y < w.heap.size) M (vb i) ((lb.take N).getD i 0)) := fun i => (hqb i).imp fun b hb _ => hb
 obtain ⟨f, hfd⟩ : ∃ f : Nat → Rat, f = fun i => (la.take N).getD i 0 * (lb.take N).getD i 0 := ⟨_, rfl⟩
 have HF : Hid (∀ i, Lin.Fits kb (f i)) := fun i => by
  rw [hfd];by_cases hi : i < N
  ·simpa [gdd, List.getElem?_take_of_lt hi] using hf i
  ·have : (la.take N).getD i 0 = 0 := zAP _ _ _ (by rw [List.length_take]; omega);dsimp only;rw [this, Rat.zero_mul]; exact Lin.Fits.zero _
 have HE : Hid (Lin.sum N f = Lin.sum N fun i => la.getD i 0 * lb.getD i 0) := by
  rw [hfd];exact Lin.zAy fun i hi => by simp [List.getElem?_take_of_lt hi]
 have HKB := hdq hkb;dsimp only [SV.val] at hna ⊢;rw [← hN];clear ha hb hL hM h0a h0b hva hvb hqa hqb hf hkb hN;have HFD := hdq hfd;clear hfd;refine callsIn_of_wp_marks Tryz.func30 rfl trivial ?_ rfl;simp only [Tryz.ntmps30, List.size_toArray, List.length_cons, List.length_nil, Nat.reduceAdd, Nat.reduceSub, Array.replicate_succ, Array.replicate_zero, List.push_toArray, List.append_toArray, List.nil_append, List.cons_append];gi_wp2;refine zEb 1000 (fun _ _ => True) (by kernel_rfl) ?_;refine tkX 0 (trivial) ?_;simp only [zz];refine tkX 1 (trivial) ?_;simp only [zz];refine takeA (i := 2) (.slice A N ca) rfl rfl (by kernel_rfl) (by kernel_rfl) (by kernel_rfl) (by decide) (fun _ _ _ h => h) (by rfl) (fun w' hSw => ?_) trivial ?_
 ·go_simp;intro h; omega
 simp only [zz];refine tkX 3 (trivial) ?_;simp only [zz];refine tkX 4 (trivial) ?_;simp only [zz];refine takeA (i := 5) (.slice B N cb) rfl rfl (by kernel_rfl) (by kernel_rfl) (by kernel_rfl) (by decide) (fun _ _ _ h => h) (by rfl) (fun w' hSw => ?_) trivial ?_
 ·go_simp;intro h; omega
 simp only [zz];obtain ⟨W1, hW1⟩ : ∃ W1, (((w.alloc (.cells #[.bool false, .slice none 0 0, .bool false, .slice none 0 0] 30)).alloc (.cells #[.bool false, .slice none 0 0, .bool false, .slice none 0 0] 30)).alloc (.cells #[.func (.func 82) #[] #[.pointer (some ⟨w.heap.size + 1, 0, none⟩)]] 109)).drew = W1 := ⟨_, rfl⟩;rw [hW1];have hz1 : W1.heap.size = w.heap.size + 1 + 1 + 1 := by rw [← hW1]; simp [World.drew]
 have HW1 := hdq hW1;clear hW1;refine oneW (i := 6) (by kernel_rfl) rfl (by rfl) ?_;intro K hK;go_simp;refine ((callsIn_wide (n := 6)).1 (zD3 A B N ca N cb)).mono ?_;rintro e w2 ⟨rfl, rfl⟩;refine hK.out _ _ trivial ?_;clear hK K;refine zAf (by kernel_rfl) (NoPanic.normal ?_) _;rw [hz1];gi_wp2;obtain ⟨W0, hW0⟩ : ∃ W0, ((W1.alloc (.cells #[.slice A N ca] 23)).alloc (.cells #[.slice B N cb] 23)) = W0 := ⟨_, rfl⟩;rw [hW0];have y0 : QBlk W1 w.heap.size QV.zero := by rw [← HW1.out]; exact drk (alk (alk (zAc _ _ rfl)))
 have y1 : QBlk W1 (w.heap.size + 1) QV.zero := by rw [← HW1.out]; exact drk (alk (zAc _ _ (by simp)))
 have y2 : Boxed W1 (w.heap.size + 1 + 1) 109 (.func (.func 82) #[] #[.pointer (some ⟨w.heap.size + 1, 0, none⟩)]) := by rw [← HW1.out]; exact drk (zAc _ _ (by simp))
 have yb : Below w.heap.size w W1 := by rw [← HW1.out]; exact ((((brf _ w).alloc (nlr _) _).alloc (by simp) _).alloc (by simp; omega) _).drew
 have hk0 : Below w.heap.size w W0 := by rw [← hW0]; exact (yb.alloc yb.size _).alloc (by simp; omega) _
 have hs0 : W0.heap.size = w.heap.size + 5 := by rw [← hW0]; simp; omega
 have x0 : QBlk W0 w.heap.size QV.zero := by rw [← hW0]; exact alk (alk y0)
 have x1 : QBlk W0 (w.heap.size + 1) QV.zero := by rw [← hW0]; exact alk (alk y1)
 have x2 : Boxed W0 (w.heap.size + 1 + 1) 109 (.func (.func 82) #[] #[.pointer (some ⟨w.heap.size + 1, 0, none⟩)]) := by rw [← hW0]; exact alk (alk y2)
 have x3 : Boxed W0 (w.heap.size + 1 + 1 + 1) 23 (.slice A N ca) := by rw [← hW0]; exact alk (zAc _ _ hz1.symm)
 have x4 : Boxed W0 (w.heap.size + 1 + 1 + 1 + 1) 23 (.slice B N cb) := by rw [← hW0]; exact zAc _ _ (by simp; omega)
 clear y0 y1 y2 yb HW1 hz1;clear hW0
 refine wpIn_rangeFunc_ownH (F := Fence.wide) rfl (by omega) (gf := 140) (lb := #[.pointer (some ⟨w.heap.size + 1 + 1 + 1, 0, none⟩), .pointer (some ⟨w.heap.size + 1 + 1 + 1 + 1, 0, none⟩)]) rfl trivial (enters_of Tryz.func140 (by kernel_rfl) rfl)
  (zB8 (X := fun y => y ≠ w.heap.size + 1) (sa := ⟨A, N, ca⟩) (sb := ⟨B, N, cb⟩) (va := va) (vb := vb) (N := N) (by omega) x3 x4 (by omega) (by omega)
   ((HA.out.carry (Carry.of_below hk0)).imp fun b hb => by omega) ((HB.out.carry (Carry.of_below hk0)).imp fun b hb => by omega) (by simp) (by omega))
  (fun h k => h.trans k) (fun W l o o' _ hl ho _ => Carry.putObj o' hl ho) (brf _ _) (fun _ => rfl)
  (fun pre W => DotInv w f pre W ∧ Below w.heap.size w W)
  (fun _ _ _ => False)
  (OwnFrom.and (Own.from DotInv.own _) (ownFrom_below (nlr _) (by omega)))
  (fun _ _ _ _ _ hs _ _ => hs)
  ⟨⟨⟨QV.zero, x1, zIc _ _⟩, x0, x2, Carry.of_below hk0⟩, hk0⟩
  (fun x a' W => ∃ g, a' = { tmps := #[.slice A la' ca, .slice B lb' cb, undef, undef, .pointer (some ⟨w.heap.size, 0, none⟩), .pointer (some ⟨w.heap.size + 1, 0, none⟩), .pointer (some ⟨w.heap.size + 1 + 1, 0, none⟩), .int .i64 N, .pointer (some ⟨g, 0, none⟩), .pointer (some ⟨g + 1, 0, none⟩), .func (.func 82) #[] #[.pointer (some ⟨w.heap.size + 1, 0, none⟩)], .slice A la' ca, .int .i64 la', .slice B lb' cb, .int .i64 lb', .int .i64 N, .slice A la' ca, .int .i64 N, .slice A N ca, .slice B lb' cb, .int .i64 N, .slice B N cb, .func (.func 140) #[] #[.pointer (some ⟨w.heap.size + 1 + 1 + 1, 0, none⟩), .pointer (some ⟨w.heap.size + 1 + 1 + 1 + 1, 0, none⟩)], (va x).val, (vb x).val, undef, undef, undef, undef, undef], defers := [] } ∧ QBlk W g (va x) ∧ QBlk W (g + 1) (vb x))
  (fun x a' _ W W' row hs hg hr => ?hAx) ?assign ?body ?done ?stop
 case hAx =>
  obtain ⟨g, e, g1, g2⟩ := hs;exact ⟨g, e, zAj hg (fun r e => (hr r e).2) g1, zAj hg (fun r e => (hr r e).2) g2⟩
 case stop =>
  rintro D c pre W _ _ h _;exact h.elim
 case assign =>
  intro l pre x W K hI hK;gi_wp2;have al : Below W.heap.size W ((W.alloc (.cells #[.bool (va x).num.ng, .slice (va x).num.A (va x).num.n (va x).num.c, .bool (va x).den.ng, .slice (va x).den.A (va x).den.n (va x).den.c] 30)).alloc (.cells #[.bool (vb x).num.ng, .slice (vb x).num.A (vb x).num.n (vb x).num.c, .bool (vb x).den.ng, .slice (vb x).den.A (vb x).den.n (vb x).den.c] 30)) := ((brf _ _).alloc (nlr _) _).alloc (by simp) _;obtain ⟨⟨⟨s, i1, i2⟩, i3, i4, i5⟩, hB⟩ := hI;exact hK _ _ ⟨al.size, fun k o _ hk _ => (al.block k (zAb hk)).trans hk⟩ (Carry.of_below al) ⟨⟨⟨s, (al.block _ (zAb i1)).trans i1, i2.below al⟩, (al.block _ (zAb i3)).trans i3, (al.block _ (zAb i4)).trans i4, i5.trans (Carry.of_below al)⟩, hB.trans (al.mono hB.size)⟩ ⟨W.heap.size, rfl, alk (zAc _ _ rfl), zAc _ _ (by simp)⟩
 case body =>
  rintro l pre x a' W _ _ ⟨⟨⟨s, i1, i2⟩, i3, i4, i5⟩, hB⟩ ⟨g, rfl, g1, g2⟩ hlt;have hqa := (HQA.out x).carry (i5.mono fun y hy => by omega);have hqb := (HQB.out x).carry (i5.mono fun y hy => by omega);obtain ⟨a0, a1, a2, a3, -⟩ := zBw g1;obtain ⟨b0, b1, b2, b3, -⟩ := zBw g2;have c4 := i4.cell;have Hs := hdq hs0;have I2 := hdq i2;clear hs0 x0 x1 x2 x3 x4 hk0 i2;gi_wp2;refine ⟨trivial, ?_⟩;refine CallsIn.inRound l (callsIn_wide.2 ((zGU (K := LM) (x := va x) (y := vb x) (s := s) hqa hqb I2.out i1 HL.out HM.out (nlr _) ?fr ?fp).mono ?_));case fr => exact zB7 (zFr HF.out pre) (Nat.lt_of_le_of_lt (Nat.mul_le_mul_right _ (by omega)) HKB.out)
  case fp =>
   have := HF.out x;rw [HFD.out] at this;exact zB7 this (by have := HKB.out; omega)
  rintro e w3 ⟨rfl, s2, j1, j2, j3⟩;clear a0 a1 a2 a3 b0 b1 b2 b3 c4 hqa hqb;have hcw : Carry (fun y => y ≠ w.heap.size + 1) W w3 := ⟨j3.size, fun k cs t f hx hk => (j3.block k (zAb hk) hx).trans hk⟩;have hB3 := hB.trans (j3.below hB.size (fun b e => by omega));gi_wp2;refine ⟨⟨j3.size, fun k o _ hk ho => (j3.block k (zAb hk) (fun e => by subst e; rw [show W.heap[w.heap.size + 1]? = _ from i1] at hk; cases hk; cases ho)).trans hk⟩, hcw, ⟨⟨s2, j1, ?_⟩, (j3.block _ (zAb i3) (by omega)).trans i3, (j3.block _ (zAb i4) (by omega)).trans i4, i5.trans hcw⟩, hB3⟩;rw [zDV, HFD.out];rw [HFD.out] at j2;have hz := zAb i1
  exact j2.imp fun b _ hb => by
   rcases hb with hb | hb
   ·exact hb
   ·omega
 case done =>
  rintro Dd ys W hDd rfl ⟨⟨⟨s, i1, i2⟩, i3, i4, i5⟩, hB⟩ hK0;obtain ⟨z0, z1, z2, z3, -⟩ := zBw i1;obtain ⟨r0, r1, r2, r3, rf⟩ := zBw i3;dsimp only [QV.zero] at r0 r1 r2 r3;have Hs := hdq hs0;have I2 := hdq i2;clear hs0 x0 x1 x2 x3 x4 i2 i4 i5;have hne : Dd ≠ w.heap.size := by have := Hs.out; omega
  gi_wp2;have P8 := Put.four (W := W) w.heap.size (.bool s.num.ng) (.slice s.num.A s.num.n s.num.c) (.bool s.den.ng) (.slice s.den.A s.den.n s.den.c);have b8 := zGG (t := s) i3;generalize (((W.setCell ⟨w.heap.size, 0, none⟩ (.bool s.num.ng)).setCell ⟨w.heap.size, 1, none⟩ (.slice s.num.A s.num.n s.num.c)).setCell ⟨w.heap.size, 2, none⟩ (.bool s.den.ng)).setCell ⟨w.heap.size, 3, none⟩ (.slice s.den.A s.den.n s.den.c) = y8 at *;have hK1 : y8.heap[Dd]? = some (.deferred (some [])) := (P8.keep _ hne).trans hK0;refine ⟨by simp, .inl ⟨_, _, rfl, run_takeDeferred hK1, ?_⟩⟩;have g1 := zAj (grownBy_putObj' y8 Dd (.deferred none)) (fun r e => by cases e; exact ⟨_, hK1, rfl⟩) b8;obtain ⟨g10, g11, g12, g13, -⟩ := zBw g1;have q8 : QCan y8 (fun b => w.heap.size + 1 < b) s (lsum f (List.range N)) := I2.out.keep fun a ha _ => cob (P8.keep _ (by omega))
  have q9 := q8.carry (Carry.grown (grownBy_putObj' y8 Dd (.deferred none)) (fun r e => by cases e; exact ⟨_, hK1, rfl⟩));rw [zC5, HE.out] at q9;refine ⟨s.val, by simp [results, Tryz.results30, go_sem, g10, g11, g12, g13], ⟨s, rfl, q9.imp fun b _ hb => by show w.heap.size ≤ b; omega⟩, ?_⟩;exact (hB.trans (P8.below _ (nlr _))).trans (belowK_b (w := w) (nlr _) _ Dd _ _ (by have := Hs.out; omega) hK1 rfl rfl)
end Go.Proofs.YtlepljpdkbjbhaaGreat
namespace Go.Proofs.YtlepljpdkbjbhaaGreat
open Go.RowKit Go.Shelf
def dotL (r x : List Rat) : Rat := Lin.sum (min r.length x.length) fun i => r.getD i 0 * x.getD i 0
set_option maxRecDepth 20000 in
theorem zFs {w : World} {X Y X' Y' : Nat → Prop} {L M kb : Nat} {s sx : SV} {m : List (List Rat)} {x : List Rat} (h : MatIs w X Y L s m) (hx : VecIs w X' Y' M sx x) (hn : s.n ≤ 1000000) (hr : ∀ i, (m.getD i []).length ≤ 1000000) (hL : L ≤ LM) (hM : M ≤ LM) (hkb : 1000000 * (kb + 1) < 32 * LM) (hf : ∀ i k, Lin.Fits kb ((m.getD i []).getD k 0 * x.getD k 0)) :
  Calls Tryz.prog 74 #[s.val, sx.val] w fun e w' => VRet w (m.map fun r => dotL r x) e w' ∧ Below w.heap.size w w' := by
 obtain ⟨A, n, c⟩ := s;obtain ⟨xA, xn, xc⟩ := sx;dsimp only at hn;have hmk := zBb n hn;have HL := hdq hL;have HM := hdq hM;have HR := hdq hr;have HK := hdq hkb;have HF := hdq hf;have HX := hdq hx;have HLen : Hid (m.length = n) := h.len;have hle : n ≤ c := h.le;have hcap : c ≤ 9223372036854775807 := h.cap;clear hL hM hr hkb hf hx;show Calls _ _ #[.slice A n c, .slice xA xn xc] _ _;go_enter Tryz.func74, Tryz.ntmps74
 go_wp2;obtain ⟨f, hfd⟩ : ∃ f : Nat → Rat, f = fun i => dotL (m.getD i []) x := ⟨_, rfl⟩
 have HD := hdq hfd
 have HE : Hid ((List.range n).map f = m.map fun r => dotL r x) := by
  show _ = _;rw [hfd, ← HLen.out];apply List.ext_getElem
  ·simp
  ·intro i h1 h2;simp at h1;simp [h1]
 clear hfd;have hb0 : Below w.heap.size w (w.alloc (.cells (zeroQ n) 30)) := (brf _ _).alloc (nlr _) _
 have H0 : FillLoop w w.heap.size f n n (fun _ => True) (.int .i64 0) (w.alloc (.cells (zeroQ n) 30)) :=
  ⟨0, nzl _, rfl, by
   rw [zBz];exact RowAt.made w n (fun x => x < w.heap.size ∨ x = w.heap.size) (.inr rfl), hb0, trivial⟩
 clear hmk hb0;generalize w.alloc (.cells (zeroQ n) 30) = W0 at *;go_loopw [13] (fun t W => FillLoop w w.heap.size f n n (fun _ => True) t W) (fun t _ => n - (intOf t).toNat)
 case atStart => exact H0
 case round =>
  clear H0;obtain ⟨i, hi, rfl, hR, hB, -⟩ := hrel;have hRl := hR.lt;by_cases hlt : i < n
  ·obtain ⟨ad, r, e, -, r0, hr⟩ := (h.below hB).row i hlt;dsimp only at e;subst e;obtain ⟨rA, rn, rc⟩ := r;have HW := hdq hr;have hrn : (m.getD i []).length = rn := hr.len;have Hrn := hdq hrn;clear hr hrn;(go_wp2_with fail);refine (zHD (kb := kb) (sa := ⟨rA, rn, rc⟩) (sb := ⟨xA, xn, xc⟩) HW.out (HX.out.below hB) HL.out HM.out (by have := HR.out i; rw [Hrn.out] at this; exact this) HK.out (HF.out i)).mono ?_;rintro e w1 ⟨⟨z, rfl, hz⟩, hb1⟩;have hR1 := hR.below hb1
   have hz2 : QCan w1 (New wr.heap.size) z (f i) := by
    rw [HD.out];unfold dotL;dsimp only;have e2 : x.length = xn := HX.out.len;rw [Hrn.out, e2];exact hz
   clear hz r0;obtain ⟨zv, ⟨d0, d1, d2, d3⟩, -⟩ := hR1.elem i (by rw [zAz _ hi]; exact hlt);have fz := hR1.frozen;dsimp only at d1 d2 d3;go_wp2;go_roundw;case rel => exact FillLoop.step (B := wr.heap.size) hlt (nlr _) hR hB hb1 hB.size hRl (nlr _) hz2 trivial
   case measure => simp [intOf]; omega
  ·(obtain rfl : i = n := by omega);rw [zCA, HE.out] at hR;go_wp2;go_ret;exact ⟨VRet.of (by rw [List.length_map]; exact HLen.out) hn (nlr _) hR, hB⟩
theorem zBr {w : World} {X Y X' Y' : Nat → Prop} {L M kb : Nat} {p : LPV} {os rs : List (List Rat)} {bs : List Rat} {sx : SV} {x : List Rat} (h : LPIs w X Y L p os rs bs) (hx : VecIs w X' Y' M sx x) (hn : p.O.n ≤ 1000000) (hr : ∀ i, (os.getD i []).length ≤ 1000000) (hL : L ≤ LM) (hM : M ≤ LM) (hkb : 1000000 * (kb + 1) < 32 * LM) (hf : ∀ i k, Lin.Fits kb ((os.getD i []).getD k 0 * x.getD k 0)) :
  Calls Tryz.prog 24 #[p.val, sx.val] w fun e w' => VRet w (os.map fun r => dotL r x) e w' ∧ Below w.heap.size w w' := by
 obtain ⟨pn, ⟨oA, on, oc⟩, ⟨rA, rn, rc⟩, ⟨bA, bn, bc⟩⟩ := p;obtain ⟨xA, xn, xc⟩ := sx;have H := hdq h.obj;have HX := hdq hx;have HF := hdq hf;have HK := hdq hkb;have HL := hdq hL;have HM := hdq hM;have HR := hdq hr;have Hn := hdq hn;clear h hx hf hkb hL hM hr hn;dsimp only [LPV.val, SV.val] at *;go_enter Tryz.func24, Tryz.ntmps24
 go_wp2_with fail
 have al : Below w.heap.size w (w.alloc (.cells #[.int .i64 pn, .slice oA on oc, .slice rA rn rc, .slice bA bn bc] 25)) := (brf _ _).alloc (nlr _) _;refine (zFs (kb := kb) (s := ⟨oA, on, oc⟩) (sx := ⟨xA, xn, xc⟩) (H.out.below al) (HX.out.below al) Hn.out HR.out HL.out HM.out HK.out HF.out).mono ?_;rintro e w1 ⟨⟨z, rfl, hz⟩, hb1⟩;go_wp2;go_ret;exact ⟨⟨z, rfl, hz.low al.size⟩, al.trans (hb1.mono al.size)⟩
theorem zHC {kb : Nat} {r x : List Rat} (hr : r.length ≤ 1000000) (hkb : 1000000 * (kb + 1) < 32 * LM) (hf : ∀ k, Lin.Fits kb (r.getD k 0 * x.getD k 0)) : QFit LM (dotL r x) := by
 unfold dotL;rw [← zC5];exact zB7 (zFr hf _) (Nat.lt_of_le_of_lt (Nat.mul_le_mul_right _ (by rw [List.length_range]; omega)) hkb)
theorem zCH {kb : Nat} {os : List (List Rat)} {x : List Rat} (hr : ∀ i, (os.getD i []).length ≤ 1000000) (hkb : 1000000 * (kb + 1) < 32 * LM) (hf : ∀ i k, Lin.Fits kb ((os.getD i []).getD k 0 * x.getD k 0)) (i : Nat) : QFit LM ((os.map fun r => dotL r x).getD i 0) := by
 by_cases hi : i < os.length
 ·rw [show (os.map fun r => dotL r x).getD i 0 = dotL (os.getD i []) x by simp [hi]];exact zHC (hr i) hkb (hf i)
 ·rw [zAP _ _ _ (by rw [List.length_map]; omega)]; exact zB7 (Lin.Fits.zero 0) (by rw [zAB]; omega)
def lpcmp (os : List (List Rat)) (x y : List Rat) : Int :=
 if vcmp (fun i => (os.map fun r => dotL r x).getD i 0) (fun i => (os.map fun r => dotL r y).getD i 0) os.length = 0 then vcmp (fun i => y.getD i 0) (fun i => x.getD i 0) (max y.length x.length)
 else vcmp (fun i => (os.map fun r => dotL r x).getD i 0) (fun i => (os.map fun r => dotL r y).getD i 0) os.length
theorem zCt {w : World} {X Y X' Y' : Nat → Prop} {L M : Nat} {sa sb : SV} {la lb : List Rat} (o : Int) (ha : VecIs w X Y L sa la) (hb : VecIs w X' Y' M sb lb) (hL : L ≤ LM) (hM : M ≤ LM) (hna : la.length ≤ 1000000) (hnb : lb.length ≤ 1000000) (ho : vcmp (fun i => la.getD i 0) (fun i => lb.getD i 0) (max la.length lb.length) = o) :
  Calls Tryz.prog 34 #[sa.val, sb.val] w fun e w' => e = .returned (.int .i64 o) ∧ Below w.heap.size w w' := by
 subst ho;rw [ha.len, hb.len];exact zCG ha hb hL hM (by rw [← ha.len]; exact hna) (by rw [← hb.len]; exact hnb)
set_option maxRecDepth 20000 in
theorem zDU {w : World} {X Y X' Y' X2 Y2 : Nat → Prop} {L M M2 kb : Nat} {p : LPV} {os rs : List (List Rat)} {bs : List Rat} {sx sy : SV} {x y : List Rat} (h : LPIs w X Y L p os rs bs) (hx : VecIs w X' Y' M sx x) (hy : VecIs w X2 Y2 M2 sy y) (hn : p.O.n ≤ 1000000) (hr : ∀ i, (os.getD i []).length ≤ 1000000) (hxn : sx.n ≤ 1000000) (hyn : sy.n ≤ 1000000) (hL : L ≤ LM) (hM : M ≤ LM) (hM2 : M2 ≤ LM) (hkb : 1000000 * (kb + 1) < 32 * LM)
  (hf : ∀ i k, Lin.Fits kb ((os.getD i []).getD k 0 * x.getD k 0)) (hf2 : ∀ i k, Lin.Fits kb ((os.getD i []).getD k 0 * y.getD k 0)) :
  Calls Tryz.prog 25 #[p.val, sx.val, sy.val] w fun e w' => e = .returned (.int .i64 (lpcmp os x y)) ∧ Below w.heap.size w w' := by
 obtain ⟨pn, ⟨oA, on, oc⟩, ⟨rA, rn, rc⟩, ⟨bA, bn, bc⟩⟩ := p;obtain ⟨xA, xn, xc⟩ := sx;obtain ⟨yA, yn, yc⟩ := sy;have H := hdq h;have HX := hdq hx;have HY := hdq hy;have HF := hdq hf;have HF2 := hdq hf2;have HK := hdq hkb;have HL := hdq hL;have HM := hdq hM;have HM2 := hdq hM2;have HR := hdq hr;have Hn := hdq hn;have Hxn := hdq hxn;have Hyn := hdq hyn;have HO : Hid (os.length = on) := h.obj.len;have HXL : Hid (x.length = xn) := hx.len;have HYL : Hid (y.length = yn) := hy.len;clear h hx hy hf hf2 hkb hL hM hM2 hr hn hxn hyn;dsimp only [LPV.val, SV.val] at *;obtain ⟨o, ho⟩ : ∃ o, vcmp (fun i => (os.map fun r => dotL r x).getD i 0) (fun i => (os.map fun r => dotL r y).getD i 0) os.length = o := ⟨_, rfl⟩;obtain ⟨o2, ho2⟩ : ∃ o, vcmp (fun i => y.getD i 0) (fun i => x.getD i 0) (max y.length x.length) = o := ⟨_, rfl⟩;have he : lpcmp os x y = if o = 0 then o2 else o := by unfold lpcmp; rw [ho, ho2]
 rw [he];have HV := hdq ho;have HV2 := hdq ho2;clear he ho ho2;go_enter Tryz.func25, Tryz.ntmps25
 go_upto_region 1 with fail
 refine zAi (fun W => Below w.heap.size w W ∧ Box4 W w.heap.size (.int .i64 pn) (.slice oA on oc) (.slice rA rn rc) (.slice bA bn bc) ∧ w.heap.size < W.heap.size) ⟨((brf _ _).alloc (by simp <;> omega) _), ⟨by go_simp, by go_simp, by go_simp, by go_simp, by intro o; go_simp⟩, by simp <;> omega⟩ ?_;rintro W ⟨hbW, bP, s0⟩;have hBW := hbW.size
 go_region_held3 (Sees w.heap.size [] W) (exact kp)
  (first
   | (go_at_call 24; ((with_reducible refine (zBr (kb := kb) (p := ⟨pn, ⟨oA, on, oc⟩, ⟨rA, rn, rc⟩, ⟨bA, bn, bc⟩⟩) (sx := ⟨xA, xn, xc⟩) (H.out.below (hbW.trans ((Sees.kept (by assumption)).whole.mono hbW.size))) (HX.out.below (hbW.trans ((Sees.kept (by assumption)).whole.mono hbW.size))) Hn.out HR.out HL.out HM.out HK.out HF.out).mono ?_); rintro e w1 ⟨⟨⟨zA, zn, zc⟩, rfl, hz1⟩, hb1⟩))
   | (go_at_call 24; ((with_reducible refine (zBr (kb := kb) (p := ⟨pn, ⟨oA, on, oc⟩, ⟨rA, rn, rc⟩, ⟨bA, bn, bc⟩⟩) (sx := ⟨yA, yn, yc⟩) (H.out.below (hbW.trans ((Sees.kept (by assumption)).whole.mono hbW.size))) (HY.out.below (hbW.trans ((Sees.kept (by assumption)).whole.mono hbW.size))) Hn.out HR.out HL.out HM2.out HK.out HF2.out).mono ?_); rintro e w2 ⟨⟨⟨uA, un, uc⟩, rfl, hz2⟩, hb2⟩))
   | (go_at_call 34; ((with_reducible refine (zCt o (L := LM) (M := LM) (sa := ⟨zA, zn, zc⟩) (sb := ⟨uA, un, uc⟩) ((hz1.belowC hb2).loose (zCH HR.out HK.out HF.out)) (hz2.loose (zCH HR.out HK.out HF2.out)) (nlr _) (nlr _) (by rw [List.length_map, HO.out]; exact Hn.out) (by rw [List.length_map, HO.out]; exact Hn.out) (by rw [List.length_map, List.length_map, Nat.max_self]; exact HV.out)).mono ?_); rintro e w3 ⟨rfl, hb3⟩))
   | fail)
 rename_i hS;have hbf := hbW.trans hS.kept.below;clear hS hz1 hz2 hb1 hb2 hb3;by_cases h0 : o = 0
 ·subst h0;go_wp2_with fail
  refine (zCt o2 (L := M2) (M := M) (sa := ⟨yA, yn, yc⟩) (sb := ⟨xA, xn, xc⟩) (HY.out.below hbf) (HX.out.below hbf) HM2.out HM.out (by rw [HYL.out]; exact Hyn.out) (by rw [HXL.out]; exact Hxn.out) HV2.out).mono ?_;rintro e w4 ⟨rfl, hb4⟩;go_wp2;go_ret;exact ⟨by simp, hbf.trans (hb4.mono hbf.size)⟩
 ·have h1 : (o != 0) = true := by simpa using h0
  go_wp2;go_ret;exact ⟨by simp, hbf⟩
def MBlk (w : World) (b : Nat) (m : List (List Rat)) (w' : World) : Prop :=
 w.heap.size ≤ b ∧ ∃ (cs : Array Value) (sv : Nat → SV), w'.heap[b]? = some (.cells cs 23 (0, 0)) ∧ cs.size = m.length ∧ ∀ j, j < m.length → cs[j]? = some (sv j).val ∧ VecCan w' (fun x => w.heap.size ≤ x ∧ x ≠ b) (fun x => w.heap.size ≤ x ∧ x ≠ b) (sv j) (m.getD j [])
def MSLoop (w : World) (k : QV) (q : Rat) (m : List (List Rat)) (n : Nat) (t : Value) (W : World) : Prop :=
 ∃ i : Nat, i ≤ n ∧ t = .int .i64 i ∧ Below w.heap.size w W ∧ Box4 W w.heap.size (.bool k.num.ng) (.slice k.num.A k.num.n k.num.c) (.bool k.den.ng) (.slice k.den.A k.den.n k.den.c) ∧ ∃ (cs : Array Value) (sv : Nat → SV), W.heap[w.heap.size + 1]? = some (.cells cs 23 (0, 0)) ∧ cs.size = n ∧ ∀ j, j < i → cs[j]? = some (sv j).val ∧ VecCan W (New (w.heap.size + 1 + 1)) (New (w.heap.size + 1 + 1)) (sv j) ((m.getD j []).map (q * ·))
set_option maxRecDepth 40000 in
theorem zCw {w : World} {X Y Z : Nat → Prop} {L M : Nat} {k : QV} {q : Rat} {s : SV} {m : List (List Rat)} (hk : QIs w Z M k q) (h : MatIs w X Y L s m) (hn : s.n ≤ 1000000) (hr : ∀ i, (m.getD i []).length ≤ 1000000) (hL : L ≤ LM) (hM : M ≤ LM) :
  Calls Tryz.prog 130 #[k.val, s.val] w fun e w' => (∃ b, e = .returned (.slice (some ⟨b, 0, none⟩) m.length m.length) ∧ MBlk w b (m.map fun l => l.map (q * ·)) w') ∧ Below w.heap.size w w' := by
 obtain ⟨A, n, c⟩ := s;dsimp only at hn;have HLen : Hid (m.length = n) := h.len;have hle : n ≤ c := h.le;have hcap : c ≤ 9223372036854775807 := h.cap;have hmk := zDd n (by omega);have HL := hdq hL;have HM := hdq hM;have HR := hdq hr;have HK := hdq hk;clear hL hM hr hk;show Calls _ _ #[k.val, .slice A n c] _ _;go_enter Tryz.func130, Tryz.ntmps130
 go_wp2
 have H0 : MSLoop w k q m n (.int .i64 0) ((w.alloc (.cells #[.bool k.num.ng, .slice k.num.A k.num.n k.num.c, .bool k.den.ng, .slice k.den.A k.den.n k.den.c] 30)).alloc (.cells (zeroS n) 23)) :=
  ⟨0, nzl _, rfl, ((brf _ _).alloc (nlr _) _).alloc (by simp) _, ⟨by go_simp, by go_simp, by go_simp, by go_simp, by intro o; go_simp⟩, zeroS n, fun _ => ⟨none, 0, 0⟩, zAc _ _ (by simp), zDh n, fun j hj => absurd hj (by omega)⟩
 clear hmk;generalize (w.alloc (.cells #[.bool k.num.ng, .slice k.num.A k.num.n k.num.c, .bool k.den.ng, .slice k.den.A k.den.n k.den.c] 30)).alloc (.cells (zeroS n) 23) = W0 at *;go_loopw [13] (fun t W => MSLoop w k q m n t W) (fun t _ => n - (intOf t).toNat)
 case atStart => exact H0
 case round =>
  clear H0;obtain ⟨i, hi, rfl, hB, bK, cs, sv, h1, h2, h3⟩ := hrel;by_cases hlt : i < n
  ·obtain ⟨ad, r, e, -, r0, hr⟩ := (h.below hB).row i hlt;dsimp only at e;subst e;obtain ⟨rA, rn, rc⟩ := r;have HW := hdq hr;have hrn : Hid ((m.getD i []).length = rn) := hr.len;clear hr;have hyl := zAb h1;obtain ⟨k0, k1, k2, k3, -⟩ := id bK;(go_wp2_with fail);refine (zFL (k := k) (s := ⟨rA, rn, rc⟩) (HK.out.below hB) HW.out (by have := HR.out i; rw [hrn.out] at this; exact this) HL.out HM.out).mono ?_; rintro e w1 ⟨⟨z, rfl, hz⟩, hb1⟩
   obtain ⟨zA, zn, zc⟩ := z;have h1' : w1.heap[w.heap.size + 1]? = some (.cells cs 23 (0, 0)) := (hb1.block _ hyl).trans h1;have y0 : (w1.cell? ⟨w.heap.size + 1, i, none⟩).isSome = true := by simp only [World.cell?, h1']; simp [h2, hlt]
   obtain ⟨yv, hyv⟩ := Option.isSome_iff_exists.1 y0;have yf : ∀ o, w1.frozen? ⟨w.heap.size + 1, o, none⟩ = false := fun o => by simp [World.frozen?, h1']
   have Hfin : Hid (MSLoop w k q m n (.int .i64 ((i : Int) + 1)) (w1.setCell ⟨w.heap.size + 1, i, none⟩ (.slice zA zn zc))) := by
    have kk : ∀ p : Addr, New (w.heap.size + 1 + 1) p.block → (w1.setCell ⟨w.heap.size + 1, i, none⟩ (.slice zA zn zc)).cell? p = w1.cell? p := (fun p hp => cob (bhs _ _ _ _ (by simp only [New] at hp; show p.block ≠ w.heap.size + 1; omega)));have kv : ∀ {s : SV} {l : List Rat}, VecCan w1 (New (w.heap.size + 1 + 1)) (New (w.heap.size + 1 + 1)) s l → VecCan (w1.setCell ⟨w.heap.size + 1, i, none⟩ (.slice zA zn zc)) (New (w.heap.size + 1 + 1)) (New (w.heap.size + 1 + 1)) s l := (fun hv => hv.keep (fun a ha _ => kk a ha) fun v q hq => hq.keep fun p hp _ => kk p hp);refine ⟨i + 1, by omega, by simp, (hB.trans (hb1.mono hB.size)).setCell (p := ⟨w.heap.size + 1, i, none⟩) (by show w.heap.size ≤ w.heap.size + 1; omega) _, (bK.below hb1 (by omega)).far4 (by omega) _, cs.setIfInBounds i (.slice zA zn zc), fun j => if j = i then ⟨zA, zn, zc⟩ else sv j, zAd _ h1', by simpa using h2, fun j hj => ?_⟩;rw [Array.getElem?_setIfInBounds];by_cases e : i = j
    ·subst e;rw [if_pos rfl, if_pos (by omega)];dsimp only;rw [if_pos rfl];exact ⟨rfl, kv (hz.imp (fun b _ hb => by simp only [New] at hb ⊢; omega) fun v q hq => hq.imp fun b _ hb => by simp only [New] at hb ⊢; omega)⟩
    ·rw [if_neg e];dsimp only;rw [if_neg (Ne.symm e)];obtain ⟨g1, g2⟩ := h3 j (by omega);exact ⟨g1, kv (g2.belowC hb1)⟩
   clear h1 h2 h3 h1' hz hb1 hB r0 y0 bK k0 k1 k2 k3;go_wp2;go_roundw;case rel => first | exact Hfin.out | ((repeat apply Exists.intro); exact ⟨Hfin.out, rfl⟩)
   case measure => simp [intOf]; omega
  ·have hin : i = n := (by omega);rw [hin] at h3
   have HF : Hid (MBlk w (w.heap.size + 1) (m.map fun l => l.map (q * ·)) wr) := by
    refine ⟨by omega, cs, sv, h1, by rw [List.length_map, HLen.out]; exact h2, fun j hj => ?_⟩;rw [List.length_map, HLen.out] at hj;obtain ⟨g1, g2⟩ := h3 j hj
    have e : (m.map fun l => l.map (q * ·)).getD j [] = (m.getD j []).map (q * ·) := by
     have := HLen.out;simp [List.getElem?_map, gge (show j < m.length by omega)]
    rw [e];exact ⟨g1, g2.imp (fun b _ hb => by simp only [New] at hb ⊢; omega) fun v q hq => hq.imp fun b _ hb => by simp only [New] at hb ⊢; omega⟩
   clear h1 h2 h3;go_wp2;go_ret;exact ⟨⟨_, by rw [HLen.out]; rfl, HF.out⟩, hB⟩
def MPart (lo hi b : Nat) (m : List (List Rat)) (w : World) : Prop :=
 lo ≤ b ∧ b < hi ∧ ∃ (cs : Array Value) (sv : Nat → SV), w.heap[b]? = some (.cells cs 23 (0, 0)) ∧ cs.size = m.length ∧ ∀ j, j < m.length → cs[j]? = some (sv j).val ∧ VecCan w (fun x => lo ≤ x ∧ x < hi ∧ x ≠ b) (fun x => lo ≤ x ∧ x < hi ∧ x ≠ b) (sv j) (m.getD j [])
def VPart (lo hi b : Nat) (l : List Rat) (w : World) : Prop :=
 lo ≤ b ∧ b < hi ∧ RowAt w (fun x => ¬ (lo ≤ x ∧ x < hi ∧ x ≠ b)) b l
theorem MBlk.part {w w' : World} {b : Nat} {m : List (List Rat)} (h : MBlk w b m w') : MPart w.heap.size w'.heap.size b m w' := by
 obtain ⟨h1, cs, sv, h2, h3, h4⟩ := h;exact ⟨h1, zAb h2, cs, sv, h2, h3, fun j hj => ⟨(h4 j hj).1, (h4 j hj).2.imp (fun x hl hx => ⟨hx.1, hl, hx.2⟩) fun v q hq => hq.imp fun x hl hx => ⟨hx.1, hl, hx.2⟩⟩⟩
theorem MPart.keep {w w' : World} {lo hi b : Nat} {m : List (List Rat)} (h : MPart lo hi b m w) (hk : ∀ x, lo ≤ x → x < hi → w'.heap[x]? = w.heap[x]?) : MPart lo hi b m w' := by
 obtain ⟨h1, h2, cs, sv, h3, h4, h5⟩ := h;exact ⟨h1, h2, cs, sv, (hk b h1 h2).trans h3, h4, fun j hj => ⟨(h5 j hj).1, (h5 j hj).2.keep (fun a ha _ => cob (hk _ ha.1 ha.2.1)) fun v q hq => hq.keep fun a ha _ => cob (hk _ ha.1 ha.2.1)⟩⟩
theorem VPart.keep {w w' : World} {lo hi b : Nat} {l : List Rat} (h : VPart lo hi b l w) (hk : ∀ x, lo ≤ x → x < hi → w'.heap[x]? = w.heap[x]?) : VPart lo hi b l w' := by
 obtain ⟨h1, h2, h3⟩ := h;refine ⟨h1, h2, h3.mem, ?_, fun k hkl => ?_⟩
 ·obtain ⟨cs, e, hs⟩ := h3.blk;exact ⟨cs, (hk b h1 h2).trans e, hs⟩
 ·obtain ⟨v, g1, g2⟩ := h3.elem k hkl;have hc : ∀ o, w'.cell? ⟨b, o, none⟩ = w.cell? ⟨b, o, none⟩ := fun o => cob (hk b h1 h2)
  refine ⟨v, ⟨(hc _).trans g1.1, (hc _).trans g1.2.1, (hc _).trans g1.2.2.1, (hc _).trans g1.2.2.2⟩, g2.keep fun a ha _ => cob ?_⟩;have ha' := Classical.not_not.1 ha;exact hk _ ha'.1 ha'.2.1
theorem VRow.part {w w' : World} {b : Nat} {l : List Rat} (h1 : w.heap.size ≤ b) (h : RowAt w' (fun x => x < w.heap.size ∨ x = b) b l) : VPart w.heap.size w'.heap.size b l w' :=
 ⟨h1, h.lt, by show ¬ _; omega, h.blk, fun k hk => by
  obtain ⟨v, g1, g2⟩ := h.elem k hk;exact ⟨v, g1, g2.imp fun x hl hx => by show ¬ ¬ _; omega⟩⟩
def CopyRet (w : World) (n : Int) (os rs : List (List Rat)) (bs : List Rat) (e : Ending) (w' : World) : Prop :=
 ∃ k0 k1 k2 k3 b1 b2 b3, w.heap.size ≤ k0 ∧ k3 ≤ w'.heap.size ∧ e = .returned (.agg #[.int .i64 n, .slice (some ⟨b1, 0, none⟩) os.length os.length, .slice (some ⟨b2, 0, none⟩) rs.length rs.length, .slice (some ⟨b3, 0, none⟩) bs.length bs.length]) ∧
  MPart k0 k1 b1 os w' ∧ MPart k1 k2 b2 rs w' ∧ VPart k2 k3 b3 bs w'
theorem zGz (m : List (List Rat)) : (m.map fun l => l.map ((((1 : Int) : Rat)) * ·)) = m := by simp
theorem zI7 (l : List Rat) : l.map ((((1 : Int) : Rat)) * ·) = l := by simp
set_option maxRecDepth 40000 in
theorem zFg {w : World} {X Y : Nat → Prop} {L : Nat} {p : LPV} {os rs : List (List Rat)} {bs : List Rat} (h : LPIs w X Y L p os rs bs) (hn : p.O.n ≤ 1000000) (hn2 : p.R.n ≤ 1000000) (hn3 : p.B.n ≤ 1000000) (hr : ∀ i, (os.getD i []).length ≤ 1000000) (hr2 : ∀ i, (rs.getD i []).length ≤ 1000000) (hL : L ≤ LM) :
  Calls Tryz.prog 73 #[p.val] w fun e w' => CopyRet w p.n os rs bs e w' ∧ Below w.heap.size w w' := by
 obtain ⟨pn, ⟨oA, on, oc⟩, ⟨rA, rn, rc⟩, ⟨bA, bn, bc⟩⟩ := p;have H := hdq h;have HL := hdq hL;have HR := hdq hr;have HR2 := hdq hr2;have Hn := hdq hn;have Hn2 := hdq hn2;have Hn3 := hdq hn3;clear h hL hr hr2 hn hn2 hn3;dsimp only [LPV.val] at *;go_enter Tryz.func73, Tryz.ntmps73
 go_upto_region 1 with fail
 refine zAi (fun W => Below w.heap.size w W ∧ Box4 W w.heap.size (.int .i64 pn) (.slice oA on oc) (.slice rA rn rc) (.slice bA bn bc) ∧ Box4 W (w.heap.size + 1) (.int .i64 0) (.slice none 0 0) (.slice none 0 0) (.slice none 0 0) ∧ w.heap.size < W.heap.size ∧ w.heap.size + 1 < W.heap.size) ⟨(((brf _ _).alloc (by simp <;> omega) _).alloc (by simp <;> omega) _), ⟨by go_simp, by go_simp, by go_simp, by go_simp, by intro o; go_simp⟩, ⟨by go_simp, by go_simp, by go_simp, by go_simp, by intro o; go_simp⟩, by simp <;> omega, by simp <;> omega⟩ ?_;rintro W ⟨hbW, bP, bR, s0, s1⟩;have hBW := hbW.size;go_wp2_with fail
 refine (zAG 1 (by decide) (by decide) _).mono ?_;rintro e w1 ⟨⟨u, rfl, hu⟩, hb1⟩;replace bP := bP.below hb1 s0;replace bR := bR.below hb1 s1;replace s0 := ltl s0 hb1.size;replace s1 := ltl s1 hb1.size;replace hbW := hbW.trans (hb1.mono hbW.size);clear hb1 hBW;go_upto_region 2 with fail
 have al : Below w1.heap.size w1 (w1.alloc (.cells #[.bool u.num.ng, .slice u.num.A u.num.n u.num.c, .bool u.den.ng, .slice u.den.A u.den.n u.den.c] 30)) := (brf _ _).alloc (nlr _) _;have bU := zBw (zAc w1 (.cells #[.bool u.num.ng, .slice u.num.A u.num.n u.num.c, .bool u.den.ng, .slice u.den.A u.den.n u.den.c] 30) rfl);replace bP := bP.below al s0;replace bR := bR.below al s1;replace s0 := ltl s0 al.size;replace hu := (hu.below al).qis (zAs zIB);have s2 : w1.heap.size < (w1.alloc (.cells #[.bool u.num.ng, .slice u.num.A u.num.n u.num.c, .bool u.den.ng, .slice u.den.A u.den.n u.den.c] 30)).heap.size := by simp
 replace hbW := hbW.trans (al.mono hbW.size);clear al;generalize w1.alloc (.cells #[.bool u.num.ng, .slice u.num.A u.num.n u.num.c, .bool u.den.ng, .slice u.den.A u.den.n u.den.c] 30) = W2 at *;obtain ⟨u0, u1, u2, u3, -⟩ := id bU;obtain ⟨p0, p1, p2, p3, -⟩ := id bP;have HU := hdq hu;clear hu;refine zAo 15 (fun f w' => f = false → Sees w.heap.size [] W2 w') (by kernel_rfl) ?_;have hS0 : Sees w.heap.size [] W2 W2.drew := Sees.st (by simp) hbW.size;refine tkX 0 (fun _ => hS0) ?_;simp only [zz];refine tkX 3 (fun _ => hS0) ?_;simp only [zz];refine tkX 7 (fun _ => hS0) ?_;simp only [zz];refine tkX 11 (fun _ => hS0) ?_;simp only [zz];refine tkW 1 (.int .i64 pn) (fun w' hSw => ?_) (fun _ => hS0) ?_
 ·(replace hSw := hSw rfl; go_simp; try with_reducible rfl)
 simp only [zz];refine tkW 2 (u.val) (fun w' hSw => ?_) (fun _ => hS0) ?_
 ·(replace hSw := hSw rfl; go_simp; try with_reducible rfl)
 simp only [zz];refine tkW 4 (.slice oA on oc) (fun w' hSw => ?_) (fun _ => hS0) ?_
 ·(replace hSw := hSw rfl; go_simp; try with_reducible rfl)
 simp only [zz];refine tkW 6 (u.val) (fun w' hSw => ?_) (fun _ => hS0) ?_
 ·(replace hSw := hSw rfl; go_simp; try with_reducible rfl)
 simp only [zz];refine tkW 8 (.slice rA rn rc) (fun w' hSw => ?_) (fun _ => hS0) ?_
 ·(replace hSw := hSw rfl; go_simp; try with_reducible rfl)
 simp only [zz];refine tkW 10 (u.val) (fun w' hSw => ?_) (fun _ => hS0) ?_
 ·(replace hSw := hSw rfl; go_simp; try with_reducible rfl)
 simp only [zz];refine tkW 12 (.slice bA bn bc) (fun w' hSw => ?_) (fun _ => hS0) ?_
 ·(replace hSw := hSw rfl; go_simp; try with_reducible rfl)
 simp only [zz];refine oneW (i := 5) (by kernel_rfl) rfl (by rfl) ?_;intro K hK;go_simp;with_reducible refine (zCw (k := u) (s := ⟨oA, on, oc⟩) (HU.out.below (Sees.kept (by assumption)).whole) (H.out.obj.below (hbW.trans ((Sees.kept (by assumption)).whole.mono hbW.size))) Hn.out HR.out HL.out (by rw [zAB]; omega)).mono ?_
 rintro e v1 ⟨⟨b1, rfl, hm1⟩, hc1⟩;rw [zGz] at hm1;replace hm1 := hm1.part;have hS1 := Kept.call2 hc1 hS0;refine hK.out _ _ (fun _ => hS1) ?_;clear hK K;refine oneW (i := 9) (by kernel_rfl) rfl (by rfl) ?_;intro K hK;go_simp;with_reducible refine (zCw (k := u) (s := ⟨rA, rn, rc⟩) (HU.out.below hS1.kept.whole) (H.out.rows.below (hbW.trans (hS1.kept.whole.mono hbW.size))) Hn2.out HR2.out HL.out (by rw [zAB]; omega)).mono ?_
 rintro e v2 ⟨⟨b2, rfl, hm2⟩, hc2⟩;rw [zGz] at hm2;replace hm2 := hm2.part;replace hm1 := hm1.keep (w' := v2) fun x _ hx => hc2.block x hx
 have hS2 := Kept.call2 hc2 hS1;refine hK.out _ _ (fun _ => hS2) ?_;clear hK K;refine oneW (i := 13) (by kernel_rfl) rfl (by rfl) ?_;intro K hK;go_simp;with_reducible refine (zCZ (k := u) (s := ⟨bA, bn, bc⟩) (HU.out.below hS2.kept.whole) (H.out.bounds.below (hbW.trans (hS2.kept.whole.mono hbW.size))) Hn3.out HL.out (by rw [zAB]; omega)).mono ?_
 rintro e v3 ⟨⟨b3, rfl, hk3, hv3⟩, hc3⟩;rw [zI7] at hv3 ⊢;replace hv3 := VRow.part hk3 hv3;replace hm1 := hm1.keep (w' := v3) fun x _ hx => hc3.block x (ltl hx hc2.size)
 replace hm2 := hm2.keep (w' := v3) fun x _ hx => hc3.block x hx
 have hS3 := Kept.call2 hc3 hS2;refine hK.out _ _ (fun _ => hS3) ?_;clear hK K;refine oneW (i := 14) (by kernel_rfl) rfl (by rfl) ?_;intro K hK;go_simp;refine hK.out _ _ (fun _ => hS3) ?_;clear hK K;have h23 := hS3.kept.whole;have bR3 := bR.below h23 (by omega);have hbz := hS0.kept.size;have hsz1 := hS1.kept.size;clear hS0 hS1 hS2 hS3 u0 u1 u2 u3 p0 p1 p2 p3;obtain ⟨r0, r1, r2, r3, rf⟩ := id bR3;refine oneW (i := 15) (by kernel_rfl) rfl (by rfl) ?_;intro K hK;go_simp;refine hK.out _ _ (fun h => absurd h (by decide)) ?_;clear hK K;have P8 := Put.four (W := v3) (w.heap.size + 1) (.int .i64 pn) (.slice (some ⟨b1, 0, none⟩) os.length os.length) (.slice (some ⟨b2, 0, none⟩) rs.length rs.length) (.slice (some ⟨b3, 0, none⟩) bs.length bs.length);have bR8 := bR3.stored (.int .i64 pn) (.slice (some ⟨b1, 0, none⟩) os.length os.length) (.slice (some ⟨b2, 0, none⟩) rs.length rs.length) (.slice (some ⟨b3, 0, none⟩) bs.length bs.length);generalize (((v3.setCell ⟨w.heap.size + 1, 0, none⟩ (.int .i64 pn)).setCell ⟨w.heap.size + 1, 1, none⟩ (.slice (some ⟨b1, 0, none⟩) os.length os.length)).setCell ⟨w.heap.size + 1, 2, none⟩ (.slice (some ⟨b2, 0, none⟩) rs.length rs.length)).setCell ⟨w.heap.size + 1, 3, none⟩ (.slice (some ⟨b3, 0, none⟩) bs.length bs.length) = y8 at *;clear r0 r1 r2 r3 rf;obtain ⟨r0, r1, r2, r3, -⟩ := id bR8;have hc1s := hc1.size;have hc2s := hc2.size;refine zAf (by kernel_rfl) ?_ _;go_wp2;refine bodyPost_ret (v := .agg #[.int .i64 pn, .slice (some ⟨b1, 0, none⟩) os.length os.length, .slice (some ⟨b2, 0, none⟩) rs.length rs.length, .slice (some ⟨b3, 0, none⟩) bs.length bs.length]) (by simp [results, Tryz.results73, go_sem, r0, r1, r2, r3]) rfl ⟨⟨_, _, _, _, b1, b2, b3, ?_, Nat.le_of_eq P8.size.symm, rfl, hm1.keep fun x hx _ => P8.keep x ?_, hm2.keep fun x hx _ => P8.keep x ?_, hv3.keep fun x hx _ => P8.keep x ?_⟩, ?_⟩
 ·show w.heap.size ≤ W2.drew.heap.size; exact nlt hbW.size hbz
 ·have hx' : W2.drew.heap.size ≤ x := hx; omega
 ·omega
 ·omega
 ·exact (hbW.trans (h23.mono hbW.size)).trans (P8.below _ (by omega))
structure QT (w : World) (B d : Nat) (n : Int) (va vb vc : Value) (al : Nat → List Value) (cnt : Nat → Nat) (G : Nat → Prop) (W : World) : Prop where
 bel : Below w.heap.size w W
 blk : W.heap[d]? = some (.cells #[.int .i64 n, va, vb, vc] 25 (0, 0))
 own : ∀ f, 1 ≤ f → f ≤ 3 → W.ownsRow B (qft f) (qfw f) (three va vb vc f) (cnt f) (al f)
 apart : ∀ f g j, f ≠ g → 1 ≤ f → f ≤ 3 → 1 ≤ g → g ≤ 3 → (three va vb vc f).ownBlock = some j → (three va vb vc g).ownBlock ≠ some j
 nod : ∀ f j, 1 ≤ f → f ≤ 3 → (three va vb vc f).ownBlock = some j → j ≠ d
 gin : ∀ x, G x → B ≤ x ∧ x < W.heap.size
 gd : G d
 gf : ∀ f j, 1 ≤ f → f ≤ 3 → (three va vb vc f).ownBlock = some j → G j
 ge : w.heap.size ≤ B
 dB : B ≤ d
section
variable {w W W' : World} {B d : Nat} {n : Int} {va vb vc : Value} {al : Nat → List Value} {cnt : Nat → Nat} {G : Nat → Prop}
theorem QT.dlt (h : QT w B d n va vb vc al cnt G W) : d < W.heap.size := zAb h.blk
theorem QT.call (h : QT w B d n va vb vc al cnt G W) (hb : Below W.heap.size W W') : QT w B d n va vb vc al cnt G W' :=
 ⟨h.bel.trans (hb.mono h.bel.size), (hb.block d h.dlt).trans h.blk,
  fun f h1 h2 => zAA (h.own f h1 h2) fun j hj => by
   obtain ⟨_, cs, hh⟩ := zAe (h.own f h1 h2) hj;exact hb.block j (zAb hh),
  h.apart, h.nod, fun x hx => ⟨(h.gin x hx).1, ltl (h.gin x hx).2 hb.size⟩, h.gd, h.gf, h.ge, h.dB⟩
theorem QT.cells (h : QT w B d n va vb vc al cnt G W) : W.cell? ⟨d, 0, none⟩ = some (.int .i64 n) ∧ W.cell? ⟨d, 1, none⟩ = some va ∧ W.cell? ⟨d, 2, none⟩ = some vb ∧ W.cell? ⟨d, 3, none⟩ = some vc ∧ ∀ o, W.frozen? ⟨d, o, none⟩ = false := by
 simp [World.cell?, World.frozen?, h.blk]
theorem QT.app_blk (h : QT w B d n va vb vc al cnt G W) {f : Nat} (h1 : 1 ≤ f) (h2 : f ≤ 3) {o : Obj} {W2 : World} (hg : (W.alloc o).grownBy W2 (three va vb vc f).ownBlock) {x : Nat} (hx : x < W.heap.size) (hgx : ¬ G x ∨ x = d) : W2.heap[x]? = W.heap[x]? :=
 (hg.block x (by simp; omega) (fun e => by
  rcases hgx with hgx | rfl
  ·exact hgx (h.gf f x h1 h2 e.symm)
  ·exact h.nod f x h1 h2 e.symm rfl)).trans (Below.heap_alloc _ _ _ hx)
theorem QT.append (h : QT w B d n va vb vc al cnt G W) {f : Nat} (h1 : 1 ≤ f) (h2 : f ≤ 3) {xs : List Value} {v' : Value} {o : Obj} {W2 : World}
  (hown : W2.ownsRow B (qft f) (qfw f) v' (cnt f + 1) (al f ++ xs)) (hg : (W.alloc o).grownBy W2 (three va vb vc f).ownBlock)
  (hat : v'.ownBlock = (three va vb vc f).ownBlock ∨ v'.ownBlock = some (W.alloc o).heap.size) :
  QT w B d n (if f = 1 then v' else va) (if f = 2 then v' else vb) (if f = 3 then v' else vc) (fun g => if g = f then al f ++ xs else al g) (fun g => if g = f then cnt f + 1 else cnt g) (fun y => G y ∨ v'.ownBlock = some y) (W2.setCell ⟨d, f, none⟩ v') ∧
  Step W (W2.setCell ⟨d, f, none⟩ v') G (fun y => G y ∨ v'.ownBlock = some y) := by
 have hsz : W.heap.size < W2.heap.size := by have := hg.size; simp at this; omega
 have hnd := h.nod
 have keep : ∀ k, k < W.heap.size → (three va vb vc f).ownBlock ≠ some k → W2.heap[k]? = W.heap[k]? := fun k hk hne =>
  (hg.block k (by simp; omega) (fun e => hne e.symm)).trans (Below.heap_alloc _ _ _ hk)
 have hblk2 : W2.heap[d]? = _ := (keep d h.dlt (fun e => hnd f d h1 h2 e rfl)).trans h.blk;have kset : ∀ k, k ≠ d → (W2.setCell ⟨d, f, none⟩ v').heap[k]? = W2.heap[k]? := fun k hk => bhs _ _ _ _ hk
 have hdW := h.dlt
 have hvd : ∀ j, v'.ownBlock = some j → j ≠ d ∧ j < W2.heap.size ∧ B ≤ j := fun j hj => by
  obtain ⟨g1, cs, hh⟩ := zAe hown hj;refine ⟨?_, zAb hh, g1⟩;rcases hat with e | e
  ·exact h.nod f j h1 h2 (e.symm.trans hj)
  ·rw [e] at hj; cases hj; simp; omega
 refine ⟨⟨?_, ?_, ?_, ?_, ?_, ?_, .inl h.gd, ?_, h.ge, h.dB⟩, ⟨by simp [World.setCell]; omega, fun b hb hgb => ?_, fun b hb hgb => ?_⟩⟩
 ·have h3 : Below w.heap.size (W.alloc o) W2 := (brf _ _).grown hg (by have := h.bel.size; simp; omega) (fun j hj => by have := (zAe (h.own f h1 h2) hj).1; have := h.ge; omega);exact ((h.bel.alloc h.bel.size _).trans h3).setCell (p := ⟨d, f, none⟩) (nlt h.ge h.dB) _
 ·rw [zAd _ hblk2];rcases (by omega : f = 1 ∨ f = 2 ∨ f = 3) with rfl | rfl | rfl <;> simp
 ·intro g g1 g2;rw [zBc va vb vc v' f g h1 h2 g1 g2];by_cases e : g = f
  ·subst e;simp only [if_true];exact zAA hown fun j hj => kset j (hvd j hj).1
  ·simp only [if_neg e];(refine zAA (h.own g g1 g2) fun j hj => ?_);obtain ⟨_, cs, hh⟩ := zAe (h.own g g1 g2) hj;exact (kset j (hnd g j g1 g2 hj)).trans (keep j (zAb hh) (h.apart g f j e g1 g2 h1 h2 hj))
 ·intro g k j hgk g1 g2 k1 k2;rw [zBc va vb vc v' f g h1 h2 g1 g2, zBc va vb vc v' f k h1 h2 k1 k2]
  have old : ∀ g j, 1 ≤ g → g ≤ 3 → (three va vb vc g).ownBlock = some j → j < W.heap.size := fun g j g1 g2 hj => by
   obtain ⟨_, cs, hh⟩ := zAe (h.own g g1 g2) hj;exact zAb hh
  by_cases eg : g = f
  ·by_cases ek : k = f
   ·omega
   ·rw [if_pos eg, if_neg ek];intro hj hk;rcases hat with e | e
    ·rw [e] at hj; exact h.apart f k j (by omega) h1 h2 k1 k2 hj hk
    ·rw [e] at hj; cases hj
     have := old k _ k1 k2 hk; simp at this; omega
  ·rw [if_neg eg];by_cases ek : k = f
   ·rw [if_pos ek];intro hj hk;rcases hat with e | e
    ·rw [e] at hk; exact h.apart g f j (by omega) g1 g2 h1 h2 hj hk
    ·rw [e] at hk; cases hk
     have := old g _ g1 g2 hj; simp at this; omega
   ·rw [if_neg ek]; exact h.apart g k j hgk g1 g2 k1 k2
 ·intro g j g1 g2;rw [zBc va vb vc v' f g h1 h2 g1 g2]
  split
  ·intro hj; exact (hvd j hj).1
  ·intro hj; exact h.nod g j g1 g2 hj
 ·intro x hx;rcases hx with hx | hx
  ·have := h.gin x hx; exact ⟨this.1, by simp [World.setCell]; omega⟩
  ·have := hvd x hx; exact ⟨by omega, by simp [World.setCell]; omega⟩
 ·intro g j g1 g2;rw [zBc va vb vc v' f g h1 h2 g1 g2]
  split
  ·intro hj; exact .inr hj
  ·intro hj; exact .inl (h.gf g j g1 g2 hj)
 ·exact (kset b (fun e => hgb (by rw [e]; exact h.gd))).trans (keep b hb fun e => hgb (h.gf f b h1 h2 e))
 ·rcases hgb with hgb | hgb
  ·exact hgb
  ·rcases hat with e | e
   ·rw [e] at hgb; exact h.gf f b h1 h2 hgb
   ·rw [e] at hgb; cases hgb; simp at hb; omega
end
section
variable {W W' : World} {G G' K : Nat → Prop} {L : Nat}
theorem Step.qisK (s : Step W W' G G') {v : QV} {q : Rat} (h : QIs W (fun b => ¬ G b ∧ K b) L v q) : QIs W' (fun b => ¬ G' b ∧ K b) L v q := by
 have h2 : QIs W (fun b => (¬ G b ∧ ¬ G' b) ∧ K b) L v q := h.imp fun b hb hx => ⟨⟨hx.1, fun hg => hx.1 (s.back b hb hg)⟩, hx.2⟩
 have h3 : QIs W' (fun b => (¬ G b ∧ ¬ G' b) ∧ K b) L v q := h2.keep fun a hx hl => s.cell hl hx.1.1
 exact h3.imp fun b _ hx => ⟨hx.1.2, hx.2⟩
theorem Step.vecK (s : Step W W' G G') {v : SV} {l : List Rat} (h : VecIs W (fun b => ¬ G b ∧ K b) (fun b => ¬ G b ∧ K b) L v l) : VecIs W' (fun b => ¬ G' b ∧ K b) (fun b => ¬ G' b ∧ K b) L v l := by
 have h2 : VecAt W (fun b => (¬ G b ∧ ¬ G' b) ∧ K b) (QIs W (fun b => ¬ G b ∧ K b) L) v l := h.imp (fun b hb hx => ⟨⟨hx.1, fun hg => hx.1 (s.back b hb hg)⟩, hx.2⟩) fun _ _ h => h
 have h3 : VecAt W' (fun b => (¬ G b ∧ ¬ G' b) ∧ K b) (QIs W' (fun b => ¬ G' b ∧ K b) L) v l := h2.keep (fun a hx hl => s.cell hl hx.1.1) fun _ _ h => s.qisK h
 exact h3.imp (fun b _ hx => ⟨hx.1.2, hx.2⟩) fun _ _ h => h
end
theorem zGD {W : World} {base n L : Nat} {v : Value} {ss : List SV} {m : List (List Rat)} (h : W.ownsRow base 23 1 v n (ss.map SV.val)) (hl : ss.length = n) (hm : m.length = n) (he : ∀ k, k < n → VecIs W (fun b => base ≤ b) (fun b => base ≤ b) L (ss.getD k ⟨none, 0, 0⟩) (m.getD k [])) :
  ∃ s : SV, v = s.val ∧ s.n = n ∧ MatIs W (fun b => base ≤ b) (fun b => base ≤ b) L s m := by
 rcases h.2 with ⟨rfl, rfl⟩ | ⟨g, cap, cur, rfl, hbg, hh, hnc, hcap, hcur, ht⟩
 ·exact ⟨⟨none, 0, 0⟩, rfl, rfl, hm, nlr _, nzl _, fun k hk => absurd hk (Nat.not_lt_zero k)⟩
 ·refine ⟨⟨some ⟨g, 0, none⟩, n, cap⟩, rfl, rfl, hm, hnc, (by show cap ≤ _; exact nlt ‹_› (show maxLen ≤ 9223372036854775807 by decide)), fun k hk => ⟨⟨g, 0, none⟩, ss.getD k ⟨none, 0, 0⟩, rfl, hbg, ?_, he k hk⟩⟩;have hk' : k < n := hk;rw [zBk, Nat.zero_add];have e2 : (cur.toList.take (n * 1))[k]? = (ss.map SV.val)[k]? := by rw [ht]
  rw [Nat.mul_one, List.getElem?_take_of_lt hk'] at e2;simp only [World.cell?, hh];have e3 : cur[k]? = (ss.map SV.val)[k]? := by simpa using e2
  rw [List.getElem?_map, gge (by omega)] at e3;have e4 : ss.getD k ⟨none, 0, 0⟩ = ss[k]'(by omega) := by simp [gge (show k < ss.length by omega)]
  rw [e4];simpa using e3
theorem zIH {W : World} {base n L : Nat} {v : Value} {qs : List QV} {l : List Rat} (h : W.ownsRow base 30 4 v n (qs.flatMap cells4q)) (hl : qs.length = n) (hm : l.length = n) (he : ∀ k, k < n → QIs W (fun b => base ≤ b) L (qs.getD k ⟨⟨false, none, 0, 0⟩, ⟨false, none, 0, 0⟩⟩) (l.getD k 0)) :
  ∃ s : SV, v = s.val ∧ s.n = n ∧ VecIs W (fun b => base ≤ b) (fun b => base ≤ b) L s l := by
 rcases h.2 with ⟨rfl, rfl⟩ | ⟨g, cap, cur, rfl, hbg, hh, hnc, hcap, hcur, ht⟩
 ·exact ⟨⟨none, 0, 0⟩, rfl, rfl, hm, nlr _, nzl _, fun k hk => absurd hk (Nat.not_lt_zero k)⟩
 ·refine ⟨⟨some ⟨g, 0, none⟩, n, cap⟩, rfl, rfl, hm, hnc, (by show cap ≤ _; exact nlt ‹_› (show maxLen ≤ 9223372036854775807 by decide)), fun k hk => ⟨⟨g, 0, none⟩, qs.getD k ⟨⟨false, none, 0, 0⟩, ⟨false, none, 0, 0⟩⟩, rfl, hbg, ?_, he k hk⟩⟩;have hk' : k < n := hk
  have ec : ∀ o, o < 4 → W.cell? ⟨g, k * 4 + o, none⟩ = (cells4q (qs.getD k ⟨⟨false, none, 0, 0⟩, ⟨false, none, 0, 0⟩⟩))[o]? := fun o ho => by
   have e2 : (cur.toList.take (n * 4))[k * 4 + o]? = (qs.flatMap cells4q)[k * 4 + o]? := (by rw [ht]);rw [List.getElem?_take_of_lt (by omega), zDB qs k o (by omega) ho ⟨⟨false, none, 0, 0⟩, ⟨false, none, 0, 0⟩⟩] at e2;simp only [World.cell?, hh];simpa using e2
  rw [zBk, Nat.zero_add];exact ⟨ec 0 (by omega), ec 1 (by omega), ec 2 (by omega), ec 3 (by omega)⟩
def ExMid (w : World) (B d : Nat) (n : Int) (L : Nat) (os rs : List (List Rat)) (bs : List Rat) (W : World) : Prop :=
 ∃ (va vb vc : Value) (G : Nat → Prop) (s1 s2 : List SV) (s3 : List QV), s1.length = os.length ∧ s2.length = rs.length ∧ s3.length = bs.length ∧
  QT w B d n va vb vc (pick3 [] (s1.map SV.val) (s2.map SV.val) (s3.flatMap cells4q)) (pick3 0 os.length rs.length bs.length) G W ∧
  (∀ m, m < os.length → VecIs W (fun b => ¬ G b ∧ B ≤ b) (fun b => ¬ G b ∧ B ≤ b) L (s1.getD m ⟨none, 0, 0⟩) (os.getD m [])) ∧
  (∀ m, m < rs.length → VecIs W (fun b => ¬ G b ∧ B ≤ b) (fun b => ¬ G b ∧ B ≤ b) L (s2.getD m ⟨none, 0, 0⟩) (rs.getD m [])) ∧
  (∀ m, m < bs.length → QIs W (fun b => ¬ G b ∧ B ≤ b) L (s3.getD m ⟨⟨false, none, 0, 0⟩, ⟨false, none, 0, 0⟩⟩) (bs.getD m 0))
section
variable {w W W1 W2 : World} {n : Int} {B d L : Nat} {os rs : List (List Rat)} {bs : List Rat} {va vb vc v' : Value} {G : Nat → Prop} {s1 s2 : List SV} {s3 : List QV} {o : Obj}
theorem zI5 (l1 : s1.length = os.length) (l2 : s2.length = rs.length) (l3 : s3.length = bs.length)
  (hQ : QT w B d n va vb vc (pick3 [] (s1.map SV.val) (s2.map SV.val) (s3.flatMap cells4q)) (pick3 0 os.length rs.length bs.length) G W)
  (e1 : ∀ m, m < os.length → VecIs W (fun b => ¬ G b ∧ B ≤ b) (fun b => ¬ G b ∧ B ≤ b) L (s1.getD m ⟨none, 0, 0⟩) (os.getD m []))
  (e2 : ∀ m, m < rs.length → VecIs W (fun b => ¬ G b ∧ B ≤ b) (fun b => ¬ G b ∧ B ≤ b) L (s2.getD m ⟨none, 0, 0⟩) (rs.getD m []))
  (e3 : ∀ m, m < bs.length → QIs W (fun b => ¬ G b ∧ B ≤ b) L (s3.getD m ⟨⟨false, none, 0, 0⟩, ⟨false, none, 0, 0⟩⟩) (bs.getD m 0))
  (hb : Below W.heap.size W W1) {x : SV} {l : List Rat} (hx : VecIs W1 (fun b => ¬ G b ∧ B ≤ b) (fun b => ¬ G b ∧ B ≤ b) L x l)
  (hown : W2.ownsRow B 23 1 v' (rs.length + 1) (s2.map SV.val ++ [x.val])) (hg : (W1.alloc o).grownBy W2 vb.ownBlock) (hat : v'.ownBlock = vb.ownBlock ∨ v'.ownBlock = some (W1.alloc o).heap.size) :
  ExMid w B d n L os (rs ++ [l]) bs (W2.setCell ⟨d, 2, none⟩ v') ∧ ∀ x, x < W.heap.size → ¬ G x → (W2.setCell ⟨d, 2, none⟩ v').heap[x]? = W.heap[x]? := by
 obtain ⟨hQ2, st⟩ := (hQ.call hb).append (f := 2) (by omega) (by omega) (xs := [x.val]) (v' := v') hown hg hat;have st' := (Step.below G hb).trans st
 have ea : (fun g => if g = 2 then pick3 [] (s1.map SV.val) (s2.map SV.val) (s3.flatMap cells4q) 2 ++ [x.val] else pick3 [] (s1.map SV.val) (s2.map SV.val) (s3.flatMap cells4q) g) = pick3 [] (s1.map SV.val) ((s2 ++ [x]).map SV.val) (s3.flatMap cells4q) := by
  funext g; unfold pick3; by_cases h1 : g = 1 <;> by_cases h2 : g = 2 <;> by_cases h3 : g = 3 <;> simp_all <;> simp [cells4q]
 have ec : (fun g => if g = 2 then pick3 0 os.length rs.length bs.length 2 + 1 else pick3 0 os.length rs.length bs.length g) = pick3 0 os.length (rs ++ [l]).length bs.length := by
  funext g; unfold pick3; by_cases h1 : g = 1 <;> by_cases h2 : g = 2 <;> by_cases h3 : g = 3 <;> simp_all
 rw [ea, ec] at hQ2;exact ⟨⟨_, _, _, _, s1, s2 ++ [x], s3, by simp [l1], by simp [l2], by simp [l3], hQ2, fun m hm => st'.vecK (e1 m hm), zGI l2 (fun m hm => st'.vecK (e2 m hm)) (st.vecK hx), fun m hm => st'.qisK (e3 m hm)⟩, st'.keep⟩
end
theorem MPart.own {W : World} {lo hi b B : Nat} {m : List (List Rat)} (h : MPart lo hi b m W) (hB : B ≤ lo) (hn : m.length ≤ 1000000) :
  ∃ ss : List SV, ss.length = m.length ∧ W.ownsRow B 23 1 (.slice (some ⟨b, 0, none⟩) m.length m.length) m.length (ss.map SV.val) ∧ ∀ k, k < m.length → VecCan W (fun x => lo ≤ x ∧ x < hi ∧ x ≠ b) (fun x => lo ≤ x ∧ x < hi ∧ x ≠ b) (ss.getD k ⟨none, 0, 0⟩) (m.getD k []) := by
 obtain ⟨h1, h2, cs, sv, h3, h4, h5⟩ := h;refine ⟨(List.range m.length).map sv, by simp, ⟨by simp, .inr ⟨b, m.length, cs, rfl, by omega, h3, nlr _, by simp only [maxLen]; omega, by omega, ?_⟩⟩, fun k hk => ?_⟩
 ·rw [Nat.mul_one, List.take_of_length_le (by simp; omega)];apply List.ext_getElem
  ·simp [h4]
  ·intro i g1 g2;have hi' : i < m.length := by simp at g2; exact g2
   have := (h5 i hi').1;rw [Array.getElem?_eq_getElem (by omega)] at this;simpa using this
 ·rw [zBN _ _ _ _ hk];exact (h5 k hk).2
theorem VPart.own {W : World} {lo hi b B : Nat} {l : List Rat} (h : VPart lo hi b l W) (hB : B ≤ lo) (hn : l.length ≤ 1000000) :
  ∃ ss : List QV, ss.length = l.length ∧ W.ownsRow B 30 4 (.slice (some ⟨b, 0, none⟩) l.length l.length) l.length (ss.flatMap cells4q) ∧ ∀ k, k < l.length → QCan W (fun x => lo ≤ x ∧ x < hi ∧ x ≠ b) (ss.getD k ⟨⟨false, none, 0, 0⟩, ⟨false, none, 0, 0⟩⟩) (l.getD k 0) := by
 obtain ⟨h1, h2, h3⟩ := h;obtain ⟨f, hf⟩ := Deep.choose_lt (α := QV) (n := l.length) (p := fun k v => QCell W ⟨b, k * 4, none⟩ v ∧ QCan W (fun x => ¬ ¬ (lo ≤ x ∧ x < hi ∧ x ≠ b)) v (l.getD k 0)) (fun k hk => h3.elem k hk);obtain ⟨cs, e, hs⟩ := h3.blk
 have hfl : ∀ n, (((List.range n).map f).flatMap cells4q).length = n * 4 := fun n => by
  induction n with
  | zero => rfl
  | succ n ih => rw [List.range_succ, List.map_append, List.flatMap_append, List.length_append, ih]; simp [cells4q]; omega
 refine ⟨(List.range l.length).map f, by simp, ⟨hfl _, .inr ⟨b, l.length, cs, rfl, by omega, e, nlr _, by simp only [maxLen]; omega, by omega, ?_⟩⟩, fun k hk => ?_⟩
 ·rw [List.take_of_length_le (by simp; omega)];apply List.ext_getElem?;intro i;by_cases hi' : i < l.length * 4
  ·have hk : i / 4 < l.length := (by omega);have e1 := zDB ((List.range l.length).map f) (i / 4) (i % 4) (by simpa using hk) (by omega) ⟨⟨false, none, 0, 0⟩, ⟨false, none, 0, 0⟩⟩;rw [show i / 4 * 4 + i % 4 = i by omega, zBN _ _ _ _ hk] at e1;rw [e1];obtain ⟨q0, q1, q2, q3⟩ := (hf (i / 4) hk).1;simp only [World.cell?, e] at q0 q1 q2 q3;have ei : i = i / 4 * 4 + i % 4 := (by omega);have ho : i % 4 < 4 := (by omega);generalize i / 4 = k at *;generalize i % 4 = o at *;subst ei;rcases (by omega : o = 0 ∨ o = 1 ∨ o = 2 ∨ o = 3) with rfl | rfl | rfl | rfl <;> simp only [cells4q, List.getElem?_cons_zero, List.getElem?_cons_succ, Array.getElem?_toList]
   ·simpa using q0
   ·simpa using q1
   ·simpa using q2
   ·simpa using q3
  ·rw [List.getElem?_eq_none (by simp; omega), List.getElem?_eq_none (by rw [hfl]; omega)]
 ·rw [zBN _ _ _ _ hk];exact (hf k hk).2.imp fun x _ hx => Classical.not_not.1 hx
def LPRet (w : World) (n : Int) (L : Nat) (os rs : List (List Rat)) (bs : List Rat) (e : Ending) (w' : World) : Prop :=
 ∃ q : LPV, e = .returned (.tuple #[q.val, .int .i64 0]) ∧ q.n = n ∧ LPIs w' (fun x => w.heap.size ≤ x) (fun x => w.heap.size ≤ x) L q os rs bs
theorem zEo (w : World) (v : QV) : ∀ j u, (cells4q v)[j]? = some u → (w.alloc (.cells #[.bool v.num.ng, .slice v.num.A v.num.n v.num.c, .bool v.den.ng, .slice v.den.A v.den.n v.den.c] 30)).cell? (Addr.add ⟨w.heap.size, 0, none⟩ j) = some u := by
 intro j u h;rw [zBk, Nat.zero_add];have e : (w.alloc (.cells #[.bool v.num.ng, .slice v.num.A v.num.n v.num.c, .bool v.den.ng, .slice v.den.A v.den.n v.den.c] 30)).heap[w.heap.size]? = some (.cells #[.bool v.num.ng, .slice v.num.A v.num.n v.num.c, .bool v.den.ng, .slice v.den.A v.den.n v.den.c] 30 (0, 0)) := zAc _ _ rfl;simp only [World.cell?, e];simpa [cells4q] using h
theorem ExMid.call {w W W' : World} {B d L : Nat} {n : Int} {os rs : List (List Rat)} {bs : List Rat} (h : ExMid w B d n L os rs bs W) (hb : Below W.heap.size W W') : ExMid w B d n L os rs bs W' := by
 obtain ⟨va, vb, vc, G, s1, s2, s3, l1, l2, l3, hQ, e1, e2, e3⟩ := h;exact ⟨va, vb, vc, G, s1, s2, s3, l1, l2, l3, hQ.call hb, fun m hm => (e1 m hm).below hb, fun m hm => (e2 m hm).below hb, fun m hm => (e3 m hm).below hb⟩
theorem zH5 {w W : World} {B d : Nat} {n : Int} {va vb vc : Value} {a1 a2 a3 : List Value} {c1 c2 c3 : Nat} {G : Nat → Prop} (h : QT w B d n va vb vc (pick3 [] a1 a2 a3) (pick3 0 c1 c2 c3) G W) :
  W.ownsRow B 23 1 va c1 a1 ∧ W.ownsRow B 23 1 vb c2 a2 ∧ W.ownsRow B 30 4 vc c3 a3 :=
 ⟨h.own 1 (by omega) (by omega), h.own 2 (by omega) (by omega), h.own 3 (by omega) (by omega)⟩
theorem zIX {w W W1 : World} {B d L : Nat} {n : Int} {va vb vc : Value} {al : Nat → List Value} {cnt : Nat → Nat} {G : Nat → Prop} {s : SV} {l : List Rat} (hQ : QT w B d n va vb vc al cnt G W) (hz : VecCan W1 (New W.heap.size) (New W.heap.size) s l) (hf : ∀ k, QFit L (l.getD k 0)) : VecIs W1 (fun b => ¬ G b ∧ B ≤ b) (fun b => ¬ G b ∧ B ≤ b) L s l :=
 have hk : ∀ b, New W.heap.size b → ¬ G b ∧ B ≤ b := fun b hb => by simp only [New] at hb; exact ⟨fun hg => by have := (hQ.gin b hg).2; omega, by have := hQ.dlt; have := hQ.dB; omega⟩
 (hz.loose hf).imp (fun b _ hb => hk b hb) fun v q hq => hq.imp fun b _ hb => hk b hb
open Go.RowKit Go.Shelf Lin
theorem zGL (f g : Nat → Rat) (a : Nat) : ∀ b, vcmp f g (a + b) = if vcmp f g a = 0 then vcmp (fun i => f (a + i)) (fun i => g (a + i)) b else vcmp f g a
 | 0 => by rw [Nat.add_zero]; split <;> simp_all [vcmp]
 | b + 1 => by
  show (if vcmp f g (a + b) = 0 then qcmp (f (a + b)) (g (a + b)) else vcmp f g (a + b)) = _;rw [zGL f g a b];by_cases h : vcmp f g a = 0
  ·simp only [if_pos h]; rfl
  ·simp only [if_neg h]
theorem zIJ (p q : Rat) : qcmp (- p) (- q) = qcmp q p := by
 unfold qcmp; grind
theorem zGM (f g : Nat → Rat) : ∀ n, vcmp (fun i => - f i) (fun i => - g i) n = vcmp g f n
 | 0 => rfl
 | n + 1 => by
  show (if vcmp (fun i => - f i) (fun i => - g i) n = 0 then qcmp (- f n) (- g n) else _) = (if vcmp g f n = 0 then qcmp (g n) (f n) else vcmp g f n);rw [zGM f g n, zIJ]
theorem zEH {f f' g g' : Nat → Rat} : ∀ {n : Nat}, (∀ i, i < n → f i = f' i) → (∀ i, i < n → g i = g' i) → vcmp f g n = vcmp f' g' n
 | 0, _, _ => rfl
 | n + 1, h, h' => by
  show (if vcmp f g n = 0 then qcmp (f n) (g n) else vcmp f g n) = (if vcmp f' g' n = 0 then qcmp (f' n) (g' n) else vcmp f' g' n);rw [zEH (fun i hi => h i (by omega)) fun i hi => h' i (by omega), h n (by omega), h' n (by omega)]
theorem zIR {f g : Nat → Rat} {N : Nat} (h : LexPos N fun l => f l - g l) : vcmp f g N = 1 := by
 obtain ⟨i, hi, h1, h2⟩ := h;rw [zDf (x := i) (fun j hj => by have := h2 j hj; grind) (by grind) hi];unfold qcmp; grind
theorem zGp {V : Nat} {r x : List Rat} (hr : r.length ≤ V) (hx : x.length = V) : dotL r x = sum V fun k => r.getD k 0 * x.getD k 0 := by
 unfold dotL;rw [hx, Nat.min_eq_left hr]
 have h : ∀ d, sum (r.length + d) (fun k => r.getD k 0 * x.getD k 0) = sum r.length fun k => r.getD k 0 * x.getD k 0 := fun d => by
  induction d with
  | zero => rfl
  | succ d ih =>
   show sum (r.length + d) _ + r.getD (r.length + d) 0 * x.getD (r.length + d) 0 = _;rw [ih, zAP r _ _ (by omega)]; grind
 rw [← h (V - r.length), show r.length + (V - r.length) = V by omega]
theorem zHQ {V : Nat} {os rs : List (List Rat)} {bs x y : List Rat} (hc : colsOf os ≤ V) (hx : x.length = V) (hy : y.length = V) :
  lpcmp os x y = vcmp (fun l => (probOf V os rs bs).obj l fun k => x.getD k 0) (fun l => (probOf V os rs bs).obj l fun k => y.getD k 0) (os.length + V) := by
 have e1 : ∀ z : List Rat, z.length = V → ∀ i, i < os.length → (probOf V os rs bs).obj i (fun k => z.getD k 0) = (os.map fun r => dotL r z).getD i 0 := fun z hz i hi => by
  rw [show (os.map fun r => dotL r z).getD i 0 = dotL (os.getD i []) z by simp [hi], zGp (zAI hc i) hz];show (if i < os.length then _ else _) = _;rw [if_pos hi]; rfl
 have e2 : ∀ z : List Rat, ∀ i, (probOf V os rs bs).obj (os.length + i) (fun k => z.getD k 0) = - z.getD i 0 := fun z i => by
  show (if os.length + i < os.length then _ else - z.getD (os.length + i - os.length) 0) = _;rw [if_neg (by omega), show os.length + i - os.length = i by omega]
 rw [zGL, zEH (n := os.length) (e1 x hx) (e1 y hy)];simp only [e2];rw [zGM];unfold lpcmp;rw [hx, hy, Nat.max_self]
section
variable {V : Nat} {os rs : List (List Rat)} {bs row : List Rat} {most : Rat}
theorem zH2 {w w' : World} {P : Prob} {r : RV} {k N : Nat} (h : Solved w P r w') (hk : r.kind = 1) (h1 : 1 ≤ k) (h0 : P.start.Fits P k) (hN : 5 ^ P.n * k ≤ N) (hN2 : N < 32 * 6000) : ∃ l : List Rat, l.length = P.n ∧ (∀ i, Lin.Fits N (l.getD i 0)) ∧ VecIs w' AllB AllB 6000 r.X l ∧ P.Optimal fun k => l.getD k 0 := by
 have hh := h;rcases h with ⟨_, D, l, hg, hf, hc, hl, hopt, hx, _⟩ | ⟨hk', _⟩ | ⟨hk', _⟩
 ·have hF : ∀ i, Lin.Fits N (l.getD i 0) := fun i => (zIG hh hk h1 h0 hl hopt i).mono hN
  exact ⟨l, hl, hF, (hx.loose fun i => zB7 (hF i) hN2).imp (fun _ _ _ => trivial) fun _ _ hq => hq.imp fun _ _ _ => trivial, hopt⟩
 ·rw [hk] at hk'; cases hk'
 ·rw [hk] at hk'; cases hk'
end
theorem zHP {w : World} {X Y : Nat → Prop} {N L : Nat} {s : SV} {l : List Rat} (h : VecCan w X Y s l) (hF : ∀ i, Lin.Fits N (l.getD i 0)) (hN : N < 32 * L) : VecIs w AllB AllB L s l :=
 (h.loose fun i => zB7 (hF i) hN).imp (fun _ _ _ => trivial) fun _ _ hq => hq.imp fun _ _ _ => trivial
namespace Lin
theorem LexPos.shear {N : Nat} {f g c : Nat → Rat} (h : LexPos N f) (h0 : c 0 = 0) (e : ∀ i, i < N → g i = f i + c i * f 0) : LexPos N g := by
 obtain ⟨i, hi, h1, h2⟩ := h
 have z : ∀ j, j < i → c j * f 0 = 0 := fun j hj => by
  have : f 0 = 0 := h2 0 (by omega);rw [this]; grind
 refine ⟨i, hi, ?_, fun j hj => ?_⟩
 ·rw [e i hi];by_cases hi0 : i = 0
  ·subst hi0; rw [h0]; grind
  ·have : f 0 = 0 := h2 0 (by omega);rw [this]; grind
 ·rw [e j (by omega), h2 j hj, z j hj]; grind
structure Shear (P Q : Prob) (c : Nat → Rat) : Prop where
 n : Q.n = P.n
 K : Q.K = P.K
 feas : ∀ x, Q.Feasible x ↔ P.Feasible x
 hom : ∀ d : Nat → Rat, (∀ i, i < P.m → sum P.n (fun k => P.A i k * d k) ≤ 0) → ∀ i, i < Q.m → sum Q.n (fun k => Q.A i k * d k) ≤ 0
 c0 : c 0 = 0
 obj : ∀ l, l < P.K → ∀ k, Q.O l k = P.O l k + c l * P.O 0 k
theorem Shear.sum {P Q : Prob} {c : Nat → Rat} (h : Shear P Q c) {l : Nat} (hl : l < P.K) (z : Nat → Rat) : sum P.n (fun k => Q.O l k * z k) = sum P.n (fun k => P.O l k * z k) + c l * sum P.n fun k => P.O 0 k * z k := by
 rw [← zIo, ← zE8]; exact zAy fun k _ => by rw [h.obj l hl k]; grind
theorem Shear.better {P Q : Prob} {c : Nat → Rat} (h : Shear P Q c) (hK : 0 < P.K) {x y : Nat → Rat} (hb : P.Better x y) : Q.Better x y := by
 unfold Prob.Better at hb ⊢;rw [h.n, h.K];refine LexPos.shear (c := fun l => if l < P.K then c l else 0) hb (by rw [if_pos hK]; exact h.c0) fun l hl => ?_
 simp only [Prob.obj, h.K, h.n, if_pos hK];by_cases hl' : l < P.K
 ·simp only [if_pos hl'];rw [h.sum hl' x, h.sum hl' y]; grind
 ·simp only [if_neg hl']; grind
theorem Shear.optimal {P Q : Prob} {c : Nat → Rat} (h : Shear P Q c) (hK : 0 < P.K) {x : Nat → Rat} (ho : P.Optimal x) : Q.Optimal x :=
 ⟨(h.feas x).2 ho.1, fun y hy => (ho.2 y ((h.feas y).1 hy)).elim (fun hb => .inl (h.better hK hb)) fun hs => .inr (by rw [h.n]; exact hs)⟩
theorem Shear.unbounded {P Q : Prob} {c : Nat → Rat} (h : Shear P Q c) {x d : Nat → Rat} (hu : P.Unbounded x d) : Q.Unbounded x d := by
 refine ⟨(h.feas x).2 hu.1, by rw [h.n]; exact hu.2.1, h.hom d hu.2.2.1, ?_⟩;rw [h.K, h.n];exact LexPos.shear hu.2.2.2 h.c0 fun l hl => h.sum hl d
end Lin
def combV (k : Rat) (a b : List Rat) : List Rat := (List.range (max a.length b.length)).map fun i => k * a.getD i 0 + b.getD i 0
theorem zFf (k : Rat) (a b : List Rat) (j : Nat) : (combV k a b).getD j 0 = k * a.getD j 0 + b.getD j 0 := by
 unfold combV;by_cases h : j < max a.length b.length
 ·rw [zAJ _ _ h]
 ·rw [zAP _ _ _ (by simp; omega), zAP a _ _ (by omega), zAP b _ _ (by omega)]; grind
def objAt (k : Rat) (os : List (List Rat)) (i t : Nat) : List Rat := if 1 ≤ t ∧ t < i then combV k (os.getD 0 []) (os.getD t []) else os.getD t []
def objs (k : Rat) (os : List (List Rat)) (i : Nat) : List (List Rat) := (List.range os.length).map (objAt k os i)
theorem zGy (k : Rat) (os : List (List Rat)) (i : Nat) : (objs k os i).length = os.length := by simp [objs]
theorem zIF (k : Rat) (os : List (List Rat)) : objs k os 1 = os := by
 apply List.ext_getElem (by simp [objs]);intro i h1 h2;simp [objs, objAt, h2];intro h3 h4; omega
theorem zHW {k : Rat} {os : List (List Rat)} {i : Nat} (h : 1 ≤ i) : (objs k os i).set i (combV k (os.getD 0 []) (os.getD i [])) = objs k os (i + 1) := by
 apply List.ext_getElem (by simp [objs]);intro j h1 h2;have hj : j < os.length := by simpa [objs] using h2
 rw [List.getElem_set];by_cases e : i = j
 ·subst e;simp only [if_true, objs, List.getElem_map, List.getElem_range, objAt];rw [if_pos ⟨h, Nat.lt_succ_self _⟩]
 ·rw [if_neg e];simp only [objs, List.getElem_map, List.getElem_range, objAt];by_cases e2 : 1 ≤ j ∧ j < i
  ·rw [if_pos e2, if_pos ⟨e2.1, by omega⟩]
  ·rw [if_neg e2, if_neg (by omega)]
theorem zIE {k : Rat} {os : List (List Rat)} {i t : Nat} (h : t < os.length) : (objs k os i).getD t [] = objAt k os i t := by
 unfold objs; rw [zAJ _ _ h]
theorem zHV {k : Rat} {os : List (List Rat)} {V : Nat} (h : colsOf os ≤ V) (i : Nat) : colsOf (objs k os i) ≤ V :=
 zAN.2 fun l hl => by
  obtain ⟨t, _, rfl⟩ := List.mem_map.1 hl;unfold objAt
  split
  ·unfold combV;have h1 := zAI h 0;have h2 := zAI h t;rw [List.length_map, List.length_range]; omega
  ·exact zAI h t
theorem zHm {V : Nat} {k : Rat} {os rs : List (List Rat)} {bs : List Rat} : Shear (probOf V os rs bs) (probOf V (objs k os os.length) rs bs) fun l => if l = 0 then 0 else k := by
 refine ⟨rfl, by show (objs k os os.length).length = os.length; exact zGy _ _ _, fun x => Iff.rfl, fun d h => h, if_pos rfl, fun l hl j => ?_⟩;have hl' : l < os.length := hl;show ((objs k os os.length).getD l []).getD j 0 = (os.getD l []).getD j 0 + (if l = 0 then 0 else k) * (os.getD 0 []).getD j 0;rw [zIE hl'];unfold objAt;by_cases h0 : l = 0
 ·subst h0;rw [if_neg (by omega), if_pos rfl]; grind
 ·rw [if_pos ⟨by omega, hl'⟩, if_neg h0, zFf]; grind
def Obj12 (V : Nat) (os rs : List (List Rat)) (bs : List Rat) (r s : RV) (x1 x2 : World) : Prop :=
 (r.kind = 1 ∧ s.kind = 1 ∧ ∃ l : List Rat, l.length = V ∧ (∀ i, Lin.Fits 180000 (l.getD i 0)) ∧ VecIs x1 AllB AllB 6000 r.X l ∧ VecIs x2 AllB AllB 6000 s.X l ∧ (probOf V os rs bs).Optimal fun k => l.getD k 0) ∨
 (r.kind = 2 ∧ s.kind = 2 ∧ ∀ x, ¬ (probOf V os rs bs).Feasible x) ∨ (r.kind = 3 ∧ s.kind = 3 ∧ ∃ x, (probOf V os rs bs).Feasible x)
theorem obj12 {w1 x1 w2 x2 : World} {r s : RV} {V c : Nat} {k : Rat} {os rs : List (List Rat)} {bs : List Rat} (hV : V ≤ 4) (hK : 1 ≤ os.length) (h1 : Solved w1 (probOf V os rs bs) r x1) (h2 : Solved w2 (probOf V (objs k os os.length) rs bs) s x2)
  (p1 : 1 ≤ c) (q1 : c ≤ 288) (f1 : (probOf V os rs bs).start.Fits (probOf V os rs bs) c) : Obj12 V os rs bs r s x1 x2 := by
 have h5 : 5 ^ V ≤ 625 := nlt (Nat.pow_le_pow_right (by omega) hV) (by decide);have n1 : 5 ^ V * c ≤ 180000 := nlt (Nat.mul_le_mul h5 q1) (by decide);have hA := zHm (V := V) (k := k) (os := os) (rs := rs) (bs := bs);have hh1 := h1;rcases h1 with ⟨e1, _⟩ | ⟨e1, _, _, _, _, _, _, no1, _⟩ | ⟨e1, l, l', ll, ll', hu, _⟩
 ·obtain ⟨l, ll, lf, lv, lo⟩ := zH2 hh1 e1 p1 f1 n1 (by decide);obtain ⟨k', l2, n2, e2, v2⟩ := h2.opt (hA.optimal (show 0 < os.length by omega) lo)
  have : l2 = l := by
   (refine List.ext_getElem (by rw [n2, ll]; rfl) fun k h1 h2 => ?_);have := e2 k (by rw [← n2]; exact h1);simpa [gdd, h1, h2] using this
  subst this;exact .inl ⟨e1, k', l2, ll, lf, lv, zHP v2 lf (by decide), lo⟩
 ·exact .inr (.inl ⟨e1, (h2.inf fun x hx => no1 x ((hA.feas x).1 hx)).1, no1⟩)
 ·exact .inr (.inr ⟨e1, (h2.unb (hA.unbounded hu)).1, _, hu.1⟩)
def Obj3 (V : Nat) (os rs : List (List Rat)) (bs : List Rat) (r t : RV) (x3 : World) : Prop :=
 (r.kind = 1 → t.kind = 1 ∧ ∀ l : List Rat, l.length = V → ((probOf V os rs bs).Optimal fun k => l.getD k 0) → ∃ z : List Rat, z.length = V ∧ (∀ i, Lin.Fits 180000 (z.getD i 0)) ∧ VecIs x3 AllB AllB 6000 t.X z ∧ dotL (os.getD 0 []) z = dotL (os.getD 0 []) l ∧ 0 ≤ lpcmp [os.getD 0 []] z l) ∧
 (r.kind = 2 → t.kind = 2) ∧ (r.kind = 3 → t.kind = 1 ∨ t.kind = 3)
theorem zGx {V : Nat} {os rs : List (List Rat)} {bs : List Rat} (hK : 1 ≤ os.length) (x : Nat → Rat) : (probOf V [os.getD 0 []] rs bs).obj 0 x = (probOf V os rs bs).obj 0 x := by
 have e1 : (0 : Nat) < (probOf V [os.getD 0 []] rs bs).K := Nat.zero_lt_one;have e2 : (0 : Nat) < (probOf V os rs bs).K := hK;unfold Prob.obj;rw [if_pos e1, if_pos e2];rfl
theorem zCv {N : Nat} {f : Nat → Rat} (h : LexPos N f) : 0 ≤ f 0 := by
 obtain ⟨i, hi, h1, h2⟩ := h;by_cases e : i = 0
 ·subst e; exact Rat.le_of_lt h1
 ·rw [h2 0 (by omega)]; exact Rat.le_refl
theorem zHU {V : Nat} {os rs : List (List Rat)} {bs x : List Rat} (hK : 1 ≤ os.length) (hc : colsOf os ≤ V) (hx : x.length = V) : (probOf V os rs bs).obj 0 (fun k => x.getD k 0) = dotL (os.getD 0 []) x := by
 have e2 : (0 : Nat) < (probOf V os rs bs).K := hK;rw [zGp (zAI hc 0) hx];unfold Prob.obj;rw [if_pos e2];rfl
theorem zEr {V : Nat} {os rs : List (List Rat)} {bs : List Rat} (hK : 1 ≤ os.length) {x y : Nat → Rat} (h : ∀ k, k < V → x k = y k) : (probOf V os rs bs).obj 0 x = (probOf V os rs bs).obj 0 y := by
 have e2 : (0 : Nat) < (probOf V os rs bs).K := hK;unfold Prob.obj;rw [if_pos e2, if_pos e2];exact zAy fun k hk => by rw [h k hk]
theorem obj3 {w1 x1 w3 x3 : World} {r t : RV} {V c : Nat} {os rs : List (List Rat)} {bs : List Rat} (hV : V ≤ 4) (hK : 1 ≤ os.length) (hc : colsOf os ≤ V) (h1 : Solved w1 (probOf V os rs bs) r x1) (h3 : Solved w3 (probOf V [os.getD 0 []] rs bs) t x3)
  (p1 : 1 ≤ c) (q1 : c ≤ 288) (f1 : (probOf V [os.getD 0 []] rs bs).start.Fits (probOf V [os.getD 0 []] rs bs) c) : Obj3 V os rs bs r t x3 := by
 have h5 : 5 ^ V ≤ 625 := nlt (Nat.pow_le_pow_right (by omega) hV) (by decide);have n1 : 5 ^ V * c ≤ 180000 := nlt (Nat.mul_le_mul h5 q1) (by decide);have hf : ∀ x, (probOf V [os.getD 0 []] rs bs).Feasible x ↔ (probOf V os rs bs).Feasible x := fun x => Iff.rfl
 have hu : ∀ x d, (probOf V [os.getD 0 []] rs bs).Unbounded x d → (probOf V os rs bs).Unbounded x d := fun x d h => ⟨h.1, h.2.1, h.2.2.1, by
  obtain ⟨i, hi, g1, g2⟩ := h.2.2.2;obtain rfl : i = 0 := by have : i < 1 := hi; omega
  exact ⟨0, hK, g1, fun j hj => by omega⟩⟩
 have hh3 := h3;have hh1 := h1;refine ⟨fun e1 => ?_, fun e1 => ?_, fun e1 => ?_⟩
 ·have ht : t.kind = 1 := by
   rcases h1 with ⟨_, D, l, _, _, _, hl, hopt, hx, _⟩ | ⟨e, _⟩ | ⟨e, _⟩
   ·rcases h3 with ⟨e3, _⟩ | ⟨e3, _, _, _, _, _, _, no3, _⟩ | ⟨e3, l3, l3', _, _, hu3, _⟩
    ·exact e3
    ·exact absurd ((hf _).2 hopt.1) (no3 _)
    ·exact absurd hopt ((hu _ _ hu3).no_optimal _)
   ·rw [e1] at e; cases e
   ·rw [e1] at e; cases e
  refine ⟨ht, fun l hl hopt => ?_⟩;obtain ⟨z, lz, zf, zv, zo⟩ := zH2 hh3 ht p1 f1 n1 (by decide);have lz' : z.length = V := lz;have hc1 : colsOf [os.getD 0 []] ≤ V := zAN.2 fun a ha => by rw [List.mem_singleton.1 ha]; exact zAI hc 0
  have fz := (hf _).1 zo.1
  have a1 : (probOf V os rs bs).obj 0 (fun k => z.getD k 0) ≤ (probOf V os rs bs).obj 0 (fun k => l.getD k 0) := by
   rcases hopt.2 _ fz with h | h
   ·have := zCv h; grind
   ·have := zEr (V := V) (rs := rs) (bs := bs) hK h; grind
  have a2 : (probOf V os rs bs).obj 0 (fun k => l.getD k 0) ≤ (probOf V os rs bs).obj 0 (fun k => z.getD k 0) := by
   rcases zo.2 _ ((hf _).2 hopt.1) with h | h
   ·have := zCv h;rw [zGx hK, zGx hK] at this; grind
   ·have := zEr (V := V) (rs := rs) (bs := bs) hK h; grind
  refine ⟨z, lz', zf, zv, ?_, ?_⟩
  ·rw [← zHU (rs := rs) (bs := bs) hK hc lz', ← zHU (rs := rs) (bs := bs) hK hc hl];exact Rat.le_antisymm a1 a2
  ·rw [zHQ (rs := rs) (bs := bs) hc1 lz' hl];rcases zo.2 _ ((hf _).2 hopt.1) with h | h
   ·have e : vcmp (fun i => (probOf V [os.getD 0 []] rs bs).obj i fun k => z.getD k 0) (fun i => (probOf V [os.getD 0 []] rs bs).obj i fun k => l.getD k 0) ([os.getD 0 []].length + V) = 1 := zIR h;rw [e]; decide
   ·have : z = l := by
     (refine List.ext_getElem (by rw [lz', hl]) fun k g1 g2 => ?_);have := h k (by rw [← lz]; exact g1);simpa [gdd, g1, g2] using this.symm
    subst this;exact Int.le_of_eq (zCf fun _ _ => rfl).symm
 ·rcases h1 with ⟨e, _⟩ | ⟨_, _, _, _, _, _, _, no1, _⟩ | ⟨e, _⟩
  ·rw [e1] at e; cases e
  ·exact (h3.inf fun x hx => no1 x ((hf x).1 hx)).1
  ·rw [e1] at e; cases e
 ·rcases h1 with ⟨e, _⟩ | ⟨e, _⟩ | ⟨_, l, l', _, _, hu1, _⟩
  ·rw [e1] at e; cases e
  ·rw [e1] at e; cases e
  ·rcases h3 with ⟨e3, _⟩ | ⟨e3, _, _, _, _, _, _, no3, _⟩ | ⟨e3, _⟩
   ·exact .inl e3
   ·exact absurd ((hf _).2 hu1.1) (no3 _)
   ·exact .inr e3
end Go.Proofs.YtlepljpdkbjbhaaGreat
