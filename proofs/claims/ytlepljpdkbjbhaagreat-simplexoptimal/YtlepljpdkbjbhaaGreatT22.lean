/- Texts Solved AliveM Alive2 Alive3 Scal1 Scal2 ScalB ScalC Dot MulVec Feas of this claim. -/
import Derived.Test.YtlepljpdkbjbhaaGreatT21
import Derived.Test.YtlepljpdkbjbhaaGreatT20
import Derived.Test.YtlepljpdkbjbhaaGreatT14
import Derived.Test.YtlepljpdkbjbhaaGreatT19
import Derived.Test.YtlepljpdkbjbhaaGreatT16
import Derived.Test.YtlepljpdkbjbhaaGreatT15
namespace Go.Proofs.YtlepljpdkbjbhaaGreat
namespace Lin
theorem Prob.Feasible.congr {P : Prob} {x y : Nat → Rat} (h : P.Feasible x) (e : ∀ k, k < P.n → x k = y k) : P.Feasible y :=
 ⟨fun k hk => by rw [← e k hk]; exact h.1 k hk, fun i hi => by rw [sum_congr (g := fun k => P.A i k * x k) fun k hk => by rw [e k hk]]; exact h.2 i hi⟩
theorem Prob.Better.congr {P : Prob} {x x' y y' : Nat → Rat} (h : P.Better x y) (e : ∀ k, k < P.n → x k = x' k) (e' : ∀ k, k < P.n → y k = y' k) : P.Better x' y' :=
 LexPos.congr h fun l hl => by rw [obj_congr e hl, obj_congr e' hl]
theorem Prob.Optimal.congr {P : Prob} {x y : Nat → Rat} (h : P.Optimal x) (e : ∀ k, k < P.n → x k = y k) : P.Optimal y :=
 ⟨h.1.congr e, fun z hz => (h.2 z hz).elim (fun hb => .inl (hb.congr e fun _ _ => rfl)) fun hs => .inr fun k hk => by rw [hs k hk, e k hk]⟩
theorem Prob.Unbounded.congr {P : Prob} {x y d d' : Nat → Rat} (h : P.Unbounded x d) (e : ∀ k, k < P.n → x k = y k) (e' : ∀ k, k < P.n → d k = d' k) : P.Unbounded y d' :=
 ⟨h.1.congr e, fun k hk => by rw [← e' k hk]; exact h.2.1 k hk, fun i hi => by rw [sum_congr (g := fun k => P.A i k * d k) fun k hk => by rw [e' k hk]]; exact h.2.2.1 i hi, LexPos.congr h.2.2.2 fun l _ => sum_congr fun k hk => by rw [e' k hk]⟩
end Lin
open Go.RowKit Go.Shelf
theorem qfit_fits {L : Nat} {q : Rat} (h : QFit L q) : Lin.Fits (32 * L) q := by
 have e : Num.base ^ L = 2 ^ (32 * L) := by rw [Nat.pow_mul]; rfl
 exact ⟨by rw [← e]; exact Nat.le_of_lt h.1, by rw [← e]; exact Nat.le_of_lt h.2⟩
theorem VecAt.fit {w : World} {X Y : Nat → Prop} {L : Nat} {s : SV} {l : List Rat} (h : VecIs w X Y L s l) (k : Nat) : QFit (L + 1) (l.getD k 0) := by
 by_cases hk : k < s.n
 ·obtain ⟨_, v, _, _, _, hq⟩ := h.elem k hk
  exact hq.fit
 ·rw [getD_none _ _ _ (by rw [h.len]; omega)]; exact QFit.zero L
def Solved (w : World) (P : Lin.Prob) (r : RV) (w' : World) : Prop :=
 (r.kind = 1 ∧ ∃ (D : Lin.Dict) (l : List Rat), Lin.Good P D ∧ Lin.Feas P D ∧ (∀ j, j < P.n → ¬ CandP P D j) ∧ l.length = P.n ∧ P.Optimal (fun k => l.getD k 0) ∧ VecCan w' (New w.heap.size) (New w.heap.size) r.X l ∧ MatCan w' (New w.heap.size) (New w.heap.size) r.Y ((List.range P.m).map fun i => (List.range (P.K + P.n)).map (priceTo D P.n P.m P.K P.n i))) ∨
 (r.kind = 2 ∧ ∃ (D : Lin.Dict) (k : Nat), Lin.Good P D ∧ k < P.m ∧ D.a k P.n < 0 ∧ (∀ j, j < P.n → 0 ≤ D.a k j) ∧ (∀ x, ¬ P.Feasible x) ∧ VecCan w' (New w.heap.size) (New w.heap.size) r.F ((List.range P.m).map (farkasOf D P.n k))) ∨
 (r.kind = 3 ∧ ∃ l l' : List Rat, l.length = P.n ∧ l'.length = P.n ∧ P.Unbounded (fun k => l.getD k 0) (fun k => l'.getD k 0) ∧ VecCan w' (New w.heap.size) (New w.heap.size) r.X l ∧ VecCan w' (New w.heap.size) (New w.heap.size) r.R l' ∧ ∃ (D : Lin.Dict) (s : Nat), Lin.Good P D ∧ s < P.n ∧ l = (List.range P.n).map (D.point P) ∧ l' = (List.range P.n).map (D.dir P s))
theorem solved_of {w w' : World} {P : Lin.Prob} {e : Ending} (h : SolveRet w P e w') : ∃ r : RV, e = .returned (.tuple #[r.val, .int .i64 0]) ∧ Solved w P r w' := by
 obtain ⟨r, he, hr⟩ := h
 refine ⟨r, he, ?_⟩
 rcases hr with ⟨hk, D, l, hg, hf, ho, rfl, hx, hy, _, _⟩ | ⟨hk, D, k, l, hg, h1, h2, h3, rfl, hF, _, _, _⟩ | ⟨hk, D, s, l, l', hg, hf, hs, hc, hn, rfl, rfl, hx, hr, _, _⟩
 ·exact .inl ⟨hk, D, _, hg, hf, ho, by simp, (Lin.optimal_of hg hf ho).congr fun k hk => by rw [getD_map_range _ _ hk], hx, hy⟩
 ·exact .inr (.inl ⟨hk, D, k, hg, h1, h2, h3, fun x => Lin.infeasible_of hg h1 h2 h3 x, hF⟩)
 ·exact .inr (.inr ⟨hk, _, _, by simp, by simp, (Lin.unbounded_of hg hf hs hc (fun i hi => by have := hn i hi; grind)).congr (fun k hk => by rw [getD_map_range _ _ hk]) fun k hk => by rw [getD_map_range _ _ hk], hx, hr, D, s, hg, hs, rfl, rfl⟩)
theorem solveL_calls {w : World} {X Y : Nat → Prop} {L V : Nat} {p : LPV} {os rs : List (List Rat)} {bs : List Rat} (h : LPIs w X Y L p os rs bs) (hV : p.n = V) (hV2 : V ≤ 8) (ho1 : 1 ≤ p.O.n) (ho2 : p.O.n ≤ 4) (hr : p.R.n ≤ 128) (hb : p.B.n = p.R.n) (hco : colsOf os ≤ V) (hcr : colsOf rs ≤ V) (hL : L ≤ 100) :
  Calls Tryz.prog 21 #[p.val] w fun e w' => (∃ r : RV, e = .returned (.tuple #[r.val, .int .i64 0]) ∧ Solved w (probOf V os rs bs) r w') ∧ Below w.heap.size w w' := by
 have h5 : 5 ^ V ≤ 390625 := Nat.le_trans (Nat.pow_le_pow_right (by omega) hV2) (by decide)
 have h6 : 5 ^ V * (32 * (L + 1)) ≤ 390625 * (32 * 101) := Nat.mul_le_mul h5 (by omega)
 refine (solve_calls (kb := 5 ^ V * (32 * (L + 1))) h hV (by omega) ho1 ho2 hr hb hco hcr (by rw [LM_eq]; omega) (fun D hD => ?_) (by rw [LM_eq]; omega)).mono ?_
 ·refine hD.fits (by omega) ⟨fun i j hi hj => ?_, fun l j hl hj => ?_⟩
  ·show Lin.Fits _ (if j < V then (rs.getD i []).getD j 0 else bs.getD i 0)
   split
   ·exact qfit_fits (h.rows.fit i j)
   ·exact qfit_fits (h.bounds.fit i)
  ·show Lin.Fits _ (if j < V then - (os.getD l []).getD j 0 else 0)
   split
   ·exact (qfit_fits (h.obj.fit l j)).neg
   ·exact Lin.Fits.zero _
 ·rintro e w' ⟨hs, hb⟩
  exact ⟨solved_of hs, hb⟩
end Go.Proofs.YtlepljpdkbjbhaaGreat
namespace Go.Proofs.YtlepljpdkbjbhaaGreat
open Lin
theorem lt_two {k : Nat} (h : k < 2) : k = 0 ∨ k = 1 := by omega
theorem lt_three {k : Nat} (h : k < 3) : k = 0 ∨ k = 1 ∨ k = 2 := by omega
abbrev pa : Prob := probOf 2 [rats [3, 5]] [rats [1, 0], rats [0, 2], rats [3, 2]] (rats [4, 12, 18])
abbrev pb : Prob := probOf 1 [rats [1]] [rats [1]] [((-1 : Int) : Rat)]
abbrev pc : Prob := probOf 2 [rats [1, 0]] [rats [-1, 1]] [((2 : Int) : Rat)]
abbrev pd : Prob := probOf 1 [rats [0]] [rats [-1]] [((-3 : Int) : Rat)]
theorem sum1 (f : Nat → Rat) : Lin.sum 1 f = f 0 := by simp [Lin.sum]; grind
theorem sum2 (f : Nat → Rat) : Lin.sum 2 f = f 0 + f 1 := by simp [Lin.sum]; grind
theorem pa_feas (y : Nat → Rat) : pa.Feasible y ↔ (0 ≤ y 0 ∧ 0 ≤ y 1) ∧ y 0 ≤ 4 ∧ 2 * y 1 ≤ 12 ∧ 3 * y 0 + 2 * y 1 ≤ 18 := by
 constructor
 ·rintro ⟨h1, h2⟩
  have a0 := h1 0 (by decide)
  have a1 := h1 1 (by decide)
  have b0 := h2 0 (by decide)
  have b1 := h2 1 (by decide)
  have b2 := h2 2 (by decide)
  simp only [pa, probOf, sum2, rats] at b0 b1 b2
  simp at b0 b1 b2
  refine ⟨⟨a0, a1⟩, ?_, ?_, ?_⟩ <;> grind
 ·rintro ⟨⟨a0, a1⟩, b0, b1, b2⟩
  refine ⟨fun k hk => ?_, fun i hi => ?_⟩
  ·rcases lt_two hk with rfl | rfl
   ·exact a0
   ·exact a1
  ·rcases lt_three hi with rfl | rfl | rfl <;> simp only [pa, probOf, sum2, rats] <;> simp <;> grind
theorem pa_opt : pa.Optimal (fun k => ([2, 6] : List Rat).getD k 0) := by
 refine ⟨(pa_feas _).2 (by simp; grind), fun y hy => ?_⟩
 obtain ⟨⟨a0, a1⟩, b0, b1, b2⟩ := (pa_feas y).1 hy
 by_cases h : 3 * y 0 + 5 * y 1 < 36
 ·refine .inl ⟨0, by decide, ?_, fun j hj => absurd hj (by omega)⟩
  simp only [Prob.obj, pa, probOf, sum2, rats]
  simp
  grind
 ·refine .inr fun k hk => ?_
  have e1 : y 1 = 6 := by grind
  have e0 : y 0 = 2 := by grind
  rcases lt_two hk with rfl | rfl
  ·simp [e0]
  ·simp [e1]
theorem pb_none (x : Nat → Rat) : ¬ pb.Feasible x := by
 rintro ⟨h1, h2⟩
 have a0 := h1 0 (by decide)
 have b0 := h2 0 (by decide)
 simp only [pb, probOf, sum1, rats] at b0
 simp at b0
 grind
theorem pb_farkas {D : Dict} (g : Lin.Good pb D) {k : Nat} (hk : k < pb.m) (hneg : D.a k pb.n < 0) (hnn : ∀ j, j < pb.n → 0 ≤ D.a k j) : 0 < farkasOf D pb.n k 0 := by
 obtain rfl : k = 0 := by have hk' : k < 1 := hk; omega
 have hneg' : D.a 0 1 < 0 := hneg
 have h0 : 0 ≤ D.a 0 0 := hnn 0 (by decide)
 have hb : D.basic 0 < 2 := g.bLt 0 (by decide)
 have hf : D.free 0 < 2 := g.fLt 0 (by decide)
 have hap : D.basic 0 ≠ D.free 0 := g.apart 0 0 (by decide) (by decide)
 unfold farkasOf
 by_cases h : D.basic 0 = pb.n + 0
 ·rw [if_pos h]; grind
 ·rw [if_neg h]
  have hb0 : D.basic 0 = 0 := by have : D.basic 0 ≠ 1 := h; omega
  have hf0 : D.free 0 = 1 := by omega
  have hfind : find D.free (pb.n + 0) pb.n = 0 := by
   show find D.free 1 1 = 0
   simp [find, hf0]
  rw [hfind, if_pos (by decide)]
  by_cases h1' : 0 < D.a 0 0
  ·exact h1'
  ·exfalso
   have h1 : 0 = D.a 0 0 := by grind
   have hs : pb.Sys (fun v => if v = 0 then 0 else -1) := fun i hi => by
    obtain rfl : i = 0 := by have hi' : i < 1 := hi; omega
    show (if 1 + 0 = 0 then (0 : Rat) else -1) = _
    simp only [pb, probOf, sum1, rats]
    simp
    grind
   have hr := (g.rows _).1 hs 0 (by decide)
   have e : val pb.n D.free (D.a 0) (fun v => if v = 0 then 0 else -1) = D.a 0 1 := by
    show D.a 0 1 - Lin.sum 1 _ = _
    rw [sum1, ← h1]; grind
   rw [e, hb0] at hr
   simp at hr
   grind
theorem pc_unb : pc.Unbounded (fun _ => 0) (fun k => if k = 0 then 1 else 0) := by
 refine ⟨⟨fun k hk => by grind, fun i hi => ?_⟩, fun k hk => by dsimp only; split <;> grind, fun i hi => ?_, ⟨0, by decide, ?_, fun j hj => absurd hj (by omega)⟩⟩
 ·obtain rfl : i = 0 := by have hi' : i < 1 := hi; omega
  simp only [pc, probOf, sum2, rats]; simp; grind
 ·obtain rfl : i = 0 := by have hi' : i < 1 := hi; omega
  simp only [pc, probOf, sum2, rats]; simp; grind
 ·simp only [pc, probOf, sum2, rats]; simp; grind
theorem pd_feas (y : Nat → Rat) : pd.Feasible y ↔ 0 ≤ y 0 ∧ 3 ≤ y 0 := by
 constructor
 ·rintro ⟨h1, h2⟩
  have a0 := h1 0 (by decide)
  have b0 := h2 0 (by decide)
  simp only [pd, probOf, sum1, rats] at b0
  simp at b0
  exact ⟨a0, by grind⟩
 ·rintro ⟨a0, b0⟩
  refine ⟨fun k hk => ?_, fun i hi => ?_⟩
  ·obtain rfl : k = 0 := by have hk' : k < 1 := hk; omega
   exact a0
  ·obtain rfl : i = 0 := by have hi' : i < 1 := hi; omega
   simp only [pd, probOf, sum1, rats]; simp; grind
theorem pd_opt : pd.Optimal (fun k => ([3] : List Rat).getD k 0) := by
 refine ⟨(pd_feas _).2 (by simp; grind), fun y hy => ?_⟩
 obtain ⟨a0, b0⟩ := (pd_feas y).1 hy
 by_cases h : 3 < y 0
 ·refine .inl ⟨1, by decide, ?_, fun j hj => ?_⟩
  ·simp only [Prob.obj, pd, probOf, sum1, rats]
   simp
   grind
  ·obtain rfl : j = 0 := by omega
   simp only [Prob.obj, pd, probOf, sum1, rats]
   simp
   grind
 ·refine .inr fun k hk => ?_
  obtain rfl : k = 0 := by have hk' : k < 1 := hk; omega
  simp; grind
end Go.Proofs.YtlepljpdkbjbhaaGreat
namespace Go.Proofs.YtlepljpdkbjbhaaGreat
open Go.RowKit Go.Shelf
section
variable {w w' : World} {P : Lin.Prob} {r : RV}
theorem Solved.opt (h : Solved w P r w') {x : Nat → Rat} (ho : P.Optimal x) : r.kind = 1 ∧ ∃ l : List Rat, l.length = P.n ∧ (∀ k, k < P.n → l.getD k 0 = x k) ∧ VecCan w' (New w.heap.size) (New w.heap.size) r.X l := by
 rcases h with ⟨hk, D, l, _, _, _, hl, hopt, hx, _⟩ | ⟨_, D, k, _, _, _, _, hno, _⟩ | ⟨_, l, l', _, _, hu, _, _⟩
 ·exact ⟨hk, l, hl, fun k hk => Lin.Prob.Optimal.unique hopt ho hk, hx⟩
 ·exact absurd ho.1 (hno x)
 ·exact absurd ho (hu.no_optimal x)
theorem Solved.inf (h : Solved w P r w') (hn : ∀ x, ¬ P.Feasible x) : r.kind = 2 ∧ ∃ (D : Lin.Dict) (k : Nat), Lin.Good P D ∧ k < P.m ∧ D.a k P.n < 0 ∧ (∀ j, j < P.n → 0 ≤ D.a k j) ∧ VecCan w' (New w.heap.size) (New w.heap.size) r.F ((List.range P.m).map (farkasOf D P.n k)) := by
 rcases h with ⟨hk, D, l, _, _, _, hl, hopt, hx, _⟩ | ⟨hk, D, k, h1, h2, h3, h4, _, h5⟩ | ⟨_, l, l', _, _, hu, _, _⟩
 ·exact absurd hopt.1 (hn _)
 ·exact ⟨hk, D, k, h1, h2, h3, h4, h5⟩
 ·exact absurd hu.1 (hn _)
theorem Solved.unb (h : Solved w P r w') {x d : Nat → Rat} (hu : P.Unbounded x d) : r.kind = 3 ∧ ∃ l l' : List Rat, l.length = P.n ∧ l'.length = P.n ∧ P.Unbounded (fun k => l.getD k 0) (fun k => l'.getD k 0) ∧ VecCan w' (New w.heap.size) (New w.heap.size) r.X l ∧ VecCan w' (New w.heap.size) (New w.heap.size) r.R l' := by
 rcases h with ⟨hk, D, l, _, _, _, hl, hopt, hx, _⟩ | ⟨hk, D, k, h1, h2, h3, h4, hno, h5⟩ | ⟨hk, l, l', h1, h2, h3, h4, h5, _⟩
 ·exact absurd hopt (hu.no_optimal _)
 ·exact absurd hu.1 (hno _)
 ·exact ⟨hk, l, l', h1, h2, h3, h4, h5⟩
end
theorem LRet.lpis {w' : World} {B L : Nat} {p : LPV} {os rs : List (List Rat)} {bs : List Rat} (ho : MatCan w' (New B) (New B) p.O os) (hr : MatCan w' (New B) (New B) p.R rs) (hb : VecCan w' (New B) (New B) p.B bs)
  (fo : ∀ i k, QFit L ((os.getD i []).getD k 0)) (fr : ∀ i k, QFit L ((rs.getD i []).getD k 0)) (fb : ∀ k, QFit L (bs.getD k 0)) : LPIs w' (New B) (New B) L p os rs bs :=
 ⟨⟨ho.len, ho.le, ho.cap, fun i hi => by
   obtain ⟨ad, r, e, hx, hc, hv⟩ := ho.row i hi
   exact ⟨ad, r, e, hx, hc, hv.len, hv.le, hv.cap, fun k hk => by
    obtain ⟨ad', v, e', hx', hc', hq⟩ := hv.elem k hk
    exact ⟨ad', v, e', hx', hc', hq.qis (fo i k)⟩⟩⟩,
  ⟨hr.len, hr.le, hr.cap, fun i hi => by
   obtain ⟨ad, r, e, hx, hc, hv⟩ := hr.row i hi
   exact ⟨ad, r, e, hx, hc, hv.len, hv.le, hv.cap, fun k hk => by
    obtain ⟨ad', v, e', hx', hc', hq⟩ := hv.elem k hk
    exact ⟨ad', v, e', hx', hc', hq.qis (fr i k)⟩⟩⟩,
  ⟨hb.len, hb.le, hb.cap, fun k hk => by
   obtain ⟨ad', v, e', hx', hc', hq⟩ := hb.elem k hk
   exact ⟨ad', v, e', hx', hc', hq.qis (fb k)⟩⟩⟩
theorem qfit_small {z : Int} (h : z.natAbs < 1000) : QFit 1 (z : Rat) := by
 have e : Num.base ^ 1 = 4294967296 := by decide
 exact ⟨by rw [e]; simp; omega, by rw [e]; simp⟩
theorem fit_rats {l : List Int} (h : ∀ z ∈ l, z.natAbs < 1000) (k : Nat) : QFit 1 ((rats l).getD k 0) := by
 unfold rats
 rw [List.getD_eq_getElem?_getD, List.getElem?_map]
 cases e : l[k]? with
 | none => exact QFit.zero 0
 | some z => exact qfit_small (h z (List.mem_of_getElem? e))
theorem fit_mat {m : List (List Int)} (h : ∀ l ∈ m, ∀ z ∈ l, z.natAbs < 1000) (i k : Nat) : QFit 1 (((m.map rats).getD i []).getD k 0) := by
 have e : (m.map rats).getD i [] = rats (m.getD i []) := by
  simp only [List.getD_eq_getElem?_getD, List.getElem?_map]
  cases m[i]? <;> rfl
 rw [e]
 refine fit_rats (fun z hz => ?_) k
 by_cases hi : i < m.length
 ·refine h _ (List.getElem_mem hi) z ?_
  simpa [List.getD_eq_getElem?_getD, hi] using hz
 ·rw [getD_none _ _ _ (by omega)] at hz; cases hz
set_option maxRecDepth 20000 in
set_option maxHeartbeats 1000000 in
theorem validZero_calls {w : World} : Calls Tryz.prog 66 #[.agg #[.int .i64 0, .slice none 0 0, .slice none 0 0, .slice none 0 0]] w fun e w' => e = .returned (.bool false) ∧ Below w.heap.size w w' := by
 go_enter Tryz.func66, Tryz.ntmps66
 go_wp2_with fail
 refine (sizesOf_calls (p := ⟨0, ⟨none, 0, 0⟩, ⟨none, 0, 0⟩, ⟨none, 0, 0⟩⟩) (by decide) (by decide) (by decide)).mono ?_; rintro e w1 ⟨rfl, hb1⟩
 have hb0 : Below w.heap.size w w1 := ((Below.refl _ _).alloc (Nat.le_refl _) _).trans (hb1.mono (by simp))
 dsimp only
 go_wp2
 go_ret
 exact ⟨rfl, hb0.alloc hb0.size _⟩
set_option maxRecDepth 20000 in
set_option maxHeartbeats 1000000 in
theorem solveZero_calls {w : World} : Calls Tryz.prog 21 #[.agg #[.int .i64 0, .slice none 0 0, .slice none 0 0, .slice none 0 0]] w fun e w' => e = .returned (.tuple #[.agg zeroR, .int .i64 1]) ∧ Below w.heap.size w w' := by
 go_enter Tryz.func21, Tryz.ntmps21
 go_wp2_with fail
 obtain ⟨W1, hW1⟩ : ∃ W1, W1 = (w.alloc (.cells #[.int .i64 0, .slice none 0 0, .slice none 0 0, .slice none 0 0] 25)).alloc (.cells zeroR 37) := ⟨_, rfl⟩
 rw [← hW1]
 have hbW : Below w.heap.size w W1 := by rw [hW1]; exact ((Below.refl _ _).alloc (Nat.le_refl _) _).alloc (by simp) _
 have hX1 : Box6 W1 (w.heap.size + 1) (.int .u8 0) (.slice none 0 0) (.slice none 0 0) (.slice none 0 0) (.slice none 0 0) (.int .i64 0) := by rw [hW1]; exact heap_new _ _ (by simp)
 have hs1 : w.heap.size + 1 < W1.heap.size := lt_of_block hX1
 clear hW1
 refine validZero_calls.mono ?_; rintro e w2 ⟨rfl, hb2⟩
 have hX2 : Box6 w2 (w.heap.size + 1) (.int .u8 0) (.slice none 0 0) (.slice none 0 0) (.slice none 0 0) (.slice none 0 0) (.int .i64 0) := (hb2.block _ hs1).trans hX1
 have hbf := hbW.trans (hb2.mono hbW.size)
 obtain ⟨s0, s1, s2, s3, s4, s5, s6⟩ := box6_cells hX2
 clear hb2 hX1 hbW
 go_wp2
 obtain ⟨v0, v1, v2, v3, v4, v5, -⟩ := box6_cells (put6_box hX2 (.int .u8 0) (.slice none 0 0) (.slice none 0 0) (.slice none 0 0) (.slice none 0 0) (.int .i64 0))
 simp only [put6] at v0 v1 v2 v3 v4 v5
 exact bodyPost_ret (v := .tuple #[.agg zeroR, .int .i64 1]) (by simp [results, Tryz.results21, go_sem, v0, v1, v2, v3, v4, v5]) rfl ⟨rfl, put6_below hbf (by omega) _ _ _ _ _ _⟩
end Go.Proofs.YtlepljpdkbjbhaaGreat
namespace Go.Proofs.YtlepljpdkbjbhaaGreat
open Go.RowKit Go.Shelf
abbrev rcells (k : Int) (r : RV) : Array Value := #[.int .u8 k, .slice r.X.A r.X.n r.X.c, .slice r.Y.A r.Y.n r.Y.c, .slice r.R.A r.R.n r.R.c, .slice r.F.A r.F.n r.F.c, .int .i64 r.pv]
abbrev RBox (W : World) (b : Nat) (k : Int) (r : RV) : Prop := W.heap[b]? = some (.cells (rcells k r) 37 (0, 0))
theorem solveA_calls {w : World} {B V : Nat} {p : LPV} {os rs : List (List Int)} {bs : List Rat} (ho : MatCan w (New B) (New B) p.O (os.map rats)) (hr : MatCan w (New B) (New B) p.R (rs.map rats)) (hb : VecCan w (New B) (New B) p.B bs) (hV : p.n = V) (hV2 : V ≤ 8)
  (ho1 : 1 ≤ os.length) (ho2 : os.length ≤ 4) (hr1 : rs.length ≤ 8) (hbl : bs.length = rs.length) (so : ∀ l ∈ os, l.length ≤ V ∧ ∀ z ∈ l, z.natAbs < 1000) (sr : ∀ l ∈ rs, l.length ≤ V ∧ ∀ z ∈ l, z.natAbs < 1000) (sb : ∀ k, QFit 1 (bs.getD k 0)) :
  Calls Tryz.prog 21 #[p.val] w fun e w' => (∃ r : RV, e = .returned (.tuple #[r.val, .int .i64 0]) ∧ Solved w (probOf V (os.map rats) (rs.map rats) bs) r w') ∧ Below w.heap.size w w' := by
 have e1 := ho.len
 have e2 := hr.len
 have e3 := hb.len
 rw [List.length_map] at e1 e2
 refine solveL_calls (L := 1) (LRet.lpis ho hr hb (fit_mat fun l hl => (so l hl).2) (fit_mat fun l hl => (sr l hl).2) sb) hV hV2 (by omega) (by omega) (by omega) (by omega) (colsOf_le.2 fun l hl => ?_) (colsOf_le.2 fun l hl => ?_) (by decide)
 ·obtain ⟨l', hl', rfl⟩ := List.mem_map.1 hl
  rw [rats, List.length_map]; exact (so l' hl').1
 ·obtain ⟨l', hl', rfl⟩ := List.mem_map.1 hl
  rw [rats, List.length_map]; exact (sr l' hl').1
theorem oneA_calls {w : World} {c : Array Value} {T : TypeId} {g r : List Int} {z : Int} (hg : g.length ≤ 1000) (hr : r.length ≤ 1000) (gr : ∀ x ∈ g, -9223372036854775808 ≤ x ∧ x ≤ 9223372036854775807) (rr : ∀ x ∈ r, -9223372036854775808 ≤ x ∧ x ≤ 9223372036854775807) (h1 : -9223372036854775808 ≤ z) (h2 : z ≤ 9223372036854775807) :
  Calls Tryz.prog 61 #[.slice (some ⟨w.heap.size + 1, 0, none⟩) g.length g.length, .slice (some ⟨w.heap.size + 1 + 1, 0, none⟩) r.length r.length, .int .i64 z] (((w.alloc (.cells c T)).alloc (.cells (g.map fun z => Value.int .i64 z).toArray 2)).alloc (.cells (r.map fun z => Value.int .i64 z).toArray 2))
   fun e w' => LRet w g.length [rats g] [rats r] [(z : Rat)] e w' ∧ Below w.heap.size w w' ∧ w'.heap[w.heap.size]? = some (.cells c T (0, 0)) := by
 obtain ⟨W, hW⟩ : ∃ W, W = ((w.alloc (.cells c T)).alloc (.cells (g.map fun z => Value.int .i64 z).toArray 2)).alloc (.cells (r.map fun z => Value.int .i64 z).toArray 2) := ⟨_, rfl⟩
 rw [← hW]
 have i0 : W.heap[w.heap.size]? = some (.cells c T (0, 0)) := by rw [hW]; exact (Below.heap_alloc _ _ _ (by simp <;> omega)).trans ((Below.heap_alloc _ _ _ (by simp)).trans (heap_new _ _ rfl))
 have i1 : W.heap[w.heap.size + 1]? = some (.cells (g.map fun z => Value.int .i64 z).toArray 2 (0, 0)) := by rw [hW]; exact (Below.heap_alloc _ _ _ (by simp)).trans (heap_new _ _ (by simp))
 have i2 : W.heap[w.heap.size + 1 + 1]? = some (.cells (r.map fun z => Value.int .i64 z).toArray 2 (0, 0)) := by rw [hW]; exact heap_new _ _ (by simp)
 have hb : Below w.heap.size w W := by rw [hW]; exact (((Below.refl _ _).alloc (Nat.le_refl _) _).alloc (by simp) _).alloc (by simp <;> omega) _
 clear hW
 refine (one_calls (sg := ⟨some ⟨w.heap.size + 1, 0, none⟩, g.length, g.length⟩) (sr := ⟨some ⟨w.heap.size + 1 + 1, 0, none⟩, r.length, r.length⟩) (IntsAt.blk i1 hg gr) (IntsAt.blk i2 hr rr) h1 h2 hg hr).mono ?_
 rintro e w' ⟨⟨p, rfl, hn, ho, hr, hv⟩, hb'⟩
 exact ⟨⟨p, rfl, hn, ho.low hb.size, hr.low hb.size, hv.low hb.size⟩, hb.trans (hb'.mono hb.size), (hb'.block _ (lt_of_block i0)).trans i0⟩
theorem rbox_keep {w w' : World} {b : Nat} {bl : Obj} (h : w.heap[b]? = some bl) (hb : Below w.heap.size w w') : w'.heap[b]? = some bl := (hb.block _ (lt_of_block h)).trans h
theorem rbox_cell {w : World} {b : Nat} {k : Int} {r : RV} (h : RBox w b k r) : w.cell? ⟨b, 0, none⟩ = some (.int .u8 k) ∧ w.cell? ⟨b, 1, none⟩ = some (.slice r.X.A r.X.n r.X.c) ∧ w.cell? ⟨b, 4, none⟩ = some (.slice r.F.A r.F.n r.F.c) := by
 simp only [World.cell?, h]; exact ⟨rfl, rfl, rfl⟩
theorem VecAt.loose {w : World} {X Y : Nat → Prop} {L : Nat} {s : SV} {l : List Rat} (h : VecCan w X Y s l) (f : ∀ k, QFit L (l.getD k 0)) : VecIs w X Y L s l :=
 ⟨h.len, h.le, h.cap, fun k hk => by
  obtain ⟨ad', v, e', hx', hc', hq⟩ := h.elem k hk
  exact ⟨ad', v, e', hx', hc', hq.qis (f k)⟩⟩
theorem equalT_calls {w : World} {X Y X' Y' : Nat → Prop} {L M : Nat} {sa sb : SV} {l : List Rat} (ha : VecIs w X Y L sa l) (hb : VecIs w X' Y' M sb l) (hL : L ≤ LM) (hM : M ≤ LM) (hna : sa.n ≤ 1000000) (hnb : sb.n ≤ 1000000) :
  Calls Tryz.prog 22 #[sa.val, sb.val] w fun e w' => e = .returned (.bool true) ∧ Below w.heap.size w w' := by
 refine (equal_calls ha hb hL hM hna hnb).mono ?_
 rintro e w' ⟨rfl, hb⟩
 rw [vcmp_eq_zero.2 (fun i _ => rfl)]
 exact ⟨rfl, hb⟩
theorem qfit_ex (q : Rat) : ∃ L, QFit L q := by
 refine ⟨q.num.natAbs + q.den, ?_, ?_⟩
 ·exact Nat.lt_of_le_of_lt (Nat.le_add_right _ _) (Nat.lt_pow_self (by decide))
 ·exact Nat.lt_of_le_of_lt (Nat.le_add_left _ _) (Nat.lt_pow_self (by decide))
theorem two_of {l : List Rat} (n : l.length = 2) (h : ∀ k, k < 2 → l.getD k 0 = ([2, 6] : List Rat).getD k 0) : l = rats [2, 6] := by
 match l, n with
 | [a, b], _ =>
  have h0 := h 0 (by omega)
  have h1 := h 1 (by omega)
  simp at h0 h1
  subst h0 h1
  simp [rats]
theorem one_of {l : List Rat} (n : l.length = 1) (h : ∀ k, k < 1 → l.getD k 0 = ([3] : List Rat).getD k 0) : l = rats [3] := by
 match l, n with
 | [a], _ =>
  have h0 := h 0 (by omega)
  simp at h0
  subst h0
  simp [rats]
set_option maxRecDepth 40000 in
set_option maxHeartbeats 8000000 in
theorem alive_calls {w : World} : Calls Tryz.prog 18 #[] w fun e w' => e = .returned (.bool true) ∧ Below w.heap.size w w' := by
 go_enter Tryz.func18, Tryz.ntmps18
 go_wp2_with fail
 refine lawSmall_calls.mono ?_; rintro e w1 ⟨⟨p1, rfl, hn1, ho1, hr1, hv1⟩, hb1⟩
 go_wp2_with fail
 refine (solveA_calls (os := [[3, 5]]) (rs := [[1, 0], [0, 2], [3, 2]]) ho1 hr1 hv1 hn1 (by decide) (by decide) (by decide) (by decide) (by decide) (by decide) (by decide) (fit_rats (by decide))).mono ?_
 rintro e w2 ⟨⟨r1, rfl, hs1⟩, hb2⟩
 obtain ⟨k1, l1, n1, x1, v1⟩ := hs1.opt pa_opt
 have hbw2 := hb1.trans (hb2.mono hb1.size)
 clear ho1 hr1 hv1 hs1 hb1 hn1 hb2
 go_wp2_with fail
 refine (oneA_calls (w := w2) (c := rcells 1 r1) (g := [1]) (r := [1]) (z := -1) (by decide) (by decide) (by decide) (by decide) (by decide) (by decide)).mono ?_
 rintro e w3 ⟨⟨p2, rfl, hn2, ho2, hr2, hv2⟩, hb3, q1⟩
 go_wp2_with fail
 refine (solveA_calls (os := [[1]]) (rs := [[1]]) ho2 hr2 hv2 hn2 (by decide) (by decide) (by decide) (by decide) (by decide) (by decide) (by decide) (fit_rats (l := [-1]) (by decide))).mono ?_
 rintro e w4 ⟨⟨r2, rfl, hs2⟩, hb4⟩
 obtain ⟨k2, D, kk, g2, kk1, kk2, kk3, f2⟩ := hs2.inf pb_none
 have hF := pb_farkas g2 kk1 kk2 kk3
 have h24 := hb3.trans (hb4.mono hb3.size)
 have hbw4 := hbw2.trans (h24.mono hbw2.size)
 replace v1 := v1.belowC h24
 replace q1 := rbox_keep q1 hb4
 clear ho2 hr2 hv2 hs2 hn2 hb3 hb4 h24 hbw2 g2 kk1 kk2 kk3
 go_wp2_with fail
 refine (oneA_calls (w := w4) (c := rcells 2 r2) (g := [1, 0]) (r := [-1, 1]) (z := 2) (by decide) (by decide) (by decide) (by decide) (by decide) (by decide)).mono ?_
 rintro e w5 ⟨⟨p3, rfl, hn3, ho3, hr3, hv3⟩, hb5, q2⟩
 go_wp2_with fail
 refine (solveA_calls (os := [[1, 0]]) (rs := [[-1, 1]]) ho3 hr3 hv3 hn3 (by decide) (by decide) (by decide) (by decide) (by decide) (by decide) (by decide) (fit_rats (l := [2]) (by decide))).mono ?_
 rintro e w6 ⟨⟨r3, rfl, hs3⟩, hb6⟩
 obtain ⟨k3, -⟩ := hs3.unb pc_unb
 have h46 := hb5.trans (hb6.mono hb5.size)
 have hbw6 := hbw4.trans (h46.mono hbw4.size)
 replace v1 := v1.belowC h46
 replace f2 := f2.belowC h46
 replace q1 := rbox_keep q1 h46
 replace q2 := rbox_keep q2 hb6
 clear ho3 hr3 hv3 hs3 hn3 hb5 hb6 h46 hbw4
 go_wp2_with fail
 refine (oneA_calls (w := w6) (c := rcells 3 r3) (g := [0]) (r := [-1]) (z := -3) (by decide) (by decide) (by decide) (by decide) (by decide) (by decide)).mono ?_
 rintro e w7 ⟨⟨p4, rfl, hn4, ho4, hr4, hv4⟩, hb7, q3⟩
 go_wp2_with fail
 refine (solveA_calls (os := [[0]]) (rs := [[-1]]) ho4 hr4 hv4 hn4 (by decide) (by decide) (by decide) (by decide) (by decide) (by decide) (by decide) (fit_rats (l := [-3]) (by decide))).mono ?_
 rintro e w8 ⟨⟨r4, rfl, hs4⟩, hb8⟩
 obtain ⟨k4, l4, n4, x4, v4⟩ := hs4.opt pd_opt
 have h68 := hb7.trans (hb8.mono hb7.size)
 have hbw8 := hbw6.trans (h68.mono hbw6.size)
 replace v1 := v1.belowC h68
 replace f2 := f2.belowC h68
 replace q1 := rbox_keep q1 h68
 replace q2 := rbox_keep q2 h68
 replace q3 := rbox_keep q3 hb8
 clear ho4 hr4 hv4 hs4 hn4 hb7 hb8 h68 hbw6
 go_wp2_with fail
 have q4' : (w8.alloc (.cells (rcells 1 r4) 37)).heap[w8.heap.size]? = some (.cells (rcells 1 r4) 37 (0, 0)) := heap_new _ _ rfl
 have al8 : Below w8.heap.size w8 (w8.alloc (.cells (rcells 1 r4) 37)) := (Below.refl _ _).alloc (Nat.le_refl _) _
 refine solveZero_calls.mono ?_
 rintro e w9 ⟨rfl, hb9⟩
 have q4 := rbox_keep q4' hb9
 have h89 := al8.trans (hb9.mono al8.size)
 have hbw9 := hbw8.trans (h89.mono hbw8.size)
 replace v1 := v1.belowC h89
 replace v4 := v4.belowC h89
 replace f2 := f2.belowC h89
 replace q1 := rbox_keep q1 h89
 replace q2 := rbox_keep q2 h89
 replace q3 := rbox_keep q3 h89
 obtain rfl := two_of n1 x1
 obtain rfl := one_of n4 x4
 clear al8 q4' hb9 h89 hbw8 x1 x4 n1 n4
 go_upto_region 6 with fail
 obtain ⟨W, hW⟩ : ∃ W, W = w9.alloc (.cells zeroR 37) := ⟨_, rfl⟩
 rw [← hW]
 have h9W : Below w9.heap.size w9 W := by rw [hW]; exact (Below.refl _ _).alloc (Nat.le_refl _) _
 have hbW := hbw9.trans (h9W.mono hbw9.size)
 have hBW := hbW.size
 replace v1 := Lib.hid ((v1.belowC h9W).loose (L := 1) (fit_rats (by decide)))
 replace v4 := Lib.hid ((v4.belowC h9W).loose (L := 1) (fit_rats (by decide)))
 replace f2 := f2.belowC h9W
 obtain ⟨q10, q11, q14⟩ := rbox_cell (rbox_keep q1 h9W)
 obtain ⟨q20, q21, q24⟩ := rbox_cell (rbox_keep q2 h9W)
 obtain ⟨q30, q31, q34⟩ := rbox_cell (rbox_keep q3 h9W)
 obtain ⟨q40, q41, q44⟩ := rbox_cell (rbox_keep q4 h9W)
 have s1 := lt_of_block (rbox_keep q1 h9W)
 have s2 := lt_of_block (rbox_keep q2 h9W)
 have s4 := lt_of_block (rbox_keep q4 h9W)
 clear q1 q2 q3 q4 h9W hW hbw9
 go_upto_region 8 with fail
 have f3 : VecCan W (New w3.heap.size) (New w3.heap.size) r2.F [farkasOf D pb.n kk 0] := f2
 clear f2 q10 q14 q20 q21 q30 q31 q34 q40 q44 k1 k2 k3 k4
 generalize farkasOf D pb.n kk 0 = q at *
 generalize r2.F = F at *
 obtain ⟨fA, fn, fc⟩ := F
 obtain rfl : 1 = fn := f3.len
 have f4 : 1 ≤ fc := f3.le
 have f5 : fc ≤ 9223372036854775807 := f3.cap
 obtain ⟨ad, qv, e, -, ⟨c0, c1, c2, c3⟩, hq⟩ := f3.elem 0 (by show 0 < 1; omega)
 dsimp only at e c0 c1 c2 c3 hq q24
 subst e
 have hq' : Hid (QCan W (New w3.heap.size) qv q) := hq
 clear hq
 have ea : ad.add (0 * 4) = ad := by cases ad; rfl
 rw [ea] at c0 c1 c2 c3
 have hadl := block_lt_of_cell c0
 clear ea
 refine wp_plain_G 1000 (fun _ w' => Sees w.heap.size [] W w') (by kernel_rfl) ?_
 have hS0 : Sees w.heap.size [] W W.drew := Sees.st (by simp) hBW
 refine tkA 0 ?_ (fun w' b hSw => ?_) (hS0) ?_
 rotate_left
 ·(try dsimp only at hSw); go_simp; try with_reducible rfl
 simp only [zzA, zzB, zzC]
 refine tkA 1 ?_ (fun w' b hSw => ?_) (hS0) ?_
 rotate_left
 ·(try dsimp only at hSw); go_simp; try with_reducible rfl
 simp only [zzA, zzB, zzC]
 refine oneW (i := 2) (by kernel_rfl) rfl (by rfl) ?_
 intro K hK
 go_simp
 have hA : (W.alloc (.cells #[.int .i64 2, .int .i64 6] 2)).drew.heap[W.heap.size]? = some (.cells #[.int .i64 2, .int .i64 6] 2 (0, 0)) := heap_new _ _ rfl
 have hS1 : Sees w.heap.size [] W (W.alloc (.cells #[.int .i64 2, .int .i64 6] 2)).drew := Sees.ad hS0
 refine hK.out _ _ hS1 ?_
 clear hK K
 generalize (W.alloc (.cells #[.int .i64 2, .int .i64 6] 2)).drew = wa at *
 refine oneW (i := 3) (by kernel_rfl) rfl (by rfl) ?_
 intro K hK
 go_simp
 refine (fromInts_calls (s := ⟨some ⟨W.heap.size, 0, none⟩, 2, 2⟩) (l := [2, 6]) (IntsAt.blk (l := [2, 6]) hA (by decide) (by decide)) (by show 2 ≤ 1000; omega)).mono ?_
 rintro e wb ⟨⟨⟨zA, zn, zc⟩, rfl, hz⟩, hbb⟩
 dsimp only [SV.val]
 have hS2 := Kept.call2 hbb hS1
 refine hK.out _ _ hS2 ?_
 clear hK K
 refine oneW (i := 4) (by kernel_rfl) rfl (by rfl) ?_
 intro K hK
 go_simp
 refine (equalT_calls (sa := r1.X) (sb := ⟨zA, zn, zc⟩) (v1.out.below hS2.kept.whole) (hz.loose (L := 1) (fit_rats (l := [2, 6]) (by decide))) (by rw [LM_eq]; omega) (by rw [LM_eq]; omega) (by rw [← v1.out.len]; decide) (by rw [← hz.len]; decide)).mono ?_
 rintro e wc ⟨rfl, hbc⟩
 dsimp only
 have hS3 := Kept.call2 hbc hS2
 refine hK.out _ _ hS3 ?_
 clear hK K hS1 hS2 hz hbb hbc hA
 refine tkA 5 ?_ (fun w' b hSw => ?_) (hS3) ?_
 rotate_left
 ·(try dsimp only at hSw); go_simp; try with_reducible rfl
 simp only [zzA, zzB, zzC]
 refine tkA 6 ?_ (fun w' b hSw => ?_) (hS3) ?_
 rotate_left
 ·(try dsimp only at hSw); go_simp; try with_reducible rfl
 simp only [zzA, zzB, zzC]
 refine tkA 7 ?_ (fun w' b hSw => ?_) (hS3) ?_
 rotate_left
 ·(try dsimp only at hSw); go_simp; try with_reducible rfl
 simp only [zzA, zzB, zzC]
 refine oneW (i := 8) (by kernel_rfl) rfl (by rfl) ?_
 intro K hK
 go_simp
 have hA : (wc.alloc (.cells #[.int .i64 3] 2)).heap[wc.heap.size]? = some (.cells #[.int .i64 3] 2 (0, 0)) := heap_new _ _ rfl
 have hS4 : Sees w.heap.size [] W (wc.alloc (.cells #[.int .i64 3] 2)) := Sees.al hS3
 refine hK.out _ _ hS4 ?_
 clear hK K
 generalize wc.alloc (.cells #[.int .i64 3] 2) = wd at *
 refine oneW (i := 9) (by kernel_rfl) rfl (by rfl) ?_
 intro K hK
 go_simp
 refine (fromInts_calls (s := ⟨some ⟨wc.heap.size, 0, none⟩, 1, 1⟩) (l := [3]) (IntsAt.blk (l := [3]) hA (by decide) (by decide)) (by show 1 ≤ 1000; omega)).mono ?_
 rintro e we ⟨⟨⟨yA, yn, yc⟩, rfl, hy⟩, hbe⟩
 dsimp only [SV.val]
 have hS5 := Kept.call2 hbe hS4
 refine hK.out _ _ hS5 ?_
 clear hK K
 refine oneW (i := 10) (by kernel_rfl) rfl (by rfl) ?_
 intro K hK
 go_simp
 refine (equalT_calls (sa := r4.X) (sb := ⟨yA, yn, yc⟩) (v4.out.below hS5.kept.whole) (hy.loose (L := 1) (fit_rats (l := [3]) (by decide))) (by rw [LM_eq]; omega) (by rw [LM_eq]; omega) (by rw [← v4.out.len]; decide) (by rw [← hy.len]; decide)).mono ?_
 rintro e wf ⟨rfl, hbf⟩
 dsimp only
 have hS6 := Kept.call2 hbf hS5
 refine hK.out _ _ hS6 ?_
 clear hK K hS3 hS4 hS5 hy hbe hbf hA
 refine tkA 11 ?_ (fun w' b hSw => ?_) (hS6) ?_
 rotate_left
 ·(try dsimp only at hSw); go_simp; try with_reducible rfl
 simp only [zzA, zzB, zzC]
 refine tkA 12 ?_ (fun w' b hSw => ?_) (hS6) ?_
 rotate_left
 ·(try dsimp only at hSw); go_simp; try with_reducible rfl
 simp only [zzA, zzB, zzC]
 refine tkA 13 ?_ (fun w' b hSw => ?_) (hS6) ?_
 rotate_left
 ·(try dsimp only at hSw); go_simp; try with_reducible rfl
 simp only [zzA, zzB, zzC]
 refine tkA 14 ?_ (fun w' b hSw => ?_) (hS6) ?_
 rotate_left
 ·(try dsimp only at hSw); go_simp; try with_reducible rfl
 simp only [zzA, zzB, zzC]
 refine tkA 15 ?_ (fun w' b hSw => ?_) (hS6) ?_
 rotate_left
 ·(try dsimp only at hSw); go_simp; try with_reducible rfl
 simp only [zzA, zzB, zzC]
 refine tkA 16 ?_ (fun w' b hSw => ?_) (hS6) ?_
 rotate_left
 ·(try dsimp only at hSw); go_simp; try with_reducible rfl
 simp only [zzA, zzB, zzC]
 refine tkA 17 ?_ (fun w' b hSw => ?_) (hS6) ?_
 rotate_left
 ·(try dsimp only at hSw); go_simp; try with_reducible rfl
 simp only [zzA, zzB, zzC]
 refine tkA 18 ?_ (fun w' b hSw => ?_) (hS6) ?_
 rotate_left
 ·(try dsimp only at hSw); go_simp; try with_reducible rfl
 simp only [zzA, zzB, zzC]
 refine tkA 19 ?_ (fun w' b hSw => ?_) (hS6) ?_
 rotate_left
 ·(try dsimp only at hSw); go_simp; try with_reducible rfl
 simp only [zzA, zzB, zzC]
 refine tkA 20 ?_ (fun w' b hSw => ?_) (hS6) ?_
 rotate_left
 ·(try dsimp only at hSw); go_simp; try with_reducible rfl
 simp only [zzA, zzB, zzC]
 refine tkA 21 ?_ (fun w' b hSw => ?_) (hS6) ?_
 rotate_left
 ·(try dsimp only at hSw); go_simp; try with_reducible rfl
 simp only [zzA, zzB, zzC]
 refine takeA (i := 22) (qv.val) rfl rfl (by kernel_rfl) (by kernel_rfl) (by kernel_rfl) (by decide) (fun _ _ _ h => h) (by rfl) (fun w' hSw => ?_) (hS6) ?_
 ·((obtain ⟨_, hSw⟩ := hSw); (try dsimp only at hSw); have e0 := ((hSw.kept.whole).cell hadl).trans c0; go_simp; try with_reducible rfl)
 simp only [zzA, zzB, zzC]
 refine oneW (i := 23) (by kernel_rfl) rfl (by rfl) ?_
 intro K hK
 go_simp
 obtain ⟨L, hL⟩ := qfit_ex q
 refine (qsign_calls ((hq'.out.below hS6.kept.whole).qis hL)).mono ?_
 rintro e wg ⟨rfl, hbg⟩
 dsimp only
 have hS7 := Kept.call2 hbg hS6
 refine hK.out _ _ hS7 ?_
 clear hK K hS6
 rw [qsign_pos hF]
 refine tkA 24 ?_ (fun w' b hSw => ?_) (hS7) ?_
 rotate_left
 ·(try dsimp only at hSw); go_simp; try with_reducible rfl
 simp only [zzA, zzB, zzC]
 refine tkA 25 ?_ (fun w' b hSw => ?_) (hS7) ?_
 rotate_left
 ·(try dsimp only at hSw); go_simp; try with_reducible rfl
 simp only [zzA, zzB, zzC]
 refine tkA 26 ?_ (fun w' b hSw => ?_) (hS7) ?_
 rotate_left
 ·(try dsimp only at hSw); go_simp; try with_reducible rfl
 simp only [List.setIfInBounds_toArray, List.set_cons_zero]
 refine wpAnyG_done (by kernel_rfl) ?_ _
 have hbf := hbW.trans (hS7.kept.whole.mono hBW)
 go_wp2
 go_ret
 exact ⟨rfl, hbf⟩
end Go.Proofs.YtlepljpdkbjbhaaGreat
namespace Go.Proofs.YtlepljpdkbjbhaaGreat
namespace Lin
end Lin
open Lin
end Go.Proofs.YtlepljpdkbjbhaaGreat
namespace Go.Proofs.YtlepljpdkbjbhaaGreat
open Go.RowKit
def three (a b c : Value) (f : Nat) : Value := if f = 1 then a else if f = 2 then b else c
def qft (f : Nat) : TypeId := if f ≤ 2 then 23 else 30
def qfw (f : Nat) : Nat := if f ≤ 2 then 1 else 4
structure Step (W W' : World) (G G' : Nat → Prop) : Prop where
 size : W.heap.size ≤ W'.heap.size
 keep : ∀ b, b < W.heap.size → ¬ G b → W'.heap[b]? = W.heap[b]?
 back : ∀ b, b < W.heap.size → G' b → G b
theorem Step.refl (W : World) (G : Nat → Prop) : Step W W G G := ⟨Nat.le_refl _, fun _ _ _ => rfl, fun _ _ h => h⟩
theorem Step.below {W W' : World} (G : Nat → Prop) (h : Below W.heap.size W W') : Step W W' G G := ⟨h.size, fun b hb _ => h.block b hb, fun _ _ h => h⟩
theorem Step.trans {W W' W2 : World} {G G' G2 : Nat → Prop} (h : Step W W' G G') (k : Step W' W2 G' G2) : Step W W2 G G2 :=
 ⟨Nat.le_trans h.size k.size, fun b hb hg => (k.keep b (Nat.lt_of_lt_of_le hb h.size) fun hg' => hg (h.back b hb hg')).trans (h.keep b hb hg), fun b hb hg => h.back b hb (k.back b (Nat.lt_of_lt_of_le hb h.size) hg)⟩
section
variable {W W' : World} {G G' : Nat → Prop} {L : Nat}
theorem Step.cell (s : Step W W' G G') {a : Addr} (hl : a.block < W.heap.size) (hg : ¬ G a.block) : W'.cell? a = W.cell? a := World.cell?_of_block (s.keep _ hl hg)
theorem Step.qis (s : Step W W' G G') {v : QV} {q : Rat} (h : QIs W (fun b => ¬ G b) L v q) : QIs W' (fun b => ¬ G' b) L v q := by
 have h2 : QIs W (fun b => ¬ G b ∧ ¬ G' b) L v q := h.imp fun b hb hx => ⟨hx, fun hg => hx (s.back b hb hg)⟩
 have h3 : QIs W' (fun b => ¬ G b ∧ ¬ G' b) L v q := h2.keep fun a hx hl => s.cell hl hx.1
 exact h3.imp fun b _ hx => hx.2
theorem Step.old (s : Step W W' G G') {d : Nat} (hd : ∀ x, G x → d ≤ x) {v : QV} {q : Rat} (h : QCan W (Old d) v q) : QCan W' (Old d) v q :=
 h.keep fun a hx hl => s.cell hl fun hg => by have := hd _ hg; simp only [Old] at hx; omega
theorem Step.box4 (s : Step W W' G G') {b : Nat} {u0 u1 u2 u3 : Value} (h : Box4 W b u0 u1 u2 u3) (hl : b < W.heap.size) (hg : ¬ G b) : Box4 W' b u0 u1 u2 u3 := h.heap (s.keep b hl hg)
end
structure QS (w : World) (d : Nat) (n : Int) (va vb vc : Value) (al : Nat → List Value) (cnt : Nat → Nat) (G : Nat → Prop) (W : World) : Prop where
 bel : Below w.heap.size w W
 blk : W.heap[d]? = some (.cells #[.int .i64 n, va, vb, vc] 25 (0, 0))
 own : ∀ f, 1 ≤ f → f ≤ 3 → W.ownsRow (d + 1) (qft f) (qfw f) (three va vb vc f) (cnt f) (al f)
 apart : ∀ f g j, f ≠ g → 1 ≤ f → f ≤ 3 → 1 ≤ g → g ≤ 3 → (three va vb vc f).ownBlock = some j → (three va vb vc g).ownBlock ≠ some j
 gin : ∀ x, G x → d ≤ x ∧ x < W.heap.size
 gd : G d
 gf : ∀ f j, 1 ≤ f → f ≤ 3 → (three va vb vc f).ownBlock = some j → G j
 ge : w.heap.size ≤ d
section
variable {w W W' : World} {d : Nat} {n : Int} {va vb vc : Value} {al : Nat → List Value} {cnt : Nat → Nat} {G : Nat → Prop}
theorem QS.dlt (h : QS w d n va vb vc al cnt G W) : d < W.heap.size := lt_of_block h.blk
theorem QS.call (h : QS w d n va vb vc al cnt G W) (hb : Below W.heap.size W W') : QS w d n va vb vc al cnt G W' :=
 ⟨h.bel.trans (hb.mono h.bel.size), (hb.block d h.dlt).trans h.blk,
  fun f h1 h2 => own_keep (h.own f h1 h2) fun j hj => by
   obtain ⟨_, cs, hh⟩ := own_block (h.own f h1 h2) hj
   exact hb.block j (lt_of_block hh),
  h.apart, fun x hx => ⟨(h.gin x hx).1, Nat.lt_of_lt_of_le (h.gin x hx).2 hb.size⟩, h.gd, h.gf, h.ge⟩
theorem QS.cells (h : QS w d n va vb vc al cnt G W) : W.cell? ⟨d, 0, none⟩ = some (.int .i64 n) ∧ W.cell? ⟨d, 1, none⟩ = some va ∧ W.cell? ⟨d, 2, none⟩ = some vb ∧ W.cell? ⟨d, 3, none⟩ = some vc ∧ ∀ o, W.frozen? ⟨d, o, none⟩ = false := by
 simp [World.cell?, World.frozen?, h.blk]
theorem three_turn (a b c v : Value) (f g : Nat) (h1 : 1 ≤ f) (h2 : f ≤ 3) (h3 : 1 ≤ g) (h4 : g ≤ 3) :
  three (if f = 1 then v else a) (if f = 2 then v else b) (if f = 3 then v else c) g = if g = f then v else three a b c g := by
 unfold three
 rcases (by omega : f = 1 ∨ f = 2 ∨ f = 3) with rfl | rfl | rfl <;> rcases (by omega : g = 1 ∨ g = 2 ∨ g = 3) with rfl | rfl | rfl <;> simp
theorem QS.append (h : QS w d n va vb vc al cnt G W) {f : Nat} (h1 : 1 ≤ f) (h2 : f ≤ 3) {xs : List Value} {v' : Value} {o : Obj} {W2 : World}
  (hown : W2.ownsRow (d + 1) (qft f) (qfw f) v' (cnt f + 1) (al f ++ xs)) (hg : (W.alloc o).grownBy W2 (three va vb vc f).ownBlock)
  (hat : v'.ownBlock = (three va vb vc f).ownBlock ∨ v'.ownBlock = some (W.alloc o).heap.size) :
  QS w d n (if f = 1 then v' else va) (if f = 2 then v' else vb) (if f = 3 then v' else vc) (fun g => if g = f then al f ++ xs else al g) (fun g => if g = f then cnt f + 1 else cnt g) (fun y => G y ∨ v'.ownBlock = some y) (W2.setCell ⟨d, f, none⟩ v') ∧
  Step W (W2.setCell ⟨d, f, none⟩ v') G (fun y => G y ∨ v'.ownBlock = some y) := by
 have hsz : W.heap.size < W2.heap.size := by have := hg.size; simp at this; omega
 have hnd : ∀ g j, 1 ≤ g → g ≤ 3 → (three va vb vc g).ownBlock = some j → j ≠ d := fun g j g1 g2 hj e => by
  have := (own_block (h.own g g1 g2) hj).1; omega
 have keep : ∀ k, k < W.heap.size → (three va vb vc f).ownBlock ≠ some k → W2.heap[k]? = W.heap[k]? := fun k hk hne =>
  (hg.block k (by simp; omega) (fun e => hne e.symm)).trans (Below.heap_alloc _ _ _ hk)
 have hblk2 : W2.heap[d]? = _ := (keep d h.dlt (fun e => hnd f d h1 h2 e rfl)).trans h.blk
 have kset : ∀ k, k ≠ d → (W2.setCell ⟨d, f, none⟩ v').heap[k]? = W2.heap[k]? := fun k hk => Below.heap_setCell _ _ _ _ hk
 have hvd : ∀ j, v'.ownBlock = some j → j ≠ d ∧ j < W2.heap.size ∧ d < j := fun j hj => by
  obtain ⟨g1, cs, hh⟩ := own_block hown hj
  exact ⟨by omega, lt_of_block hh, by omega⟩
 refine ⟨⟨?_, ?_, ?_, ?_, ?_, .inl h.gd, ?_, h.ge⟩, ⟨by simp [World.setCell]; omega, fun b hb hgb => ?_, fun b hb hgb => ?_⟩⟩
 ·have h3 : Below w.heap.size (W.alloc o) W2 := (Below.refl _ _).grown hg (by have := h.bel.size; simp; omega) (fun j hj => by have := (own_block (h.own f h1 h2) hj).1; have := h.ge; omega)
  exact ((h.bel.alloc h.bel.size _).trans h3).setCell (p := ⟨d, f, none⟩) h.ge _
 ·rw [heap_setCell_blk _ hblk2]
  rcases (by omega : f = 1 ∨ f = 2 ∨ f = 3) with rfl | rfl | rfl <;> simp
 ·intro g g1 g2
  rw [three_turn va vb vc v' f g h1 h2 g1 g2]
  by_cases e : g = f
  ·subst e
   simp only [if_true]
   exact own_keep hown fun j hj => kset j (hvd j hj).1
  ·simp only [if_neg e]
   refine own_keep (h.own g g1 g2) fun j hj => ?_
   obtain ⟨_, cs, hh⟩ := own_block (h.own g g1 g2) hj
   exact (kset j (hnd g j g1 g2 hj)).trans (keep j (lt_of_block hh) (h.apart g f j e g1 g2 h1 h2 hj))
 ·intro g k j hgk g1 g2 k1 k2
  rw [three_turn va vb vc v' f g h1 h2 g1 g2, three_turn va vb vc v' f k h1 h2 k1 k2]
  have old : ∀ g j, 1 ≤ g → g ≤ 3 → (three va vb vc g).ownBlock = some j → j < W.heap.size := fun g j g1 g2 hj => by
   obtain ⟨_, cs, hh⟩ := own_block (h.own g g1 g2) hj
   exact lt_of_block hh
  by_cases eg : g = f
  ·by_cases ek : k = f
   ·omega
   ·rw [if_pos eg, if_neg ek]
    intro hj hk
    rcases hat with e | e
    ·rw [e] at hj; exact h.apart f k j (by omega) h1 h2 k1 k2 hj hk
    ·rw [e] at hj; cases hj
     have := old k _ k1 k2 hk; simp at this; omega
  ·rw [if_neg eg]
   by_cases ek : k = f
   ·rw [if_pos ek]
    intro hj hk
    rcases hat with e | e
    ·rw [e] at hk; exact h.apart g f j (by omega) g1 g2 h1 h2 hj hk
    ·rw [e] at hk; cases hk
     have := old g _ g1 g2 hj; simp at this; omega
   ·rw [if_neg ek]; exact h.apart g k j hgk g1 g2 k1 k2
 ·intro x hx
  rcases hx with hx | hx
  ·have := h.gin x hx; exact ⟨this.1, by simp [World.setCell]; omega⟩
  ·have := hvd x hx; exact ⟨by omega, by simp [World.setCell]; omega⟩
 ·intro g j g1 g2
  rw [three_turn va vb vc v' f g h1 h2 g1 g2]
  split
  ·intro hj; exact .inr hj
  ·intro hj; exact .inl (h.gf g j g1 g2 hj)
 ·exact (kset b (fun e => hgb (by rw [e]; exact h.gd))).trans (keep b hb fun e => hgb (h.gf f b h1 h2 e))
 ·rcases hgb with hgb | hgb
  ·exact hgb
  ·rcases hat with e | e
   ·rw [e] at hgb; exact h.gf f b h1 h2 hgb
   ·rw [e] at hgb; cases hgb; simp at hb; omega
end
end Go.Proofs.YtlepljpdkbjbhaaGreat
namespace Go.Proofs.YtlepljpdkbjbhaaGreat
open Go.RowKit Go.Shelf
def pick3 {α : Type} (z a b c : α) (f : Nat) : α := if f = 1 then a else if f = 2 then b else if f = 3 then c else z
structure ScB (w : World) (p : LPV) (jv kv : QV) (jq kq : Rat) (d : Nat) (W : World) : Prop where
 bP : LPBox W w.heap.size p
 bJ : Box4 W (w.heap.size + 1) (.bool jv.num.ng) (.slice jv.num.A jv.num.n jv.num.c) (.bool jv.den.ng) (.slice jv.den.A jv.den.n jv.den.c)
 bK : Box4 W (w.heap.size + 1 + 1) (.bool kv.num.ng) (.slice kv.num.A kv.num.n kv.num.c) (.bool kv.den.ng) (.slice kv.den.A kv.den.n kv.den.c)
 hj : QCan W (Old d) jv jq
 hk : QCan W (Old d) kv kq
 dl : w.heap.size + 1 + 1 < d
structure Put (W W' : World) (b : Nat) : Prop where
 size : W'.heap.size = W.heap.size
 keep : ∀ c, c ≠ b → W'.heap[c]? = W.heap[c]?
 below : ∀ B, B ≤ b → Below B W W'
theorem Put.one {W : World} (b o : Nat) (x : Value) : Put W (W.setCell ⟨b, o, none⟩ x) b :=
 ⟨by simp [World.setCell], fun c hc => Below.heap_setCell _ _ _ _ hc, fun B hB => (Below.refl _ _).setCell (p := ⟨b, o, none⟩) hB _⟩
theorem Put.trans {W W' W2 : World} {b : Nat} (h : Put W W' b) (k : Put W' W2 b) : Put W W2 b :=
 ⟨k.size.trans h.size, fun c hc => (k.keep c hc).trans (h.keep c hc), fun B hB => (h.below B hB).trans (k.below B hB)⟩
theorem Put.four {W : World} (b : Nat) (x0 x1 x2 x3 : Value) : Put W ((((W.setCell ⟨b, 0, none⟩ x0).setCell ⟨b, 1, none⟩ x1).setCell ⟨b, 2, none⟩ x2).setCell ⟨b, 3, none⟩ x3) b :=
 (((Put.one _ _ _).trans (Put.one _ _ _)).trans (Put.one _ _ _)).trans (Put.one _ _ _)
theorem Put.qcan {W W' : World} {b B : Nat} (h : Put W W' b) (hb : b < B) {v : QV} {q : Rat} (hq : QCan W (New B) v q) : QCan W' (New B) v q :=
 hq.keep fun a ha _ => World.cell?_of_block (h.keep _ (by simp only [New] at ha; omega))
theorem short_prog {w : World} {p : LPV} {os rs : List (List Rat)} {bs : List Rat} (h : Short6 w AllB AllB p os rs bs) (h2 : mayB p os rs = true → p.n ≤ 4 ∧ p.R.n ≤ 4) (hm : mayB p os rs = true) :
  0 ≤ p.n ∧ p.n ≤ 4 ∧ 1 ≤ p.O.n ∧ p.O.n ≤ 4 ∧ p.R.n ≤ 4 ∧ p.B.n = p.R.n ∧ (colsOf os : Int) ≤ p.n ∧ (colsOf rs : Int) ≤ p.n ∧ LPIs w AllB AllB 6 p os rs bs := by
 obtain ⟨a1, a2⟩ := h2 hm
 simp only [mayB, decide_eq_true_eq] at hm
 obtain ⟨b1, b2, b3, b4, b5, b6, b7, b8⟩ := hm
 exact ⟨b1, a1, b3, b4, a2, b6, b7, b8, h.1, h.2.1 (by omega), h.2.2 (by omega)⟩
theorem qfit_to {k L : Nat} {q : Rat} (h : Lin.Fits k q) (hk : k < 32 * L) : QFit L q := by
 have e : Num.base ^ L = 2 ^ (32 * L) := by rw [Nat.pow_mul]; rfl
 have h2 : 2 ^ k < 2 ^ (32 * L) := Nat.pow_lt_pow_right (by omega) hk
 exact ⟨by rw [e]; exact Nat.lt_of_le_of_lt h.1 h2, by rw [e]; exact Nat.lt_of_le_of_lt h.2 h2⟩
def cells4q (v : QV) : List Value := [.bool v.num.ng, .slice v.num.A v.num.n v.num.c, .bool v.den.ng, .slice v.den.A v.den.n v.den.c]
theorem ScB.step {w W W' : World} {p : LPV} {jv kv : QV} {jq kq : Rat} {d : Nat} {G G' : Nat → Prop} (h : ScB w p jv kv jq kq d W) (hG : ∀ x, G x → d ≤ x) (hd : d ≤ W.heap.size) (st : Step W W' G G') : ScB w p jv kv jq kq d W' :=
 have dl := h.dl
 ⟨st.box4 h.bP (by omega) (fun hg => by have := hG _ hg; omega), st.box4 h.bJ (by omega) (fun hg => by have := hG _ hg; omega), st.box4 h.bK (by omega) (fun hg => by have := hG _ hg; omega), st.old hG h.hj, st.old hG h.hk, h.dl⟩
section
variable {w W W1 W2 : World} {p : LPV} {jv kv : QV} {jq kq : Rat} {d : Nat} {os rs : List (List Rat)} {bs : List Rat} {va vb vc v' : Value} {G : Nat → Prop} {s1 s2 : List SV} {s3 : List QV} {o : Obj}
end
theorem flat_get (qs : List QV) (k o : Nat) (hk : k < qs.length) (ho : o < 4) (z : QV) : (qs.flatMap cells4q)[k * 4 + o]? = (cells4q (qs.getD k z))[o]? := by
 induction qs generalizing k with
 | nil => simp at hk
 | cons q qs ih =>
  rw [List.flatMap_cons]
  cases k with
  | zero => rw [List.getElem?_append_left (by simp [cells4q]; omega)]; simp
  | succ k =>
   rw [List.getElem?_append_right (by simp [cells4q]; omega)]
   have : (k + 1) * 4 + o - (cells4q q).length = k * 4 + o := by simp [cells4q]; omega
   rw [this, ih k (by simpa using hk)]
   simp
end Go.Proofs.YtlepljpdkbjbhaaGreat
namespace Go.Proofs.YtlepljpdkbjbhaaGreat
open Go.RowKit Go.Shelf Lin
theorem prob_fits {w : World} {X Y : Nat → Prop} {L V : Nat} {p : LPV} {os rs : List (List Rat)} {bs : List Rat} (h : LPIs w X Y L p os rs bs) : (probOf V os rs bs).start.Fits (probOf V os rs bs) (32 * (L + 1)) := by
 refine ⟨fun i j hi hj => ?_, fun l j hl hj => ?_⟩
 ·show Lin.Fits _ (if j < V then (rs.getD i []).getD j 0 else bs.getD i 0)
  split
  ·exact qfit_fits (h.rows.fit i j)
  ·exact qfit_fits (h.bounds.fit i)
 ·show Lin.Fits _ (if j < V then - (os.getD l []).getD j 0 else 0)
  split
  ·exact (qfit_fits (h.obj.fit l j)).neg
  ·exact Lin.Fits.zero _
theorem point_fits {P : Prob} {D : Dict} {k : Nat} (h : D.Fits P k) (v : Nat) : Lin.Fits k (D.point P v) := by
 unfold Dict.point
 split
 ·rename_i hf; exact h.1 _ _ hf (Nat.le_refl _)
 ·exact Lin.Fits.zero _
theorem opt_fits {w w' : World} {P : Prob} {r : RV} {k : Nat} (h : Solved w P r w') (hk : r.kind = 1) (h1 : 1 ≤ k) (h0 : P.start.Fits P k) {l : List Rat} (hl : l.length = P.n) (ho : P.Optimal fun k => l.getD k 0) (v : Nat) : Lin.Fits (5 ^ P.n * k) (l.getD v 0) := by
 rcases h with ⟨_, D, l', hg, hf, hc, hl', hopt, hx, _⟩ | ⟨hk', _⟩ | ⟨hk', _⟩
 ·by_cases hv : v < P.n
  ·have e := ho.unique (optimal_of hg hf hc) hv
   rw [e]
   exact point_fits (hg.fits h1 h0) v
  ·rw [getD_none _ _ _ (by omega)]; exact Lin.Fits.zero _
 ·rw [hk] at hk'; cases hk'
 ·rw [hk] at hk'; cases hk'
theorem getD_cols {rs : List (List Rat)} {V : Nat} (h : colsOf rs ≤ V) (c : Nat) : (rs.getD c []).length ≤ V := by
 by_cases hi : c < rs.length
 ·exact colsOf_le.1 h _ (by simp [List.getD_eq_getElem?_getD, hi])
 ·rw [getD_none rs _ _ (by omega)]; simp
end Go.Proofs.YtlepljpdkbjbhaaGreat
namespace Go.Proofs.YtlepljpdkbjbhaaGreat
open Go.RowKit Go.Shelf
attribute [local go_sem] Oper.semAt_some
theorem qsign_zero {q : Rat} : qsign q = 0 ↔ q = 0 := by
 unfold qsign; grind
abbrev QBlk (W : World) (b : Nat) (v : QV) : Prop := W.heap[b]? = some (.cells #[.bool v.num.ng, .slice v.num.A v.num.n v.num.c, .bool v.den.ng, .slice v.den.A v.den.n v.den.c] 30 (0, 0))
theorem qblk_box {W : World} {b : Nat} {v : QV} (h : QBlk W b v) : Box4 W b (.bool v.num.ng) (.slice v.num.A v.num.n v.num.c) (.bool v.den.ng) (.slice v.den.A v.den.n v.den.c) := by
 refine ⟨?_, ?_, ?_, ?_, fun o => ?_⟩ <;> simp [World.cell?, World.frozen?, h]
theorem qblk_set {W : World} {b : Nat} {v t : QV} (h : QBlk W b v) : QBlk ((((W.setCell ⟨b, 0, none⟩ (.bool t.num.ng)).setCell ⟨b, 1, none⟩ (.slice t.num.A t.num.n t.num.c)).setCell ⟨b, 2, none⟩ (.bool t.den.ng)).setCell ⟨b, 3, none⟩ (.slice t.den.A t.den.n t.den.c)) b t := by
 unfold QBlk
 rw [heap_setCell_blk _ (heap_setCell_blk _ (heap_setCell_blk _ (heap_setCell_blk _ h)))]
 simp
def DotPost (w : World) (S : Nat) (Z : Nat → Prop) (t : Rat) (e : Ending) (w' : World) : Prop :=
 e = .returned (.tuple #[]) ∧ ∃ s2 : QV, QBlk w' S s2 ∧ QCan w' (fun b => Z b ∨ w.heap.size ≤ b) s2 t ∧ Fr (fun b => b = S) w w'
set_option maxRecDepth 20000 in
set_option maxHeartbeats 4000000 in
theorem dot1_calls {w : World} {X Y Z : Nat → Prop} {L M K S : Nat} {x y s : QV} {p q r : Rat} (hx : QIs w X L x p) (hy : QIs w Y M y q) (hs : QCan w Z s r) (hS0 : QBlk w S s) (hL : L ≤ LM) (hM : M ≤ LM) (hK : K ≤ LM) (hr : QFit K r) (hp : QFit K (p * q)) :
  Calls Tryz.prog 82 #[x.val, y.val, .pointer (some ⟨S, 0, none⟩)] w fun e w' => DotPost w S Z (r + p * q) e w' := by
 have HX := Lib.hid hx
 have HY := Lib.hid hy
 have HS := Lib.hid hs
 have hSl := lt_of_block hS0
 have hS := qblk_box hS0
 have HB := Lib.hid hS0
 clear hS0
 have HL := Lib.hid hL
 have HM := Lib.hid hM
 have HK := Lib.hid hK
 have HR := Lib.hid hr
 have HP := Lib.hid hp
 clear hx hy hs hL hM hK hr hp
 go_enter Tryz.func82, Tryz.ntmps82
 go_upto_region 1 with fail
 refine gen_world (fun W => Below w.heap.size w W ∧ Box4 W w.heap.size (.bool x.num.ng) (.slice x.num.A x.num.n x.num.c) (.bool x.den.ng) (.slice x.den.A x.den.n x.den.c) ∧ Box4 W (w.heap.size + 1) (.bool y.num.ng) (.slice y.num.A y.num.n y.num.c) (.bool y.den.ng) (.slice y.den.A y.den.n y.den.c) ∧ w.heap.size < W.heap.size ∧ w.heap.size + 1 < W.heap.size) ⟨(((Below.refl _ _).alloc (by simp <;> omega) _).alloc (by simp <;> omega) _), ⟨by go_simp, by go_simp, by go_simp, by go_simp, by intro o; go_simp⟩, ⟨by go_simp, by go_simp, by go_simp, by go_simp, by intro o; go_simp⟩, by simp <;> omega, by simp <;> omega⟩ ?_
 rintro W ⟨hbW, bX, bY, s0, s1⟩
 have hBW := hbW.size
 obtain ⟨x0, x1, x2, x3, -⟩ := id bX
 obtain ⟨y0, y1, y2, y3, -⟩ := id bY
 go_wp2_with fail
 refine (qsign_calls (v := x) (HX.out.below hbW)).mono ?_
 rintro e w1 ⟨rfl, hb1⟩
 have bS := hS.below hbW hSl
 have sS := Nat.lt_of_lt_of_le hSl hbW.size
 clear hS hBW
 replace bX := bX.below hb1 s0
 replace bY := bY.below hb1 s1
 replace bS := bS.below hb1 sS
 replace s0 := Nat.lt_of_lt_of_le s0 hb1.size
 replace s1 := Nat.lt_of_lt_of_le s1 hb1.size
 replace sS := Nat.lt_of_lt_of_le sS hb1.size
 replace hbW := hbW.trans (hb1.mono hbW.size)
 clear x0 x1 x2 x3 y0 y1 y2 y3
 obtain ⟨x0, x1, x2, x3, -⟩ := id bX
 obtain ⟨y0, y1, y2, y3, -⟩ := id bY
 by_cases hp0 : p = 0
 ·have e0 : qsign p = 0 := qsign_zero.2 hp0
  have Hz : Hid (p * q = 0) := by show p * q = 0; rw [hp0, Rat.zero_mul]
  rw [e0]
  clear e0 hp0
  go_wp2
  go_end0
  refine ⟨rfl, s, (hbW.block _ hSl).trans HB.out, ?_, Fr.of_below hbW⟩
  rw [Hz.out, Rat.add_zero]
  exact (HS.out.below hbW).imp fun b _ hb => .inl hb
 ·have e0 : ¬ (qsign p = 0) := fun h => hp0 (qsign_zero.1 h)
  have e1 : (qsign p != 0) = true := by simpa using e0
  clear hp0 e0
  go_wp2_with fail
  refine (qsign_calls (v := y) (HY.out.below hbW)).mono ?_
  rintro e w2 ⟨rfl, hb2⟩
  replace bX := bX.below hb2 s0
  replace bY := bY.below hb2 s1
  replace bS := bS.below hb2 sS
  replace s0 := Nat.lt_of_lt_of_le s0 hb2.size
  replace s1 := Nat.lt_of_lt_of_le s1 hb2.size
  replace sS := Nat.lt_of_lt_of_le sS hb2.size
  replace hbW := hbW.trans (hb2.mono hbW.size)
  clear x0 x1 x2 x3 y0 y1 y2 y3
  obtain ⟨x0, x1, x2, x3, -⟩ := id bX
  obtain ⟨y0, y1, y2, y3, -⟩ := id bY
  by_cases hq0 : q = 0
  ·have e2 : qsign q = 0 := qsign_zero.2 hq0
   have Hz : Hid (p * q = 0) := by show p * q = 0; rw [hq0, Rat.mul_zero]
   rw [e2]
   clear e2 hq0
   go_wp2
   go_end0
   refine ⟨rfl, s, (hbW.block _ hSl).trans HB.out, ?_, Fr.of_below hbW⟩
   rw [Hz.out, Rat.add_zero]
   exact (HS.out.below hbW).imp fun b _ hb => .inl hb
  ·have e2 : ¬ (qsign q = 0) := fun h => hq0 (qsign_zero.1 h)
   have e3 : (qsign q != 0) = true := by simpa using e2
   clear hq0 e2
   obtain ⟨z0, z1, z2, z3, -⟩ := id bS
   go_upto_region 2 with fail
   refine wp_plain_G 5 (fun f w' => f = false → Sees w.heap.size [] w2 w') (by kernel_rfl) ?_
   have hS0 : Sees w.heap.size [] w2 w2.drew := Sees.st (by simp) hbW.size
   refine tkW 0 (s.val) (fun w' hSw => ?_) (fun _ => hS0) ?_
   ·(replace hSw := hSw rfl; go_simp; try with_reducible rfl)
   simp only [zzA, zzB, zzC]
   refine tkW 1 (x.val) (fun w' hSw => ?_) (fun _ => hS0) ?_
   ·(replace hSw := hSw rfl; go_simp; try with_reducible rfl)
   simp only [zzA, zzB, zzC]
   refine tkW 2 (y.val) (fun w' hSw => ?_) (fun _ => hS0) ?_
   ·(replace hSw := hSw rfl; go_simp; try with_reducible rfl)
   simp only [zzA, zzB, zzC]
   refine oneW (i := 3) (by kernel_rfl) rfl (by rfl) ?_
   intro K hK
   go_simp
   with_reducible refine (qmul_calls (a := x) (b := y) (HX.out.below hbW.drew) (HY.out.below hbW.drew) HL.out HM.out).mono ?_
   rintro e v1 ⟨⟨u, rfl, hu⟩, hc1⟩
   have hS1 := Kept.call2 hc1 hS0
   refine hK.out _ _ (fun _ => hS1) ?_
   clear hK K hS0
   refine oneW (i := 4) (by kernel_rfl) rfl (by rfl) ?_
   intro K hK
   go_simp
   with_reducible refine (qadd_calls (a := s) (b := u) ((HS.out.below (hbW.trans (hS1.kept.whole.mono hbW.size))).qis HR.out) (hu.qis HP.out) HK.out HK.out).mono ?_
   rintro e v2 ⟨⟨t, rfl, ht⟩, hc2⟩
   have hS2 := Kept.call2 hc2 hS1
   refine hK.out _ _ (fun _ => hS2) ?_
   have hb2' := hS2.kept.whole
   have bS2 := bS.below hb2' sS
   have ht2 := ht.lower hS1.kept.size
   clear hK K hS1 hu ht hc1 hc2
   clear z0 z1 z2 z3
   obtain ⟨z0, z1, z2, z3, z4⟩ := id bS2
   refine oneW (i := 5) (by kernel_rfl) rfl (by rfl) ?_
   intro K hK
   go_simp
   refine hK.out _ _ (fun h => absurd h (by decide)) ?_
   clear hK K
   have P8 := Put.four (W := v2) S (.bool t.num.ng) (.slice t.num.A t.num.n t.num.c) (.bool t.den.ng) (.slice t.den.A t.den.n t.den.c)
   have bS8 := qblk_set (t := t) ((hb2'.block _ sS).trans ((hbW.block _ hSl).trans HB.out))
   have F8 : Fr (fun b => b = S) v2 _ := ((((Fr.refl (fun b => b = S) v2).set (p := ⟨S, 0, none⟩) rfl (.bool t.num.ng)).set (p := ⟨S, 1, none⟩) rfl (.slice t.num.A t.num.n t.num.c)).set (p := ⟨S, 2, none⟩) rfl (.bool t.den.ng)).set (p := ⟨S, 3, none⟩) rfl (.slice t.den.A t.den.n t.den.c)
   generalize (((v2.setCell ⟨S, 0, none⟩ (.bool t.num.ng)).setCell ⟨S, 1, none⟩ (.slice t.num.A t.num.n t.num.c)).setCell ⟨S, 2, none⟩ (.bool t.den.ng)).setCell ⟨S, 3, none⟩ (.slice t.den.A t.den.n t.den.c) = y8 at *
   have ht8 := P8.qcan (B := w2.heap.size) sS ht2
   have hF : Fr (fun b => b = S) w y8 := (Fr.of_below (hbW.trans (hb2'.mono hbW.size))).trans F8
   clear z0 z1 z2 z3 z4 P8 F8 ht2 bS2 hS2
   refine wpAnyG_done (by kernel_rfl) ?_ _
   go_wp2
   go_end0
   exact ⟨rfl, t, bS8, ht8.imp fun b _ hb => .inr (Nat.le_trans hbW.size hb), hF⟩
def lsum (f : Nat → Rat) (l : List Nat) : Rat := l.foldl (fun s i => s + f i) 0
theorem lsum_snoc (f : Nat → Rat) (l : List Nat) (x : Nat) : lsum f (l ++ [x]) = lsum f l + f x := by simp [lsum, List.foldl_append]
theorem lsum_range (f : Nat → Rat) : ∀ n, lsum f (List.range n) = Lin.sum n f
 | 0 => rfl
 | n + 1 => by rw [List.range_succ, lsum_snoc, lsum_range f n]; rfl
theorem lsum_fits {f : Nat → Rat} {k : Nat} (h : ∀ i, Lin.Fits k (f i)) : ∀ l : List Nat, Lin.Fits (l.length * (k + 1)) (lsum f l) := by
 intro l
 obtain ⟨r, rfl⟩ : ∃ r : List Nat, r.reverse = l := ⟨l.reverse, List.reverse_reverse l⟩
 induction r with
 | nil => exact Lin.Fits.zero _
 | cons x r ih =>
  rw [List.reverse_cons, lsum_snoc]
  refine (ih.add (h x)).mono ?_
  simp only [List.length_append, List.length_reverse, List.length_cons, List.length_nil]
  have : (r.length + (0 + 1)) * (k + 1) = r.length * (k + 1) + (k + 1) := by rw [Nat.add_mul]; omega
  omega
theorem VecAt.take {w : World} {X : Nat → Prop} {R : QV → Rat → Prop} {A : Option Addr} {m c : Nat} {l : List Rat} (h : VecAt w X R ⟨A, m, c⟩ l) {n : Nat} (hn : n ≤ m) : VecAt w X R ⟨A, n, c⟩ (l.take n) := by
 have h1 : l.length = m := h.len
 have h2 : m ≤ c := h.le
 refine ⟨by rw [List.length_take, h1]; show min n m = n; omega, Nat.le_trans hn h2, h.cap, fun k hk => ?_⟩
 obtain ⟨ad, v, e, hx, hc, hr⟩ := h.elem k (Nat.lt_of_lt_of_le hk hn)
 refine ⟨ad, v, e, hx, hc, ?_⟩
 have hk' : k < n := hk
 rwa [show (l.take n).getD k 0 = l.getD k 0 by simp [List.getD_eq_getElem?_getD, List.getElem?_take_of_lt hk']]
theorem qcan_zero (W : World) (X : Nat → Prop) : QCan W X QV.zero 0 := ⟨⟨rfl, by rw [show Num.words (0 : Rat).num.natAbs = [] by simp [Num.words]]; exact WordsAt.nil _ _ _ _ (Nat.zero_le _)⟩, ⟨rfl, by rw [show Num.words (cden 0).natAbs = [] by simp [Num.words, cden]]; exact WordsAt.nil _ _ _ _ (Nat.zero_le _)⟩⟩
theorem alk {w : World} {b : Nat} {x o : Obj} (h : w.heap[b]? = some x) : (w.alloc o).heap[b]? = some x := (Below.heap_alloc _ _ _ (lt_of_block h)).trans h
theorem drk {w : World} {b : Nat} {x : Obj} (h : w.heap[b]? = some x) : w.drew.heap[b]? = some x := h
def DotInv (w : World) (f : Nat → Rat) (pre : List Nat) (W : World) : Prop :=
 (∃ s : QV, QBlk W (w.heap.size + 1) s ∧ QCan W (fun b => w.heap.size + 1 < b) s (lsum f pre)) ∧ QBlk W w.heap.size QV.zero ∧
 Boxed W (w.heap.size + 1 + 1) 109 (.func (.func 82) #[] #[.pointer (some ⟨w.heap.size + 1, 0, none⟩)]) ∧ Carry (fun y => y ≠ w.heap.size + 1) w W
theorem DotInv.own {w : World} {f : Nat → Rat} : Own (DotInv w f) := fun _ _ _ _ hs hg hr => by
 obtain ⟨⟨s, h1, h2⟩, h3, h4, h5⟩ := hs
 exact ⟨⟨s, grown_cells hg hr h1, h2.carry (Carry.grown hg hr)⟩, grown_cells hg hr h3, grown_cells hg hr h4, h5.trans (Carry.grown hg hr)⟩
set_option maxRecDepth 100000 in
set_option maxHeartbeats 8000000 in
theorem dot_calls {w : World} {X Y X' Y' : Nat → Prop} {L M kb : Nat} {sa sb : SV} {la lb : List Rat} (ha : VecIs w X Y L sa la) (hb : VecIs w X' Y' M sb lb) (hL : L ≤ LM) (hM : M ≤ LM) (hna : sa.n ≤ 1000000) (hkb : 1000000 * (kb + 1) < 32 * LM) (hf : ∀ i, Lin.Fits kb (la.getD i 0 * lb.getD i 0)) :
  Calls Tryz.prog 30 #[sa.val, sb.val] w fun e w' => QRet w (Lin.sum (min sa.n sb.n) fun i => la.getD i 0 * lb.getD i 0) e w' ∧ Below w.heap.size w w' := by
 refine (callsIn_wide (n := 6)).1 ?_
 obtain ⟨A, la', ca⟩ := sa
 obtain ⟨B, lb', cb⟩ := sb
 obtain ⟨N, hN⟩ : ∃ N, N = min la' lb' := ⟨_, rfl⟩
 have hNa : N ≤ la' := by omega
 have hNb : N ≤ lb' := by omega
 have cpa : la' ≤ ca := ha.le
 have cpb : lb' ≤ cb := hb.le
 have cpa2 : ca ≤ 9223372036854775807 := ha.cap
 have cpb2 : cb ≤ 9223372036854775807 := hb.cap
 have hmin : min (la' : Int) (lb' : Int) = (N : Int) := by omega
 have HL := Lib.hid hL
 have HM := Lib.hid hM
 have h0a : QIs w (fun _ => True) L QV.zero 0 := ⟨0, 0, ⟨[], WordsAt.nil _ _ _ _ (Nat.zero_le _), Nat.zero_le _, rfl⟩, ⟨[], WordsAt.nil _ _ _ _ (Nat.zero_le _), Nat.zero_le _, rfl⟩, by simp [qv]⟩
 have h0b : QIs w (fun _ => True) M QV.zero 0 := ⟨0, 0, ⟨[], WordsAt.nil _ _ _ _ (Nat.zero_le _), Nat.zero_le _, rfl⟩, ⟨[], WordsAt.nil _ _ _ _ (Nat.zero_le _), Nat.zero_le _, rfl⟩, by simp [qv]⟩
 obtain ⟨va, hva, hqa⟩ := ((ha.take hNa).imp (X' := fun y => y < w.heap.size) (R' := QIs w (fun _ => True) L) (fun b hb _ => hb) (fun _ _ h => h.any)).elems h0a
 obtain ⟨vb, hvb, hqb⟩ := ((hb.take hNb).imp (X' := fun y => y < w.heap.size) (R' := QIs w (fun _ => True) M) (fun b hb _ => hb) (fun _ _ h => h.any)).elems h0b
 have HA := Lib.hid hva
 have HB := Lib.hid hvb
 have HQA : Hid (∀ i, QIs w (fun y => y < w.heap.size) L (va i) ((la.take N).getD i 0)) := fun i => (hqa i).imp fun b hb _ => hb
 have HQB : Hid (∀ i, QIs w (fun y => y < w.heap.size) M (vb i) ((lb.take N).getD i 0)) := fun i => (hqb i).imp fun b hb _ => hb
 obtain ⟨f, hfd⟩ : ∃ f : Nat → Rat, f = fun i => (la.take N).getD i 0 * (lb.take N).getD i 0 := ⟨_, rfl⟩
 have HF : Hid (∀ i, Lin.Fits kb (f i)) := fun i => by
  rw [hfd]
  by_cases hi : i < N
  ·simpa [List.getD_eq_getElem?_getD, List.getElem?_take_of_lt hi] using hf i
  ·have : (la.take N).getD i 0 = 0 := getD_none _ _ _ (by rw [List.length_take]; omega)
   dsimp only
   rw [this, Rat.zero_mul]; exact Lin.Fits.zero _
 have HE : Hid (Lin.sum N f = Lin.sum N fun i => la.getD i 0 * lb.getD i 0) := by
  rw [hfd]
  exact Lin.sum_congr fun i hi => by simp [List.getD_eq_getElem?_getD, List.getElem?_take_of_lt hi]
 have HKB := Lib.hid hkb
 dsimp only [SV.val] at hna ⊢
 rw [← hN]
 clear ha hb hL hM h0a h0b hva hvb hqa hqb hf hkb hN
 have HFD := Lib.hid hfd
 clear hfd
 refine callsIn_of_wp_marks Tryz.func30 rfl trivial ?_ rfl
 simp only [Tryz.ntmps30, List.size_toArray, List.length_cons, List.length_nil, Nat.reduceAdd, Nat.reduceSub, Array.replicate_succ, Array.replicate_zero, List.push_toArray, List.append_toArray, List.nil_append, List.cons_append]
 gi_wp2
 refine wpIn_wide_G 1000 (fun _ _ => True) (by kernel_rfl) ?_
 refine tkA 0 ?_ (fun w' b hSw => ?_) (trivial) ?_
 rotate_left
 ·(try dsimp only at hSw); go_simp; try with_reducible rfl
 simp only [zzA, zzB, zzC]
 refine tkA 1 ?_ (fun w' b hSw => ?_) (trivial) ?_
 rotate_left
 ·(try dsimp only at hSw); go_simp; try with_reducible rfl
 simp only [zzA, zzB, zzC]
 refine takeA (i := 2) (.slice A N ca) rfl rfl (by kernel_rfl) (by kernel_rfl) (by kernel_rfl) (by decide) (fun _ _ _ h => h) (by rfl) (fun w' hSw => ?_) trivial ?_
 ·go_simp
  intro h; omega
 simp only [zzA, zzB, zzC]
 refine tkA 3 ?_ (fun w' b hSw => ?_) (trivial) ?_
 rotate_left
 ·(try dsimp only at hSw); go_simp; try with_reducible rfl
 simp only [zzA, zzB, zzC]
 refine tkA 4 ?_ (fun w' b hSw => ?_) (trivial) ?_
 rotate_left
 ·(try dsimp only at hSw); go_simp; try with_reducible rfl
 simp only [zzA, zzB, zzC]
 refine takeA (i := 5) (.slice B N cb) rfl rfl (by kernel_rfl) (by kernel_rfl) (by kernel_rfl) (by decide) (fun _ _ _ h => h) (by rfl) (fun w' hSw => ?_) trivial ?_
 ·go_simp
  intro h; omega
 simp only [zzA, zzB, zzC]
 obtain ⟨W1, hW1⟩ : ∃ W1, (((w.alloc (.cells #[.bool false, .slice none 0 0, .bool false, .slice none 0 0] 30)).alloc (.cells #[.bool false, .slice none 0 0, .bool false, .slice none 0 0] 30)).alloc (.cells #[.func (.func 82) #[] #[.pointer (some ⟨w.heap.size + 1, 0, none⟩)]] 109)).drew = W1 := ⟨_, rfl⟩
 rw [hW1]
 have hz1 : W1.heap.size = w.heap.size + 1 + 1 + 1 := by rw [← hW1]; simp [World.drew]
 have HW1 := Lib.hid hW1
 clear hW1
 refine oneW (i := 6) (by kernel_rfl) rfl (by rfl) ?_
 intro K hK
 go_simp
 refine ((callsIn_wide (n := 6)).1 (qpairs_in A B N ca N cb)).mono ?_
 rintro e w2 ⟨rfl, rfl⟩
 refine hK.out _ _ trivial ?_
 clear hK K
 refine wpAnyG_done (by kernel_rfl) (NoPanic.normal ?_) _
 rw [hz1]
 gi_wp2
 obtain ⟨W0, hW0⟩ : ∃ W0, ((W1.alloc (.cells #[.slice A N ca] 23)).alloc (.cells #[.slice B N cb] 23)) = W0 := ⟨_, rfl⟩
 rw [hW0]
 have y0 : QBlk W1 w.heap.size QV.zero := by rw [← HW1.out]; exact drk (alk (alk (heap_new _ _ rfl)))
 have y1 : QBlk W1 (w.heap.size + 1) QV.zero := by rw [← HW1.out]; exact drk (alk (heap_new _ _ (by simp)))
 have y2 : Boxed W1 (w.heap.size + 1 + 1) 109 (.func (.func 82) #[] #[.pointer (some ⟨w.heap.size + 1, 0, none⟩)]) := by rw [← HW1.out]; exact drk (heap_new _ _ (by simp))
 have yb : Below w.heap.size w W1 := by rw [← HW1.out]; exact ((((Below.refl _ w).alloc (Nat.le_refl _) _).alloc (by simp) _).alloc (by simp; omega) _).drew
 have hk0 : Below w.heap.size w W0 := by rw [← hW0]; exact (yb.alloc yb.size _).alloc (by simp; omega) _
 have hs0 : W0.heap.size = w.heap.size + 5 := by rw [← hW0]; simp; omega
 have x0 : QBlk W0 w.heap.size QV.zero := by rw [← hW0]; exact alk (alk y0)
 have x1 : QBlk W0 (w.heap.size + 1) QV.zero := by rw [← hW0]; exact alk (alk y1)
 have x2 : Boxed W0 (w.heap.size + 1 + 1) 109 (.func (.func 82) #[] #[.pointer (some ⟨w.heap.size + 1, 0, none⟩)]) := by rw [← hW0]; exact alk (alk y2)
 have x3 : Boxed W0 (w.heap.size + 1 + 1 + 1) 23 (.slice A N ca) := by rw [← hW0]; exact alk (heap_new _ _ hz1.symm)
 have x4 : Boxed W0 (w.heap.size + 1 + 1 + 1 + 1) 23 (.slice B N cb) := by rw [← hW0]; exact heap_new _ _ (by simp; omega)
 clear y0 y1 y2 yb HW1 hz1
 clear hW0
 refine wpIn_rangeFunc_ownH (F := Fence.wide) rfl (by omega) (gf := 140) (lb := #[.pointer (some ⟨w.heap.size + 1 + 1 + 1, 0, none⟩), .pointer (some ⟨w.heap.size + 1 + 1 + 1 + 1, 0, none⟩)]) rfl trivial (enters_of Tryz.func140 (by kernel_rfl) rfl)
  (qpairs_stops (X := fun y => y ≠ w.heap.size + 1) (sa := ⟨A, N, ca⟩) (sb := ⟨B, N, cb⟩) (va := va) (vb := vb) (N := N) (by omega) x3 x4 (by omega) (by omega)
   ((HA.out.carry (Carry.of_below hk0)).imp fun b hb => by omega) ((HB.out.carry (Carry.of_below hk0)).imp fun b hb => by omega) (by simp) (by omega))
  (fun h k => h.trans k) (fun W l o o' _ hl ho _ => Carry.putObj o' hl ho) (Below.refl _ _) (fun _ => rfl)
  (fun pre W => DotInv w f pre W ∧ Below w.heap.size w W)
  (fun _ _ _ => False)
  (OwnFrom.and (Own.from DotInv.own _) (ownFrom_below (Nat.le_refl _) (by omega)))
  (fun _ _ _ _ _ hs _ _ => hs)
  ⟨⟨⟨QV.zero, x1, qcan_zero _ _⟩, x0, x2, Carry.of_below hk0⟩, hk0⟩
  (fun x a' W => ∃ g, a' = { tmps := #[.slice A la' ca, .slice B lb' cb, undef, undef, .pointer (some ⟨w.heap.size, 0, none⟩), .pointer (some ⟨w.heap.size + 1, 0, none⟩), .pointer (some ⟨w.heap.size + 1 + 1, 0, none⟩), .int .i64 N, .pointer (some ⟨g, 0, none⟩), .pointer (some ⟨g + 1, 0, none⟩), .func (.func 82) #[] #[.pointer (some ⟨w.heap.size + 1, 0, none⟩)], .slice A la' ca, .int .i64 la', .slice B lb' cb, .int .i64 lb', .int .i64 N, .slice A la' ca, .int .i64 N, .slice A N ca, .slice B lb' cb, .int .i64 N, .slice B N cb, .func (.func 140) #[] #[.pointer (some ⟨w.heap.size + 1 + 1 + 1, 0, none⟩), .pointer (some ⟨w.heap.size + 1 + 1 + 1 + 1, 0, none⟩)], (va x).val, (vb x).val, undef, undef, undef, undef, undef], defers := [] } ∧ QBlk W g (va x) ∧ QBlk W (g + 1) (vb x))
  (fun x a' _ W W' row hs hg hr => ?hAx) ?assign ?body ?done ?stop
 case hAx =>
  obtain ⟨g, e, g1, g2⟩ := hs
  exact ⟨g, e, grown_cells hg (fun r e => (hr r e).2) g1, grown_cells hg (fun r e => (hr r e).2) g2⟩
 case stop =>
  rintro D c pre W _ _ h _
  exact h.elim
 case assign =>
  intro l pre x W K hI hK
  gi_wp2
  have al : Below W.heap.size W ((W.alloc (.cells #[.bool (va x).num.ng, .slice (va x).num.A (va x).num.n (va x).num.c, .bool (va x).den.ng, .slice (va x).den.A (va x).den.n (va x).den.c] 30)).alloc (.cells #[.bool (vb x).num.ng, .slice (vb x).num.A (vb x).num.n (vb x).num.c, .bool (vb x).den.ng, .slice (vb x).den.A (vb x).den.n (vb x).den.c] 30)) := ((Below.refl _ _).alloc (Nat.le_refl _) _).alloc (by simp) _
  obtain ⟨⟨⟨s, i1, i2⟩, i3, i4, i5⟩, hB⟩ := hI
  exact hK _ _ ⟨al.size, fun k o _ hk _ => (al.block k (lt_of_block hk)).trans hk⟩ (Carry.of_below al) ⟨⟨⟨s, (al.block _ (lt_of_block i1)).trans i1, i2.below al⟩, (al.block _ (lt_of_block i3)).trans i3, (al.block _ (lt_of_block i4)).trans i4, i5.trans (Carry.of_below al)⟩, hB.trans (al.mono hB.size)⟩ ⟨W.heap.size, rfl, alk (heap_new _ _ rfl), heap_new _ _ (by simp)⟩
 case body =>
  rintro l pre x a' W _ _ ⟨⟨⟨s, i1, i2⟩, i3, i4, i5⟩, hB⟩ ⟨g, rfl, g1, g2⟩ hlt
  have hqa := (HQA.out x).carry (i5.mono fun y hy => by omega)
  have hqb := (HQB.out x).carry (i5.mono fun y hy => by omega)
  obtain ⟨a0, a1, a2, a3, -⟩ := qblk_box g1
  obtain ⟨b0, b1, b2, b3, -⟩ := qblk_box g2
  have c4 := i4.cell
  have Hs := Lib.hid hs0
  have I2 := Lib.hid i2
  clear hs0 x0 x1 x2 x3 x4 hk0 i2
  gi_wp2
  refine ⟨trivial, ?_⟩
  refine CallsIn.inRound l (callsIn_wide.2 ((dot1_calls (K := LM) (x := va x) (y := vb x) (s := s) hqa hqb I2.out i1 HL.out HM.out (Nat.le_refl _) ?fr ?fp).mono ?_))
  case fr => exact qfit_to (lsum_fits HF.out pre) (Nat.lt_of_le_of_lt (Nat.mul_le_mul_right _ (by omega)) HKB.out)
  case fp =>
   have := HF.out x
   rw [HFD.out] at this
   exact qfit_to this (by have := HKB.out; omega)
  rintro e w3 ⟨rfl, s2, j1, j2, j3⟩
  clear a0 a1 a2 a3 b0 b1 b2 b3 c4 hqa hqb
  have hcw : Carry (fun y => y ≠ w.heap.size + 1) W w3 := ⟨j3.size, fun k cs t f hx hk => (j3.block k (lt_of_block hk) hx).trans hk⟩
  have hB3 := hB.trans (j3.below hB.size (fun b e => by omega))
  gi_wp2
  refine ⟨⟨j3.size, fun k o _ hk ho => (j3.block k (lt_of_block hk) (fun e => by subst e; rw [show W.heap[w.heap.size + 1]? = _ from i1] at hk; cases hk; cases ho)).trans hk⟩, hcw, ⟨⟨s2, j1, ?_⟩, (j3.block _ (lt_of_block i3) (by omega)).trans i3, (j3.block _ (lt_of_block i4) (by omega)).trans i4, i5.trans hcw⟩, hB3⟩
  rw [lsum_snoc, HFD.out]
  rw [HFD.out] at j2
  have hz := lt_of_block i1
  exact j2.imp fun b _ hb => by
   rcases hb with hb | hb
   ·exact hb
   ·omega
 case done =>
  rintro Dd ys W hDd rfl ⟨⟨⟨s, i1, i2⟩, i3, i4, i5⟩, hB⟩ hK0
  obtain ⟨z0, z1, z2, z3, -⟩ := qblk_box i1
  obtain ⟨r0, r1, r2, r3, rf⟩ := qblk_box i3
  dsimp only [QV.zero] at r0 r1 r2 r3
  have Hs := Lib.hid hs0
  have I2 := Lib.hid i2
  clear hs0 x0 x1 x2 x3 x4 i2 i4 i5
  have hne : Dd ≠ w.heap.size := by have := Hs.out; omega
  gi_wp2
  have P8 := Put.four (W := W) w.heap.size (.bool s.num.ng) (.slice s.num.A s.num.n s.num.c) (.bool s.den.ng) (.slice s.den.A s.den.n s.den.c)
  have b8 := qblk_set (t := s) i3
  generalize (((W.setCell ⟨w.heap.size, 0, none⟩ (.bool s.num.ng)).setCell ⟨w.heap.size, 1, none⟩ (.slice s.num.A s.num.n s.num.c)).setCell ⟨w.heap.size, 2, none⟩ (.bool s.den.ng)).setCell ⟨w.heap.size, 3, none⟩ (.slice s.den.A s.den.n s.den.c) = y8 at *
  have hK1 : y8.heap[Dd]? = some (.deferred (some [])) := (P8.keep _ hne).trans hK0
  refine ⟨by simp, .inl ⟨_, _, rfl, run_takeDeferred hK1, ?_⟩⟩
  have g1 := grown_cells (grownBy_putObj' y8 Dd (.deferred none)) (fun r e => by cases e; exact ⟨_, hK1, rfl⟩) b8
  obtain ⟨g10, g11, g12, g13, -⟩ := qblk_box g1
  have q8 : QCan y8 (fun b => w.heap.size + 1 < b) s (lsum f (List.range N)) := I2.out.keep fun a ha _ => World.cell?_of_block (P8.keep _ (by omega))
  have q9 := q8.carry (Carry.grown (grownBy_putObj' y8 Dd (.deferred none)) (fun r e => by cases e; exact ⟨_, hK1, rfl⟩))
  rw [lsum_range, HE.out] at q9
  refine ⟨s.val, by simp [results, Tryz.results30, go_sem, g10, g11, g12, g13], ⟨s, rfl, q9.imp fun b _ hb => by show w.heap.size ≤ b; omega⟩, ?_⟩
  exact (hB.trans (P8.below _ (Nat.le_refl _))).trans (belowK_b (w := w) (Nat.le_refl _) _ Dd _ _ (by have := Hs.out; omega) hK1 rfl rfl)
end Go.Proofs.YtlepljpdkbjbhaaGreat
namespace Go.Proofs.YtlepljpdkbjbhaaGreat
open Go.RowKit Go.Shelf
def dotL (r x : List Rat) : Rat := Lin.sum (min r.length x.length) fun i => r.getD i 0 * x.getD i 0
set_option maxRecDepth 20000 in
set_option maxHeartbeats 4000000 in
theorem mulvec_calls {w : World} {X Y X' Y' : Nat → Prop} {L M kb : Nat} {s sx : SV} {m : List (List Rat)} {x : List Rat} (h : MatIs w X Y L s m) (hx : VecIs w X' Y' M sx x) (hn : s.n ≤ 1000000) (hr : ∀ i, (m.getD i []).length ≤ 1000000) (hL : L ≤ LM) (hM : M ≤ LM) (hkb : 1000000 * (kb + 1) < 32 * LM) (hf : ∀ i k, Lin.Fits kb ((m.getD i []).getD k 0 * x.getD k 0)) :
  Calls Tryz.prog 74 #[s.val, sx.val] w fun e w' => VRet w (m.map fun r => dotL r x) e w' ∧ Below w.heap.size w w' := by
 obtain ⟨A, n, c⟩ := s
 obtain ⟨xA, xn, xc⟩ := sx
 dsimp only at hn
 have hmk := run_make_q n hn
 have HL := Lib.hid hL
 have HM := Lib.hid hM
 have HR := Lib.hid hr
 have HK := Lib.hid hkb
 have HF := Lib.hid hf
 have HX := Lib.hid hx
 have HLen : Hid (m.length = n) := h.len
 have hle : n ≤ c := h.le
 have hcap : c ≤ 9223372036854775807 := h.cap
 clear hL hM hr hkb hf hx
 show Calls _ _ #[.slice A n c, .slice xA xn xc] _ _
 go_enter Tryz.func74, Tryz.ntmps74
 go_wp2
 obtain ⟨f, hfd⟩ : ∃ f : Nat → Rat, f = fun i => dotL (m.getD i []) x := ⟨_, rfl⟩
 have HD := Lib.hid hfd
 have HE : Hid ((List.range n).map f = m.map fun r => dotL r x) := by
  show _ = _
  rw [hfd, ← HLen.out]
  apply List.ext_getElem
  ·simp
  ·intro i h1 h2
   simp at h1
   simp [List.getD_eq_getElem?_getD, h1]
 clear hfd
 have hb0 : Below w.heap.size w (w.alloc (.cells (zeroQ n) 30)) := (Below.refl _ _).alloc (Nat.le_refl _) _
 have H0 : FillLoop w w.heap.size f n n (fun _ => True) (.int .i64 0) (w.alloc (.cells (zeroQ n) 30)) :=
  ⟨0, Nat.zero_le _, rfl, by
   rw [fillTo_zero]
   exact RowAt.made w n (fun x => x < w.heap.size ∨ x = w.heap.size) (.inr rfl), hb0, trivial⟩
 clear hmk hb0
 generalize w.alloc (.cells (zeroQ n) 30) = W0 at *
 go_loopw [13] (fun t W => FillLoop w w.heap.size f n n (fun _ => True) t W) (fun t _ => n - (intOf t).toNat)
 case atStart => exact H0
 case round =>
  clear H0
  obtain ⟨i, hi, rfl, hR, hB, -⟩ := hrel
  have hRl := hR.lt
  by_cases hlt : i < n
  ·obtain ⟨ad, r, e, -, r0, hr⟩ := (h.below hB).row i hlt
   dsimp only at e
   subst e
   obtain ⟨rA, rn, rc⟩ := r
   have HW := Lib.hid hr
   have hrn : (m.getD i []).length = rn := hr.len
   have Hrn := Lib.hid hrn
   clear hr hrn
   go_wp2_with fail
   refine (dot_calls (kb := kb) (sa := ⟨rA, rn, rc⟩) (sb := ⟨xA, xn, xc⟩) HW.out (HX.out.below hB) HL.out HM.out (by have := HR.out i; rw [Hrn.out] at this; exact this) HK.out (HF.out i)).mono ?_
   rintro e w1 ⟨⟨z, rfl, hz⟩, hb1⟩
   have hR1 := hR.below hb1
   have hz2 : QCan w1 (New wr.heap.size) z (f i) := by
    rw [HD.out]
    unfold dotL
    dsimp only
    have e2 : x.length = xn := HX.out.len
    rw [Hrn.out, e2]
    exact hz
   clear hz r0
   obtain ⟨zv, ⟨d0, d1, d2, d3⟩, -⟩ := hR1.elem i (by rw [fillTo_length _ hi]; exact hlt)
   have fz := hR1.frozen
   dsimp only at d1 d2 d3
   go_wp2
   go_roundw
   case rel => exact FillLoop.step (B := wr.heap.size) hlt (Nat.le_refl _) hR hB hb1 hB.size hRl (Nat.le_refl _) hz2 trivial
   case measure => simp [intOf]; omega
  ·obtain rfl : i = n := by omega
   rw [fillTo_full, HE.out] at hR
   go_wp2
   go_ret
   exact ⟨VRet.of (by rw [List.length_map]; exact HLen.out) hn (Nat.le_refl _) hR, hB⟩
theorem evaluate_calls {w : World} {X Y X' Y' : Nat → Prop} {L M kb : Nat} {p : LPV} {os rs : List (List Rat)} {bs : List Rat} {sx : SV} {x : List Rat} (h : LPIs w X Y L p os rs bs) (hx : VecIs w X' Y' M sx x) (hn : p.O.n ≤ 1000000) (hr : ∀ i, (os.getD i []).length ≤ 1000000) (hL : L ≤ LM) (hM : M ≤ LM) (hkb : 1000000 * (kb + 1) < 32 * LM) (hf : ∀ i k, Lin.Fits kb ((os.getD i []).getD k 0 * x.getD k 0)) :
  Calls Tryz.prog 24 #[p.val, sx.val] w fun e w' => VRet w (os.map fun r => dotL r x) e w' ∧ Below w.heap.size w w' := by
 obtain ⟨pn, ⟨oA, on, oc⟩, ⟨rA, rn, rc⟩, ⟨bA, bn, bc⟩⟩ := p
 obtain ⟨xA, xn, xc⟩ := sx
 have H := Lib.hid h.obj
 have HX := Lib.hid hx
 have HF := Lib.hid hf
 have HK := Lib.hid hkb
 have HL := Lib.hid hL
 have HM := Lib.hid hM
 have HR := Lib.hid hr
 have Hn := Lib.hid hn
 clear h hx hf hkb hL hM hr hn
 dsimp only [LPV.val, SV.val] at *
 go_enter Tryz.func24, Tryz.ntmps24
 go_wp2_with fail
 have al : Below w.heap.size w (w.alloc (.cells #[.int .i64 pn, .slice oA on oc, .slice rA rn rc, .slice bA bn bc] 25)) := (Below.refl _ _).alloc (Nat.le_refl _) _
 refine (mulvec_calls (kb := kb) (s := ⟨oA, on, oc⟩) (sx := ⟨xA, xn, xc⟩) (H.out.below al) (HX.out.below al) Hn.out HR.out HL.out HM.out HK.out HF.out).mono ?_
 rintro e w1 ⟨⟨z, rfl, hz⟩, hb1⟩
 go_wp2
 go_ret
 exact ⟨⟨z, rfl, hz.low al.size⟩, al.trans (hb1.mono al.size)⟩
theorem dotL_fits {kb : Nat} {r x : List Rat} (hr : r.length ≤ 1000000) (hkb : 1000000 * (kb + 1) < 32 * LM) (hf : ∀ k, Lin.Fits kb (r.getD k 0 * x.getD k 0)) : QFit LM (dotL r x) := by
 unfold dotL
 rw [← lsum_range]
 exact qfit_to (lsum_fits hf _) (Nat.lt_of_le_of_lt (Nat.mul_le_mul_right _ (by rw [List.length_range]; omega)) hkb)
theorem eval_fits {kb : Nat} {os : List (List Rat)} {x : List Rat} (hr : ∀ i, (os.getD i []).length ≤ 1000000) (hkb : 1000000 * (kb + 1) < 32 * LM) (hf : ∀ i k, Lin.Fits kb ((os.getD i []).getD k 0 * x.getD k 0)) (i : Nat) : QFit LM ((os.map fun r => dotL r x).getD i 0) := by
 by_cases hi : i < os.length
 ·rw [show (os.map fun r => dotL r x).getD i 0 = dotL (os.getD i []) x by simp [List.getD_eq_getElem?_getD, hi]]
  exact dotL_fits (hr i) hkb (hf i)
 ·rw [getD_none _ _ _ (by rw [List.length_map]; omega)]; exact qfit_to (Lin.Fits.zero 0) (by rw [LM_eq]; omega)
def lpcmp (os : List (List Rat)) (x y : List Rat) : Int :=
 if vcmp (fun i => (os.map fun r => dotL r x).getD i 0) (fun i => (os.map fun r => dotL r y).getD i 0) os.length = 0 then vcmp (fun i => y.getD i 0) (fun i => x.getD i 0) (max y.length x.length)
 else vcmp (fun i => (os.map fun r => dotL r x).getD i 0) (fun i => (os.map fun r => dotL r y).getD i 0) os.length
theorem compareV_calls {w : World} {X Y X' Y' : Nat → Prop} {L M : Nat} {sa sb : SV} {la lb : List Rat} (o : Int) (ha : VecIs w X Y L sa la) (hb : VecIs w X' Y' M sb lb) (hL : L ≤ LM) (hM : M ≤ LM) (hna : la.length ≤ 1000000) (hnb : lb.length ≤ 1000000) (ho : vcmp (fun i => la.getD i 0) (fun i => lb.getD i 0) (max la.length lb.length) = o) :
  Calls Tryz.prog 34 #[sa.val, sb.val] w fun e w' => e = .returned (.int .i64 o) ∧ Below w.heap.size w w' := by
 subst ho
 rw [ha.len, hb.len]
 exact compare_calls ha hb hL hM (by rw [← ha.len]; exact hna) (by rw [← hb.len]; exact hnb)
set_option maxRecDepth 20000 in
set_option maxHeartbeats 4000000 in
theorem lpcompare_calls {w : World} {X Y X' Y' X2 Y2 : Nat → Prop} {L M M2 kb : Nat} {p : LPV} {os rs : List (List Rat)} {bs : List Rat} {sx sy : SV} {x y : List Rat} (h : LPIs w X Y L p os rs bs) (hx : VecIs w X' Y' M sx x) (hy : VecIs w X2 Y2 M2 sy y) (hn : p.O.n ≤ 1000000) (hr : ∀ i, (os.getD i []).length ≤ 1000000) (hxn : sx.n ≤ 1000000) (hyn : sy.n ≤ 1000000) (hL : L ≤ LM) (hM : M ≤ LM) (hM2 : M2 ≤ LM) (hkb : 1000000 * (kb + 1) < 32 * LM)
  (hf : ∀ i k, Lin.Fits kb ((os.getD i []).getD k 0 * x.getD k 0)) (hf2 : ∀ i k, Lin.Fits kb ((os.getD i []).getD k 0 * y.getD k 0)) :
  Calls Tryz.prog 25 #[p.val, sx.val, sy.val] w fun e w' => e = .returned (.int .i64 (lpcmp os x y)) ∧ Below w.heap.size w w' := by
 obtain ⟨pn, ⟨oA, on, oc⟩, ⟨rA, rn, rc⟩, ⟨bA, bn, bc⟩⟩ := p
 obtain ⟨xA, xn, xc⟩ := sx
 obtain ⟨yA, yn, yc⟩ := sy
 have H := Lib.hid h
 have HX := Lib.hid hx
 have HY := Lib.hid hy
 have HF := Lib.hid hf
 have HF2 := Lib.hid hf2
 have HK := Lib.hid hkb
 have HL := Lib.hid hL
 have HM := Lib.hid hM
 have HM2 := Lib.hid hM2
 have HR := Lib.hid hr
 have Hn := Lib.hid hn
 have Hxn := Lib.hid hxn
 have Hyn := Lib.hid hyn
 have HO : Hid (os.length = on) := h.obj.len
 have HXL : Hid (x.length = xn) := hx.len
 have HYL : Hid (y.length = yn) := hy.len
 clear h hx hy hf hf2 hkb hL hM hM2 hr hn hxn hyn
 dsimp only [LPV.val, SV.val] at *
 obtain ⟨o, ho⟩ : ∃ o, vcmp (fun i => (os.map fun r => dotL r x).getD i 0) (fun i => (os.map fun r => dotL r y).getD i 0) os.length = o := ⟨_, rfl⟩
 obtain ⟨o2, ho2⟩ : ∃ o, vcmp (fun i => y.getD i 0) (fun i => x.getD i 0) (max y.length x.length) = o := ⟨_, rfl⟩
 have he : lpcmp os x y = if o = 0 then o2 else o := by unfold lpcmp; rw [ho, ho2]
 rw [he]
 have HV := Lib.hid ho
 have HV2 := Lib.hid ho2
 clear he ho ho2
 go_enter Tryz.func25, Tryz.ntmps25
 go_upto_region 1 with fail
 refine gen_world (fun W => Below w.heap.size w W ∧ Box4 W w.heap.size (.int .i64 pn) (.slice oA on oc) (.slice rA rn rc) (.slice bA bn bc) ∧ w.heap.size < W.heap.size) ⟨((Below.refl _ _).alloc (by simp <;> omega) _), ⟨by go_simp, by go_simp, by go_simp, by go_simp, by intro o; go_simp⟩, by simp <;> omega⟩ ?_
 rintro W ⟨hbW, bP, s0⟩
 have hBW := hbW.size
 go_region_held3 (Sees w.heap.size [] W) (first | (with_reducible assumption) | ((with_reducible apply Kept.call2) <;> (with_reducible assumption)) | ((with_reducible first | apply Sees.k6 | apply Sees.k2 | apply Sees.k1 | apply Sees.st | apply Sees.d2 | apply Sees.d1 | apply Sees.al) <;> (first | (with_reducible assumption) | (simp; done) | (simp <;> omega))) | ((with_reducible first | apply Sees.k4 | apply Sees.d4 | apply Sees.dr | apply Sees.ax) <;> (first | (with_reducible assumption) | (simp; done) | (simp <;> omega))) | ((with_reducible first | apply Sees.n4 | apply Sees.ad | apply Sees.k1 | apply Sees.d1 | apply Sees.mo) <;> (first | (with_reducible assumption) | (simp; done) | (simp <;> omega))) | ((with_reducible apply Sees.mo) <;> (first | (with_reducible assumption) | (simp; done) | (simp <;> omega))) | ((with_reducible apply Kept.sees) <;> (repeat' (with_reducible first | apply Kept.drew | apply Kept.alloc | apply Kept.setN)) <;> (first | (with_reducible assumption) | (simp; done) | (simp <;> omega) | ((with_reducible apply Kept.refl) <;> (first | (with_reducible assumption) | (simp; done) | (simp <;> omega))))))
  (first
   | (go_at_call 24; ((with_reducible refine (evaluate_calls (kb := kb) (p := ⟨pn, ⟨oA, on, oc⟩, ⟨rA, rn, rc⟩, ⟨bA, bn, bc⟩⟩) (sx := ⟨xA, xn, xc⟩) (H.out.below (hbW.trans ((Sees.kept (by assumption)).whole.mono hbW.size))) (HX.out.below (hbW.trans ((Sees.kept (by assumption)).whole.mono hbW.size))) Hn.out HR.out HL.out HM.out HK.out HF.out).mono ?_); rintro e w1 ⟨⟨⟨zA, zn, zc⟩, rfl, hz1⟩, hb1⟩))
   | (go_at_call 24; ((with_reducible refine (evaluate_calls (kb := kb) (p := ⟨pn, ⟨oA, on, oc⟩, ⟨rA, rn, rc⟩, ⟨bA, bn, bc⟩⟩) (sx := ⟨yA, yn, yc⟩) (H.out.below (hbW.trans ((Sees.kept (by assumption)).whole.mono hbW.size))) (HY.out.below (hbW.trans ((Sees.kept (by assumption)).whole.mono hbW.size))) Hn.out HR.out HL.out HM2.out HK.out HF2.out).mono ?_); rintro e w2 ⟨⟨⟨uA, un, uc⟩, rfl, hz2⟩, hb2⟩))
   | (go_at_call 34; ((with_reducible refine (compareV_calls o (L := LM) (M := LM) (sa := ⟨zA, zn, zc⟩) (sb := ⟨uA, un, uc⟩) ((hz1.belowC hb2).loose (eval_fits HR.out HK.out HF.out)) (hz2.loose (eval_fits HR.out HK.out HF2.out)) (Nat.le_refl _) (Nat.le_refl _) (by rw [List.length_map, HO.out]; exact Hn.out) (by rw [List.length_map, HO.out]; exact Hn.out) (by rw [List.length_map, List.length_map, Nat.max_self]; exact HV.out)).mono ?_); rintro e w3 ⟨rfl, hb3⟩))
   | fail)
 rename_i hS
 have hbf := hbW.trans hS.kept.below
 clear hS hz1 hz2 hb1 hb2 hb3
 by_cases h0 : o = 0
 ·subst h0
  go_wp2_with fail
  refine (compareV_calls o2 (L := M2) (M := M) (sa := ⟨yA, yn, yc⟩) (sb := ⟨xA, xn, xc⟩) (HY.out.below hbf) (HX.out.below hbf) HM2.out HM.out (by rw [HYL.out]; exact Hyn.out) (by rw [HXL.out]; exact Hxn.out) HV2.out).mono ?_
  rintro e w4 ⟨rfl, hb4⟩
  go_wp2
  go_ret
  exact ⟨by simp, hbf.trans (hb4.mono hbf.size)⟩
 ·have h1 : (o != 0) = true := by simpa using h0
  go_wp2
  go_ret
  exact ⟨by simp, hbf⟩
end Go.Proofs.YtlepljpdkbjbhaaGreat
namespace Go.Proofs.YtlepljpdkbjbhaaGreat
open Go.RowKit Go.Shelf
attribute [local go_sem] Oper.semAt_some
theorem wpIn_scope {n : Nat} {P : Program} {c : Code} {Q : Exit → Act → World → Prop} {a : Act} {w : World} (h : c.wpIn Fence.wide n P (Exit.noGoto Q) a w) : (Code.scope c).wpIn Fence.wide n P Q a w := wpIn_wide.2 (wp_scope_straight (wpIn_wide.1 h))
theorem qis_zero (w : World) (L : Nat) : QIs w (fun _ => True) L QV.zero 0 := ⟨0, 0, ⟨[], WordsAt.nil _ _ _ _ (Nat.zero_le _), Nat.zero_le _, rfl⟩, ⟨[], WordsAt.nil _ _ _ _ (Nat.zero_le _), Nat.zero_le _, rfl⟩, by simp [qv]⟩
def FeasX (w : World) (_V : Nat) (z : Int) (O R : SV) (_lb : Nat) (B : SV) (xA : Option Addr) (xn xc : Nat) (x : List Rat) (t : Value) (W : World) : Prop :=
 ∃ k : Nat, k ≤ xn ∧ t = .int .i64 k ∧ Below w.heap.size w W ∧ Box4 W w.heap.size (.int .i64 z) O.val R.val B.val ∧ Boxed W (w.heap.size + 1) 23 (.slice xA xn xc) ∧ w.heap.size + 1 < W.heap.size ∧ ∀ j, j < k → 0 ≤ x.getD j 0
def FInv (W0 : World) (g : Nat) (ok : Nat → Prop) (pre : List Nat) (W : World) : Prop :=
 Boxed W g 4 (.bool true) ∧ Carry (fun y => y ≠ g) W0 W ∧ ∀ x ∈ pre, ok x
def FOut (w : World) (g : Nat) (ok : Nat → Prop) (c : Code) (pre : List Nat) (W : World) : Prop :=
 c = .exit 2 ∧ ∃ pr x, pre = pr ++ [x] ∧ ¬ ok x ∧ Boxed W g 4 (.bool false) ∧ Below w.heap.size w W
theorem FInv.own {W0 : World} {g : Nat} {ok : Nat → Prop} : Own (FInv W0 g ok) := fun _s _W _W' _row hs hg hr => ⟨grown_cells hg hr hs.1, hs.2.1.trans (Carry.grown hg hr), hs.2.2⟩
set_option maxRecDepth 100000 in
set_option maxHeartbeats 8000000 in
theorem feasible_calls {w : World} {X Y X' Y' : Nat → Prop} {L M V kb : Nat} {p : LPV} {os rs : List (List Rat)} {bs x : List Rat} {s : SV} (b : Bool) (h : LPIs w X Y L p os rs bs) (hV : p.n = V) (hV2 : V ≤ 64) (ho1 : 1 ≤ p.O.n) (ho2 : p.O.n ≤ 4) (hr : p.R.n ≤ 128) (hb : p.B.n = p.R.n) (hco : colsOf os ≤ V) (hcr : colsOf rs ≤ V)
  (hx : VecIs w X' Y' M s x) (hxl : x.length ≤ V) (hL : L ≤ LM) (hM : M ≤ LM) (hkb : 1000000 * (kb + 1) < 32 * LM) (hf : ∀ i k, Lin.Fits kb ((rs.getD i []).getD k 0 * x.getD k 0))
  (hbb : ((∀ k, k < x.length → 0 ≤ x.getD k 0) ∧ ∀ i, i < rs.length → dotL (rs.getD i []) x ≤ bs.getD i 0) ↔ b = true) :
  Calls Tryz.prog 31 #[p.val, s.val] w fun e w' => e = .returned (.bool b) ∧ Below w.heap.size w w' := by
 refine (callsIn_wide (n := 6)).1 ?_
 obtain ⟨z, ⟨oA, on, oc⟩, ⟨A, la, ca⟩, ⟨B, lb, cb⟩⟩ := p
 obtain ⟨xA, xn, xc⟩ := s
 dsimp only [LPV.val, SV.val] at *
 subst hV
 subst hb
 have HP := Lib.hid h
 have HX := Lib.hid hx
 have HL := Lib.hid hL
 have HM := Lib.hid hM
 have HK := Lib.hid hkb
 have HF := Lib.hid hf
 have HBB := Lib.hid hbb
 have HXL : Hid (x.length = xn) := hx.len
 have HRL : Hid (rs.length = lb) := h.rows.len
 have HCo := Lib.hid hco
 have HCr := Lib.hid hcr
 have hxv : xn ≤ V := by rw [← HXL.out]; exact hxl
 have hxle : xn ≤ xc := hx.le
 have hxcap : xc ≤ 9223372036854775807 := hx.cap
 clear h hx hL hM hkb hf hbb hco hcr hxl
 refine callsIn_of_wp_marks Tryz.func31 rfl trivial ?_ rfl
 simp only [Tryz.ntmps31, List.size_toArray, List.length_cons, List.length_nil, Nat.reduceAdd, Nat.reduceSub, Array.replicate_succ, Array.replicate_zero, List.push_toArray, List.append_toArray, List.nil_append, List.cons_append]
 gi_wp2
 refine wpIn_scope ?_
 gi_wp2
 refine ⟨trivial, ?_⟩
 have hk0 : Below w.heap.size w ((w.alloc (.cells #[.int .i64 V, .slice oA on oc, .slice A lb ca, .slice B lb cb] 25)).alloc (.cells #[.slice xA xn xc] 23)) := ((Below.refl _ w).alloc (Nat.le_refl _) _).alloc (by simp) _
 have hs0 : ((w.alloc (.cells #[.int .i64 V, .slice oA on oc, .slice A lb ca, .slice B lb cb] 25)).alloc (.cells #[.slice xA xn xc] 23)).heap.size = w.heap.size + 2 := by simp
 have b0 : Box4 ((w.alloc (.cells #[.int .i64 V, .slice oA on oc, .slice A lb ca, .slice B lb cb] 25)).alloc (.cells #[.slice xA xn xc] 23)) w.heap.size (.int .i64 V) (.slice oA on oc) (.slice A lb ca) (.slice B lb cb) := ⟨by go_simp, by go_simp, by go_simp, by go_simp, by intro o; go_simp⟩
 have b1 : Boxed ((w.alloc (.cells #[.int .i64 V, .slice oA on oc, .slice A lb ca, .slice B lb cb] 25)).alloc (.cells #[.slice xA xn xc] 23)) (w.heap.size + 1) 23 (.slice xA xn xc) := heap_new _ _ (by simp)
 generalize ((w.alloc (.cells #[.int .i64 V, .slice oA on oc, .slice A lb ca, .slice B lb cb] 25)).alloc (.cells #[.slice xA xn xc] 23)) = W0 at *
 refine (callsIn_wide.2 (valid_calls (p := ⟨V, ⟨oA, on, oc⟩, ⟨A, lb, ca⟩, ⟨B, lb, cb⟩⟩) (HP.out.below hk0) rfl hV2 ho1 ho2 hr rfl HCo.out HCr.out)).mono ?_
 rintro e w1 ⟨rfl, hb1⟩
 have hB1 := hk0.trans (hb1.mono hk0.size)
 replace b0 := b0.below hb1 (by omega)
 replace b1 : Boxed w1 (w.heap.size + 1) 23 (.slice xA xn xc) := (hb1.block _ (lt_of_block b1)).trans b1
 have l1 : w.heap.size + 1 < w1.heap.size := lt_of_block b1
 obtain ⟨q0, q1, q2, q3, qf⟩ := id b0
 have c1 := b1.cell
 have hxvi : ¬ (V : Int) < (xn : Int) := by omega
 have hxvd : decide (V < xn) = false := by simp; omega
 have H0 : Hid (FeasX w V V ⟨oA, on, oc⟩ ⟨A, lb, ca⟩ lb ⟨B, lb, cb⟩ xA xn xc x (.int .i64 0) w1) := ⟨0, Nat.zero_le _, rfl, hB1, b0, b1, l1, fun j hj => absurd hj (Nat.not_lt_zero j)⟩
 clear hk0 hs0 hb1 hB1 b0 b1
 gi_wp2
 gi_loopw [22] (fun t W => FeasX w V V ⟨oA, on, oc⟩ ⟨A, lb, ca⟩ lb ⟨B, lb, cb⟩ xA xn xc x t W) (fun t _ => xn - (intOf t).toNat)
 case atStart => exact H0.out
 case round =>
  clear H0 q0 q1 q2 q3 qf c1
  obtain ⟨k, hk, rfl, hB, b0, b1, l2, hnn⟩ := hrel
  have hBs := hB.size
  by_cases hlt : k < xn
  ·obtain ⟨ad, u, e, -, ⟨q0, q1, q2, q3⟩, hu⟩ := (HX.out.below hB).elem k hlt
   dsimp only at e q0 q1 q2 q3
   subst e
   have tq : (ad.add (k * 4)).block < wr.heap.size := block_lt_of_cell q0
   have hkbi : (k : Int) < (xn : Int) := by omega
   obtain ⟨q, hqe⟩ : ∃ q, x.getD k 0 = q := ⟨_, rfl⟩
   rw [hqe] at hu
   have HQE := Lib.hid hqe
   have HU := Lib.hid hu
   have HNN := Lib.hid hnn
   clear hu hnn hqe
   have al : Below wr.heap.size wr (wr.alloc (.cells #[.bool u.num.ng, .slice u.num.A u.num.n u.num.c, .bool u.den.ng, .slice u.den.A u.den.n u.den.c] 30)) := (Below.refl _ _).alloc (Nat.le_refl _) _
   by_cases hneg : q < 0
   ·gi_wp2
    refine ⟨trivial, ?_⟩
    refine (callsIn_wide.2 (qsign_calls (HU.out.below al))).mono ?_
    rintro e w2 ⟨rfl, hb2⟩
    have hq := qsign_neg hneg
    rw [hq]
    clear hq
    have hbf := hB.trans ((al.trans (hb2.mono al.size)).mono hBs)
    have hb : b = false := by
     cases b with
     | false => rfl
     | true => exact absurd ((HBB.out.2 rfl).1 k (by rw [HXL.out]; exact hlt)) (by rw [HQE.out]; exact Rat.not_le.2 hneg)
    subst hb
    gi_wp2
    refine ⟨.bool false, by simp [results, Tryz.results31, go_sem], ?_⟩
    exact ⟨rfl, hbf⟩
   ·gi_wp2
    refine ⟨trivial, ?_⟩
    refine (callsIn_wide.2 (qsign_calls (HU.out.below al))).mono ?_
    rintro e w2 ⟨rfl, hb2⟩
    have hq := qsign_nn hneg
    have hbf := al.trans (hb2.mono al.size)
    have Hfin : Hid (FeasX w V V ⟨oA, on, oc⟩ ⟨A, lb, ca⟩ lb ⟨B, lb, cb⟩ (some ad) xn xc x (.int .i64 ((k : Int) + 1)) w2) := ⟨k + 1, by omega, by simp, hB.trans (hbf.mono hBs), b0.below hbf (by omega), (hbf.block _ (lt_of_block b1)).trans b1, Nat.lt_of_lt_of_le l2 hbf.size, fun j hj => by
     by_cases e : j = k
     ·subst e; rw [HQE.out]; exact Rat.not_lt.1 hneg
     ·exact HNN.out j (by omega)⟩
    clear b0 b1 hB
    gi_wp2
    exact ⟨Hfin.out, by simp [intOf]; omega⟩
  ·obtain rfl : k = xn := by omega
   have HNN := Lib.hid hnn
   clear hnn
   obtain ⟨q0, q1, q2, q3, qf⟩ := id b0
   have c1 := b1.cell
   have l3 : w.heap.size < wr.heap.size := by omega
   gi_wp2
   refine wpIn_label ?_
   gi_wp2
   refine ⟨trivial, ?_⟩
   refine (cons_in V oA A B on oc lb ca lb cb).mono ?_
   rintro e w2 ⟨rfl, rfl⟩
   gi_wp2
   dsimp only [SV.val]
   have hk0 : Below w.heap.size w ((wr.alloc (.cells #[.bool true] 4)).alloc (.cells #[.int .i64 V, .slice oA on oc, .slice A lb ca, .slice B lb cb] 25)) := (hB.alloc hBs _).alloc (by simp; omega) _
   have hs0 : ((wr.alloc (.cells #[.bool true] 4)).alloc (.cells #[.int .i64 V, .slice oA on oc, .slice A lb ca, .slice B lb cb] 25)).heap.size = wr.heap.size + 2 := by simp
   have x0 : Boxed ((wr.alloc (.cells #[.bool true] 4)).alloc (.cells #[.int .i64 V, .slice oA on oc, .slice A lb ca, .slice B lb cb] 25)) wr.heap.size 4 (.bool true) := (Boxed.new wr _ _).alloc _
   have x1 : ((wr.alloc (.cells #[.bool true] 4)).alloc (.cells #[.int .i64 V, .slice oA on oc, .slice A lb ca, .slice B lb cb] 25)).heap[wr.heap.size + 1]? = some (.cells #[.int .i64 V, .slice oA on oc, .slice A lb ca, .slice B lb cb] 25 (0, 0)) := heap_new _ _ (by simp)
   have x2 : Boxed ((wr.alloc (.cells #[.bool true] 4)).alloc (.cells #[.int .i64 V, .slice oA on oc, .slice A lb ca, .slice B lb cb] 25)) (w.heap.size + 1) 23 (.slice xA k xc) := (b1.alloc _).alloc _
   generalize (wr.alloc (.cells #[.bool true] 4)).alloc (.cells #[.int .i64 V, .slice oA on oc, .slice A lb ca, .slice B lb cb] 25) = W0 at *
   obtain ⟨g, hg⟩ : ∃ g, wr.heap.size = g := ⟨_, rfl⟩
   rw [hg] at hs0 x0 x1 l2 l3 hBs ⊢
   have Hg := Lib.hid hg
   clear hg b0 b1 q0 q1 q2 q3 qf c1 hB
   obtain ⟨rv, hrE, hrV⟩ := (HP.out.rows.imp (X' := fun y => y < w.heap.size) (R' := QIs w (fun y => y < w.heap.size) L) (fun b hb _ => hb) (fun _ _ h => h.imp fun b hb _ => hb)).rowsE
   obtain ⟨vb, hbE, hbV⟩ := (HP.out.bounds.imp (X' := fun y => y < w.heap.size) (R' := QIs w (fun _ => True) L) (fun b hb _ => hb) (fun _ _ h => h.any)).elems (qis_zero w L)
   have HRE := Lib.hid hrE
   have HRV := Lib.hid hrV
   have HBE := Lib.hid hbE
   have HBV : Hid (∀ i, QIs w (fun y => y < w.heap.size) L (vb i) (bs.getD i 0)) := fun i => (hbV i).imp fun b hb _ => hb
   have HK0 := Lib.hid hk0
   have Hs := Lib.hid hs0
   have HX0 := Lib.hid x0
   have HX1 := Lib.hid x1
   have HX2 := Lib.hid x2
   clear hrE hrV hbE hbV hk0 hs0 x0 x1 x2
   refine wpIn_rangeFunc_ownH (F := Fence.wide) rfl (by omega) (gf := 141) (lb := #[.pointer (some ⟨g + 1, 0, none⟩)]) rfl trivial (enters_of Tryz.func141 (by kernel_rfl) rfl)
    (cons_stops (X := fun y => y ≠ g) (p := ⟨V, ⟨oA, on, oc⟩, ⟨A, lb, ca⟩, ⟨B, lb, cb⟩⟩) (rv := rv) (vb := vb) (N := lb) (by omega) HX1.out (by omega)
     ((HRE.out.carry (Carry.of_below HK0.out)).imp fun b hb => by omega) ((HBE.out.carry (Carry.of_below HK0.out)).imp fun b hb => by omega) rfl rfl (by omega))
    (fun h k => h.trans k) (fun W l o o' _ hl ho _ => Carry.putObj o' hl ho) (Below.refl _ _) (fun _ => rfl)
    (fun pre W => FInv W0 g (fun i => dotL (rs.getD i []) x ≤ bs.getD i 0) pre W ∧ Below w.heap.size w W)
    (fun c pre W => FOut w g (fun i => dotL (rs.getD i []) x ≤ bs.getD i 0) c pre W)
    (OwnFrom.and (Own.from FInv.own _) (ownFrom_below (Nat.le_refl _) (by have := Hs.out; omega)))
    (fun c s W W' row hs hg hr => ?hIx)
    ⟨⟨HX0.out, Carry.refl _ _, fun x hx => by cases hx⟩, HK0.out⟩
    (fun x a' W => ∃ d, a' = { tmps := #[.agg #[.int .i64 V, .slice oA on oc, .slice A lb ca, .slice B lb cb], .slice xA k xc, .pointer (some ⟨w.heap.size, 0, none⟩), .pointer (some ⟨w.heap.size + 1, 0, none⟩), u4, undef, u6, .pointer (some ⟨g, 0, none⟩), (rv x).val, .pointer (some ⟨d, 0, none⟩), .agg #[.int .i64 V, .slice oA on oc, .slice A lb ca, .slice B lb cb], .bool true, .bool false, .bool false, .slice xA k xc, .int .i64 k, .pointer (some ⟨w.heap.size, 0, none⟩), .int .i64 V, .bool false, .bool false, .slice xA k xc, .int .i64 k, .int .i64 k, .bool false, u24, u25, u26, u27, u28, u29, .agg #[.int .i64 V, .slice oA on oc, .slice A lb ca, .slice B lb cb], .func (.func 141) #[] #[.pointer (some ⟨g + 1, 0, none⟩)], (rv x).val, (vb x).val, undef, undef, undef, undef, undef, undef, undef, undef], defers := [] } ∧ QBlk W d (vb x))
    (fun x a' _ W W' row hs hg hr => ?hAx) ?assign ?body ?done ?stop
   case hAx =>
    obtain ⟨d, e, g1⟩ := hs
    exact ⟨d, e, grown_cells hg (fun r e => (hr r e).2) g1⟩
   case hIx =>
    obtain ⟨rfl, pr, x, e, h1, h3, h4⟩ := hs
    exact ⟨rfl, pr, x, e, h1, grown_cells hg (fun r e => (hr r e).2) h3, (ownFrom_below (Nat.le_refl _) (show w.heap.size ≤ W0.heap.size by have := Hs.out; omega)) s W W' row h4 hg hr⟩
   case assign =>
    intro l pre x W K hI hK
    gi_wp2
    have al : Below W.heap.size W (W.alloc (.cells #[.bool (vb x).num.ng, .slice (vb x).num.A (vb x).num.n (vb x).num.c, .bool (vb x).den.ng, .slice (vb x).den.A (vb x).den.n (vb x).den.c] 30)) := (Below.refl _ _).alloc (Nat.le_refl _) _
    obtain ⟨⟨i1, i2, i3⟩, hB⟩ := hI
    exact hK _ _ ⟨al.size, fun k o _ hk _ => (al.block k (lt_of_block hk)).trans hk⟩ (Carry.of_below al) ⟨⟨(al.block _ (lt_of_block i1)).trans i1, i2.trans (Carry.of_below al), i3⟩, hB.trans (al.mono hB.size)⟩ ⟨W.heap.size, rfl, heap_new _ _ rfl⟩
   case body =>
    rintro l pre x1 a' W _ _ ⟨⟨i1, i2, i3⟩, hB⟩ ⟨d, rfl, g1⟩ hlt
    have h2 := (HX2.out : Boxed W0 (w.heap.size + 1) 23 (.slice xA k xc))
    have b2 : Boxed W (w.heap.size + 1) 23 (.slice xA k xc) := i2.blk _ _ _ _ (by omega) h2
    have cr : Carry (fun y => y < w.heap.size) w W := (Carry.of_below HK0.out).trans (i2.mono fun y hy => by omega)
    have HRow := Lib.hid ((HRV.out x1).carryI cr)
    have HBnd := Lib.hid ((HBV.out x1).carry cr)
    have HXv : Hid (VecIs W (fun y => y < w.heap.size) (fun y => y < w.heap.size) M ⟨xA, k, xc⟩ x) := ((HX.out.imp (X' := fun y => y < w.heap.size) (R' := QIs w (fun y => y < w.heap.size) M) (fun b hb _ => hb) (fun _ _ h => h.imp fun b hb _ => hb))).carryI cr
    obtain ⟨ρ, hρ⟩ : ∃ ρ, rv x1 = ρ := ⟨_, rfl⟩
    obtain ⟨β, hβ⟩ : ∃ β, vb x1 = β := ⟨_, rfl⟩
    rw [hρ] at HRow
    rw [hβ] at HBnd g1
    rw [hρ, hβ]
    clear hρ hβ
    obtain ⟨rA, rn, rc⟩ := ρ
    dsimp only [SV.val] at *
    obtain ⟨y0, y1, y2, y3, -⟩ := qblk_box g1
    have c1 := b2.cell
    have c4 := i1.cell
    have f4 : ∀ o, W.frozen? ⟨g, o, none⟩ = false := fun o => by simp [World.frozen?, show W.heap[g]? = _ from i1]
    have t1 := lt_of_block g1
    have t2 := lt_of_block b2
    have t3 := lt_of_block i1
    have hdr : Below W.heap.size W W.drew := (Below.refl _ _).drew
    have HRn : Hid ((rs.getD x1 []).length = rn) := HRow.out.len
    have hrn6 : rn ≤ 1000000 := by have := getD_cols HCr.out x1; rw [HRn.out] at this; omega
    have HI3 := Lib.hid i3
    have HI1 := Lib.hid i1
    have HBs := hB.size
    obtain ⟨q1, hq1⟩ : ∃ q, dotL (rs.getD x1 []) x = q := ⟨_, rfl⟩
    obtain ⟨q2, hq2⟩ : ∃ q, bs.getD x1 0 = q := ⟨_, rfl⟩
    have e1 : (Lin.sum (min rn k) fun i => (rs.getD x1 []).getD i 0 * x.getD i 0) = q1 := by rw [← hq1]; unfold dotL; rw [HRn.out, HXL.out]
    have hfit : QFit LM q1 := by rw [← hq1]; exact dotL_fits (by rw [HRn.out]; exact hrn6) HK.out (HF.out x1)
    rw [hq2] at HBnd
    have HE1 := Lib.hid e1
    have HFit := Lib.hid hfit
    have HQ := Lib.hid (And.intro hq1 hq2)
    clear i3 i1 e1 hfit hq1 hq2 g1 b2 h2
    gi_wp2
    refine wpIn_round_G 1000 (fun _ w' => Sees w.heap.size [] W w') (by kernel_rfl) (by kernel_rfl) (by rintro ⟨_, _, h⟩; exact h) ?_
    have hS0 : Sees w.heap.size [] W W.drew := Sees.st (by simp) HBs
    refine tkA 0 ?_ (fun w' b hSw => ?_) (hS0) ?_
    rotate_left
    ·(try dsimp only at hSw); go_simp; try with_reducible rfl
    simp only [zzA, zzB, zzC]
    refine tkA 1 ?_ (fun w' b hSw => ?_) (hS0) ?_
    rotate_left
    ·(try dsimp only at hSw); go_simp; try with_reducible rfl
    simp only [zzA, zzB, zzC]
    refine tkA 3 ?_ (fun w' b hSw => ?_) (hS0) ?_
    rotate_left
    ·(try dsimp only at hSw); go_simp; try with_reducible rfl
    simp only [zzA, zzB, zzC]
    refine oneW (i := 2) (by kernel_rfl) rfl (by rfl) ?_
    intro K hK
    go_simp
    refine (dot_calls (kb := kb) (sa := ⟨rA, rn, rc⟩) (sb := ⟨xA, k, xc⟩) (HRow.out.below hdr) (HXv.out.below hdr) HL.out HM.out hrn6 HK.out (HF.out x1)).mono ?_
    rintro e w3 ⟨⟨z, rfl, hz⟩, hb3⟩
    dsimp only at hz
    rw [HE1.out] at hz
    have hS1 := Kept.call2 hb3 hS0
    refine hK.out _ _ hS1 ?_
    clear hK K hS0 hb3
    by_cases hok : q1 ≤ q2
    ·obtain ⟨o, ho, hle⟩ : ∃ o, qcmp q1 q2 = o ∧ ¬ (o = 1) := ⟨_, rfl, by unfold qcmp; grind⟩
     have HO := Lib.hid ho
     have hle1 : (o == 1) = false := by simpa using hle
     clear ho
     refine oneW (i := 4) (by kernel_rfl) rfl (by rfl) ?_
     intro K hK
     go_simp
     refine (qcmp_calls (a := z) (b := β) (hz.qis HFit.out) (HBnd.out.below hS1.kept.whole) (Nat.le_refl _) HL.out).mono ?_
     rw [HO.out]
     rintro e w4 ⟨rfl, hb4⟩
     have hS2 := Kept.call2 hb4 hS1
     refine hK.out _ _ hS2 ?_
     clear hK K hS1 hb4 hz y0 y1 y2 y3 c1 c4 f4
     refine wpAnyG_done (by kernel_rfl) ?_ _
     have hbf : Below W.heap.size W w4 := hS2.kept.whole
     clear hS2
     gi_wp2
     refine ⟨⟨hbf.size, fun k o _ hk _ => (hbf.block k (lt_of_block hk)).trans hk⟩, Carry.of_below hbf, ⟨(hbf.block _ t3).trans HI1.out, i2.trans (Carry.of_below hbf), fun y hy => ?_⟩, hB.trans (hbf.mono HBs)⟩
     rw [List.mem_append, List.mem_singleton] at hy
     rcases hy with hy | rfl
     ·exact HI3.out y hy
     ·show dotL (rs.getD y []) x ≤ bs.getD y 0; rw [HQ.out.1, HQ.out.2]; exact hok
    ·have HO : Hid (qcmp q1 q2 = 1) := by show qcmp q1 q2 = 1; unfold qcmp; grind
     refine oneW (i := 4) (by kernel_rfl) rfl (by rfl) ?_
     intro K hK
     go_simp
     refine (qcmp_calls (a := z) (b := β) (hz.qis HFit.out) (HBnd.out.below hS1.kept.whole) (Nat.le_refl _) HL.out).mono ?_
     rw [HO.out]
     rintro e w4 ⟨rfl, hb4⟩
     have hS2 := Kept.call2 hb4 hS1
     refine hK.out _ _ hS2 ?_
     clear hK K hS1 hb4 hz y0 y1 y2 y3 c1
     refine wpAnyG_done (by kernel_rfl) ?_ _
     have hbf : Below W.heap.size W w4 := hS2.kept.whole
     have z3 : Boxed w4 g 4 (.bool true) := (hbf.block _ t3).trans HI1.out
     have c5 := z3.cell
     have f5 : ∀ o, w4.frozen? ⟨g, o, none⟩ = false := fun o => by simp [World.frozen?, show w4.heap[g]? = _ from z3]
     clear hS2 c4 f4
     gi_wp2
     refine ⟨⟨by simpa [World.setCell] using hbf.size, fun k o _ hk ho => ?_⟩, rfl, pre, x1, rfl, by show ¬ (dotL (rs.getD x1 []) x ≤ bs.getD x1 0); rw [HQ.out.1, HQ.out.2]; exact hok, Boxed.set _ z3, (hB.trans (hbf.mono HBs)).setCell (p := ⟨g, 0, none⟩) (by show w.heap.size ≤ g; omega) _⟩
     refine (Below.heap_setCell _ _ _ _ (fun e => ?_)).trans ((hbf.block k (lt_of_block hk)).trans hk)
     dsimp only at e
     rw [e, show W.heap[g]? = _ from HI1.out] at hk; cases hk; cases ho
   case done =>
    rintro Dd ys W hDd rfl ⟨⟨i1, i2, i3⟩, hB⟩ hK0
    have c1 := i1.cell
    have hDs : g < Dd := by have := Hs.out; omega
    have hb : b = true := HBB.out.1 ⟨fun j hj => HNN.out j (by rw [HXL.out] at hj; exact hj), fun i hi => i3 i (by rw [HRL.out] at hi; simpa using hi)⟩
    subst hb
    clear i3
    gi_wp2
    refine ⟨by simp, .inl ⟨_, _, rfl, run_takeDeferred hK0, ?_⟩⟩
    refine ⟨.bool true, by simp [results, Tryz.results31, go_sem], rfl, ?_⟩
    exact hB.trans (belowK_b (w := w) (Nat.le_refl _) W Dd _ _ (by omega) hK0 rfl rfl)
   case stop =>
    rintro Dd c pre W hDd hpre ⟨rfl, pr, x1, e, h1, h3, h4⟩ hK0
    obtain ⟨hx, hpr⟩ := prefix_snoc hpre e
    have hb : b = false := by
     cases b with
     | false => rfl
     | true => exact absurd ((HBB.out.2 rfl).2 x1 (by rw [HRL.out]; exact hx)) h1
    subst hb
    have c1 := h3.cell
    have hDs : g < Dd := by have := Hs.out; omega
    clear h1 hpre hpr e
    gi_wp2
    refine ⟨by simp, .inl ⟨_, _, rfl, run_takeDeferred hK0, ?_⟩⟩
    refine ⟨.bool false, by simp [results, Tryz.results31, go_sem], rfl, ?_⟩
    exact h4.trans (belowK_b (w := w) (Nat.le_refl _) W Dd _ _ (by omega) hK0 rfl rfl)
end Go.Proofs.YtlepljpdkbjbhaaGreat
