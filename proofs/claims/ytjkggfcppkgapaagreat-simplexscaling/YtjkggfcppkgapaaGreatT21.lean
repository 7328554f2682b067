/- Texts Solved AliveM Alive2 Alive3 Scal1 Scal2 ScalB ScalC Scal3 of this claim. -/
import Derived.Test.YtjkggfcppkgapaaGreatT20
import Derived.Test.YtjkggfcppkgapaaGreatT19
import Derived.Test.YtjkggfcppkgapaaGreatT08
import Derived.Test.YtjkggfcppkgapaaGreatT12
namespace Go.Proofs.YtjkggfcppkgapaaGreat
namespace Lin
theorem Prob.Feasible.congr {P : Prob} {x y : Nat → Rat} (h : P.Feasible x) (e : ∀ k, k < P.n → x k = y k) : P.Feasible y :=
 ⟨fun k hk => by rw [← e k hk]; exact h.1 k hk, fun i hi => by rw [sum_congr (g := fun k => P.A i k * x k) fun k hk => by rw [e k hk]]; exact h.2 i hi⟩
theorem Prob.Better.congr {P : Prob} {x x' y y' : Nat → Rat} (h : P.Better x y) (e : ∀ k, k < P.n → x k = x' k) (e' : ∀ k, k < P.n → y k = y' k) : P.Better x' y' :=
 LexPos.congr h fun l hl => by rw [obj_congr e hl, obj_congr e' hl]
theorem Prob.Optimal.congr {P : Prob} {x y : Nat → Rat} (h : P.Optimal x) (e : ∀ k, k < P.n → x k = y k) : P.Optimal y :=
 ⟨h.1.congr e, fun z hz => (h.2 z hz).elim (fun hb => .inl (hb.congr e fun _ _ => rfl)) fun hs => .inr fun k hk => by rw [hs k hk, e k hk]⟩
theorem Prob.Unbounded.congr {P : Prob} {x y d d' : Nat → Rat} (h : P.Unbounded x d) (e : ∀ k, k < P.n → x k = y k) (e' : ∀ k, k < P.n → d k = d' k) : P.Unbounded y d' :=
 ⟨h.1.congr e, fun k hk => by rw [← e' k hk]; exact h.2.1 k hk, fun i hi => by rw [sum_congr (g := fun k => P.A i k * d k) fun k hk => by rw [e' k hk]]; exact h.2.2.1 i hi, LexPos.congr h.2.2.2 fun l _ => sum_congr fun k hk => by rw [e' k hk]⟩
end Lin
open Go.RowKit Go.Shelf
theorem qfit_fits {L : Nat} {q : Rat} (h : QFit L q) : Lin.Fits (32 * L) q := by
 have e : Num.base ^ L = 2 ^ (32 * L) := by rw [Nat.pow_mul]; rfl
 exact ⟨by rw [← e]; exact Nat.le_of_lt h.1, by rw [← e]; exact Nat.le_of_lt h.2⟩
theorem VecAt.fit {w : World} {X Y : Nat → Prop} {L : Nat} {s : SV} {l : List Rat} (h : VecIs w X Y L s l) (k : Nat) : QFit (L + 1) (l.getD k 0) := by
 by_cases hk : k < s.n
 ·obtain ⟨_, v, _, _, _, hq⟩ := h.elem k hk
  exact hq.fit
 ·rw [getD_none _ _ _ (by rw [h.len]; omega)]; exact QFit.zero L
def Solved (w : World) (P : Lin.Prob) (r : RV) (w' : World) : Prop :=
 (r.kind = 1 ∧ ∃ (D : Lin.Dict) (l : List Rat), Lin.Good P D ∧ Lin.Feas P D ∧ (∀ j, j < P.n → ¬ CandP P D j) ∧ l.length = P.n ∧ P.Optimal (fun k => l.getD k 0) ∧ VecCan w' (New w.heap.size) (New w.heap.size) r.X l ∧ MatCan w' (New w.heap.size) (New w.heap.size) r.Y ((List.range P.m).map fun i => (List.range (P.K + P.n)).map (priceTo D P.n P.m P.K P.n i))) ∨
 (r.kind = 2 ∧ ∃ (D : Lin.Dict) (k : Nat), Lin.Good P D ∧ k < P.m ∧ D.a k P.n < 0 ∧ (∀ j, j < P.n → 0 ≤ D.a k j) ∧ (∀ x, ¬ P.Feasible x) ∧ VecCan w' (New w.heap.size) (New w.heap.size) r.F ((List.range P.m).map (farkasOf D P.n k))) ∨
 (r.kind = 3 ∧ ∃ l l' : List Rat, l.length = P.n ∧ l'.length = P.n ∧ P.Unbounded (fun k => l.getD k 0) (fun k => l'.getD k 0) ∧ VecCan w' (New w.heap.size) (New w.heap.size) r.X l ∧ VecCan w' (New w.heap.size) (New w.heap.size) r.R l')
theorem solved_of {w w' : World} {P : Lin.Prob} {e : Ending} (h : SolveRet w P e w') : ∃ r : RV, e = .returned (.tuple #[r.val, .int .i64 0]) ∧ Solved w P r w' := by
 obtain ⟨r, he, hr⟩ := h
 refine ⟨r, he, ?_⟩
 rcases hr with ⟨hk, D, l, hg, hf, ho, rfl, hx, hy, _, _⟩ | ⟨hk, D, k, l, hg, h1, h2, h3, rfl, hF, _, _, _⟩ | ⟨hk, D, s, l, l', hg, hf, hs, hc, hn, rfl, rfl, hx, hr, _, _⟩
 ·exact .inl ⟨hk, D, _, hg, hf, ho, by simp, (Lin.optimal_of hg hf ho).congr fun k hk => by rw [getD_map_range _ _ hk], hx, hy⟩
 ·exact .inr (.inl ⟨hk, D, k, hg, h1, h2, h3, fun x => Lin.infeasible_of hg h1 h2 h3 x, hF⟩)
 ·exact .inr (.inr ⟨hk, _, _, by simp, by simp, (Lin.unbounded_of hg hf hs hc (fun i hi => by have := hn i hi; grind)).congr (fun k hk => by rw [getD_map_range _ _ hk]) fun k hk => by rw [getD_map_range _ _ hk], hx, hr⟩)
theorem solveL_calls {w : World} {X Y : Nat → Prop} {L V : Nat} {p : LPV} {os rs : List (List Rat)} {bs : List Rat} (h : LPIs w X Y L p os rs bs) (hV : p.n = V) (hV2 : V ≤ 8) (ho1 : 1 ≤ p.O.n) (ho2 : p.O.n ≤ 4) (hr : p.R.n ≤ 128) (hb : p.B.n = p.R.n) (hco : colsOf os ≤ V) (hcr : colsOf rs ≤ V) (hL : L ≤ 100) :
  Calls Tryz.prog 16 #[p.val] w fun e w' => (∃ r : RV, e = .returned (.tuple #[r.val, .int .i64 0]) ∧ Solved w (probOf V os rs bs) r w') ∧ Below w.heap.size w w' := by
 have h5 : 5 ^ V ≤ 390625 := Nat.le_trans (Nat.pow_le_pow_right (by omega) hV2) (by decide)
 have h6 : 5 ^ V * (32 * (L + 1)) ≤ 390625 * (32 * 101) := Nat.mul_le_mul h5 (by omega)
 refine (solve_calls (kb := 5 ^ V * (32 * (L + 1))) h hV (by omega) ho1 ho2 hr hb hco hcr (by rw [LM_eq]; omega) (fun D hD => ?_) (by rw [LM_eq]; omega)).mono ?_
 ·refine hD.fits (by omega) ⟨fun i j hi hj => ?_, fun l j hl hj => ?_⟩
  ·show Lin.Fits _ (if j < V then (rs.getD i []).getD j 0 else bs.getD i 0)
   split
   ·exact qfit_fits (h.rows.fit i j)
   ·exact qfit_fits (h.bounds.fit i)
  ·show Lin.Fits _ (if j < V then - (os.getD l []).getD j 0 else 0)
   split
   ·exact (qfit_fits (h.obj.fit l j)).neg
   ·exact Lin.Fits.zero _
 ·rintro e w' ⟨hs, hb⟩
  exact ⟨solved_of hs, hb⟩
end Go.Proofs.YtjkggfcppkgapaaGreat
namespace Go.Proofs.YtjkggfcppkgapaaGreat
open Lin
theorem lt_two {k : Nat} (h : k < 2) : k = 0 ∨ k = 1 := by omega
theorem lt_three {k : Nat} (h : k < 3) : k = 0 ∨ k = 1 ∨ k = 2 := by omega
abbrev pa : Prob := probOf 2 [rats [3, 5]] [rats [1, 0], rats [0, 2], rats [3, 2]] (rats [4, 12, 18])
abbrev pb : Prob := probOf 1 [rats [1]] [rats [1]] [((-1 : Int) : Rat)]
abbrev pc : Prob := probOf 2 [rats [1, 0]] [rats [-1, 1]] [((2 : Int) : Rat)]
abbrev pd : Prob := probOf 1 [rats [0]] [rats [-1]] [((-3 : Int) : Rat)]
theorem sum1 (f : Nat → Rat) : Lin.sum 1 f = f 0 := by simp [Lin.sum]; grind
theorem sum2 (f : Nat → Rat) : Lin.sum 2 f = f 0 + f 1 := by simp [Lin.sum]; grind
theorem pa_feas (y : Nat → Rat) : pa.Feasible y ↔ (0 ≤ y 0 ∧ 0 ≤ y 1) ∧ y 0 ≤ 4 ∧ 2 * y 1 ≤ 12 ∧ 3 * y 0 + 2 * y 1 ≤ 18 := by
 constructor
 ·rintro ⟨h1, h2⟩
  have a0 := h1 0 (by decide)
  have a1 := h1 1 (by decide)
  have b0 := h2 0 (by decide)
  have b1 := h2 1 (by decide)
  have b2 := h2 2 (by decide)
  simp only [pa, probOf, sum2, rats] at b0 b1 b2
  simp at b0 b1 b2
  refine ⟨⟨a0, a1⟩, ?_, ?_, ?_⟩ <;> grind
 ·rintro ⟨⟨a0, a1⟩, b0, b1, b2⟩
  refine ⟨fun k hk => ?_, fun i hi => ?_⟩
  ·rcases lt_two hk with rfl | rfl
   ·exact a0
   ·exact a1
  ·rcases lt_three hi with rfl | rfl | rfl <;> simp only [pa, probOf, sum2, rats] <;> simp <;> grind
theorem pa_opt : pa.Optimal (fun k => ([2, 6] : List Rat).getD k 0) := by
 refine ⟨(pa_feas _).2 (by simp; grind), fun y hy => ?_⟩
 obtain ⟨⟨a0, a1⟩, b0, b1, b2⟩ := (pa_feas y).1 hy
 by_cases h : 3 * y 0 + 5 * y 1 < 36
 ·refine .inl ⟨0, by decide, ?_, fun j hj => absurd hj (by omega)⟩
  simp only [Prob.obj, pa, probOf, sum2, rats]
  simp
  grind
 ·refine .inr fun k hk => ?_
  have e1 : y 1 = 6 := by grind
  have e0 : y 0 = 2 := by grind
  rcases lt_two hk with rfl | rfl
  ·simp [e0]
  ·simp [e1]
theorem pb_none (x : Nat → Rat) : ¬ pb.Feasible x := by
 rintro ⟨h1, h2⟩
 have a0 := h1 0 (by decide)
 have b0 := h2 0 (by decide)
 simp only [pb, probOf, sum1, rats] at b0
 simp at b0
 grind
theorem pb_farkas {D : Dict} (g : Lin.Good pb D) {k : Nat} (hk : k < pb.m) (hneg : D.a k pb.n < 0) (hnn : ∀ j, j < pb.n → 0 ≤ D.a k j) : 0 < farkasOf D pb.n k 0 := by
 obtain rfl : k = 0 := by have hk' : k < 1 := hk; omega
 have hneg' : D.a 0 1 < 0 := hneg
 have h0 : 0 ≤ D.a 0 0 := hnn 0 (by decide)
 have hb : D.basic 0 < 2 := g.bLt 0 (by decide)
 have hf : D.free 0 < 2 := g.fLt 0 (by decide)
 have hap : D.basic 0 ≠ D.free 0 := g.apart 0 0 (by decide) (by decide)
 unfold farkasOf
 by_cases h : D.basic 0 = pb.n + 0
 ·rw [if_pos h]; grind
 ·rw [if_neg h]
  have hb0 : D.basic 0 = 0 := by have : D.basic 0 ≠ 1 := h; omega
  have hf0 : D.free 0 = 1 := by omega
  have hfind : find D.free (pb.n + 0) pb.n = 0 := by
   show find D.free 1 1 = 0
   simp [find, hf0]
  rw [hfind, if_pos (by decide)]
  by_cases h1' : 0 < D.a 0 0
  ·exact h1'
  ·exfalso
   have h1 : 0 = D.a 0 0 := by grind
   have hs : pb.Sys (fun v => if v = 0 then 0 else -1) := fun i hi => by
    obtain rfl : i = 0 := by have hi' : i < 1 := hi; omega
    show (if 1 + 0 = 0 then (0 : Rat) else -1) = _
    simp only [pb, probOf, sum1, rats]
    simp
    grind
   have hr := (g.rows _).1 hs 0 (by decide)
   have e : val pb.n D.free (D.a 0) (fun v => if v = 0 then 0 else -1) = D.a 0 1 := by
    show D.a 0 1 - Lin.sum 1 _ = _
    rw [sum1, ← h1]; grind
   rw [e, hb0] at hr
   simp at hr
   grind
theorem pc_unb : pc.Unbounded (fun _ => 0) (fun k => if k = 0 then 1 else 0) := by
 refine ⟨⟨fun k hk => by grind, fun i hi => ?_⟩, fun k hk => by dsimp only; split <;> grind, fun i hi => ?_, ⟨0, by decide, ?_, fun j hj => absurd hj (by omega)⟩⟩
 ·obtain rfl : i = 0 := by have hi' : i < 1 := hi; omega
  simp only [pc, probOf, sum2, rats]; simp; grind
 ·obtain rfl : i = 0 := by have hi' : i < 1 := hi; omega
  simp only [pc, probOf, sum2, rats]; simp; grind
 ·simp only [pc, probOf, sum2, rats]; simp; grind
theorem pd_feas (y : Nat → Rat) : pd.Feasible y ↔ 0 ≤ y 0 ∧ 3 ≤ y 0 := by
 constructor
 ·rintro ⟨h1, h2⟩
  have a0 := h1 0 (by decide)
  have b0 := h2 0 (by decide)
  simp only [pd, probOf, sum1, rats] at b0
  simp at b0
  exact ⟨a0, by grind⟩
 ·rintro ⟨a0, b0⟩
  refine ⟨fun k hk => ?_, fun i hi => ?_⟩
  ·obtain rfl : k = 0 := by have hk' : k < 1 := hk; omega
   exact a0
  ·obtain rfl : i = 0 := by have hi' : i < 1 := hi; omega
   simp only [pd, probOf, sum1, rats]; simp; grind
theorem pd_opt : pd.Optimal (fun k => ([3] : List Rat).getD k 0) := by
 refine ⟨(pd_feas _).2 (by simp; grind), fun y hy => ?_⟩
 obtain ⟨a0, b0⟩ := (pd_feas y).1 hy
 by_cases h : 3 < y 0
 ·refine .inl ⟨1, by decide, ?_, fun j hj => ?_⟩
  ·simp only [Prob.obj, pd, probOf, sum1, rats]
   simp
   grind
  ·obtain rfl : j = 0 := by omega
   simp only [Prob.obj, pd, probOf, sum1, rats]
   simp
   grind
 ·refine .inr fun k hk => ?_
  obtain rfl : k = 0 := by have hk' : k < 1 := hk; omega
  simp; grind
end Go.Proofs.YtjkggfcppkgapaaGreat
namespace Go.Proofs.YtjkggfcppkgapaaGreat
open Go.RowKit Go.Shelf
section
variable {w w' : World} {P : Lin.Prob} {r : RV}
theorem Solved.opt (h : Solved w P r w') {x : Nat → Rat} (ho : P.Optimal x) : r.kind = 1 ∧ ∃ l : List Rat, l.length = P.n ∧ (∀ k, k < P.n → l.getD k 0 = x k) ∧ VecCan w' (New w.heap.size) (New w.heap.size) r.X l := by
 rcases h with ⟨hk, D, l, _, _, _, hl, hopt, hx, _⟩ | ⟨_, D, k, _, _, _, _, hno, _⟩ | ⟨_, l, l', _, _, hu, _, _⟩
 ·exact ⟨hk, l, hl, fun k hk => Lin.Prob.Optimal.unique hopt ho hk, hx⟩
 ·exact absurd ho.1 (hno x)
 ·exact absurd ho (hu.no_optimal x)
theorem Solved.inf (h : Solved w P r w') (hn : ∀ x, ¬ P.Feasible x) : r.kind = 2 ∧ ∃ (D : Lin.Dict) (k : Nat), Lin.Good P D ∧ k < P.m ∧ D.a k P.n < 0 ∧ (∀ j, j < P.n → 0 ≤ D.a k j) ∧ VecCan w' (New w.heap.size) (New w.heap.size) r.F ((List.range P.m).map (farkasOf D P.n k)) := by
 rcases h with ⟨hk, D, l, _, _, _, hl, hopt, hx, _⟩ | ⟨hk, D, k, h1, h2, h3, h4, _, h5⟩ | ⟨_, l, l', _, _, hu, _, _⟩
 ·exact absurd hopt.1 (hn _)
 ·exact ⟨hk, D, k, h1, h2, h3, h4, h5⟩
 ·exact absurd hu.1 (hn _)
theorem Solved.unb (h : Solved w P r w') {x d : Nat → Rat} (hu : P.Unbounded x d) : r.kind = 3 ∧ ∃ l l' : List Rat, l.length = P.n ∧ l'.length = P.n ∧ P.Unbounded (fun k => l.getD k 0) (fun k => l'.getD k 0) ∧ VecCan w' (New w.heap.size) (New w.heap.size) r.X l ∧ VecCan w' (New w.heap.size) (New w.heap.size) r.R l' := by
 rcases h with ⟨hk, D, l, _, _, _, hl, hopt, hx, _⟩ | ⟨hk, D, k, h1, h2, h3, h4, hno, h5⟩ | ⟨hk, l, l', h1, h2, h3, h4, h5⟩
 ·exact absurd hopt (hu.no_optimal _)
 ·exact absurd hu.1 (hno _)
 ·exact ⟨hk, l, l', h1, h2, h3, h4, h5⟩
end
theorem LRet.lpis {w' : World} {B L : Nat} {p : LPV} {os rs : List (List Rat)} {bs : List Rat} (ho : MatCan w' (New B) (New B) p.O os) (hr : MatCan w' (New B) (New B) p.R rs) (hb : VecCan w' (New B) (New B) p.B bs)
  (fo : ∀ i k, QFit L ((os.getD i []).getD k 0)) (fr : ∀ i k, QFit L ((rs.getD i []).getD k 0)) (fb : ∀ k, QFit L (bs.getD k 0)) : LPIs w' (New B) (New B) L p os rs bs :=
 ⟨⟨ho.len, ho.le, ho.cap, fun i hi => by
   obtain ⟨ad, r, e, hx, hc, hv⟩ := ho.row i hi
   exact ⟨ad, r, e, hx, hc, hv.len, hv.le, hv.cap, fun k hk => by
    obtain ⟨ad', v, e', hx', hc', hq⟩ := hv.elem k hk
    exact ⟨ad', v, e', hx', hc', hq.qis (fo i k)⟩⟩⟩,
  ⟨hr.len, hr.le, hr.cap, fun i hi => by
   obtain ⟨ad, r, e, hx, hc, hv⟩ := hr.row i hi
   exact ⟨ad, r, e, hx, hc, hv.len, hv.le, hv.cap, fun k hk => by
    obtain ⟨ad', v, e', hx', hc', hq⟩ := hv.elem k hk
    exact ⟨ad', v, e', hx', hc', hq.qis (fr i k)⟩⟩⟩,
  ⟨hb.len, hb.le, hb.cap, fun k hk => by
   obtain ⟨ad', v, e', hx', hc', hq⟩ := hb.elem k hk
   exact ⟨ad', v, e', hx', hc', hq.qis (fb k)⟩⟩⟩
theorem qfit_small {z : Int} (h : z.natAbs < 1000) : QFit 1 (z : Rat) := by
 have e : Num.base ^ 1 = 4294967296 := by decide
 exact ⟨by rw [e]; simp; omega, by rw [e]; simp⟩
theorem fit_rats {l : List Int} (h : ∀ z ∈ l, z.natAbs < 1000) (k : Nat) : QFit 1 ((rats l).getD k 0) := by
 unfold rats
 rw [List.getD_eq_getElem?_getD, List.getElem?_map]
 cases e : l[k]? with
 | none => exact QFit.zero 0
 | some z => exact qfit_small (h z (List.mem_of_getElem? e))
theorem fit_mat {m : List (List Int)} (h : ∀ l ∈ m, ∀ z ∈ l, z.natAbs < 1000) (i k : Nat) : QFit 1 (((m.map rats).getD i []).getD k 0) := by
 have e : (m.map rats).getD i [] = rats (m.getD i []) := by
  simp only [List.getD_eq_getElem?_getD, List.getElem?_map]
  cases m[i]? <;> rfl
 rw [e]
 refine fit_rats (fun z hz => ?_) k
 by_cases hi : i < m.length
 ·refine h _ (List.getElem_mem hi) z ?_
  simpa [List.getD_eq_getElem?_getD, hi] using hz
 ·rw [getD_none _ _ _ (by omega)] at hz; cases hz
set_option maxRecDepth 20000 in
set_option maxHeartbeats 1000000 in
theorem validZero_calls {w : World} : Calls Tryz.prog 44 #[.agg #[.int .i64 0, .slice none 0 0, .slice none 0 0, .slice none 0 0]] w fun e w' => e = .returned (.bool false) ∧ Below w.heap.size w w' := by
 go_enter Tryz.func44, Tryz.ntmps44
 go_wp2_with fail
 refine (sizesOf_calls (p := ⟨0, ⟨none, 0, 0⟩, ⟨none, 0, 0⟩, ⟨none, 0, 0⟩⟩) (by decide) (by decide) (by decide)).mono ?_; rintro e w1 ⟨rfl, hb1⟩
 have hb0 : Below w.heap.size w w1 := ((Below.refl _ _).alloc (Nat.le_refl _) _).trans (hb1.mono (by simp))
 dsimp only
 go_wp2
 go_ret
 exact ⟨rfl, hb0.alloc hb0.size _⟩
set_option maxRecDepth 20000 in
set_option maxHeartbeats 1000000 in
theorem solveZero_calls {w : World} : Calls Tryz.prog 16 #[.agg #[.int .i64 0, .slice none 0 0, .slice none 0 0, .slice none 0 0]] w fun e w' => e = .returned (.tuple #[.agg zeroR, .int .i64 1]) ∧ Below w.heap.size w w' := by
 go_enter Tryz.func16, Tryz.ntmps16
 go_wp2_with fail
 obtain ⟨W1, hW1⟩ : ∃ W1, W1 = (w.alloc (.cells #[.int .i64 0, .slice none 0 0, .slice none 0 0, .slice none 0 0] 25)).alloc (.cells zeroR 39) := ⟨_, rfl⟩
 rw [← hW1]
 have hbW : Below w.heap.size w W1 := by rw [hW1]; exact ((Below.refl _ _).alloc (Nat.le_refl _) _).alloc (by simp) _
 have hX1 : Box6 W1 (w.heap.size + 1) (.int .u8 0) (.slice none 0 0) (.slice none 0 0) (.slice none 0 0) (.slice none 0 0) (.int .i64 0) := by rw [hW1]; exact heap_new _ _ (by simp)
 have hs1 : w.heap.size + 1 < W1.heap.size := lt_of_block hX1
 clear hW1
 refine validZero_calls.mono ?_; rintro e w2 ⟨rfl, hb2⟩
 have hX2 : Box6 w2 (w.heap.size + 1) (.int .u8 0) (.slice none 0 0) (.slice none 0 0) (.slice none 0 0) (.slice none 0 0) (.int .i64 0) := (hb2.block _ hs1).trans hX1
 have hbf := hbW.trans (hb2.mono hbW.size)
 obtain ⟨s0, s1, s2, s3, s4, s5, s6⟩ := box6_cells hX2
 clear hb2 hX1 hbW
 go_wp2
 obtain ⟨v0, v1, v2, v3, v4, v5, -⟩ := box6_cells (put6_box hX2 (.int .u8 0) (.slice none 0 0) (.slice none 0 0) (.slice none 0 0) (.slice none 0 0) (.int .i64 0))
 simp only [put6] at v0 v1 v2 v3 v4 v5
 exact bodyPost_ret (v := .tuple #[.agg zeroR, .int .i64 1]) (by simp [results, Tryz.results16, go_sem, v0, v1, v2, v3, v4, v5]) rfl ⟨rfl, put6_below hbf (by omega) _ _ _ _ _ _⟩
end Go.Proofs.YtjkggfcppkgapaaGreat
namespace Go.Proofs.YtjkggfcppkgapaaGreat
open Go.RowKit Go.Shelf
abbrev rcells (k : Int) (r : RV) : Array Value := #[.int .u8 k, .slice r.X.A r.X.n r.X.c, .slice r.Y.A r.Y.n r.Y.c, .slice r.R.A r.R.n r.R.c, .slice r.F.A r.F.n r.F.c, .int .i64 r.pv]
abbrev RBox (W : World) (b : Nat) (k : Int) (r : RV) : Prop := W.heap[b]? = some (.cells (rcells k r) 39 (0, 0))
theorem VecAt.keepB {w w' : World} {B : Nat} {s : SV} {l : List Rat} (h : VecCan w (New B) (New B) s l) (hb : Below w.heap.size w w') : VecCan w' (New B) (New B) s l := h.belowC hb
theorem solveA_calls {w : World} {B V : Nat} {p : LPV} {os rs : List (List Int)} {bs : List Rat} (ho : MatCan w (New B) (New B) p.O (os.map rats)) (hr : MatCan w (New B) (New B) p.R (rs.map rats)) (hb : VecCan w (New B) (New B) p.B bs) (hV : p.n = V) (hV2 : V ≤ 8)
  (ho1 : 1 ≤ os.length) (ho2 : os.length ≤ 4) (hr1 : rs.length ≤ 8) (hbl : bs.length = rs.length) (so : ∀ l ∈ os, l.length ≤ V ∧ ∀ z ∈ l, z.natAbs < 1000) (sr : ∀ l ∈ rs, l.length ≤ V ∧ ∀ z ∈ l, z.natAbs < 1000) (sb : ∀ k, QFit 1 (bs.getD k 0)) :
  Calls Tryz.prog 16 #[p.val] w fun e w' => (∃ r : RV, e = .returned (.tuple #[r.val, .int .i64 0]) ∧ Solved w (probOf V (os.map rats) (rs.map rats) bs) r w') ∧ Below w.heap.size w w' := by
 have e1 := ho.len
 have e2 := hr.len
 have e3 := hb.len
 rw [List.length_map] at e1 e2
 refine solveL_calls (L := 1) (LRet.lpis ho hr hb (fit_mat fun l hl => (so l hl).2) (fit_mat fun l hl => (sr l hl).2) sb) hV hV2 (by omega) (by omega) (by omega) (by omega) (colsOf_le.2 fun l hl => ?_) (colsOf_le.2 fun l hl => ?_) (by decide)
 ·obtain ⟨l', hl', rfl⟩ := List.mem_map.1 hl
  rw [rats, List.length_map]; exact (so l' hl').1
 ·obtain ⟨l', hl', rfl⟩ := List.mem_map.1 hl
  rw [rats, List.length_map]; exact (sr l' hl').1
theorem oneA_calls {w : World} {c : Array Value} {T : TypeId} {g r : List Int} {z : Int} (hg : g.length ≤ 1000) (hr : r.length ≤ 1000) (gr : ∀ x ∈ g, -9223372036854775808 ≤ x ∧ x ≤ 9223372036854775807) (rr : ∀ x ∈ r, -9223372036854775808 ≤ x ∧ x ≤ 9223372036854775807) (h1 : -9223372036854775808 ≤ z) (h2 : z ≤ 9223372036854775807) :
  Calls Tryz.prog 35 #[.slice (some ⟨w.heap.size + 1, 0, none⟩) g.length g.length, .slice (some ⟨w.heap.size + 1 + 1, 0, none⟩) r.length r.length, .int .i64 z] (((w.alloc (.cells c T)).alloc (.cells (g.map fun z => Value.int .i64 z).toArray 2)).alloc (.cells (r.map fun z => Value.int .i64 z).toArray 2))
   fun e w' => LRet w g.length [rats g] [rats r] [(z : Rat)] e w' ∧ Below w.heap.size w w' ∧ w'.heap[w.heap.size]? = some (.cells c T (0, 0)) := by
 obtain ⟨W, hW⟩ : ∃ W, W = ((w.alloc (.cells c T)).alloc (.cells (g.map fun z => Value.int .i64 z).toArray 2)).alloc (.cells (r.map fun z => Value.int .i64 z).toArray 2) := ⟨_, rfl⟩
 rw [← hW]
 have i0 : W.heap[w.heap.size]? = some (.cells c T (0, 0)) := by rw [hW]; exact (Below.heap_alloc _ _ _ (by simp <;> omega)).trans ((Below.heap_alloc _ _ _ (by simp)).trans (heap_new _ _ rfl))
 have i1 : W.heap[w.heap.size + 1]? = some (.cells (g.map fun z => Value.int .i64 z).toArray 2 (0, 0)) := by rw [hW]; exact (Below.heap_alloc _ _ _ (by simp)).trans (heap_new _ _ (by simp))
 have i2 : W.heap[w.heap.size + 1 + 1]? = some (.cells (r.map fun z => Value.int .i64 z).toArray 2 (0, 0)) := by rw [hW]; exact heap_new _ _ (by simp)
 have hb : Below w.heap.size w W := by rw [hW]; exact (((Below.refl _ _).alloc (Nat.le_refl _) _).alloc (by simp) _).alloc (by simp <;> omega) _
 clear hW
 refine (one_calls (sg := ⟨some ⟨w.heap.size + 1, 0, none⟩, g.length, g.length⟩) (sr := ⟨some ⟨w.heap.size + 1 + 1, 0, none⟩, r.length, r.length⟩) (IntsAt.blk i1 hg gr) (IntsAt.blk i2 hr rr) h1 h2 hg hr).mono ?_
 rintro e w' ⟨⟨p, rfl, hn, ho, hr, hv⟩, hb'⟩
 exact ⟨⟨p, rfl, hn, ho.low hb.size, hr.low hb.size, hv.low hb.size⟩, hb.trans (hb'.mono hb.size), (hb'.block _ (lt_of_block i0)).trans i0⟩
theorem rbox_keep {w w' : World} {b : Nat} {bl : Obj} (h : w.heap[b]? = some bl) (hb : Below w.heap.size w w') : w'.heap[b]? = some bl := (hb.block _ (lt_of_block h)).trans h
theorem rbox_cell {w : World} {b : Nat} {k : Int} {r : RV} (h : RBox w b k r) : w.cell? ⟨b, 0, none⟩ = some (.int .u8 k) ∧ w.cell? ⟨b, 1, none⟩ = some (.slice r.X.A r.X.n r.X.c) ∧ w.cell? ⟨b, 4, none⟩ = some (.slice r.F.A r.F.n r.F.c) := by
 simp only [World.cell?, h]; exact ⟨rfl, rfl, rfl⟩
theorem VecAt.loose {w : World} {X Y : Nat → Prop} {L : Nat} {s : SV} {l : List Rat} (h : VecCan w X Y s l) (f : ∀ k, QFit L (l.getD k 0)) : VecIs w X Y L s l :=
 ⟨h.len, h.le, h.cap, fun k hk => by
  obtain ⟨ad', v, e', hx', hc', hq⟩ := h.elem k hk
  exact ⟨ad', v, e', hx', hc', hq.qis (f k)⟩⟩
theorem equalT_calls {w : World} {X Y X' Y' : Nat → Prop} {L M : Nat} {sa sb : SV} {l : List Rat} (ha : VecIs w X Y L sa l) (hb : VecIs w X' Y' M sb l) (hL : L ≤ LM) (hM : M ≤ LM) (hna : sa.n ≤ 1000000) (hnb : sb.n ≤ 1000000) :
  Calls Tryz.prog 17 #[sa.val, sb.val] w fun e w' => e = .returned (.bool true) ∧ Below w.heap.size w w' := by
 refine (equal_calls ha hb hL hM hna hnb).mono ?_
 rintro e w' ⟨rfl, hb⟩
 rw [vcmp_eq_zero.2 (fun i _ => rfl)]
 exact ⟨rfl, hb⟩
theorem qfit_ex (q : Rat) : ∃ L, QFit L q := by
 refine ⟨q.num.natAbs + q.den, ?_, ?_⟩
 ·exact Nat.lt_of_le_of_lt (Nat.le_add_right _ _) (Nat.lt_pow_self (by decide))
 ·exact Nat.lt_of_le_of_lt (Nat.le_add_left _ _) (Nat.lt_pow_self (by decide))
theorem two_of {l : List Rat} (n : l.length = 2) (h : ∀ k, k < 2 → l.getD k 0 = ([2, 6] : List Rat).getD k 0) : l = rats [2, 6] := by
 match l, n with
 | [a, b], _ =>
  have h0 := h 0 (by omega)
  have h1 := h 1 (by omega)
  simp at h0 h1
  subst h0 h1
  simp [rats]
theorem one_of {l : List Rat} (n : l.length = 1) (h : ∀ k, k < 1 → l.getD k 0 = ([3] : List Rat).getD k 0) : l = rats [3] := by
 match l, n with
 | [a], _ =>
  have h0 := h 0 (by omega)
  simp at h0
  subst h0
  simp [rats]
set_option maxRecDepth 40000 in
set_option maxHeartbeats 8000000 in
theorem alive_calls {w : World} : Calls Tryz.prog 10 #[] w fun e w' => e = .returned (.bool true) ∧ Below w.heap.size w w' := by
 go_enter Tryz.func10, Tryz.ntmps10
 go_wp2_with fail
 refine lawSmall_calls.mono ?_; rintro e w1 ⟨⟨p1, rfl, hn1, ho1, hr1, hv1⟩, hb1⟩
 go_wp2_with fail
 refine (solveA_calls (os := [[3, 5]]) (rs := [[1, 0], [0, 2], [3, 2]]) ho1 hr1 hv1 hn1 (by decide) (by decide) (by decide) (by decide) (by decide) (by decide) (by decide) (fit_rats (by decide))).mono ?_
 rintro e w2 ⟨⟨r1, rfl, hs1⟩, hb2⟩
 obtain ⟨k1, l1, n1, x1, v1⟩ := hs1.opt pa_opt
 have hbw2 := hb1.trans (hb2.mono hb1.size)
 clear ho1 hr1 hv1 hs1 hb1 hn1 hb2
 go_wp2_with fail
 refine (oneA_calls (w := w2) (c := rcells 1 r1) (g := [1]) (r := [1]) (z := -1) (by decide) (by decide) (by decide) (by decide) (by decide) (by decide)).mono ?_
 rintro e w3 ⟨⟨p2, rfl, hn2, ho2, hr2, hv2⟩, hb3, q1⟩
 go_wp2_with fail
 refine (solveA_calls (os := [[1]]) (rs := [[1]]) ho2 hr2 hv2 hn2 (by decide) (by decide) (by decide) (by decide) (by decide) (by decide) (by decide) (fit_rats (l := [-1]) (by decide))).mono ?_
 rintro e w4 ⟨⟨r2, rfl, hs2⟩, hb4⟩
 obtain ⟨k2, D, kk, g2, kk1, kk2, kk3, f2⟩ := hs2.inf pb_none
 have hF := pb_farkas g2 kk1 kk2 kk3
 have h24 := hb3.trans (hb4.mono hb3.size)
 have hbw4 := hbw2.trans (h24.mono hbw2.size)
 replace v1 := v1.belowC h24
 replace q1 := rbox_keep q1 hb4
 clear ho2 hr2 hv2 hs2 hn2 hb3 hb4 h24 hbw2 g2 kk1 kk2 kk3
 go_wp2_with fail
 refine (oneA_calls (w := w4) (c := rcells 2 r2) (g := [1, 0]) (r := [-1, 1]) (z := 2) (by decide) (by decide) (by decide) (by decide) (by decide) (by decide)).mono ?_
 rintro e w5 ⟨⟨p3, rfl, hn3, ho3, hr3, hv3⟩, hb5, q2⟩
 go_wp2_with fail
 refine (solveA_calls (os := [[1, 0]]) (rs := [[-1, 1]]) ho3 hr3 hv3 hn3 (by decide) (by decide) (by decide) (by decide) (by decide) (by decide) (by decide) (fit_rats (l := [2]) (by decide))).mono ?_
 rintro e w6 ⟨⟨r3, rfl, hs3⟩, hb6⟩
 obtain ⟨k3, -⟩ := hs3.unb pc_unb
 have h46 := hb5.trans (hb6.mono hb5.size)
 have hbw6 := hbw4.trans (h46.mono hbw4.size)
 replace v1 := v1.belowC h46
 replace f2 := f2.belowC h46
 replace q1 := rbox_keep q1 h46
 replace q2 := rbox_keep q2 hb6
 clear ho3 hr3 hv3 hs3 hn3 hb5 hb6 h46 hbw4
 go_wp2_with fail
 refine (oneA_calls (w := w6) (c := rcells 3 r3) (g := [0]) (r := [-1]) (z := -3) (by decide) (by decide) (by decide) (by decide) (by decide) (by decide)).mono ?_
 rintro e w7 ⟨⟨p4, rfl, hn4, ho4, hr4, hv4⟩, hb7, q3⟩
 go_wp2_with fail
 refine (solveA_calls (os := [[0]]) (rs := [[-1]]) ho4 hr4 hv4 hn4 (by decide) (by decide) (by decide) (by decide) (by decide) (by decide) (by decide) (fit_rats (l := [-3]) (by decide))).mono ?_
 rintro e w8 ⟨⟨r4, rfl, hs4⟩, hb8⟩
 obtain ⟨k4, l4, n4, x4, v4⟩ := hs4.opt pd_opt
 have h68 := hb7.trans (hb8.mono hb7.size)
 have hbw8 := hbw6.trans (h68.mono hbw6.size)
 replace v1 := v1.belowC h68
 replace f2 := f2.belowC h68
 replace q1 := rbox_keep q1 h68
 replace q2 := rbox_keep q2 h68
 replace q3 := rbox_keep q3 hb8
 clear ho4 hr4 hv4 hs4 hn4 hb7 hb8 h68 hbw6
 go_wp2_with fail
 have q4' : (w8.alloc (.cells (rcells 1 r4) 39)).heap[w8.heap.size]? = some (.cells (rcells 1 r4) 39 (0, 0)) := heap_new _ _ rfl
 have al8 : Below w8.heap.size w8 (w8.alloc (.cells (rcells 1 r4) 39)) := (Below.refl _ _).alloc (Nat.le_refl _) _
 refine solveZero_calls.mono ?_
 rintro e w9 ⟨rfl, hb9⟩
 have q4 := rbox_keep q4' hb9
 have h89 := al8.trans (hb9.mono al8.size)
 have hbw9 := hbw8.trans (h89.mono hbw8.size)
 replace v1 := v1.belowC h89
 replace v4 := v4.belowC h89
 replace f2 := f2.belowC h89
 replace q1 := rbox_keep q1 h89
 replace q2 := rbox_keep q2 h89
 replace q3 := rbox_keep q3 h89
 obtain rfl := two_of n1 x1
 obtain rfl := one_of n4 x4
 clear al8 q4' hb9 h89 hbw8 x1 x4 n1 n4
 go_upto_region 6 with fail
 obtain ⟨W, hW⟩ : ∃ W, W = w9.alloc (.cells zeroR 39) := ⟨_, rfl⟩
 rw [← hW]
 have h9W : Below w9.heap.size w9 W := by rw [hW]; exact (Below.refl _ _).alloc (Nat.le_refl _) _
 have hbW := hbw9.trans (h9W.mono hbw9.size)
 have hBW := hbW.size
 replace v1 := Lib.hid ((v1.belowC h9W).loose (L := 1) (fit_rats (by decide)))
 replace v4 := Lib.hid ((v4.belowC h9W).loose (L := 1) (fit_rats (by decide)))
 replace f2 := f2.belowC h9W
 obtain ⟨q10, q11, q14⟩ := rbox_cell (rbox_keep q1 h9W)
 obtain ⟨q20, q21, q24⟩ := rbox_cell (rbox_keep q2 h9W)
 obtain ⟨q30, q31, q34⟩ := rbox_cell (rbox_keep q3 h9W)
 obtain ⟨q40, q41, q44⟩ := rbox_cell (rbox_keep q4 h9W)
 have s1 := lt_of_block (rbox_keep q1 h9W)
 have s2 := lt_of_block (rbox_keep q2 h9W)
 have s4 := lt_of_block (rbox_keep q4 h9W)
 clear q1 q2 q3 q4 h9W hW hbw9
 go_upto_region 8 with fail
 have f3 : VecCan W (New w3.heap.size) (New w3.heap.size) r2.F [farkasOf D pb.n kk 0] := f2
 clear f2 q10 q14 q20 q21 q30 q31 q34 q40 q44 k1 k2 k3 k4
 generalize farkasOf D pb.n kk 0 = q at *
 generalize r2.F = F at *
 obtain ⟨fA, fn, fc⟩ := F
 obtain rfl : 1 = fn := f3.len
 have f4 : 1 ≤ fc := f3.le
 have f5 : fc ≤ 9223372036854775807 := f3.cap
 obtain ⟨ad, qv, e, -, ⟨c0, c1, c2, c3⟩, hq⟩ := f3.elem 0 (by show 0 < 1; omega)
 dsimp only at e c0 c1 c2 c3 hq q24
 subst e
 have hq' : Hid (QCan W (New w3.heap.size) qv q) := hq
 clear hq
 have ea : ad.add (0 * 4) = ad := by cases ad; rfl
 rw [ea] at c0 c1 c2 c3
 have hadl := block_lt_of_cell c0
 clear ea
 refine wp_plain_G 1000 (fun _ w' => Sees w.heap.size [] W w') (by kernel_rfl) ?_
 have hS0 : Sees w.heap.size [] W W.drew := Sees.st (by simp) hBW
 refine takeA (i := 0) ?_ rfl rfl (by kernel_rfl) (by kernel_rfl) (by kernel_rfl) (by decide) (fun _ _ _ h => h) (by rfl) (fun w' hSw => ?_) (hS0) ?_
 rotate_left
 ·((obtain ⟨_, hSw⟩ := hSw); (try dsimp only at hSw); go_simp; try with_reducible rfl)
 simp only [zzA, zzB, zzC]
 refine takeA (i := 1) ?_ rfl rfl (by kernel_rfl) (by kernel_rfl) (by kernel_rfl) (by decide) (fun _ _ _ h => h) (by rfl) (fun w' hSw => ?_) (hS0) ?_
 rotate_left
 ·((obtain ⟨_, hSw⟩ := hSw); (try dsimp only at hSw); go_simp; try with_reducible rfl)
 simp only [zzA, zzB, zzC]
 refine oneW (i := 2) (by kernel_rfl) rfl (by rfl) ?_
 intro K hK
 go_simp
 have hA : (W.alloc (.cells #[.int .i64 2, .int .i64 6] 2)).drew.heap[W.heap.size]? = some (.cells #[.int .i64 2, .int .i64 6] 2 (0, 0)) := heap_new _ _ rfl
 have hS1 : Sees w.heap.size [] W (W.alloc (.cells #[.int .i64 2, .int .i64 6] 2)).drew := Sees.ad hS0
 refine hK.out _ _ hS1 ?_
 clear hK K
 generalize (W.alloc (.cells #[.int .i64 2, .int .i64 6] 2)).drew = wa at *
 refine oneW (i := 3) (by kernel_rfl) rfl (by rfl) ?_
 intro K hK
 go_simp
 refine (fromInts_calls (s := ⟨some ⟨W.heap.size, 0, none⟩, 2, 2⟩) (l := [2, 6]) (IntsAt.blk (l := [2, 6]) hA (by decide) (by decide)) (by show 2 ≤ 1000; omega)).mono ?_
 rintro e wb ⟨⟨⟨zA, zn, zc⟩, rfl, hz⟩, hbb⟩
 dsimp only [SV.val]
 have hS2 := Kept.call2 hbb hS1
 refine hK.out _ _ hS2 ?_
 clear hK K
 refine oneW (i := 4) (by kernel_rfl) rfl (by rfl) ?_
 intro K hK
 go_simp
 refine (equalT_calls (sa := r1.X) (sb := ⟨zA, zn, zc⟩) (v1.out.below hS2.kept.whole) (hz.loose (L := 1) (fit_rats (l := [2, 6]) (by decide))) (by rw [LM_eq]; omega) (by rw [LM_eq]; omega) (by rw [← v1.out.len]; decide) (by rw [← hz.len]; decide)).mono ?_
 rintro e wc ⟨rfl, hbc⟩
 dsimp only
 have hS3 := Kept.call2 hbc hS2
 refine hK.out _ _ hS3 ?_
 clear hK K hS1 hS2 hz hbb hbc hA
 refine takeA (i := 5) ?_ rfl rfl (by kernel_rfl) (by kernel_rfl) (by kernel_rfl) (by decide) (fun _ _ _ h => h) (by rfl) (fun w' hSw => ?_) (hS3) ?_
 rotate_left
 ·((obtain ⟨_, hSw⟩ := hSw); (try dsimp only at hSw); go_simp; try with_reducible rfl)
 simp only [zzA, zzB, zzC]
 refine takeA (i := 6) ?_ rfl rfl (by kernel_rfl) (by kernel_rfl) (by kernel_rfl) (by decide) (fun _ _ _ h => h) (by rfl) (fun w' hSw => ?_) (hS3) ?_
 rotate_left
 ·((obtain ⟨_, hSw⟩ := hSw); (try dsimp only at hSw); go_simp; try with_reducible rfl)
 simp only [zzA, zzB, zzC]
 refine takeA (i := 7) ?_ rfl rfl (by kernel_rfl) (by kernel_rfl) (by kernel_rfl) (by decide) (fun _ _ _ h => h) (by rfl) (fun w' hSw => ?_) (hS3) ?_
 rotate_left
 ·((obtain ⟨_, hSw⟩ := hSw); (try dsimp only at hSw); go_simp; try with_reducible rfl)
 simp only [zzA, zzB, zzC]
 refine oneW (i := 8) (by kernel_rfl) rfl (by rfl) ?_
 intro K hK
 go_simp
 have hA : (wc.alloc (.cells #[.int .i64 3] 2)).heap[wc.heap.size]? = some (.cells #[.int .i64 3] 2 (0, 0)) := heap_new _ _ rfl
 have hS4 : Sees w.heap.size [] W (wc.alloc (.cells #[.int .i64 3] 2)) := Sees.al hS3
 refine hK.out _ _ hS4 ?_
 clear hK K
 generalize wc.alloc (.cells #[.int .i64 3] 2) = wd at *
 refine oneW (i := 9) (by kernel_rfl) rfl (by rfl) ?_
 intro K hK
 go_simp
 refine (fromInts_calls (s := ⟨some ⟨wc.heap.size, 0, none⟩, 1, 1⟩) (l := [3]) (IntsAt.blk (l := [3]) hA (by decide) (by decide)) (by show 1 ≤ 1000; omega)).mono ?_
 rintro e we ⟨⟨⟨yA, yn, yc⟩, rfl, hy⟩, hbe⟩
 dsimp only [SV.val]
 have hS5 := Kept.call2 hbe hS4
 refine hK.out _ _ hS5 ?_
 clear hK K
 refine oneW (i := 10) (by kernel_rfl) rfl (by rfl) ?_
 intro K hK
 go_simp
 refine (equalT_calls (sa := r4.X) (sb := ⟨yA, yn, yc⟩) (v4.out.below hS5.kept.whole) (hy.loose (L := 1) (fit_rats (l := [3]) (by decide))) (by rw [LM_eq]; omega) (by rw [LM_eq]; omega) (by rw [← v4.out.len]; decide) (by rw [← hy.len]; decide)).mono ?_
 rintro e wf ⟨rfl, hbf⟩
 dsimp only
 have hS6 := Kept.call2 hbf hS5
 refine hK.out _ _ hS6 ?_
 clear hK K hS3 hS4 hS5 hy hbe hbf hA
 refine takeA (i := 11) ?_ rfl rfl (by kernel_rfl) (by kernel_rfl) (by kernel_rfl) (by decide) (fun _ _ _ h => h) (by rfl) (fun w' hSw => ?_) (hS6) ?_
 rotate_left
 ·((obtain ⟨_, hSw⟩ := hSw); (try dsimp only at hSw); go_simp; try with_reducible rfl)
 simp only [zzA, zzB, zzC]
 refine takeA (i := 12) ?_ rfl rfl (by kernel_rfl) (by kernel_rfl) (by kernel_rfl) (by decide) (fun _ _ _ h => h) (by rfl) (fun w' hSw => ?_) (hS6) ?_
 rotate_left
 ·((obtain ⟨_, hSw⟩ := hSw); (try dsimp only at hSw); go_simp; try with_reducible rfl)
 simp only [zzA, zzB, zzC]
 refine takeA (i := 13) ?_ rfl rfl (by kernel_rfl) (by kernel_rfl) (by kernel_rfl) (by decide) (fun _ _ _ h => h) (by rfl) (fun w' hSw => ?_) (hS6) ?_
 rotate_left
 ·((obtain ⟨_, hSw⟩ := hSw); (try dsimp only at hSw); go_simp; try with_reducible rfl)
 simp only [zzA, zzB, zzC]
 refine takeA (i := 14) ?_ rfl rfl (by kernel_rfl) (by kernel_rfl) (by kernel_rfl) (by decide) (fun _ _ _ h => h) (by rfl) (fun w' hSw => ?_) (hS6) ?_
 rotate_left
 ·((obtain ⟨_, hSw⟩ := hSw); (try dsimp only at hSw); go_simp; try with_reducible rfl)
 simp only [zzA, zzB, zzC]
 refine takeA (i := 15) ?_ rfl rfl (by kernel_rfl) (by kernel_rfl) (by kernel_rfl) (by decide) (fun _ _ _ h => h) (by rfl) (fun w' hSw => ?_) (hS6) ?_
 rotate_left
 ·((obtain ⟨_, hSw⟩ := hSw); (try dsimp only at hSw); go_simp; try with_reducible rfl)
 simp only [zzA, zzB, zzC]
 refine takeA (i := 16) ?_ rfl rfl (by kernel_rfl) (by kernel_rfl) (by kernel_rfl) (by decide) (fun _ _ _ h => h) (by rfl) (fun w' hSw => ?_) (hS6) ?_
 rotate_left
 ·((obtain ⟨_, hSw⟩ := hSw); (try dsimp only at hSw); go_simp; try with_reducible rfl)
 simp only [zzA, zzB, zzC]
 refine takeA (i := 17) ?_ rfl rfl (by kernel_rfl) (by kernel_rfl) (by kernel_rfl) (by decide) (fun _ _ _ h => h) (by rfl) (fun w' hSw => ?_) (hS6) ?_
 rotate_left
 ·((obtain ⟨_, hSw⟩ := hSw); (try dsimp only at hSw); go_simp; try with_reducible rfl)
 simp only [zzA, zzB, zzC]
 refine takeA (i := 18) ?_ rfl rfl (by kernel_rfl) (by kernel_rfl) (by kernel_rfl) (by decide) (fun _ _ _ h => h) (by rfl) (fun w' hSw => ?_) (hS6) ?_
 rotate_left
 ·((obtain ⟨_, hSw⟩ := hSw); (try dsimp only at hSw); go_simp; try with_reducible rfl)
 simp only [zzA, zzB, zzC]
 refine takeA (i := 19) ?_ rfl rfl (by kernel_rfl) (by kernel_rfl) (by kernel_rfl) (by decide) (fun _ _ _ h => h) (by rfl) (fun w' hSw => ?_) (hS6) ?_
 rotate_left
 ·((obtain ⟨_, hSw⟩ := hSw); (try dsimp only at hSw); go_simp; try with_reducible rfl)
 simp only [zzA, zzB, zzC]
 refine takeA (i := 20) ?_ rfl rfl (by kernel_rfl) (by kernel_rfl) (by kernel_rfl) (by decide) (fun _ _ _ h => h) (by rfl) (fun w' hSw => ?_) (hS6) ?_
 rotate_left
 ·((obtain ⟨_, hSw⟩ := hSw); (try dsimp only at hSw); go_simp; try with_reducible rfl)
 simp only [zzA, zzB, zzC]
 refine takeA (i := 21) ?_ rfl rfl (by kernel_rfl) (by kernel_rfl) (by kernel_rfl) (by decide) (fun _ _ _ h => h) (by rfl) (fun w' hSw => ?_) (hS6) ?_
 rotate_left
 ·((obtain ⟨_, hSw⟩ := hSw); (try dsimp only at hSw); go_simp; try with_reducible rfl)
 simp only [zzA, zzB, zzC]
 refine takeA (i := 22) (qv.val) rfl rfl (by kernel_rfl) (by kernel_rfl) (by kernel_rfl) (by decide) (fun _ _ _ h => h) (by rfl) (fun w' hSw => ?_) (hS6) ?_
 ·((obtain ⟨_, hSw⟩ := hSw); (try dsimp only at hSw); have e0 := ((hSw.kept.whole).cell hadl).trans c0; go_simp; try with_reducible rfl)
 simp only [zzA, zzB, zzC]
 refine oneW (i := 23) (by kernel_rfl) rfl (by rfl) ?_
 intro K hK
 go_simp
 obtain ⟨L, hL⟩ := qfit_ex q
 refine (qsign_calls ((hq'.out.below hS6.kept.whole).qis hL)).mono ?_
 rintro e wg ⟨rfl, hbg⟩
 dsimp only
 have hS7 := Kept.call2 hbg hS6
 refine hK.out _ _ hS7 ?_
 clear hK K hS6
 rw [qsign_pos hF]
 refine takeA (i := 24) ?_ rfl rfl (by kernel_rfl) (by kernel_rfl) (by kernel_rfl) (by decide) (fun _ _ _ h => h) (by rfl) (fun w' hSw => ?_) (hS7) ?_
 rotate_left
 ·((obtain ⟨_, hSw⟩ := hSw); (try dsimp only at hSw); go_simp; try with_reducible rfl)
 simp only [zzA, zzB, zzC]
 refine takeA (i := 25) ?_ rfl rfl (by kernel_rfl) (by kernel_rfl) (by kernel_rfl) (by decide) (fun _ _ _ h => h) (by rfl) (fun w' hSw => ?_) (hS7) ?_
 rotate_left
 ·((obtain ⟨_, hSw⟩ := hSw); (try dsimp only at hSw); go_simp; try with_reducible rfl)
 simp only [zzA, zzB, zzC]
 refine takeA (i := 26) ?_ rfl rfl (by kernel_rfl) (by kernel_rfl) (by kernel_rfl) (by decide) (fun _ _ _ h => h) (by rfl) (fun w' hSw => ?_) (hS7) ?_
 rotate_left
 ·((obtain ⟨_, hSw⟩ := hSw); (try dsimp only at hSw); go_simp; try with_reducible rfl)
 simp only [zzA, zzB, zzC]
 refine wpAnyG_done (by kernel_rfl) ?_ _
 have hbf := hbW.trans (hS7.kept.whole.mono hBW)
 go_wp2
 go_ret
 exact ⟨rfl, hbf⟩
end Go.Proofs.YtjkggfcppkgapaaGreat
namespace Go.Proofs.YtjkggfcppkgapaaGreat
namespace Lin
structure Akin (P Q : Prob) : Prop where
 n : Q.n = P.n
 K : Q.K = P.K
 feas : ∀ x, Q.Feasible x ↔ P.Feasible x
 hom : ∀ d : Nat → Rat, (∀ i, i < P.m → sum P.n (fun k => P.A i k * d k) ≤ 0) → ∀ i, i < Q.m → sum Q.n (fun k => Q.A i k * d k) ≤ 0
 obj : ∃ c : Rat, 0 < c ∧ ∀ l, l < P.K → ∀ k, Q.O l k = c * P.O l k
theorem LexPos.scale {N : Nat} {f g : Nat → Rat} {c : Nat → Rat} (h : LexPos N f) (hc : ∀ i, 0 < c i) (e : ∀ i, i < N → g i = c i * f i) : LexPos N g := by
 obtain ⟨i, h0, h1, h2⟩ := h
 exact ⟨i, h0, by rw [e i h0]; exact mul_pos (hc i) h1, fun j hj => by rw [e j (by omega), h2 j hj]; grind⟩
theorem sum_scale (n : Nat) (c : Rat) (f : Nat → Rat) : sum n (fun k => c * f k) = c * sum n f := by
 induction n with
 | zero => simp [sum]
 | succ n ih => simp only [sum, ih]; grind
theorem Akin.better {P Q : Prob} (h : Akin P Q) {x y : Nat → Rat} (hb : P.Better x y) : Q.Better x y := by
 obtain ⟨c, hc, ho⟩ := h.obj
 unfold Prob.Better at hb ⊢
 rw [h.n, h.K]
 refine LexPos.scale (c := fun l => if l < P.K then c else 1) hb (fun i => by show 0 < if i < P.K then c else 1; split; exact hc; decide) fun l hl => ?_
 simp only [Prob.obj, h.K, h.n]
 by_cases hK : l < P.K
 ·simp only [if_pos hK]
  have e : ∀ z : Nat → Rat, sum P.n (fun k => Q.O l k * z k) = c * sum P.n (fun k => P.O l k * z k) := fun z => by
   rw [← sum_scale]; exact sum_congr fun k _ => by rw [ho l hK k]; grind
  rw [e, e]; grind
 ·simp only [if_neg hK]; grind
theorem Akin.optimal {P Q : Prob} (h : Akin P Q) {x : Nat → Rat} (ho : P.Optimal x) : Q.Optimal x :=
 ⟨(h.feas x).2 ho.1, fun y hy => (ho.2 y ((h.feas y).1 hy)).elim (fun hb => .inl (h.better hb)) fun hs => .inr (by rw [h.n]; exact hs)⟩
theorem Akin.unbounded {P Q : Prob} (h : Akin P Q) {x d : Nat → Rat} (hu : P.Unbounded x d) : Q.Unbounded x d := by
 refine ⟨(h.feas x).2 hu.1, by rw [h.n]; exact hu.2.1, h.hom d hu.2.2.1, ?_⟩
 obtain ⟨c, hc, ho⟩ := h.obj
 rw [h.K, h.n]
 refine LexPos.scale (c := fun _ => c) hu.2.2.2 (fun _ => hc) fun l hl => ?_
 rw [← sum_scale]; exact sum_congr fun k _ => by rw [ho l hl k]; grind
end Lin
open Lin
theorem solved_akin {w w' v v' : World} {P Q : Prob} {r s : RV} (hA : Akin P Q) (h : Solved w P r w') (h' : Solved v Q s v') :
  (r.kind = 1 ∧ s.kind = 1 ∧ ∃ l : List Rat, l.length = P.n ∧ VecCan w' (New w.heap.size) (New w.heap.size) r.X l ∧ VecCan v' (New v.heap.size) (New v.heap.size) s.X l) ∨ (r.kind = 2 ∧ s.kind = 2) ∨ (r.kind = 3 ∧ s.kind = 3) := by
 rcases h with ⟨hk, D, l, _, _, _, hl, hopt, hx, _⟩ | ⟨hk, _, _, _, _, _, _, hno, _⟩ | ⟨hk, l, l', _, _, hu, _, _⟩
 ·obtain ⟨k', l2, n2, e2, x2⟩ := h'.opt (hA.optimal hopt)
  have : l2 = l := by
   refine List.ext_getElem (by rw [n2, hl, hA.n]) fun k h1 h2 => ?_
   have := e2 k (by rw [← n2]; exact h1)
   simpa [List.getD_eq_getElem?_getD, h1, h2] using this
  subst this
  exact .inl ⟨hk, k', l2, hl, hx, x2⟩
 ·exact .inr (.inl ⟨hk, (h'.inf fun x hx => hno x ((hA.feas x).1 hx)).1⟩)
 ·exact .inr (.inr ⟨hk, (h'.unb (hA.unbounded hu)).1⟩)
def scRows (n at' : Nat) (j : Rat) (rs : List (List Rat)) : List (List Rat) := (List.range n).map fun i => (rs.getD ((i + at') % n) []).map (j * ·)
def scBounds (n at' : Nat) (j : Rat) (bs : List Rat) : List Rat := (List.range n).map fun i => j * bs.getD ((i + at') % n) 0
theorem getD_map0 (l : List Rat) (c : Rat) (k : Nat) : (l.map (c * ·)).getD k 0 = c * l.getD k 0 := by
 simp only [List.getD_eq_getElem?_getD, List.getElem?_map]
 cases l[k]? <;> simp
theorem turn_back {n c : Nat} (a : Nat) (h : c < n) : ∃ i, i < n ∧ (i + a) % n = c := by
 refine ⟨(c + n - a % n) % n, Nat.mod_lt _ (by omega), ?_⟩
 have h1 : a % n < n := Nat.mod_lt _ (by omega)
 rw [Nat.mod_add_mod, Nat.add_mod, ← Nat.add_mod_mod, Nat.mod_mod, Nat.mod_add_mod]
 rw [show c + n - a % n + a % n = c + n by omega, Nat.add_mod_right, Nat.mod_eq_of_lt h]
theorem le_of_mul_le {j x y : Rat} (h : 0 < j) (hx : j * x ≤ j * y) : x ≤ y := by
 by_cases hxy : x ≤ y
 ·exact hxy
 ·have : 0 < j * (x - y) := mul_pos h (by grind)
  grind
theorem mul_le_mul' {j x y : Rat} (h : 0 < j) (hx : x ≤ y) : j * x ≤ j * y := by
 have : 0 ≤ j * (y - x) := mul_nonneg (by grind) (by grind)
 grind
theorem akin_scaled {V n at' : Nat} {j k : Rat} {os rs : List (List Rat)} {bs : List Rat} (hj : 0 < j) (hk : 0 < k) (hn : rs.length = n) (hb : bs.length = n) :
  Akin (probOf V os rs bs) (probOf V (os.map fun l => l.map (k * ·)) (if n = 0 then [] else scRows n at' j rs ++ [rs.getD (at' % n) []]) (if n = 0 then [] else scBounds n at' j bs ++ [bs.getD (at' % n) 0])) := by
 by_cases h0 : n = 0
 ·obtain rfl : rs = [] := List.length_eq_zero_iff.1 (by omega)
  obtain rfl : bs = [] := List.length_eq_zero_iff.1 (by omega)
  simp only [if_pos h0]
  refine ⟨rfl, by simp [probOf], fun x => Iff.rfl, fun d h => h, k, hk, fun l hl c => ?_⟩
  have hl' : l < os.length := hl
  show ((os.map _).getD l []).getD c 0 = k * (os.getD l []).getD c 0
  rw [show (os.map fun l => l.map (k * ·)).getD l [] = (os.getD l []).map (k * ·) by simp [List.getD_eq_getElem?_getD, hl'], getD_map0]
 ·simp only [if_neg h0]
  have eA : ∀ i c, i < n → (((scRows n at' j rs ++ [rs.getD (at' % n) []]).getD i []).getD c 0 : Rat) = j * (rs.getD ((i + at') % n) []).getD c 0 := fun i c hi => by
   rw [getD_append_left _ _ _ (by simpa [scRows] using hi), scRows, getD_map_range _ _ hi, getD_map0]
  have eA' : ∀ c, (((scRows n at' j rs ++ [rs.getD (at' % n) []]).getD n []).getD c 0 : Rat) = (rs.getD (at' % n) []).getD c 0 := fun c => by
   have := getD_append_right (scRows n at' j rs) [rs.getD (at' % n) []] [] (i := 0)
   rw [show (scRows n at' j rs).length + 0 = n by simp [scRows]] at this
   rw [this]; rfl
  have eB : ∀ i, i < n → ((scBounds n at' j bs ++ [bs.getD (at' % n) 0]).getD i 0 : Rat) = j * bs.getD ((i + at') % n) 0 := fun i hi => by
   rw [getD_append_left _ _ _ (by simpa [scBounds] using hi), scBounds, getD_map_range _ _ hi]
  have eB' : ((scBounds n at' j bs ++ [bs.getD (at' % n) 0]).getD n 0 : Rat) = bs.getD (at' % n) 0 := by
   have := getD_append_right (scBounds n at' j bs) [bs.getD (at' % n) 0] 0 (i := 0)
   rw [show (scBounds n at' j bs).length + 0 = n by simp [scBounds]] at this
   rw [this]; rfl
  have em : (scRows n at' j rs ++ [rs.getD (at' % n) []]).length = n + 1 := by simp [scRows]
  have es : ∀ i (x : Nat → Rat), i < n → sum V (fun c => ((scRows n at' j rs ++ [rs.getD (at' % n) []]).getD i []).getD c 0 * x c) = j * sum V (fun c => (rs.getD ((i + at') % n) []).getD c 0 * x c) := fun i x hi => by
   rw [← sum_scale]; exact sum_congr fun c _ => by rw [eA i c hi]; grind
  have es' : ∀ (x : Nat → Rat), sum V (fun c => ((scRows n at' j rs ++ [rs.getD (at' % n) []]).getD n []).getD c 0 * x c) = sum V (fun c => (rs.getD (at' % n) []).getD c 0 * x c) := fun x => sum_congr fun c _ => by rw [eA' c]
  have hm : ∀ a, a % n < n := fun a => Nat.mod_lt _ (by omega)
  refine ⟨rfl, by simp [probOf], fun x => ?_, fun d h i hi => ?_, k, hk, fun l hl c => ?_⟩
  ·constructor
   ·rintro ⟨h1, h2⟩
    refine ⟨h1, fun c hc => ?_⟩
    have hc' : c < n := by rw [← hn]; exact hc
    obtain ⟨i, hi, rfl⟩ := turn_back at' hc'
    have := h2 i (by show i < (scRows n at' j rs ++ [rs.getD (at' % n) []]).length; omega)
    have e1 := es i x hi
    have e2 := eB i hi
    simp only [probOf] at this ⊢
    rw [e1, e2] at this
    exact le_of_mul_le hj this
   ·rintro ⟨h1, h2⟩
    refine ⟨h1, fun i hi => ?_⟩
    have hi' : i < n + 1 := by rw [← em]; exact hi
    simp only [probOf] at h2 ⊢
    by_cases e : i = n
    ·subst e
     rw [es' x, eB']
     exact h2 _ (by rw [hn]; exact hm _)
    ·rw [es i x (by omega), eB i (by omega)]
     exact mul_le_mul' hj (h2 _ (by rw [hn]; exact hm _))
  ·have hi' : i < n + 1 := by rw [← em]; exact hi
   simp only [probOf] at h ⊢
   by_cases e : i = n
   ·subst e
    rw [es' d]
    exact h _ (by rw [hn]; exact hm _)
   ·rw [es i d (by omega)]
    have := mul_le_mul' hj (h _ (by rw [hn]; exact hm (i + at')))
    grind
  ·have hl' : l < os.length := hl
   show ((os.map _).getD l []).getD c 0 = k * (os.getD l []).getD c 0
   rw [show (os.map fun l => l.map (k * ·)).getD l [] = (os.getD l []).map (k * ·) by simp [List.getD_eq_getElem?_getD, hl'], getD_map0]
end Go.Proofs.YtjkggfcppkgapaaGreat
namespace Go.Proofs.YtjkggfcppkgapaaGreat
open Go.RowKit
def three (a b c : Value) (f : Nat) : Value := if f = 1 then a else if f = 2 then b else c
def qft (f : Nat) : TypeId := if f ≤ 2 then 23 else 30
def qfw (f : Nat) : Nat := if f ≤ 2 then 1 else 4
structure Step (W W' : World) (G G' : Nat → Prop) : Prop where
 size : W.heap.size ≤ W'.heap.size
 keep : ∀ b, b < W.heap.size → ¬ G b → W'.heap[b]? = W.heap[b]?
 back : ∀ b, b < W.heap.size → G' b → G b
theorem Step.refl (W : World) (G : Nat → Prop) : Step W W G G := ⟨Nat.le_refl _, fun _ _ _ => rfl, fun _ _ h => h⟩
theorem Step.below {W W' : World} (G : Nat → Prop) (h : Below W.heap.size W W') : Step W W' G G := ⟨h.size, fun b hb _ => h.block b hb, fun _ _ h => h⟩
theorem Step.trans {W W' W2 : World} {G G' G2 : Nat → Prop} (h : Step W W' G G') (k : Step W' W2 G' G2) : Step W W2 G G2 :=
 ⟨Nat.le_trans h.size k.size, fun b hb hg => (k.keep b (Nat.lt_of_lt_of_le hb h.size) fun hg' => hg (h.back b hb hg')).trans (h.keep b hb hg), fun b hb hg => h.back b hb (k.back b (Nat.lt_of_lt_of_le hb h.size) hg)⟩
section
variable {W W' : World} {G G' : Nat → Prop} {L : Nat}
theorem Step.cell (s : Step W W' G G') {a : Addr} (hl : a.block < W.heap.size) (hg : ¬ G a.block) : W'.cell? a = W.cell? a := World.cell?_of_block (s.keep _ hl hg)
theorem Step.qis (s : Step W W' G G') {v : QV} {q : Rat} (h : QIs W (fun b => ¬ G b) L v q) : QIs W' (fun b => ¬ G' b) L v q := by
 have h2 : QIs W (fun b => ¬ G b ∧ ¬ G' b) L v q := h.imp fun b hb hx => ⟨hx, fun hg => hx (s.back b hb hg)⟩
 have h3 : QIs W' (fun b => ¬ G b ∧ ¬ G' b) L v q := h2.keep fun a hx hl => s.cell hl hx.1
 exact h3.imp fun b _ hx => hx.2
theorem Step.vec (s : Step W W' G G') {v : SV} {l : List Rat} (h : VecIs W (fun b => ¬ G b) (fun b => ¬ G b) L v l) : VecIs W' (fun b => ¬ G' b) (fun b => ¬ G' b) L v l := by
 have h2 : VecAt W (fun b => ¬ G b ∧ ¬ G' b) (QIs W (fun b => ¬ G b) L) v l := h.imp (fun b hb hx => ⟨hx, fun hg => hx (s.back b hb hg)⟩) fun _ _ h => h
 have h3 : VecAt W' (fun b => ¬ G b ∧ ¬ G' b) (QIs W' (fun b => ¬ G' b) L) v l := h2.keep (fun a hx hl => s.cell hl hx.1) fun _ _ h => s.qis h
 exact h3.imp (fun b _ hx => hx.2) fun _ _ h => h
theorem Step.old (s : Step W W' G G') {d : Nat} (hd : ∀ x, G x → d ≤ x) {v : QV} {q : Rat} (h : QCan W (Old d) v q) : QCan W' (Old d) v q :=
 h.keep fun a hx hl => s.cell hl fun hg => by have := hd _ hg; simp only [Old] at hx; omega
theorem Step.box4 (s : Step W W' G G') {b : Nat} {u0 u1 u2 u3 : Value} (h : Box4 W b u0 u1 u2 u3) (hl : b < W.heap.size) (hg : ¬ G b) : Box4 W' b u0 u1 u2 u3 := h.heap (s.keep b hl hg)
end
structure QS (w : World) (d : Nat) (n : Int) (va vb vc : Value) (al : Nat → List Value) (cnt : Nat → Nat) (G : Nat → Prop) (W : World) : Prop where
 bel : Below w.heap.size w W
 blk : W.heap[d]? = some (.cells #[.int .i64 n, va, vb, vc] 25 (0, 0))
 own : ∀ f, 1 ≤ f → f ≤ 3 → W.ownsRow (d + 1) (qft f) (qfw f) (three va vb vc f) (cnt f) (al f)
 apart : ∀ f g j, f ≠ g → 1 ≤ f → f ≤ 3 → 1 ≤ g → g ≤ 3 → (three va vb vc f).ownBlock = some j → (three va vb vc g).ownBlock ≠ some j
 gin : ∀ x, G x → d ≤ x ∧ x < W.heap.size
 gd : G d
 gf : ∀ f j, 1 ≤ f → f ≤ 3 → (three va vb vc f).ownBlock = some j → G j
 ge : w.heap.size ≤ d
section
variable {w W W' : World} {d : Nat} {n : Int} {va vb vc : Value} {al : Nat → List Value} {cnt : Nat → Nat} {G : Nat → Prop}
theorem QS.dlt (h : QS w d n va vb vc al cnt G W) : d < W.heap.size := lt_of_block h.blk
theorem QS.call (h : QS w d n va vb vc al cnt G W) (hb : Below W.heap.size W W') : QS w d n va vb vc al cnt G W' :=
 ⟨h.bel.trans (hb.mono h.bel.size), (hb.block d h.dlt).trans h.blk,
  fun f h1 h2 => own_keep (h.own f h1 h2) fun j hj => by
   obtain ⟨_, cs, hh⟩ := own_block (h.own f h1 h2) hj
   exact hb.block j (lt_of_block hh),
  h.apart, fun x hx => ⟨(h.gin x hx).1, Nat.lt_of_lt_of_le (h.gin x hx).2 hb.size⟩, h.gd, h.gf, h.ge⟩
theorem QS.cells (h : QS w d n va vb vc al cnt G W) : W.cell? ⟨d, 0, none⟩ = some (.int .i64 n) ∧ W.cell? ⟨d, 1, none⟩ = some va ∧ W.cell? ⟨d, 2, none⟩ = some vb ∧ W.cell? ⟨d, 3, none⟩ = some vc ∧ ∀ o, W.frozen? ⟨d, o, none⟩ = false := by
 simp [World.cell?, World.frozen?, h.blk]
theorem three_turn (a b c v : Value) (f g : Nat) (h1 : 1 ≤ f) (h2 : f ≤ 3) (h3 : 1 ≤ g) (h4 : g ≤ 3) :
  three (if f = 1 then v else a) (if f = 2 then v else b) (if f = 3 then v else c) g = if g = f then v else three a b c g := by
 unfold three
 rcases (by omega : f = 1 ∨ f = 2 ∨ f = 3) with rfl | rfl | rfl <;> rcases (by omega : g = 1 ∨ g = 2 ∨ g = 3) with rfl | rfl | rfl <;> simp
theorem QS.app_blk (h : QS w d n va vb vc al cnt G W) {f : Nat} (h1 : 1 ≤ f) (h2 : f ≤ 3) {o : Obj} {W2 : World} (hg : (W.alloc o).grownBy W2 (three va vb vc f).ownBlock) {x : Nat} (hx : x < W.heap.size) (hgx : ¬ G x ∨ x = d) : W2.heap[x]? = W.heap[x]? :=
 (hg.block x (by simp; omega) (fun e => by
  rcases hgx with hgx | rfl
  ·exact hgx (h.gf f x h1 h2 e.symm)
  ·have := (own_block (h.own f h1 h2) e.symm).1; omega)).trans (Below.heap_alloc _ _ _ hx)
theorem QS.append (h : QS w d n va vb vc al cnt G W) {f : Nat} (h1 : 1 ≤ f) (h2 : f ≤ 3) {xs : List Value} {v' : Value} {o : Obj} {W2 : World}
  (hown : W2.ownsRow (d + 1) (qft f) (qfw f) v' (cnt f + 1) (al f ++ xs)) (hg : (W.alloc o).grownBy W2 (three va vb vc f).ownBlock)
  (hat : v'.ownBlock = (three va vb vc f).ownBlock ∨ v'.ownBlock = some (W.alloc o).heap.size) :
  QS w d n (if f = 1 then v' else va) (if f = 2 then v' else vb) (if f = 3 then v' else vc) (fun g => if g = f then al f ++ xs else al g) (fun g => if g = f then cnt f + 1 else cnt g) (fun y => G y ∨ v'.ownBlock = some y) (W2.setCell ⟨d, f, none⟩ v') ∧
  Step W (W2.setCell ⟨d, f, none⟩ v') G (fun y => G y ∨ v'.ownBlock = some y) := by
 have hsz : W.heap.size < W2.heap.size := by have := hg.size; simp at this; omega
 have hnd : ∀ g j, 1 ≤ g → g ≤ 3 → (three va vb vc g).ownBlock = some j → j ≠ d := fun g j g1 g2 hj e => by
  have := (own_block (h.own g g1 g2) hj).1; omega
 have keep : ∀ k, k < W.heap.size → (three va vb vc f).ownBlock ≠ some k → W2.heap[k]? = W.heap[k]? := fun k hk hne =>
  (hg.block k (by simp; omega) (fun e => hne e.symm)).trans (Below.heap_alloc _ _ _ hk)
 have hblk2 : W2.heap[d]? = _ := (keep d h.dlt (fun e => hnd f d h1 h2 e rfl)).trans h.blk
 have kset : ∀ k, k ≠ d → (W2.setCell ⟨d, f, none⟩ v').heap[k]? = W2.heap[k]? := fun k hk => Below.heap_setCell _ _ _ _ hk
 have hvd : ∀ j, v'.ownBlock = some j → j ≠ d ∧ j < W2.heap.size ∧ d < j := fun j hj => by
  obtain ⟨g1, cs, hh⟩ := own_block hown hj
  exact ⟨by omega, lt_of_block hh, by omega⟩
 refine ⟨⟨?_, ?_, ?_, ?_, ?_, .inl h.gd, ?_, h.ge⟩, ⟨by simp [World.setCell]; omega, fun b hb hgb => ?_, fun b hb hgb => ?_⟩⟩
 ·have h3 : Below w.heap.size (W.alloc o) W2 := (Below.refl _ _).grown hg (by have := h.bel.size; simp; omega) (fun j hj => by have := (own_block (h.own f h1 h2) hj).1; have := h.ge; omega)
  exact ((h.bel.alloc h.bel.size _).trans h3).setCell (p := ⟨d, f, none⟩) h.ge _
 ·rw [heap_setCell_blk _ hblk2]
  rcases (by omega : f = 1 ∨ f = 2 ∨ f = 3) with rfl | rfl | rfl <;> simp
 ·intro g g1 g2
  rw [three_turn va vb vc v' f g h1 h2 g1 g2]
  by_cases e : g = f
  ·subst e
   simp only [if_true]
   exact own_keep hown fun j hj => kset j (hvd j hj).1
  ·simp only [if_neg e]
   refine own_keep (h.own g g1 g2) fun j hj => ?_
   obtain ⟨_, cs, hh⟩ := own_block (h.own g g1 g2) hj
   exact (kset j (hnd g j g1 g2 hj)).trans (keep j (lt_of_block hh) (h.apart g f j e g1 g2 h1 h2 hj))
 ·intro g k j hgk g1 g2 k1 k2
  rw [three_turn va vb vc v' f g h1 h2 g1 g2, three_turn va vb vc v' f k h1 h2 k1 k2]
  have old : ∀ g j, 1 ≤ g → g ≤ 3 → (three va vb vc g).ownBlock = some j → j < W.heap.size := fun g j g1 g2 hj => by
   obtain ⟨_, cs, hh⟩ := own_block (h.own g g1 g2) hj
   exact lt_of_block hh
  by_cases eg : g = f
  ·by_cases ek : k = f
   ·omega
   ·rw [if_pos eg, if_neg ek]
    intro hj hk
    rcases hat with e | e
    ·rw [e] at hj; exact h.apart f k j (by omega) h1 h2 k1 k2 hj hk
    ·rw [e] at hj; cases hj
     have := old k _ k1 k2 hk; simp at this; omega
  ·rw [if_neg eg]
   by_cases ek : k = f
   ·rw [if_pos ek]
    intro hj hk
    rcases hat with e | e
    ·rw [e] at hk; exact h.apart g f j (by omega) g1 g2 h1 h2 hj hk
    ·rw [e] at hk; cases hk
     have := old g _ g1 g2 hj; simp at this; omega
   ·rw [if_neg ek]; exact h.apart g k j hgk g1 g2 k1 k2
 ·intro x hx
  rcases hx with hx | hx
  ·have := h.gin x hx; exact ⟨this.1, by simp [World.setCell]; omega⟩
  ·have := hvd x hx; exact ⟨by omega, by simp [World.setCell]; omega⟩
 ·intro g j g1 g2
  rw [three_turn va vb vc v' f g h1 h2 g1 g2]
  split
  ·intro hj; exact .inr hj
  ·intro hj; exact .inl (h.gf g j g1 g2 hj)
 ·exact (kset b (fun e => hgb (by rw [e]; exact h.gd))).trans (keep b hb fun e => hgb (h.gf f b h1 h2 e))
 ·rcases hgb with hgb | hgb
  ·exact hgb
  ·rcases hat with e | e
   ·rw [e] at hgb; exact h.gf f b h1 h2 hgb
   ·rw [e] at hgb; cases hgb; simp at hb; omega
end
end Go.Proofs.YtjkggfcppkgapaaGreat
namespace Go.Proofs.YtjkggfcppkgapaaGreat
open Go.RowKit Go.Shelf
def pick3 {α : Type} (z a b c : α) (f : Nat) : α := if f = 1 then a else if f = 2 then b else if f = 3 then c else z
theorem QIs.sizes {w : World} {X : Nat → Prop} {L : Nat} {v : QV} {q : Rat} (h : QIs w X L v q) : v.num.n ≤ L ∧ v.den.n ≤ L := by
 obtain ⟨x, y, ⟨lx, hx, k1, ex⟩, ⟨ly, hy, k2, ey⟩, e⟩ := h
 exact ⟨k1, k2⟩
theorem vec_two {w : World} {b : Nat} {u v : QV} {x y : Rat} (h : w.heap[b]? = some (.cells #[.bool u.num.ng, .slice u.num.A u.num.n u.num.c, .bool u.den.ng, .slice u.den.A u.den.n u.den.c, .bool v.num.ng, .slice v.num.A v.num.n v.num.c, .bool v.den.ng, .slice v.den.A v.den.n v.den.c] 30 (0, 0))) (hx : QAny w AllB u x) (hy : QAny w AllB v y) : VecAt w AllB (QAny w AllB) ⟨some ⟨b, 0, none⟩, 2, 2⟩ [x, y] :=
 ⟨rfl, Nat.le_refl _, by show 2 ≤ _; omega, fun k hk => by
  have hk' : k < 2 := hk
  rcases lt_two hk' with rfl | rfl
  ·exact ⟨⟨b, 0, none⟩, u, rfl, trivial, by simp [QCell, Addr.add, World.cell?, h], hx⟩
  ·exact ⟨⟨b, 0, none⟩, v, rfl, trivial, by simp [QCell, Addr.add, World.cell?, h], hy⟩⟩
theorem two_short {w : World} {b : Nat} {u v : QV} {x y : Rat} (h : w.heap[b]? = some (.cells #[.bool u.num.ng, .slice u.num.A u.num.n u.num.c, .bool u.den.ng, .slice u.den.A u.den.n u.den.c, .bool v.num.ng, .slice v.num.A v.num.n v.num.c, .bool v.den.ng, .slice v.den.A v.den.n v.den.c] 30 (0, 0))) (hv : VecIs w AllB AllB 6 ⟨some ⟨b, 0, none⟩, 2, 2⟩ [x, y]) : (u.num.n ≤ 6 ∧ u.den.n ≤ 6) ∧ v.num.n ≤ 6 ∧ v.den.n ≤ 6 := by
 obtain ⟨ad, u', e, -, hc, hq⟩ := hv.elem 0 (by show 0 < 2; omega)
 obtain ⟨ad', v', e', -, hc', hq'⟩ := hv.elem 1 (by show 1 < 2; omega)
 cases e
 cases e'
 have e1 : QCell w (Addr.add ⟨b, 0, none⟩ (0 * 4)) u := by simp [QCell, Addr.add, World.cell?, h]
 have e2 : QCell w (Addr.add ⟨b, 0, none⟩ (1 * 4)) v := by simp [QCell, Addr.add, World.cell?, h]
 obtain rfl := qcell_inj hc e1
 obtain rfl := qcell_inj hc' e2
 exact ⟨hq.sizes, hq'.sizes⟩
structure ScB (w : World) (p : LPV) (jv kv : QV) (jq kq : Rat) (d : Nat) (W : World) : Prop where
 bP : LPBox W w.heap.size p
 bJ : Box4 W (w.heap.size + 1) (.bool jv.num.ng) (.slice jv.num.A jv.num.n jv.num.c) (.bool jv.den.ng) (.slice jv.den.A jv.den.n jv.den.c)
 bK : Box4 W (w.heap.size + 1 + 1) (.bool kv.num.ng) (.slice kv.num.A kv.num.n kv.num.c) (.bool kv.den.ng) (.slice kv.den.A kv.den.n kv.den.c)
 hj : QCan W (Old d) jv jq
 hk : QCan W (Old d) kv kq
 dl : w.heap.size + 1 + 1 < d
theorem fits_abs {L : Nat} {q : Rat} (h : QFit L q) : Lin.Fits (32 * L) (qabs q) := by
 unfold qabs; split
 ·exact (qfit_fits h).neg
 ·exact qfit_fits h
theorem fits_one : Lin.Fits 1 ((1 : Int) : Rat) := Lin.Fits.ofInt (by decide)
structure Put (W W' : World) (b : Nat) : Prop where
 size : W'.heap.size = W.heap.size
 keep : ∀ c, c ≠ b → W'.heap[c]? = W.heap[c]?
 below : ∀ B, B ≤ b → Below B W W'
theorem Put.one {W : World} (b o : Nat) (x : Value) : Put W (W.setCell ⟨b, o, none⟩ x) b :=
 ⟨by simp [World.setCell], fun c hc => Below.heap_setCell _ _ _ _ hc, fun B hB => (Below.refl _ _).setCell (p := ⟨b, o, none⟩) hB _⟩
theorem Put.trans {W W' W2 : World} {b : Nat} (h : Put W W' b) (k : Put W' W2 b) : Put W W2 b :=
 ⟨k.size.trans h.size, fun c hc => (k.keep c hc).trans (h.keep c hc), fun B hB => (h.below B hB).trans (k.below B hB)⟩
theorem Put.four {W : World} (b : Nat) (x0 x1 x2 x3 : Value) : Put W ((((W.setCell ⟨b, 0, none⟩ x0).setCell ⟨b, 1, none⟩ x1).setCell ⟨b, 2, none⟩ x2).setCell ⟨b, 3, none⟩ x3) b :=
 (((Put.one _ _ _).trans (Put.one _ _ _)).trans (Put.one _ _ _)).trans (Put.one _ _ _)
theorem Put.qcan {W W' : World} {b B : Nat} (h : Put W W' b) (hb : b < B) {v : QV} {q : Rat} (hq : QCan W (New B) v q) : QCan W' (New B) v q :=
 hq.keep fun a ha _ => World.cell?_of_block (h.keep _ (by simp only [New] at ha; omega))
theorem short_prog {w : World} {p : LPV} {os rs : List (List Rat)} {bs : List Rat} (h : Short6 w AllB AllB p os rs bs) (h2 : mayB p os rs = true → p.n ≤ 4 ∧ p.R.n ≤ 4) (hm : mayB p os rs = true) :
  0 ≤ p.n ∧ p.n ≤ 4 ∧ 1 ≤ p.O.n ∧ p.O.n ≤ 4 ∧ p.R.n ≤ 4 ∧ p.B.n = p.R.n ∧ (colsOf os : Int) ≤ p.n ∧ (colsOf rs : Int) ≤ p.n ∧ LPIs w AllB AllB 6 p os rs bs := by
 obtain ⟨a1, a2⟩ := h2 hm
 simp only [mayB, decide_eq_true_eq] at hm
 obtain ⟨b1, b2, b3, b4, b5, b6, b7, b8⟩ := hm
 exact ⟨b1, a1, b3, b4, a2, b6, b7, b8, h.1, h.2.1 (by omega), h.2.2 (by omega)⟩
theorem qfit_to {k L : Nat} {q : Rat} (h : Lin.Fits k q) (hk : k < 32 * L) : QFit L q := by
 have e : Num.base ^ L = 2 ^ (32 * L) := by rw [Nat.pow_mul]; rfl
 have h2 : 2 ^ k < 2 ^ (32 * L) := Nat.pow_lt_pow_right (by omega) hk
 exact ⟨by rw [e]; exact Nat.lt_of_le_of_lt h.1 h2, by rw [e]; exact Nat.lt_of_le_of_lt h.2 h2⟩
theorem factor_fits {q : Rat} (h : QFit 7 q) : Lin.Fits 226 (qabs q + ((1 : Int) : Rat)) := (fits_abs h).add fits_one
theorem factor_pos (q : Rat) : 0 < qabs q + ((1 : Int) : Rat) := by
 have h1 : (((1 : Int) : Rat)) = 1 := rfl
 rw [h1]; unfold qabs; split <;> grind
theorem snoc_all {α β : Type} {R : α → β → Prop} {a : List α} {b : List β} {x y : α} {l z : β} (hl : a.length = b.length) (h : ∀ m, m < b.length → R (a.getD m y) (b.getD m z)) (hx : R x l) : ∀ m, m < (b ++ [l]).length → R ((a ++ [x]).getD m y) ((b ++ [l]).getD m z) := by
 intro m hm
 rw [List.length_append] at hm
 simp only [List.length_cons, List.length_nil, Nat.zero_add] at hm
 rw [getD_snoc, getD_snoc, hl]
 by_cases h1 : m < b.length
 ·rw [if_pos h1, if_pos h1]; exact h m h1
 ·rw [if_neg h1, if_neg h1, if_pos (by omega), if_pos (by omega)]; exact hx
def cells4q (v : QV) : List Value := [.bool v.num.ng, .slice v.num.A v.num.n v.num.c, .bool v.den.ng, .slice v.den.A v.den.n v.den.c]
def ScMid (w : World) (p : LPV) (jv kv : QV) (jq kq : Rat) (d : Nat) (os rs : List (List Rat)) (bs : List Rat) (W : World) : Prop :=
 ScB w p jv kv jq kq d W ∧ ∃ (va vb vc : Value) (G : Nat → Prop) (s1 s2 : List SV) (s3 : List QV), s1.length = os.length ∧ s2.length = rs.length ∧ s3.length = bs.length ∧
  QS w d p.n va vb vc (pick3 [] (s1.map SV.val) (s2.map SV.val) (s3.flatMap cells4q)) (pick3 0 os.length rs.length bs.length) G W ∧
  (∀ m, m < os.length → VecIs W (fun b => ¬ G b) (fun b => ¬ G b) 16 (s1.getD m ⟨none, 0, 0⟩) (os.getD m [])) ∧
  (∀ m, m < rs.length → VecIs W (fun b => ¬ G b) (fun b => ¬ G b) 16 (s2.getD m ⟨none, 0, 0⟩) (rs.getD m [])) ∧
  (∀ m, m < bs.length → QIs W (fun b => ¬ G b) 16 (s3.getD m ⟨⟨false, none, 0, 0⟩, ⟨false, none, 0, 0⟩⟩) (bs.getD m 0))
theorem sc_start {w y : World} {B : Nat} {p : LPV} {jv kv : QV} {jq kq : Rat} (hb : Below w.heap.size w y) (bP : LPBox y w.heap.size p) (bJ : Box4 y (w.heap.size + 1) (.bool jv.num.ng) (.slice jv.num.A jv.num.n jv.num.c) (.bool jv.den.ng) (.slice jv.den.A jv.den.n jv.den.c)) (bK : Box4 y (w.heap.size + 1 + 1) (.bool kv.num.ng) (.slice kv.num.A kv.num.n kv.num.c) (.bool kv.den.ng) (.slice kv.den.A kv.den.n kv.den.c)) (hj : QCan y (New B) jv jq) (hk : QCan y (New B) kv kq) (sz : w.heap.size + 1 + 1 < y.heap.size) :
  ScMid w p jv kv jq kq y.heap.size [] [] [] (y.alloc (.cells #[.int .i64 p.n, .slice none 0 0, .slice none 0 0, .slice none 0 0] 25)) := by
 have al : Below y.heap.size y (y.alloc (.cells #[.int .i64 p.n, .slice none 0 0, .slice none 0 0, .slice none 0 0] 25)) := (Below.refl _ _).alloc (Nat.le_refl _) _
 have e3 : ∀ f, three (.slice none 0 0) (.slice none 0 0) (.slice none 0 0) f = .slice none 0 0 := fun f => by unfold three; simp
 refine ⟨⟨bP.below al (by omega), bJ.below al (by omega), bK.below al (by omega), (hj.old).below al, (hk.old).below al, sz⟩, .slice none 0 0, .slice none 0 0, .slice none 0 0, fun b => b = y.heap.size, [], [], [], rfl, rfl, rfl, ⟨hb.trans (al.mono hb.size), heap_new _ _ rfl, fun f h1 h2 => ?_, fun f g j _ _ _ _ _ hj => ?_, fun x hx => by simp; omega, rfl, fun f j _ _ hj => ?_, hb.size⟩, fun m hm => absurd hm (Nat.not_lt_zero _), fun m hm => absurd hm (Nat.not_lt_zero _), fun m hm => absurd hm (Nat.not_lt_zero _)⟩
 ·rw [e3]
  refine ⟨?_, .inl ⟨rfl, ?_⟩⟩ <;> rcases (by omega : f = 1 ∨ f = 2 ∨ f = 3) with rfl | rfl | rfl <;> simp [pick3]
 ·rw [e3] at hj; simp [Value.ownBlock] at hj
 ·rw [e3] at hj; simp [Value.ownBlock] at hj
theorem ScB.step {w W W' : World} {p : LPV} {jv kv : QV} {jq kq : Rat} {d : Nat} {G G' : Nat → Prop} (h : ScB w p jv kv jq kq d W) (hG : ∀ x, G x → d ≤ x) (hd : d ≤ W.heap.size) (st : Step W W' G G') : ScB w p jv kv jq kq d W' :=
 have dl := h.dl
 ⟨st.box4 h.bP (by omega) (fun hg => by have := hG _ hg; omega), st.box4 h.bJ (by omega) (fun hg => by have := hG _ hg; omega), st.box4 h.bK (by omega) (fun hg => by have := hG _ hg; omega), st.old hG h.hj, st.old hG h.hk, h.dl⟩
section
variable {w W W1 W2 : World} {p : LPV} {jv kv : QV} {jq kq : Rat} {d : Nat} {os rs : List (List Rat)} {bs : List Rat} {va vb vc v' : Value} {G : Nat → Prop} {s1 s2 : List SV} {s3 : List QV} {o : Obj}
theorem mid_add1 (hB : ScB w p jv kv jq kq d W) (l1 : s1.length = os.length) (l2 : s2.length = rs.length) (l3 : s3.length = bs.length)
  (hQ : QS w d p.n va vb vc (pick3 [] (s1.map SV.val) (s2.map SV.val) (s3.flatMap cells4q)) (pick3 0 os.length rs.length bs.length) G W)
  (e1 : ∀ m, m < os.length → VecIs W (fun b => ¬ G b) (fun b => ¬ G b) 16 (s1.getD m ⟨none, 0, 0⟩) (os.getD m []))
  (e2 : ∀ m, m < rs.length → VecIs W (fun b => ¬ G b) (fun b => ¬ G b) 16 (s2.getD m ⟨none, 0, 0⟩) (rs.getD m []))
  (e3 : ∀ m, m < bs.length → QIs W (fun b => ¬ G b) 16 (s3.getD m ⟨⟨false, none, 0, 0⟩, ⟨false, none, 0, 0⟩⟩) (bs.getD m 0))
  (hb : Below W.heap.size W W1) {x : SV} {l : List Rat} (hx : VecIs W1 (fun b => ¬ G b) (fun b => ¬ G b) 16 x l)
  (hown : W2.ownsRow (d + 1) 23 1 v' (os.length + 1) (s1.map SV.val ++ [x.val])) (hg : (W1.alloc o).grownBy W2 va.ownBlock) (hat : v'.ownBlock = va.ownBlock ∨ v'.ownBlock = some (W1.alloc o).heap.size) :
  ScMid w p jv kv jq kq d (os ++ [l]) rs bs (W2.setCell ⟨d, 1, none⟩ v') := by
 obtain ⟨hQ2, st⟩ := (hQ.call hb).append (f := 1) (by omega) (by omega) (xs := [x.val]) (v' := v') hown hg hat
 have st' := (Step.below G hb).trans st
 have hdl := hQ.dlt
 have ea : (fun g => if g = 1 then pick3 [] (s1.map SV.val) (s2.map SV.val) (s3.flatMap cells4q) 1 ++ [x.val] else pick3 [] (s1.map SV.val) (s2.map SV.val) (s3.flatMap cells4q) g) = pick3 [] ((s1 ++ [x]).map SV.val) (s2.map SV.val) (s3.flatMap cells4q) := by
  funext g; unfold pick3; by_cases h1 : g = 1 <;> by_cases h2 : g = 2 <;> by_cases h3 : g = 3 <;> simp_all <;> simp [cells4q]
 have ec : (fun g => if g = 1 then pick3 0 os.length rs.length bs.length 1 + 1 else pick3 0 os.length rs.length bs.length g) = pick3 0 (os ++ [l]).length rs.length bs.length := by
  funext g; unfold pick3; by_cases h1 : g = 1 <;> by_cases h2 : g = 2 <;> by_cases h3 : g = 3 <;> simp_all
 rw [ea, ec] at hQ2
 exact ⟨hB.step (fun x hx => (hQ.gin x hx).1) (by omega) st', _, _, _, _, s1 ++ [x], s2, s3, by simp [l1], by simp [l2], by simp [l3], hQ2, snoc_all l1 (fun m hm => st'.vec (e1 m hm)) (st.vec hx), fun m hm => st'.vec (e2 m hm), fun m hm => st'.qis (e3 m hm)⟩
theorem mid_add2 (hB : ScB w p jv kv jq kq d W) (l1 : s1.length = os.length) (l2 : s2.length = rs.length) (l3 : s3.length = bs.length)
  (hQ : QS w d p.n va vb vc (pick3 [] (s1.map SV.val) (s2.map SV.val) (s3.flatMap cells4q)) (pick3 0 os.length rs.length bs.length) G W)
  (e1 : ∀ m, m < os.length → VecIs W (fun b => ¬ G b) (fun b => ¬ G b) 16 (s1.getD m ⟨none, 0, 0⟩) (os.getD m []))
  (e2 : ∀ m, m < rs.length → VecIs W (fun b => ¬ G b) (fun b => ¬ G b) 16 (s2.getD m ⟨none, 0, 0⟩) (rs.getD m []))
  (e3 : ∀ m, m < bs.length → QIs W (fun b => ¬ G b) 16 (s3.getD m ⟨⟨false, none, 0, 0⟩, ⟨false, none, 0, 0⟩⟩) (bs.getD m 0))
  (hb : Below W.heap.size W W1) {x : SV} {l : List Rat} (hx : VecIs W1 (fun b => ¬ G b) (fun b => ¬ G b) 16 x l)
  (hown : W2.ownsRow (d + 1) 23 1 v' (rs.length + 1) (s2.map SV.val ++ [x.val])) (hg : (W1.alloc o).grownBy W2 vb.ownBlock) (hat : v'.ownBlock = vb.ownBlock ∨ v'.ownBlock = some (W1.alloc o).heap.size) :
  ScMid w p jv kv jq kq d os (rs ++ [l]) bs (W2.setCell ⟨d, 2, none⟩ v') := by
 obtain ⟨hQ2, st⟩ := (hQ.call hb).append (f := 2) (by omega) (by omega) (xs := [x.val]) (v' := v') hown hg hat
 have st' := (Step.below G hb).trans st
 have hdl := hQ.dlt
 have ea : (fun g => if g = 2 then pick3 [] (s1.map SV.val) (s2.map SV.val) (s3.flatMap cells4q) 2 ++ [x.val] else pick3 [] (s1.map SV.val) (s2.map SV.val) (s3.flatMap cells4q) g) = pick3 [] (s1.map SV.val) ((s2 ++ [x]).map SV.val) (s3.flatMap cells4q) := by
  funext g; unfold pick3; by_cases h1 : g = 1 <;> by_cases h2 : g = 2 <;> by_cases h3 : g = 3 <;> simp_all <;> simp [cells4q]
 have ec : (fun g => if g = 2 then pick3 0 os.length rs.length bs.length 2 + 1 else pick3 0 os.length rs.length bs.length g) = pick3 0 os.length (rs ++ [l]).length bs.length := by
  funext g; unfold pick3; by_cases h1 : g = 1 <;> by_cases h2 : g = 2 <;> by_cases h3 : g = 3 <;> simp_all
 rw [ea, ec] at hQ2
 exact ⟨hB.step (fun x hx => (hQ.gin x hx).1) (by omega) st', _, _, _, _, s1, s2 ++ [x], s3, by simp [l1], by simp [l2], by simp [l3], hQ2, fun m hm => st'.vec (e1 m hm), snoc_all l2 (fun m hm => st'.vec (e2 m hm)) (st.vec hx), fun m hm => st'.qis (e3 m hm)⟩
theorem mid_add3 (hB : ScB w p jv kv jq kq d W) (l1 : s1.length = os.length) (l2 : s2.length = rs.length) (l3 : s3.length = bs.length)
  (hQ : QS w d p.n va vb vc (pick3 [] (s1.map SV.val) (s2.map SV.val) (s3.flatMap cells4q)) (pick3 0 os.length rs.length bs.length) G W)
  (e1 : ∀ m, m < os.length → VecIs W (fun b => ¬ G b) (fun b => ¬ G b) 16 (s1.getD m ⟨none, 0, 0⟩) (os.getD m []))
  (e2 : ∀ m, m < rs.length → VecIs W (fun b => ¬ G b) (fun b => ¬ G b) 16 (s2.getD m ⟨none, 0, 0⟩) (rs.getD m []))
  (e3 : ∀ m, m < bs.length → QIs W (fun b => ¬ G b) 16 (s3.getD m ⟨⟨false, none, 0, 0⟩, ⟨false, none, 0, 0⟩⟩) (bs.getD m 0))
  (hb : Below W.heap.size W W1) {x : QV} {l : Rat} (hx : QIs W1 (fun b => ¬ G b) 16 x l)
  (hown : W2.ownsRow (d + 1) 30 4 v' (bs.length + 1) (s3.flatMap cells4q ++ cells4q x)) (hg : (W1.alloc o).grownBy W2 vc.ownBlock) (hat : v'.ownBlock = vc.ownBlock ∨ v'.ownBlock = some (W1.alloc o).heap.size) :
  ScMid w p jv kv jq kq d os rs (bs ++ [l]) (W2.setCell ⟨d, 3, none⟩ v') := by
 obtain ⟨hQ2, st⟩ := (hQ.call hb).append (f := 3) (by omega) (by omega) (xs := cells4q x) (v' := v') hown hg hat
 have st' := (Step.below G hb).trans st
 have hdl := hQ.dlt
 have ea : (fun g => if g = 3 then pick3 [] (s1.map SV.val) (s2.map SV.val) (s3.flatMap cells4q) 3 ++ cells4q x else pick3 [] (s1.map SV.val) (s2.map SV.val) (s3.flatMap cells4q) g) = pick3 [] (s1.map SV.val) (s2.map SV.val) ((s3 ++ [x]).flatMap cells4q) := by
  funext g; unfold pick3; by_cases h1 : g = 1 <;> by_cases h2 : g = 2 <;> by_cases h3 : g = 3 <;> simp_all <;> simp [cells4q]
 have ec : (fun g => if g = 3 then pick3 0 os.length rs.length bs.length 3 + 1 else pick3 0 os.length rs.length bs.length g) = pick3 0 os.length rs.length (bs ++ [l]).length := by
  funext g; unfold pick3; by_cases h1 : g = 1 <;> by_cases h2 : g = 2 <;> by_cases h3 : g = 3 <;> simp_all
 rw [ea, ec] at hQ2
 exact ⟨hB.step (fun x hx => (hQ.gin x hx).1) (by omega) st', _, _, _, _, s1, s2, s3 ++ [x], by simp [l1], by simp [l2], by simp [l3], hQ2, fun m hm => st'.vec (e1 m hm), fun m hm => st'.vec (e2 m hm), snoc_all l3 (fun m hm => st'.qis (e3 m hm)) (st.qis hx)⟩
end
theorem flat_get (qs : List QV) (k o : Nat) (hk : k < qs.length) (ho : o < 4) (z : QV) : (qs.flatMap cells4q)[k * 4 + o]? = (cells4q (qs.getD k z))[o]? := by
 induction qs generalizing k with
 | nil => simp at hk
 | cons q qs ih =>
  rw [List.flatMap_cons]
  cases k with
  | zero => rw [List.getElem?_append_left (by simp [cells4q]; omega)]; simp
  | succ k =>
   rw [List.getElem?_append_right (by simp [cells4q]; omega)]
   have : (k + 1) * 4 + o - (cells4q q).length = k * 4 + o := by simp [cells4q]; omega
   rw [this, ih k (by simpa using hk)]
   simp
theorem own_mat {W : World} {base n L : Nat} {v : Value} {ss : List SV} {m : List (List Rat)} {X Y : Nat → Prop} (h : W.ownsRow base 23 1 v n (ss.map SV.val)) (hl : ss.length = n) (hm : m.length = n) (he : ∀ k, k < n → VecIs W X Y L (ss.getD k ⟨none, 0, 0⟩) (m.getD k [])) :
  ∃ s : SV, v = s.val ∧ s.n = n ∧ MatIs W AllB AllB L s m := by
 rcases h.2 with ⟨rfl, rfl⟩ | ⟨g, cap, cur, rfl, _, hh, hnc, hcap, hcur, ht⟩
 ·exact ⟨⟨none, 0, 0⟩, rfl, rfl, hm, Nat.le_refl _, Nat.zero_le _, fun k hk => absurd hk (Nat.not_lt_zero k)⟩
 ·refine ⟨⟨some ⟨g, 0, none⟩, n, cap⟩, rfl, rfl, hm, hnc, (by show cap ≤ _; exact Nat.le_trans ‹_› (show maxLen ≤ 9223372036854775807 by decide)), fun k hk => ⟨⟨g, 0, none⟩, ss.getD k ⟨none, 0, 0⟩, rfl, trivial, ?_, ((he k hk).imp (fun _ _ _ => trivial) fun _ _ hq => hq.imp fun _ _ _ => trivial)⟩⟩
  have hk' : k < n := hk
  rw [add_mk, Nat.zero_add]
  have e2 : (cur.toList.take (n * 1))[k]? = (ss.map SV.val)[k]? := by rw [ht]
  rw [Nat.mul_one, List.getElem?_take_of_lt hk'] at e2
  simp only [World.cell?, hh]
  have e3 : cur[k]? = (ss.map SV.val)[k]? := by simpa using e2
  rw [List.getElem?_map, List.getElem?_eq_getElem (by omega)] at e3
  have e4 : ss.getD k ⟨none, 0, 0⟩ = ss[k]'(by omega) := by simp [List.getD_eq_getElem?_getD, List.getElem?_eq_getElem (show k < ss.length by omega)]
  rw [e4]
  simpa using e3
theorem own_vec {W : World} {base n L : Nat} {v : Value} {qs : List QV} {l : List Rat} {X : Nat → Prop} (h : W.ownsRow base 30 4 v n (qs.flatMap cells4q)) (hl : qs.length = n) (hm : l.length = n) (he : ∀ k, k < n → QIs W X L (qs.getD k ⟨⟨false, none, 0, 0⟩, ⟨false, none, 0, 0⟩⟩) (l.getD k 0)) :
  ∃ s : SV, v = s.val ∧ s.n = n ∧ VecIs W AllB AllB L s l := by
 rcases h.2 with ⟨rfl, rfl⟩ | ⟨g, cap, cur, rfl, _, hh, hnc, hcap, hcur, ht⟩
 ·exact ⟨⟨none, 0, 0⟩, rfl, rfl, hm, Nat.le_refl _, Nat.zero_le _, fun k hk => absurd hk (Nat.not_lt_zero k)⟩
 ·refine ⟨⟨some ⟨g, 0, none⟩, n, cap⟩, rfl, rfl, hm, hnc, (by show cap ≤ _; exact Nat.le_trans ‹_› (show maxLen ≤ 9223372036854775807 by decide)), fun k hk => ⟨⟨g, 0, none⟩, qs.getD k ⟨⟨false, none, 0, 0⟩, ⟨false, none, 0, 0⟩⟩, rfl, trivial, ?_, (he k hk).imp fun _ _ _ => trivial⟩⟩
  have hk' : k < n := hk
  have ec : ∀ o, o < 4 → W.cell? ⟨g, k * 4 + o, none⟩ = (cells4q (qs.getD k ⟨⟨false, none, 0, 0⟩, ⟨false, none, 0, 0⟩⟩))[o]? := fun o ho => by
   have e2 : (cur.toList.take (n * 4))[k * 4 + o]? = (qs.flatMap cells4q)[k * 4 + o]? := by rw [ht]
   rw [List.getElem?_take_of_lt (by omega), flat_get qs k o (by omega) ho ⟨⟨false, none, 0, 0⟩, ⟨false, none, 0, 0⟩⟩] at e2
   simp only [World.cell?, hh]
   simpa using e2
  rw [add_mk, Nat.zero_add]
  exact ⟨ec 0 (by omega), ec 1 (by omega), ec 2 (by omega), ec 3 (by omega)⟩
end Go.Proofs.YtjkggfcppkgapaaGreat
namespace Go.Proofs.YtjkggfcppkgapaaGreat
open Go.RowKit Go.Shelf Lin
theorem prob_fits {w : World} {X Y : Nat → Prop} {L V : Nat} {p : LPV} {os rs : List (List Rat)} {bs : List Rat} (h : LPIs w X Y L p os rs bs) : (probOf V os rs bs).start.Fits (probOf V os rs bs) (32 * (L + 1)) := by
 refine ⟨fun i j hi hj => ?_, fun l j hl hj => ?_⟩
 ·show Lin.Fits _ (if j < V then (rs.getD i []).getD j 0 else bs.getD i 0)
  split
  ·exact qfit_fits (h.rows.fit i j)
  ·exact qfit_fits (h.bounds.fit i)
 ·show Lin.Fits _ (if j < V then - (os.getD l []).getD j 0 else 0)
  split
  ·exact (qfit_fits (h.obj.fit l j)).neg
  ·exact Lin.Fits.zero _
theorem point_fits {P : Prob} {D : Dict} {k : Nat} (h : D.Fits P k) (v : Nat) : Lin.Fits k (D.point P v) := by
 unfold Dict.point
 split
 ·rename_i hf; exact h.1 _ _ hf (Nat.le_refl _)
 ·exact Lin.Fits.zero _
theorem opt_fits {w w' : World} {P : Prob} {r : RV} {k : Nat} (h : Solved w P r w') (hk : r.kind = 1) (h1 : 1 ≤ k) (h0 : P.start.Fits P k) {l : List Rat} (hl : l.length = P.n) (ho : P.Optimal fun k => l.getD k 0) (v : Nat) : Lin.Fits (5 ^ P.n * k) (l.getD v 0) := by
 rcases h with ⟨_, D, l', hg, hf, hc, hl', hopt, hx, _⟩ | ⟨hk', _⟩ | ⟨hk', _⟩
 ·by_cases hv : v < P.n
  ·have e := ho.unique (optimal_of hg hf hc) hv
   rw [e]
   exact point_fits (hg.fits h1 h0) v
  ·rw [getD_none _ _ _ (by omega)]; exact Lin.Fits.zero _
 ·rw [hk] at hk'; cases hk'
 ·rw [hk] at hk'; cases hk'
theorem solved_akin2 {w w' v v' : World} {P Q : Prob} {r s : RV} {k : Nat} (hA : Akin P Q) (h : Solved w P r w') (h' : Solved v Q s v') (h1 : 1 ≤ k) (h0 : P.start.Fits P k) :
  (r.kind = 1 ∧ s.kind = 1 ∧ ∃ l : List Rat, l.length = P.n ∧ (∀ i, Lin.Fits (5 ^ P.n * k) (l.getD i 0)) ∧ VecCan w' (New w.heap.size) (New w.heap.size) r.X l ∧ VecCan v' (New v.heap.size) (New v.heap.size) s.X l) ∨ (r.kind = 2 ∧ s.kind = 2) ∨ (r.kind = 3 ∧ s.kind = 3) := by
 have hh := h
 rcases h with ⟨hk, D, l, hg, hf, hc, hl, hopt, hx, _⟩ | ⟨hk, _, _, _, _, _, _, hno, _⟩ | ⟨hk, l, l', _, _, hu, _, _⟩
 ·obtain ⟨k', l2, n2, e2, x2⟩ := h'.opt (hA.optimal hopt)
  have : l2 = l := by
   refine List.ext_getElem (by rw [n2, hl, hA.n]) fun k h1 h2 => ?_
   have := e2 k (by rw [← n2]; exact h1)
   simpa [List.getD_eq_getElem?_getD, h1, h2] using this
  subst this
  exact .inl ⟨hk, k', l2, hl, opt_fits hh hk h1 h0 hl hopt, hx, x2⟩
 ·exact .inr (.inl ⟨hk, (h'.inf fun x hx => hno x ((hA.feas x).1 hx)).1⟩)
 ·exact .inr (.inr ⟨hk, (h'.unb (hA.unbounded hu)).1⟩)
theorem scRows_length (n a : Nat) (j : Rat) (rs : List (List Rat)) : (scRows n a j rs).length = n := by simp [scRows]
theorem scBounds_length (n a : Nat) (j : Rat) (bs : List Rat) : (scBounds n a j bs).length = n := by simp [scBounds]
theorem cols_map {os : List (List Rat)} {V : Nat} (k : Rat) (h : colsOf os ≤ V) : colsOf (os.map fun l => l.map (k * ·)) ≤ V :=
 colsOf_le.2 fun l hl => by
  obtain ⟨l', hl', rfl⟩ := List.mem_map.1 hl
  rw [List.length_map]; exact colsOf_le.1 h l' hl'
theorem getD_cols {rs : List (List Rat)} {V : Nat} (h : colsOf rs ≤ V) (c : Nat) : (rs.getD c []).length ≤ V := by
 by_cases hi : c < rs.length
 ·exact colsOf_le.1 h _ (by simp [List.getD_eq_getElem?_getD, hi])
 ·rw [getD_none rs _ _ (by omega)]; simp
theorem cols_sc {rs : List (List Rat)} {V n a : Nat} {j : Rat} (h : colsOf rs ≤ V) (c : Nat) : colsOf (scRows n a j rs ++ [rs.getD c []]) ≤ V :=
 colsOf_le.2 fun l hl => by
  rcases List.mem_append.1 hl with hl | hl
  ·obtain ⟨i, _, rfl⟩ := List.mem_map.1 hl
   rw [List.length_map]; exact getD_cols h _
  ·rw [List.mem_singleton.1 hl]; exact getD_cols h _
theorem old_vec {w W : World} {d : Nat} {n : Int} {va vb vc : Value} {al : Nat → List Value} {cnt : Nat → Nat} {G : Nat → Prop} {s : SV} {l : List Rat} (hQ : QS w d n va vb vc al cnt G W) (hr : VecIs w AllB AllB 6 s l) : VecIs W (fun b => ¬ G b) (fun b => ¬ G b) 16 s l := by
 have hG : ∀ b, b < w.heap.size → ¬ G b := fun b hb hg => by have := (hQ.gin b hg).1; have := hQ.ge; omega
 have h1 : VecIs w (fun b => ¬ G b) (fun b => ¬ G b) 16 s l := hr.imp (fun b hb _ => hG b hb) fun v q hq => (hq.imp fun b hb _ => hG b hb).mono (by omega)
 exact h1.below hQ.bel
theorem old_q {w W : World} {d : Nat} {n : Int} {va vb vc : Value} {al : Nat → List Value} {cnt : Nat → Nat} {G : Nat → Prop} {v : QV} {q : Rat} (hQ : QS w d n va vb vc al cnt G W) (hr : QIs w AllB 6 v q) : QIs W (fun b => ¬ G b) 16 v q := by
 have hG : ∀ b, b < w.heap.size → ¬ G b := fun b hb hg => by have := (hQ.gin b hg).1; have := hQ.ge; omega
 exact ((hr.imp fun b hb _ => hG b hb).mono (by omega)).below hQ.bel
theorem mid_prog {w W : World} {p : LPV} {jv kv : QV} {jq kq : Rat} {d : Nat} {os rs : List (List Rat)} {bs : List Rat} (h : ScMid w p jv kv jq kq d os rs bs W) :
  ∃ q : LPV, q.n = p.n ∧ LPBox W d q ∧ LPIs W AllB AllB 16 q os rs bs ∧ q.O.n = os.length ∧ q.R.n = rs.length ∧ q.B.n = bs.length ∧ Below w.heap.size w W ∧ LPBox W w.heap.size p ∧ d < W.heap.size := by
 obtain ⟨hB, va, vb, vc, G, s1, s2, s3, l1, l2, l3, hQ, e1, e2, e3⟩ := h
 obtain ⟨o1, o2, o3⟩ : W.ownsRow (d + 1) 23 1 va os.length (s1.map SV.val) ∧ W.ownsRow (d + 1) 23 1 vb rs.length (s2.map SV.val) ∧ W.ownsRow (d + 1) 30 4 vc bs.length (s3.flatMap cells4q) := ⟨hQ.own 1 (by omega) (by omega), hQ.own 2 (by omega) (by omega), hQ.own 3 (by omega) (by omega)⟩
 obtain ⟨x1, rfl, n1, m1⟩ := own_mat o1 l1 rfl e1
 obtain ⟨x2, rfl, n2, m2⟩ := own_mat o2 l2 rfl e2
 obtain ⟨x3, rfl, n3, m3⟩ := own_vec o3 l3 rfl e3
 refine ⟨⟨p.n, x1, x2, x3⟩, rfl, ?_, ⟨m1, m2, m3⟩, n1, n2, n3, hQ.bel, hB.bP, hQ.dlt⟩
 obtain ⟨c0, c1, c2, c3, cf⟩ := hQ.cells
 exact ⟨c0, c1, c2, c3, cf⟩
theorem sc_final {w w1 x1 w2 x2 : World} {p : LPV} {V n at' : Nat} {j k : Rat} {os rs : List (List Rat)} {bs : List Rat} {r1 r2 : RV} (hp : LPIs w AllB AllB 6 p os rs bs) (hV : V ≤ 4) (hj : 0 < j) (hk : 0 < k) (hn : rs.length = n) (hb : bs.length = n)
  (h1 : Solved w1 (probOf V os rs bs) r1 x1) (h2 : Solved w2 (probOf V (os.map fun l => l.map (k * ·)) (if n = 0 then [] else scRows n at' j rs ++ [rs.getD (at' % n) []]) (if n = 0 then [] else scBounds n at' j bs ++ [bs.getD (at' % n) 0])) r2 x2) :
  (r1.kind = 1 ∧ r2.kind = 1 ∧ ∃ l : List Rat, l.length = V ∧ VecIs x1 AllB AllB 5000 r1.X l ∧ VecIs x2 AllB AllB 5000 r2.X l) ∨ (r1.kind = 2 ∧ r2.kind = 2) ∨ (r1.kind = 3 ∧ r2.kind = 3) := by
 rcases solved_akin2 (akin_scaled hj hk hn hb) h1 h2 (k := 32 * (6 + 1)) (by omega) (prob_fits hp) with ⟨a, b, l, hl, hf, e1, e2⟩ | h | h
 ·have h5 : 5 ^ V ≤ 625 := Nat.le_trans (Nat.pow_le_pow_right (by omega) hV) (by decide)
  have h6 : 5 ^ V * (32 * (6 + 1)) ≤ 625 * (32 * (6 + 1)) := Nat.mul_le_mul_right _ h5
  have hq : ∀ i, QFit 5000 (l.getD i 0) := fun i => qfit_to (hf i) (show 5 ^ V * (32 * (6 + 1)) < 32 * 5000 by omega)
  exact .inl ⟨a, b, l, hl, (e1.loose hq).imp (fun _ _ _ => trivial) fun _ _ hq => hq.imp fun _ _ _ => trivial, (e2.loose hq).imp (fun _ _ _ => trivial) fun _ _ hq => hq.imp fun _ _ _ => trivial⟩
 ·exact .inr (.inl h)
 ·exact .inr (.inr h)
end Go.Proofs.YtjkggfcppkgapaaGreat
namespace Go.Proofs.YtjkggfcppkgapaaGreat
open Go.RowKit Go.Shelf
def ScLoop1 (w : World) (p : LPV) (jv kv : QV) (jq kq : Rat) (os : List (List Rat)) (d : Nat) (t : Value) (W : World) : Prop :=
 ∃ i : Nat, i ≤ p.O.n ∧ t = .int .i64 i ∧ ScMid w p jv kv jq kq d ((List.range i).map fun m => (os.getD m []).map (kq * ·)) [] [] W
def ScLoop2 (w : World) (p : LPV) (jv kv : QV) (jq kq : Rat) (os rs : List (List Rat)) (bs : List Rat) (at' n d : Nat) (t : Value) (W : World) : Prop :=
 ∃ i : Nat, i ≤ n ∧ t = .int .i64 i ∧ ScMid w p jv kv jq kq d os ((List.range i).map fun m => (rs.getD ((m + at') % n) []).map (jq * ·)) ((List.range i).map fun m => jq * bs.getD ((m + at') % n) 0) W
theorem range_map_rows {f : List Rat → List Rat} {os : List (List Rat)} {n : Nat} (h : os.length = n) : (List.range n).map (fun m => f (os.getD m [])) = os.map f := by
 subst h
 apply List.ext_getElem (by simp)
 intro k h1 h2
 simp only [List.length_map, List.length_range] at h1
 simp [List.getD_eq_getElem?_getD, h1]
theorem cell_four_new (w : World) (v : QV) : ∀ j u, (cells4q v)[j]? = some u → (w.alloc (.cells #[.bool v.num.ng, .slice v.num.A v.num.n v.num.c, .bool v.den.ng, .slice v.den.A v.den.n v.den.c] 30)).cell? (Addr.add ⟨w.heap.size, 0, none⟩ j) = some u := by
 intro j u h
 rw [add_mk, Nat.zero_add]
 have e : (w.alloc (.cells #[.bool v.num.ng, .slice v.num.A v.num.n v.num.c, .bool v.den.ng, .slice v.den.A v.den.n v.den.c] 30)).heap[w.heap.size]? = some (.cells #[.bool v.num.ng, .slice v.num.A v.num.n v.num.c, .bool v.den.ng, .slice v.den.A v.den.n v.den.c] 30 (0, 0)) := heap_new _ _ rfl
 simp only [World.cell?, e]
 simpa [cells4q] using h
theorem new_q {w W W1 : World} {d : Nat} {n : Int} {va vb vc : Value} {al : Nat → List Value} {cnt : Nat → Nat} {G : Nat → Prop} {v : QV} {q : Rat} (hQ : QS w d n va vb vc al cnt G W) (hz : QCan W1 (New W.heap.size) v q) (hf : QFit 16 q) : QIs W1 (fun b => ¬ G b) 16 v q :=
 (hz.qis hf).imp fun b _ hb hg => by have := (hQ.gin b hg).2; simp only [New] at hb; omega
theorem own_of {w W : World} {d : Nat} {n : Int} {va vb vc : Value} {a1 a2 a3 : List Value} {c1 c2 c3 : Nat} {G : Nat → Prop} (h : QS w d n va vb vc (pick3 [] a1 a2 a3) (pick3 0 c1 c2 c3) G W) :
  W.ownsRow (d + 1) 23 1 va c1 a1 ∧ W.ownsRow (d + 1) 23 1 vb c2 a2 ∧ W.ownsRow (d + 1) 30 4 vc c3 a3 :=
 ⟨h.own 1 (by omega) (by omega), h.own 2 (by omega) (by omega), h.own 3 (by omega) (by omega)⟩
theorem qcell_below {w W : World} {a : Addr} {v : QV} (h : QCell w a v) (hb : Below w.heap.size w W) : QCell W a v := by
 have hl := block_lt_of_cell h.1
 exact ⟨(hb.cell hl).trans h.1, (hb.cell (p := ⟨_, _, none⟩) hl).trans h.2.1, (hb.cell (p := ⟨_, _, none⟩) hl).trans h.2.2.1, (hb.cell (p := ⟨_, _, none⟩) hl).trans h.2.2.2⟩
theorem row_len {os : List (List Rat)} {n : Int} (h : (colsOf os : Int) ≤ n) (hn : n ≤ 4) (i : Nat) : (os.getD i []).length ≤ 4 := by
 by_cases hi : i < os.length
 ·have h1 : colsOf os ≤ 4 := by omega
  have := colsOf_le.1 h1 (os.getD i []) (by simp [List.getD_eq_getElem?_getD, hi])
  omega
 ·rw [getD_none os _ _ (by omega)]; simp
theorem new_vec {w W W1 : World} {d : Nat} {n : Int} {va vb vc : Value} {al : Nat → List Value} {cnt : Nat → Nat} {G : Nat → Prop} {s : SV} {l : List Rat} (hQ : QS w d n va vb vc al cnt G W) (hz : VecCan W1 (New W.heap.size) (New W.heap.size) s l) (hf : ∀ k, QFit 16 (l.getD k 0)) : VecIs W1 (fun b => ¬ G b) (fun b => ¬ G b) 16 s l :=
 (hz.loose hf).imp (fun b _ hb hg => by have := (hQ.gin b hg).2; simp only [New] at hb; omega) fun v q hq => hq.imp fun b _ hb hg => by have := (hQ.gin b hg).2; simp only [New] at hb; omega
set_option maxRecDepth 40000 in
set_option maxHeartbeats 8000000 in
theorem scaling_calls {w : World} {p : LPV} {at' : Nat} {jv kv : QV} {jq kq : Rat} {os rs : List (List Rat)} {bs : List Rat} (h : LPRaw w AllB (QAny w AllB) p os rs bs) (hj : QAny w AllB jv jq) (hk : QAny w AllB kv kq) (hat : at' < 256) :
  Calls Tryz.prog 3 #[p.val, .int .u8 at', jv.val, kv.val] w fun e w' => e = .returned (.bool true) ∧ Below w.heap.size w w' := by
 obtain ⟨ii0, hii, hzi0, hzi1, hzi2⟩ := info_parts row_info
 obtain ⟨iq0, hiq, hzq0, hzq1, hzq2⟩ := info_parts q_info
 obtain ⟨z, ⟨oA, on, oc⟩, ⟨rA, rn, rc⟩, ⟨bA, bn, bc⟩⟩ := p
 replace h := Lib.hid h
 replace hj := Lib.hid hj
 replace hk := Lib.hid hk
 dsimp only [LPV.val] at *
 go_enter Tryz.func3, Tryz.ntmps3
 go_upto_region 1 with fail
 refine gen_world (fun W => Below w.heap.size w W ∧ Box4 W w.heap.size (.int .i64 z) (.slice oA on oc) (.slice rA rn rc) (.slice bA bn bc) ∧ Box4 W (w.heap.size + 1) (.bool jv.num.ng) (.slice jv.num.A jv.num.n jv.num.c) (.bool jv.den.ng) (.slice jv.den.A jv.den.n jv.den.c) ∧ Box4 W (w.heap.size + 1 + 1) (.bool kv.num.ng) (.slice kv.num.A kv.num.n kv.num.c) (.bool kv.den.ng) (.slice kv.den.A kv.den.n kv.den.c) ∧ w.heap.size < W.heap.size ∧ w.heap.size + 1 < W.heap.size ∧ w.heap.size + 1 + 1 < W.heap.size) ⟨((((Below.refl _ _).alloc (by simp <;> omega) _).alloc (by simp <;> omega) _).alloc (by simp <;> omega) _), ⟨by go_simp, by go_simp, by go_simp, by go_simp, by intro o; go_simp⟩, ⟨by go_simp, by go_simp, by go_simp, by go_simp, by intro o; go_simp⟩, ⟨by go_simp, by go_simp, by go_simp, by go_simp, by intro o; go_simp⟩, by simp <;> omega, by simp <;> omega, by simp <;> omega⟩ ?_
 rintro W ⟨hbW, bP, bJ, bK, s0, s1, s2⟩
 have hBW := hbW.size
 have ne02 : ¬ (w.heap.size = w.heap.size + 1 + 1) := by omega
 obtain ⟨p0, p1, p2, p3, -⟩ := id bP
 obtain ⟨j0, j1, j2, j3, -⟩ := id bJ
 obtain ⟨k0, k1, k2, k3, -⟩ := id bK
 clear hBW
 go_wp2_with fail
 refine (long08_calls (p := ⟨z, ⟨oA, on, oc⟩, ⟨rA, rn, rc⟩, ⟨bA, bn, bc⟩⟩) (h.out.below hbW)).mono ?_
 rintro e w1 ⟨⟨b, rfl, hbb⟩, hb1⟩
 cases b with
 | true =>
  clear hbb
  replace bP := bP.below hb1 s0
  replace bJ := bJ.below hb1 s1
  replace bK := bK.below hb1 s2
  replace s0 := Nat.lt_of_lt_of_le s0 hb1.size
  replace s1 := Nat.lt_of_lt_of_le s1 hb1.size
  replace s2 := Nat.lt_of_lt_of_le s2 hb1.size
  replace hbW := hbW.trans (hb1.mono hbW.size)
  clear p0 p1 p2 p3 j0 j1 j2 j3 k0 k1 k2 k3
  obtain ⟨p0, p1, p2, p3, -⟩ := id bP
  obtain ⟨j0, j1, j2, j3, -⟩ := id bJ
  obtain ⟨k0, k1, k2, k3, -⟩ := id bK
  go_wp2_with fail
  refine alive_calls.mono ?_
  rintro e wl ⟨rfl, hbl⟩
  have hbf := hbW.trans (hbl.mono hbW.size)
  go_wp2
  go_ret
  exact ⟨rfl, hbf⟩
 | false =>
  have HS := Lib.hid (And.intro (Short6.back h.out hbW (hbb rfl).1) (hbb rfl).2)
  clear hbb
  replace bP := bP.below hb1 s0
  replace bJ := bJ.below hb1 s1
  replace bK := bK.below hb1 s2
  replace s0 := Nat.lt_of_lt_of_le s0 hb1.size
  replace s1 := Nat.lt_of_lt_of_le s1 hb1.size
  replace s2 := Nat.lt_of_lt_of_le s2 hb1.size
  replace hbW := hbW.trans (hb1.mono hbW.size)
  clear p0 p1 p2 p3 j0 j1 j2 j3 k0 k1 k2 k3
  obtain ⟨p0, p1, p2, p3, -⟩ := id bP
  obtain ⟨j0, j1, j2, j3, -⟩ := id bJ
  obtain ⟨k0, k1, k2, k3, -⟩ := id bK
  go_wp2_with fail
  refine (may_calls (p := ⟨z, ⟨oA, on, oc⟩, ⟨rA, rn, rc⟩, ⟨bA, bn, bc⟩⟩) (h.out.below hbW)).mono ?_
  rintro e w2 ⟨rfl, hb2⟩
  replace bP := bP.below hb2 s0
  replace bJ := bJ.below hb2 s1
  replace bK := bK.below hb2 s2
  replace s0 := Nat.lt_of_lt_of_le s0 hb2.size
  replace s1 := Nat.lt_of_lt_of_le s1 hb2.size
  replace s2 := Nat.lt_of_lt_of_le s2 hb2.size
  replace hbW := hbW.trans (hb2.mono hbW.size)
  clear p0 p1 p2 p3 j0 j1 j2 j3 k0 k1 k2 k3
  obtain ⟨p0, p1, p2, p3, -⟩ := id bP
  obtain ⟨j0, j1, j2, j3, -⟩ := id bJ
  obtain ⟨k0, k1, k2, k3, -⟩ := id bK
  obtain ⟨m, hm⟩ : ∃ m, mayB ⟨z, ⟨oA, on, oc⟩, ⟨rA, rn, rc⟩, ⟨bA, bn, bc⟩⟩ os rs = m := ⟨_, rfl⟩
  rw [hm]
  cases m with
  | false =>
   go_wp2_with fail
   refine alive_calls.mono ?_
   rintro e wl ⟨rfl, hbl⟩
   have hbf := hbW.trans (hbl.mono hbW.size)
   go_wp2
   go_ret
   exact ⟨rfl, hbf⟩
  | true =>
   go_wp2_with fail
   have al3 : (w2.alloc (.cells #[.bool jv.num.ng, .slice jv.num.A jv.num.n jv.num.c, .bool jv.den.ng, .slice jv.den.A jv.den.n jv.den.c, .bool kv.num.ng, .slice kv.num.A kv.num.n kv.num.c, .bool kv.den.ng, .slice kv.den.A kv.den.n kv.den.c] 30)).heap[w2.heap.size]? = some (.cells #[.bool jv.num.ng, .slice jv.num.A jv.num.n jv.num.c, .bool jv.den.ng, .slice jv.den.A jv.den.n jv.den.c, .bool kv.num.ng, .slice kv.num.A kv.num.n kv.num.c, .bool kv.den.ng, .slice kv.den.A kv.den.n kv.den.c] 30 (0, 0)) := heap_new _ _ rfl
   have hb3 : Below w2.heap.size w2 (w2.alloc (.cells #[.bool jv.num.ng, .slice jv.num.A jv.num.n jv.num.c, .bool jv.den.ng, .slice jv.den.A jv.den.n jv.den.c, .bool kv.num.ng, .slice kv.num.A kv.num.n kv.num.c, .bool kv.den.ng, .slice kv.den.A kv.den.n kv.den.c] 30)) := (Below.refl _ _).alloc (Nat.le_refl _) _
   replace bP := bP.below hb3 s0
   replace bJ := bJ.below hb3 s1
   replace bK := bK.below hb3 s2
   replace s0 := Nat.lt_of_lt_of_le s0 hb3.size
   replace s1 := Nat.lt_of_lt_of_le s1 hb3.size
   replace s2 := Nat.lt_of_lt_of_le s2 hb3.size
   replace hbW := hbW.trans (hb3.mono hbW.size)
   clear p0 p1 p2 p3 j0 j1 j2 j3 k0 k1 k2 k3
   obtain ⟨p0, p1, p2, p3, -⟩ := id bP
   obtain ⟨j0, j1, j2, j3, -⟩ := id bJ
   obtain ⟨k0, k1, k2, k3, -⟩ := id bK
   refine (long02_calls (vec_two al3 (hj.out.below hbW) (hk.out.below hbW))).mono ?_
   rintro e w4 ⟨⟨b, rfl, hbb⟩, hb4⟩
   cases b with
   | true =>
    clear hbb
    replace bP := bP.below hb4 s0
    replace bJ := bJ.below hb4 s1
    replace bK := bK.below hb4 s2
    replace s0 := Nat.lt_of_lt_of_le s0 hb4.size
    replace s1 := Nat.lt_of_lt_of_le s1 hb4.size
    replace s2 := Nat.lt_of_lt_of_le s2 hb4.size
    replace hbW := hbW.trans (hb4.mono hbW.size)
    clear p0 p1 p2 p3 j0 j1 j2 j3 k0 k1 k2 k3
    obtain ⟨p0, p1, p2, p3, -⟩ := id bP
    obtain ⟨j0, j1, j2, j3, -⟩ := id bJ
    obtain ⟨k0, k1, k2, k3, -⟩ := id bK
    go_wp2_with fail
    refine alive_calls.mono ?_
    rintro e wl ⟨rfl, hbl⟩
    have hbf := hbW.trans (hbl.mono hbW.size)
    go_wp2
    go_ret
    exact ⟨rfl, hbf⟩
   | false =>
    obtain ⟨⟨a1, a2⟩, a3, a4⟩ := two_short al3 (hbb rfl)
    have HJ := Lib.hid (hj.out.qis a1 a2)
    have HK := Lib.hid (hk.out.qis a3 a4)
    clear hbb al3 a1 a2 a3 a4
    replace bP := bP.below hb4 s0
    replace bJ := bJ.below hb4 s1
    replace bK := bK.below hb4 s2
    replace s0 := Nat.lt_of_lt_of_le s0 hb4.size
    replace s1 := Nat.lt_of_lt_of_le s1 hb4.size
    replace s2 := Nat.lt_of_lt_of_le s2 hb4.size
    replace hbW := hbW.trans (hb4.mono hbW.size)
    clear p0 p1 p2 p3 j0 j1 j2 j3 k0 k1 k2 k3
    obtain ⟨p0, p1, p2, p3, -⟩ := id bP
    obtain ⟨j0, j1, j2, j3, -⟩ := id bJ
    obtain ⟨k0, k1, k2, k3, -⟩ := id bK
    go_upto_region 3 with fail
    refine wp_plain_G 9 (fun f w' => f = false → Sees w.heap.size [w.heap.size + 1] w4 w') (by kernel_rfl) ?_
    have hS0 : Sees w.heap.size [] w4 w4.drew := Sees.st (by simp) hbW.size
    have HM : Hid (∀ w', Sees w.heap.size [] w4 w' → Sees w.heap.size [w.heap.size + 1] w4 w') := fun w' h => (h.kept.more (by simp)).sees
    refine takeW (i := 4) (kv.val) rfl rfl (by kernel_rfl) (by kernel_rfl) (by kernel_rfl) (by kernel_rfl) (by kernel_rfl) (fun _ _ _ h => h) (by rfl) (fun w' hSw => ?_) (fun _ => HM.out _ hS0) ?_
    ·(replace hSw := hSw rfl; go_simp; try with_reducible rfl)
    simp only [zzA, zzB, zzC]
    refine oneW (i := 0) (by kernel_rfl) rfl (by rfl) ?_
    intro K hK
    go_simp
    refine hK.out _ _ (fun _ => HM.out _ hS0) ?_
    clear hK K
    refine oneW (i := 1) (by kernel_rfl) rfl (by rfl) ?_
    intro K hK
    go_simp
    with_reducible refine (qabs_calls (a := jv) (HJ.out.below hbW.drew) (by rw [LM_eq]; omega)).mono ?_
    rintro e y1 ⟨⟨u1, rfl, hu1⟩, hc1⟩
    have hS1 := Kept.call2 hc1 hS0
    refine hK.out _ _ (fun _ => HM.out _ hS1) ?_
    clear hK K hS0
    refine oneW (i := 2) (by kernel_rfl) rfl (by rfl) ?_
    intro K hK
    go_simp
    with_reducible refine (qfromInt64_calls 1 (by decide) (by decide) _).mono ?_
    rintro e y2 ⟨⟨u2, rfl, hu2⟩, hc2⟩
    have hS2 := Kept.call2 hc2 hS1
    refine hK.out _ _ (fun _ => HM.out _ hS2) ?_
    clear hK K hS1
    refine oneW (i := 3) (by kernel_rfl) rfl (by rfl) ?_
    intro K hK
    go_simp
    with_reducible refine (qadd_calls (a := u1) (b := u2) ((hu1.below hc2).qis (qfit_of (fits_abs HJ.out.fit))) (hu2.qis (qfit_of fits_one)) (by rw [LM_eq]; omega) (by rw [LM_eq]; omega)).mono ?_
    rintro e y3 ⟨⟨u3, rfl, hu3⟩, hc3⟩
    have hS3 := Kept.call2 hc3 hS2
    refine hK.out _ _ (fun _ => HM.out _ hS3) ?_
    clear hK K hu1 hu2 hc1 hc2 hc3
    replace hu3 := hu3.lower hS2.kept.size
    clear hS2
    refine oneW (i := 5) (by kernel_rfl) rfl (by rfl) ?_
    intro K hK
    go_simp
    with_reducible refine (qabs_calls (a := kv) (HK.out.below (hbW.trans (hS3.kept.whole.mono hbW.size))) (by rw [LM_eq]; omega)).mono ?_
    rintro e y5 ⟨⟨v1, rfl, hv1⟩, hc5⟩
    have hS5 := Kept.call2 hc5 hS3
    refine hK.out _ _ (fun _ => HM.out _ hS5) ?_
    replace hu3 := hu3.below hc5
    clear hK K hS3
    refine oneW (i := 6) (by kernel_rfl) rfl (by rfl) ?_
    intro K hK
    go_simp
    with_reducible refine (qfromInt64_calls 1 (by decide) (by decide) _).mono ?_
    rintro e y6 ⟨⟨v2, rfl, hv2⟩, hc6⟩
    have hS6 := Kept.call2 hc6 hS5
    refine hK.out _ _ (fun _ => HM.out _ hS6) ?_
    replace hu3 := hu3.below hc6
    clear hK K hS5
    refine oneW (i := 7) (by kernel_rfl) rfl (by rfl) ?_
    intro K hK
    go_simp
    with_reducible refine (qadd_calls (a := v1) (b := v2) ((hv1.below hc6).qis (qfit_of (fits_abs HK.out.fit))) (hv2.qis (qfit_of fits_one)) (by rw [LM_eq]; omega) (by rw [LM_eq]; omega)).mono ?_
    rintro e y7 ⟨⟨v3, rfl, hv3⟩, hc7⟩
    have hS7 := Kept.call2 hc7 hS6
    refine hK.out _ _ (fun _ => HM.out _ hS7) ?_
    replace hu3 := hu3.below hc7
    clear hK K hv1 hv2 hc5 hc6 hc7
    replace hv3 := hv3.lower hS6.kept.size
    clear hS6
    have hb7 := hS7.kept.whole
    have bP7 := bP.below hb7 s0
    have bJ7 := bJ.below hb7 s1
    have bK7 := bK.below hb7 s2
    obtain ⟨j0', j1', j2', j3', jf'⟩ := id bJ7
    have hu3s := hS7.kept.size
    refine oneW (i := 8) (by kernel_rfl) rfl (by rfl) ?_
    intro K hK
    go_simp
    refine hK.out _ _ (fun _ => Sees.k4 (HM.out _ hS7) (by simp)) ?_
    clear hK K
    have P8 := Put.four (W := y7) (w.heap.size + 1) (.bool u3.num.ng) (.slice u3.num.A u3.num.n u3.num.c) (.bool u3.den.ng) (.slice u3.den.A u3.den.n u3.den.c)
    have bJ8 := bJ7.stored (.bool u3.num.ng) (.slice u3.num.A u3.num.n u3.num.c) (.bool u3.den.ng) (.slice u3.den.A u3.den.n u3.den.c)
    generalize (((y7.setCell ⟨w.heap.size + 1, 0, none⟩ (.bool u3.num.ng)).setCell ⟨w.heap.size + 1, 1, none⟩ (.slice u3.num.A u3.num.n u3.num.c)).setCell ⟨w.heap.size + 1, 2, none⟩ (.bool u3.den.ng)).setCell ⟨w.heap.size + 1, 3, none⟩ (.slice u3.den.A u3.den.n u3.den.c) = y8 at *
    have bP8 := bP7.heap (P8.keep _ (by omega))
    have bK8 := bK7.heap (P8.keep _ (by omega))
    have hu8 := P8.qcan s1 hu3
    have hv8 := P8.qcan s1 hv3
    have hb8 := (hbW.trans (hb7.mono hbW.size)).trans (P8.below _ (by omega))
    have hz8 : w4.heap.size ≤ y8.heap.size := by rw [P8.size]; exact hu3s
    clear j0' j1' j2' j3' jf' j0 j1 j2 j3 k0 k1 k2 k3 p0 p1 p2 p3 bP bJ bK bP7 bJ7 bK7 hS7 hb7 P8 hu3 hv3 HM hu3s
    obtain ⟨k0, k1, k2, k3, kf⟩ := id bK8
    refine oneW (i := 9) (by kernel_rfl) rfl (by rfl) ?_
    intro K hK
    go_simp
    refine hK.out _ _ (fun h => absurd h (by decide)) ?_
    clear hK K
    have P9 := Put.four (W := y8) (w.heap.size + 1 + 1) (.bool v3.num.ng) (.slice v3.num.A v3.num.n v3.num.c) (.bool v3.den.ng) (.slice v3.den.A v3.den.n v3.den.c)
    have bK9 := bK8.stored (.bool v3.num.ng) (.slice v3.num.A v3.num.n v3.num.c) (.bool v3.den.ng) (.slice v3.den.A v3.den.n v3.den.c)
    generalize (((y8.setCell ⟨w.heap.size + 1 + 1, 0, none⟩ (.bool v3.num.ng)).setCell ⟨w.heap.size + 1 + 1, 1, none⟩ (.slice v3.num.A v3.num.n v3.num.c)).setCell ⟨w.heap.size + 1 + 1, 2, none⟩ (.bool v3.den.ng)).setCell ⟨w.heap.size + 1 + 1, 3, none⟩ (.slice v3.den.A v3.den.n v3.den.c) = y9 at *
    have bP9 := bP8.heap (P9.keep _ (by omega))
    have bJ9 := bJ8.heap (P9.keep _ (by omega))
    have hu9 := P9.qcan s2 hu8
    have hv9 := P9.qcan s2 hv8
    have hb9 := hb8.trans (P9.below _ (by omega))
    have hz9 : w4.heap.size ≤ y9.heap.size := by rw [P9.size]; exact hz8
    have sz : w.heap.size + 1 + 1 < y9.heap.size := Nat.lt_of_lt_of_le s2 hz9
    clear k0 k1 k2 k3 kf bP8 bJ8 bK8 hu8 hv8 hb8 hz8 P9 hbW hb1 hb2 hb3 hb4
    refine wpAnyG_done (by kernel_rfl) ?_ _
    have HF := Lib.hid (short_prog HS.out.1 HS.out.2 hm)
    obtain ⟨V, rfl⟩ : ∃ V : Nat, z = V := ⟨z.toNat, by have := HF.out.1; show z = (z.toNat : Int); simp only at this; omega⟩
    have hon : on ≤ 4 := HF.out.2.2.2.1
    have hrn : rn ≤ 4 := HF.out.2.2.2.2.1
    obtain rfl : rn = bn := HF.out.2.2.2.2.2.1.symm
    have oc1 : on ≤ oc := h.out.obj.le
    have oc2 : oc ≤ 9223372036854775807 := h.out.obj.cap
    have rc1 : rn ≤ rc := h.out.rows.le
    have rc2 : rc ≤ 9223372036854775807 := h.out.rows.cap
    have bc1 : rn ≤ bc := h.out.bounds.le
    have bc2 : bc ≤ 9223372036854775807 := h.out.bounds.cap
    clear HS hm
    obtain ⟨p0, -, -, -, -⟩ := id bP9
    go_upto_region 5 with fail
    have hn9 : (y9.alloc (.cells #[.int .i64 V, .slice none 0 0, .slice none 0 0, .slice none 0 0] 25)).heap[y9.heap.size]? = some (.cells #[.int .i64 V, .slice none 0 0, .slice none 0 0, .slice none 0 0] 25 (0, 0)) := heap_new _ _ rfl
    have HL1 := Lib.hid (sc_start (p := ⟨V, ⟨oA, on, oc⟩, ⟨rA, rn, rc⟩, ⟨bA, rn, bc⟩⟩) hb9 bP9 bJ9 bK9 hu9 hv9 sz)
    clear p0 bP9 bJ9 bK9 hu9 hv9 hb9
    generalize y9.alloc (.cells #[.int .i64 V, .slice none 0 0, .slice none 0 0, .slice none 0 0] 25) = W0 at *
    generalize y9.heap.size = d at *
    go_wp2
    go_loopw [10] (fun t W => ScLoop1 w ⟨V, ⟨oA, on, oc⟩, ⟨rA, rn, rc⟩, ⟨bA, rn, bc⟩⟩ u3 v3 (qabs jq + ((1 : Int) : Rat)) (qabs kq + ((1 : Int) : Rat)) os d t W) (fun t _ => on - (intOf t).toNat)
    case atStart => exact ⟨0, Nat.zero_le _, rfl, HL1.out⟩
    case round =>
     clear HL1
     obtain ⟨i, hi, rfl, hM⟩ := hrel
     have HM := Lib.hid hM
     obtain ⟨hB, va, vb, vc, G, s1, s2, s3, l1, l2, l3, hQ, e1, e2, e3⟩ := hM
     have HE := Lib.hid (And.intro l1 (And.intro l2 (And.intro l3 (And.intro e1 (And.intro e2 e3)))))
     clear l1 l2 l3 e1 e2 e3
     dsimp only at hi
     by_cases hlt : i < on
     ·obtain ⟨ad, r, e, -, r0, hr⟩ := (HF.out.2.2.2.2.2.2.2.2.obj.below hQ.bel).row i hlt
      dsimp only at e
      subst e
      obtain ⟨qA, qn, qc⟩ := r
      have HR := Lib.hid hr
      have hqn : Hid (qn ≤ 1000000) := by
       have h1 := row_len HF.out.2.2.2.2.2.2.1 HF.out.2.1 i
       have h2 : (os.getD i []).length = qn := hr.len
       show qn ≤ 1000000; omega
      clear hr
      obtain ⟨-, c1, -, -, cf⟩ := hQ.cells
      have hdl := hQ.dlt
      obtain ⟨-, p1, -, -, -⟩ := id hB.bP
      obtain ⟨k0, k1, k2, k3, -⟩ := id hB.bK
      dsimp only at p1
      have hbl := hQ.bel.size
      have dl := hB.dl
      have hal : (ad.add i).block < wr.heap.size := block_lt_of_cell r0
      have t0 : w.heap.size < wr.heap.size := by omega
      have t2 : w.heap.size + 1 + 1 < wr.heap.size := by omega
      have hdr : Below wr.heap.size wr wr.drew := (Below.refl _ _).drew
      go_upto_region 8 with fail
      refine wp_plain_G 10 (fun f w' => f = false → Sees w.heap.size [] wr w') (by kernel_rfl) ?_
      have hS0 : Sees w.heap.size [] wr wr.drew := Sees.st (by simp) hbl
      refine takeA (i := 0) ?_ rfl rfl (by kernel_rfl) (by kernel_rfl) (by kernel_rfl) (by decide) (fun _ _ _ h => h) (by rfl) (fun w' hSw => ?_) (fun _ => hS0) ?_
      rotate_left
      ·((obtain ⟨_, hSw⟩ := hSw); (try dsimp only at hSw); go_simp; try with_reducible rfl)
      simp only [zzA, zzB, zzC]
      refine takeA (i := 3) ?_ rfl rfl (by kernel_rfl) (by kernel_rfl) (by kernel_rfl) (by decide) (fun _ _ _ h => h) (by rfl) (fun w' hSw => ?_) (fun _ => hS0) ?_
      rotate_left
      ·((obtain ⟨_, hSw⟩ := hSw); (try dsimp only at hSw); go_simp; try with_reducible rfl)
      simp only [zzA, zzB, zzC]
      refine takeA (i := 5) ?_ rfl rfl (by kernel_rfl) (by kernel_rfl) (by kernel_rfl) (by decide) (fun _ _ _ h => h) (by rfl) (fun w' hSw => ?_) (fun _ => hS0) ?_
      rotate_left
      ·((obtain ⟨_, hSw⟩ := hSw); (try dsimp only at hSw); go_simp; try with_reducible rfl)
      simp only [zzA, zzB, zzC]
      refine takeW (i := 1) (va) rfl rfl (by kernel_rfl) (by kernel_rfl) (by kernel_rfl) (by kernel_rfl) (by kernel_rfl) (fun _ _ _ h => h) (by rfl) (fun w' hSw => ?_) (fun _ => hS0) ?_
      ·(replace hSw := hSw rfl; go_simp; try with_reducible rfl)
      simp only [zzA, zzB, zzC]
      refine takeW2 (i := 2) 8 (v3.val) rfl rfl (by kernel_rfl) (by kernel_rfl) (by kernel_rfl) (by kernel_rfl) (by kernel_rfl) (by kernel_rfl) (by kernel_rfl) (by decide) (fun _ _ _ h => h) (by rfl) (fun w' hSw => ?_) (fun _ => hS0) ?_
      ·(replace hSw := hSw rfl; go_simp; try with_reducible rfl)
      simp only [zzA, zzB, zzC]
      refine oneW (i := 4) (by kernel_rfl) rfl (by rfl) ?_
      intro K hK
      go_simp
      refine hK.out _ _ (fun _ => hS0) ?_
      clear hK K
      refine oneW (i := 6) (by kernel_rfl) rfl (by rfl) ?_
      intro K hK
      go_simp
      refine hK.out _ _ (fun _ => hS0) ?_
      clear hK K
      refine oneW (i := 7) (by kernel_rfl) rfl (by rfl) ?_
      intro K hK
      go_simp
      refine hK.out _ _ (fun _ => hS0) ?_
      clear hK K
      refine oneW (i := 8) (by kernel_rfl) rfl (by rfl) ?_
      intro K hK
      go_simp
      with_reducible refine (vscale_calls (k := v3) (s := ⟨qA, qn, qc⟩) ((hB.hk.below hdr).qis (qfit_to (L := 16) (factor_fits HK.out.fit) (by decide))) (HR.out.below hdr) hqn.out (by rw [LM_eq]; omega) (by rw [LM_eq]; omega)).mono ?_
      rintro e w1 ⟨⟨⟨zA, zn, zc⟩, rfl, hz⟩, hb1⟩
      have hS1 := Kept.call2 hb1 hS0
      have hb1' : Below wr.heap.size wr w1 := hdr.trans hb1
      refine hK.out _ _ (fun _ => hS1) ?_
      clear hK K
      refine oneW (i := 9) (by kernel_rfl) rfl (by rfl) ?_
      intro K hK
      go_simp
      refine hK.out _ _ (fun _ => Sees.al hS1) ?_
      clear hK K
      have hown : w1.ownsRow (d + 1) 23 1 va i (s1.map SV.val) := by
       have := (hQ.call hb1').own 1 (by omega) (by omega)
       rw [show pick3 0 ((List.range i).map fun m => (os.getD m []).map ((qabs kq + ((1 : Int) : Rat)) * ·)).length ([] : List (List Rat)).length ([] : List Rat).length 1 = i by simp [pick3]] at this
       exact this
      refine oneW (i := 10) (by kernel_rfl) rfl (by rfl) ?_
      intro K hK
      refine oper_append_own _ _ 22 rfl (d + 1) 23 ii0 (.slice none 0 0) 1 24 Tryz.underlying22 hii hzi0 hzi1 hzi2 rfl (by decide) va i (s1.map SV.val) rfl (hown.alloc _) ⟨w1.heap.size, 0, none⟩ 1 1 [.slice zA zn zc] rfl rfl (cell_one_new _ _ _) (by intro u hu; simp at hu; subst hu; rfl) (by simp [maxLen]; omega) (by omega) (by have := hb1'.size; simp; omega) ?_
      intro v' W5 hown5 hg5 hnil5 hat5
      have d1 : W5.cell? ⟨d, 1, none⟩ = some va := (World.cell?_of_block (a := ⟨d, 1, none⟩) ((hQ.call hb1').app_blk (f := 1) (by omega) (by omega) hg5 (Nat.lt_of_lt_of_le hdl hb1'.size) (.inr rfl))).trans ((hb1'.cell (p := ⟨d, 1, none⟩) hdl).trans c1)
      have df : ∀ o, W5.frozen? ⟨d, o, none⟩ = false := fun o => (World.frozen?_of_block (a := ⟨d, o, none⟩) ((hQ.call hb1').app_blk (f := 1) (by omega) (by omega) hg5 (Nat.lt_of_lt_of_le hdl hb1'.size) (.inr rfl))).trans ((hQ.call hb1').cells.2.2.2.2 o)
      have Hfin : Hid (ScLoop1 w ⟨V, ⟨some ad, on, oc⟩, ⟨rA, rn, rc⟩, ⟨bA, rn, bc⟩⟩ u3 v3 (qabs jq + ((1 : Int) : Rat)) (qabs kq + ((1 : Int) : Rat)) os d (.int .i64 ((i : Int) + 1)) (W5.setCell ⟨d, 1, none⟩ v')) := by
       obtain ⟨l1, l2, l3, e1, e2, e3⟩ := HE.out
       refine ⟨i + 1, hlt, by simp, ?_⟩
       rw [List.range_succ, List.map_append, List.map_singleton]
       refine mid_add1 hB l1 l2 l3 hQ e1 e2 e3 hb1' (x := ⟨zA, zn, zc⟩) (new_vec hQ hz fun k => ?_) ?_ hg5 hat5
       ·rw [getD_map0]
        exact qfit_to ((factor_fits HK.out.fit).mul (qfit_fits (HR.out.fit k))) (by decide)
       ·rw [List.length_map, List.length_range]; exact hown5
      obtain ⟨g5, c5, rfl⟩ := ownsRow_succ hown5
      simp only [Act.put, List.setIfInBounds_toArray, List.set_cons_zero, List.set_cons_succ]
      refine hK.out _ _ (fun h => absurd h (by decide)) ?_
      clear hK K hown hown5 hg5 hat5 hnil5 hS0 hS1 hQ hB k0 k1 k2 k3 p1 r0 c1 cf hz hb1 hb1'
      refine oneW (i := 11) (by kernel_rfl) rfl (by rfl) ?_
      intro K hK
      go_simp
      refine hK.out _ _ (fun h => absurd h (by decide)) ?_
      clear hK K
      refine oneW (i := 12) (by kernel_rfl) rfl (by rfl) ?_
      intro K hK
      go_simp
      refine hK.out _ _ (fun h => absurd h (by decide)) ?_
      clear hK K
      refine wpAnyG_done (by kernel_rfl) ?_ _
      go_wp2
      go_roundw
      case rel => first | exact Hfin.out | ((repeat apply Exists.intro); exact ⟨Hfin.out, rfl⟩)
      case measure => simp [intOf]; omega
     ·obtain rfl : i = on := by omega
      clear HE hQ hB va vb vc G s1 s2 s3 hlt hi
      have HM1 := HM.out
      rw [range_map_rows (f := fun l => l.map ((qabs kq + ((1 : Int) : Rat)) * ·)) (h.out.obj.len : os.length = i)] at HM1
      obtain ⟨-, p1, p2, -, -⟩ := id HM1.1.bP
      dsimp only at p1 p2
      have dl := HM1.1.dl
      have HM2 := Lib.hid HM1
      clear HM HM1
      generalize wr = W0 at *
      go_wp2
      clear p1 p2
      go_loopw [12] (fun t W => ScLoop2 w ⟨V, ⟨oA, i, oc⟩, ⟨rA, rn, rc⟩, ⟨bA, rn, bc⟩⟩ u3 v3 (qabs jq + ((1 : Int) : Rat)) (qabs kq + ((1 : Int) : Rat)) (os.map fun l => l.map ((qabs kq + ((1 : Int) : Rat)) * ·)) rs bs at' rn d t W) (fun t _ => rn - (intOf t).toNat)
      case atStart => exact ⟨0, Nat.zero_le _, rfl, HM2.out⟩
      case round =>
       clear HM2
       obtain ⟨i2, hi2, rfl, hM⟩ := hrel
       have HM := Lib.hid hM
       by_cases hlt : i2 < rn
       ·obtain ⟨c, HC⟩ : ∃ c : Nat, Hid (c = (i2 + at') % rn) := ⟨_, rfl⟩
        have hc : c < rn := by rw [HC.out]; exact Nat.mod_lt _ (by omega)
        have hsum : IntKind.i64.wrap ((i2 : Int) + (at' : Int)) = (i2 : Int) + (at' : Int) := IntWalk.i64_in _ (by omega)
        have hrem : Int.tmod ((i2 : Int) + (at' : Int)) (rn : Int) = (c : Int) := by rw [HC.out]; exact tmod_nat (i2 + at') rn
        have hcw : IntKind.i64.wrap (c : Int) = (c : Int) := IntWalk.i64_in _ (by omega)
        have hn0 : ¬ ((rn : Int) = 0) := by omega
        obtain ⟨hB, va, vb, vc, G, s1, s2, s3, l1, l2, l3, hQ, e1, e2, e3⟩ := hM
        have HE := Lib.hid (And.intro l1 (And.intro l2 (And.intro l3 (And.intro e1 (And.intro e2 e3)))))
        clear l1 l2 l3 e1 e2 e3
        obtain ⟨c0, c1, c2, c3, cf⟩ := hQ.cells
        have hdl := hQ.dlt
        have hbl := hQ.bel.size
        have hdr : Below wr.heap.size wr wr.drew := (Below.refl _ _).drew
        have t0 : w.heap.size < wr.heap.size := by omega
        have t1 : w.heap.size + 1 < wr.heap.size := by omega
        have t2 : w.heap.size + 1 + 1 < wr.heap.size := by omega
        obtain ⟨-, p1, p2, p3, -⟩ := id hB.bP
        obtain ⟨j0, j1, j2, j3, -⟩ := id hB.bJ
        dsimp only at p1 p2 p3
        obtain ⟨ad, r, e, -, r0, hr⟩ := (HF.out.2.2.2.2.2.2.2.2.rows.below hQ.bel).row c hc
        dsimp only at e
        subst e
        obtain ⟨qA, qn, qc⟩ := r
        have HR := Lib.hid hr
        have hqn : Hid (qn ≤ 1000000) := by
         have h1 := row_len HF.out.2.2.2.2.2.2.2.1 HF.out.2.1 c
         have h2 : (rs.getD c []).length = qn := hr.len
         show qn ≤ 1000000; omega
        clear hr
        have hal : (ad.add c).block < wr.heap.size := block_lt_of_cell r0
        go_upto_region 14 with fail
        refine wp_plain_G 10 (fun f w' => f = false → Sees w.heap.size [] wr w') (by kernel_rfl) ?_
        have hS0 : Sees w.heap.size [] wr wr.drew := Sees.st (by simp) hbl
        refine takeA (i := 0) ?_ rfl rfl (by kernel_rfl) (by kernel_rfl) (by kernel_rfl) (by decide) (fun _ _ _ h => h) (by rfl) (fun w' hSw => ?_) (fun _ => hS0) ?_
        rotate_left
        ·((obtain ⟨_, hSw⟩ := hSw); (try dsimp only at hSw); go_simp; try with_reducible rfl)
        simp only [zzA, zzB, zzC]
        refine takeA (i := 3) ?_ rfl rfl (by kernel_rfl) (by kernel_rfl) (by kernel_rfl) (by decide) (fun _ _ _ h => h) (by rfl) (fun w' hSw => ?_) (fun _ => hS0) ?_
        rotate_left
        ·((obtain ⟨_, hSw⟩ := hSw); (try dsimp only at hSw); go_simp; try with_reducible rfl)
        simp only [zzA, zzB, zzC]
        refine takeA (i := 5) ?_ rfl rfl (by kernel_rfl) (by kernel_rfl) (by kernel_rfl) (by decide) (fun _ _ _ h => h) (by rfl) (fun w' hSw => ?_) (fun _ => hS0) ?_
        rotate_left
        ·((obtain ⟨_, hSw⟩ := hSw); (try dsimp only at hSw); go_simp; try with_reducible rfl)
        simp only [zzA, zzB, zzC]
        refine takeW (i := 1) (vb) rfl rfl (by kernel_rfl) (by kernel_rfl) (by kernel_rfl) (by kernel_rfl) (by kernel_rfl) (fun _ _ _ h => h) (by rfl) (fun w' hSw => ?_) (fun _ => hS0) ?_
        ·(replace hSw := hSw rfl; go_simp; try with_reducible rfl)
        simp only [zzA, zzB, zzC]
        refine takeW2 (i := 2) 8 (u3.val) rfl rfl (by kernel_rfl) (by kernel_rfl) (by kernel_rfl) (by kernel_rfl) (by kernel_rfl) (by kernel_rfl) (by kernel_rfl) (by decide) (fun _ _ _ h => h) (by rfl) (fun w' hSw => ?_) (fun _ => hS0) ?_
        ·(replace hSw := hSw rfl; go_simp; try with_reducible rfl)
        simp only [zzA, zzB, zzC]
        refine oneW (i := 4) (by kernel_rfl) rfl (by rfl) ?_
        intro K hK
        go_simp
        refine hK.out _ _ (fun _ => hS0) ?_
        clear hK K
        refine oneW (i := 6) (by kernel_rfl) rfl (by rfl) ?_
        intro K hK
        go_simp
        refine hK.out _ _ (fun _ => hS0) ?_
        clear hK K
        refine oneW (i := 7) (by kernel_rfl) rfl (by rfl) ?_
        intro K hK
        go_simp
        refine hK.out _ _ (fun _ => hS0) ?_
        clear hK K
        refine oneW (i := 8) (by kernel_rfl) rfl (by rfl) ?_
        intro K hK
        go_simp
        with_reducible refine (vscale_calls (k := u3) (s := ⟨qA, qn, qc⟩) ((hB.hj.below hdr).qis (qfit_to (L := 16) (factor_fits HJ.out.fit) (by decide))) (HR.out.below hdr) hqn.out (by rw [LM_eq]; omega) (by rw [LM_eq]; omega)).mono ?_
        rintro e w1 ⟨⟨⟨zA, zn, zc⟩, rfl, hz⟩, hb1⟩
        have hS1 := Kept.call2 hb1 hS0
        have hb1' : Below wr.heap.size wr w1 := hdr.trans hb1
        have Hnew := Lib.hid (new_vec hQ hz fun k => by
         rw [getD_map0]
         exact qfit_to ((factor_fits HJ.out.fit).mul (qfit_fits (HR.out.fit k))) (by decide))
        refine hK.out _ _ (fun _ => hS1) ?_
        clear hK K hz hb1 HR hqn r0 hal
        refine oneW (i := 9) (by kernel_rfl) rfl (by rfl) ?_
        intro K hK
        go_simp
        refine hK.out _ _ (fun _ => Sees.al hS1) ?_
        clear hK K
        have hown := (own_of (hQ.call hb1')).2.1
        rw [List.length_map, List.length_range] at hown
        refine oneW (i := 10) (by kernel_rfl) rfl (by rfl) ?_
        intro K hK
        refine oper_append_own _ _ 22 rfl (d + 1) 23 ii0 (.slice none 0 0) 1 24 Tryz.underlying22 hii hzi0 hzi1 hzi2 rfl (by decide) vb i2 (s2.map SV.val) rfl (hown.alloc _) ⟨w1.heap.size, 0, none⟩ 1 1 [.slice zA zn zc] rfl rfl (cell_one_new _ _ _) (by intro u hu; simp at hu; rcases hu with rfl <;> rfl) (by simp [maxLen]; omega) (by omega) (by have := hb1'.size; simp; omega) ?_
        intro v' W5 hown5 hg5 hnil5 hat5
        have d1 : W5.cell? ⟨d, 2, none⟩ = some vb := (World.cell?_of_block (a := ⟨d, 2, none⟩) ((hQ.call hb1').app_blk (f := 2) (by omega) (by omega) hg5 (Nat.lt_of_lt_of_le hdl hb1'.size) (.inr rfl))).trans ((hb1'.cell (p := ⟨d, 2, none⟩) hdl).trans c2)
        have df : ∀ o, W5.frozen? ⟨d, o, none⟩ = false := fun o => (World.frozen?_of_block (a := ⟨d, o, none⟩) ((hQ.call hb1').app_blk (f := 2) (by omega) (by omega) hg5 (Nat.lt_of_lt_of_le hdl hb1'.size) (.inr rfl))).trans ((hQ.call hb1').cells.2.2.2.2 o)
        have Hm : Hid (ScMid w ⟨V, ⟨oA, i, oc⟩, ⟨some ad, rn, rc⟩, ⟨bA, rn, bc⟩⟩ u3 v3 (qabs jq + ((1 : Int) : Rat)) (qabs kq + ((1 : Int) : Rat)) d (os.map fun l => l.map ((qabs kq + ((1 : Int) : Rat)) * ·)) (((List.range i2).map fun m => (rs.getD ((m + at') % rn) []).map ((qabs jq + ((1 : Int) : Rat)) * ·)) ++ [(rs.getD c []).map ((qabs jq + ((1 : Int) : Rat)) * ·)]) (((List.range i2).map fun m => (qabs jq + ((1 : Int) : Rat)) * bs.getD ((m + at') % rn) 0)) (W5.setCell ⟨d, 2, none⟩ v')) := by
         obtain ⟨l1, l2, l3, e1, e2, e3⟩ := HE.out
         refine mid_add2 hB l1 l2 l3 hQ e1 e2 e3 hb1' (x := ⟨zA, zn, zc⟩) Hnew.out ?_ hg5 hat5
         rw [List.length_map, List.length_range]; exact hown5
        obtain ⟨g5, c5, rfl⟩ := ownsRow_succ hown5
        simp only [Act.put, List.setIfInBounds_toArray, List.set_cons_zero, List.set_cons_succ]
        refine hK.out _ _ (fun h => absurd h (by decide)) ?_
        clear hK K hown hown5 hg5 hat5 hnil5 hS0 hS1 hQ hB HE Hnew j0 j1 j2 j3 p1 p2 p3 c0 c1 c2 c3 cf hb1'
        refine oneW (i := 11) (by kernel_rfl) rfl (by rfl) ?_
        intro K hK
        go_simp
        refine hK.out _ _ (fun h => absurd h (by decide)) ?_
        clear hK K
        refine oneW (i := 12) (by kernel_rfl) rfl (by rfl) ?_
        intro K hK
        go_simp
        refine hK.out _ _ (fun h => absurd h (by decide)) ?_
        clear hK K d1 df
        refine wpAnyG_done (by kernel_rfl) ?_ _
        generalize W5.setCell ⟨d, 2, none⟩ (.slice (some ⟨g5, 0, none⟩) (i2 + 1) c5) = wq at *
        clear hdl hbl hdr t0 t1 t2
        clear HM
        obtain ⟨hB, va, vb, vc, G, s1, s2, s3, l1, l2, l3, hQ, e1, e2, e3⟩ := Hm.out
        have HE := Lib.hid (And.intro l1 (And.intro l2 (And.intro l3 (And.intro e1 (And.intro e2 e3)))))
        clear l1 l2 l3 e1 e2 e3
        obtain ⟨c0, c1, c2, c3, cf⟩ := hQ.cells
        have hdl := hQ.dlt
        have hbl := hQ.bel.size
        have hdr : Below wq.heap.size wq wq.drew := (Below.refl _ _).drew
        have t0 : w.heap.size < wq.heap.size := by omega
        have t1 : w.heap.size + 1 < wq.heap.size := by omega
        have t2 : w.heap.size + 1 + 1 < wq.heap.size := by omega
        obtain ⟨-, p1, p2, p3, -⟩ := id hB.bP
        obtain ⟨j0, j1, j2, j3, -⟩ := id hB.bJ
        dsimp only at p1 p2 p3
        obtain ⟨bd, bv, e, -, ⟨q0, q1, q2, q3⟩, hq⟩ := (HF.out.2.2.2.2.2.2.2.2.bounds.below hQ.bel).elem c hc
        dsimp only at e q0 q1 q2 q3
        subst e
        have HR := Lib.hid hq
        clear hq
        have hal : (bd.add (c * 4)).block < wq.heap.size := block_lt_of_cell q0
        go_upto_region 15 with fail
        refine wp_plain_G 10 (fun f w' => f = false → Sees w.heap.size [] wq w') (by kernel_rfl) ?_
        have hS0 : Sees w.heap.size [] wq wq.drew := Sees.st (by simp) hbl
        refine takeA (i := 0) ?_ rfl rfl (by kernel_rfl) (by kernel_rfl) (by kernel_rfl) (by decide) (fun _ _ _ h => h) (by rfl) (fun w' hSw => ?_) (fun _ => hS0) ?_
        rotate_left
        ·((obtain ⟨_, hSw⟩ := hSw); (try dsimp only at hSw); go_simp; try with_reducible rfl)
        simp only [zzA, zzB, zzC]
        refine takeA (i := 3) ?_ rfl rfl (by kernel_rfl) (by kernel_rfl) (by kernel_rfl) (by decide) (fun _ _ _ h => h) (by rfl) (fun w' hSw => ?_) (fun _ => hS0) ?_
        rotate_left
        ·((obtain ⟨_, hSw⟩ := hSw); (try dsimp only at hSw); go_simp; try with_reducible rfl)
        simp only [zzA, zzB, zzC]
        refine takeA (i := 5) ?_ rfl rfl (by kernel_rfl) (by kernel_rfl) (by kernel_rfl) (by decide) (fun _ _ _ h => h) (by rfl) (fun w' hSw => ?_) (fun _ => hS0) ?_
        rotate_left
        ·((obtain ⟨_, hSw⟩ := hSw); (try dsimp only at hSw); go_simp; try with_reducible rfl)
        simp only [zzA, zzB, zzC]
        refine takeW (i := 1) (vc) rfl rfl (by kernel_rfl) (by kernel_rfl) (by kernel_rfl) (by kernel_rfl) (by kernel_rfl) (fun _ _ _ h => h) (by rfl) (fun w' hSw => ?_) (fun _ => hS0) ?_
        ·(replace hSw := hSw rfl; go_simp; try with_reducible rfl)
        simp only [zzA, zzB, zzC]
        refine takeW2 (i := 2) 8 (u3.val) rfl rfl (by kernel_rfl) (by kernel_rfl) (by kernel_rfl) (by kernel_rfl) (by kernel_rfl) (by kernel_rfl) (by kernel_rfl) (by decide) (fun _ _ _ h => h) (by rfl) (fun w' hSw => ?_) (fun _ => hS0) ?_
        ·(replace hSw := hSw rfl; go_simp; try with_reducible rfl)
        simp only [zzA, zzB, zzC]
        refine oneW (i := 4) (by kernel_rfl) rfl (by rfl) ?_
        intro K hK
        go_simp
        refine hK.out _ _ (fun _ => hS0) ?_
        clear hK K
        refine oneW (i := 6) (by kernel_rfl) rfl (by rfl) ?_
        intro K hK
        go_simp
        refine hK.out _ _ (fun _ => hS0) ?_
        clear hK K
        refine oneW (i := 7) (by kernel_rfl) rfl (by rfl) ?_
        intro K hK
        go_simp
        refine hK.out _ _ (fun _ => hS0) ?_
        clear hK K
        refine oneW (i := 8) (by kernel_rfl) rfl (by rfl) ?_
        intro K hK
        go_simp
        with_reducible refine (qmul_calls (a := u3) (b := bv) ((hB.hj.below hdr).qis (qfit_to (L := 16) (factor_fits HJ.out.fit) (by decide))) (HR.out.below hdr) (by rw [LM_eq]; omega) (by rw [LM_eq]; omega)).mono ?_
        rintro e w1 ⟨⟨zq, rfl, hz⟩, hb1⟩
        have hS1 := Kept.call2 hb1 hS0
        have hb1' : Below wq.heap.size wq w1 := hdr.trans hb1
        have Hnew := Lib.hid (new_q hQ hz (qfit_to ((factor_fits HJ.out.fit).mul (qfit_fits HR.out.fit)) (by decide)))
        refine hK.out _ _ (fun _ => hS1) ?_
        clear hK K hz hb1 HR q0 q1 q2 q3 hal
        refine oneW (i := 9) (by kernel_rfl) rfl (by rfl) ?_
        intro K hK
        go_simp
        refine hK.out _ _ (fun _ => Sees.al hS1) ?_
        clear hK K
        have hown := (own_of (hQ.call hb1')).2.2
        rw [List.length_map, List.length_range] at hown
        refine oneW (i := 10) (by kernel_rfl) rfl (by rfl) ?_
        intro K hK
        refine oper_append_own _ _ 23 rfl (d + 1) 30 iq0 (.agg #[.bool false, .slice none 0 0, .bool false, .slice none 0 0]) 4 64 Tryz.underlying23 hiq hzq0 hzq1 hzq2 rfl (by decide) vc i2 (s3.flatMap cells4q) rfl (hown.alloc _) ⟨w1.heap.size, 0, none⟩ 1 1 (cells4q zq) rfl rfl (cell_four_new _ _) (by intro u hu; simp [cells4q] at hu; rcases hu with rfl | rfl | rfl | rfl <;> rfl) (by simp [maxLen]; omega) (by omega) (by have := hb1'.size; simp; omega) ?_
        intro v' W5 hown5 hg5 hnil5 hat5
        have d1 : W5.cell? ⟨d, 3, none⟩ = some vc := (World.cell?_of_block (a := ⟨d, 3, none⟩) ((hQ.call hb1').app_blk (f := 3) (by omega) (by omega) hg5 (Nat.lt_of_lt_of_le hdl hb1'.size) (.inr rfl))).trans ((hb1'.cell (p := ⟨d, 3, none⟩) hdl).trans c3)
        have df : ∀ o, W5.frozen? ⟨d, o, none⟩ = false := fun o => (World.frozen?_of_block (a := ⟨d, o, none⟩) ((hQ.call hb1').app_blk (f := 3) (by omega) (by omega) hg5 (Nat.lt_of_lt_of_le hdl hb1'.size) (.inr rfl))).trans ((hQ.call hb1').cells.2.2.2.2 o)
        clear Hm
        have Hm : Hid (ScMid w ⟨V, ⟨oA, i, oc⟩, ⟨some ad, rn, rc⟩, ⟨some bd, rn, bc⟩⟩ u3 v3 (qabs jq + ((1 : Int) : Rat)) (qabs kq + ((1 : Int) : Rat)) d (os.map fun l => l.map ((qabs kq + ((1 : Int) : Rat)) * ·)) (((List.range i2).map fun m => (rs.getD ((m + at') % rn) []).map ((qabs jq + ((1 : Int) : Rat)) * ·)) ++ [(rs.getD c []).map ((qabs jq + ((1 : Int) : Rat)) * ·)]) (((List.range i2).map fun m => (qabs jq + ((1 : Int) : Rat)) * bs.getD ((m + at') % rn) 0) ++ [(qabs jq + ((1 : Int) : Rat)) * bs.getD c 0]) (W5.setCell ⟨d, 3, none⟩ v')) := by
         obtain ⟨l1, l2, l3, e1, e2, e3⟩ := HE.out
         refine mid_add3 hB l1 l2 l3 hQ e1 e2 e3 hb1' (x := zq) Hnew.out ?_ hg5 hat5
         rw [List.length_map, List.length_range]; exact hown5
        obtain ⟨g5, c5, rfl⟩ := ownsRow_succ hown5
        simp only [Act.put, List.setIfInBounds_toArray, List.set_cons_zero, List.set_cons_succ]
        refine hK.out _ _ (fun h => absurd h (by decide)) ?_
        clear hK K hown hown5 hg5 hat5 hnil5 hS0 hS1 hQ hB HE Hnew j0 j1 j2 j3 p1 p2 p3 c0 c1 c2 c3 cf hb1'
        refine oneW (i := 11) (by kernel_rfl) rfl (by rfl) ?_
        intro K hK
        go_simp
        refine hK.out _ _ (fun h => absurd h (by decide)) ?_
        clear hK K
        refine oneW (i := 12) (by kernel_rfl) rfl (by rfl) ?_
        intro K hK
        go_simp
        refine hK.out _ _ (fun h => absurd h (by decide)) ?_
        clear hK K d1 df
        refine wpAnyG_done (by kernel_rfl) ?_ _
        generalize W5.setCell ⟨d, 3, none⟩ (.slice (some ⟨g5, 0, none⟩) (i2 + 1) c5) = Wb at *
        clear hdl hbl hdr t0 t1 t2
        have Hfin : Hid (ScLoop2 w ⟨V, ⟨oA, i, oc⟩, ⟨some ad, rn, rc⟩, ⟨some bd, rn, bc⟩⟩ u3 v3 (qabs jq + ((1 : Int) : Rat)) (qabs kq + ((1 : Int) : Rat)) (os.map fun l => l.map ((qabs kq + ((1 : Int) : Rat)) * ·)) rs bs at' rn d (.int .i64 ((i2 : Int) + 1)) Wb) := by
         refine ⟨i2 + 1, hlt, by simp, ?_⟩
         have := Hm.out
         rw [HC.out] at this
         rw [List.range_succ, List.map_append, List.map_append, List.map_singleton, List.map_singleton]
         exact this
        clear Hm
        go_wp2
        go_roundw
        case rel => first | exact Hfin.out | ((repeat apply Exists.intro); exact ⟨Hfin.out, rfl⟩)
        case measure => simp [intOf]; omega
       ·obtain rfl : rn = i2 := by omega
        clear hi2 hlt hM
        by_cases h0 : rn = 0
        ·have HT : Hid (ScMid w ⟨V, ⟨oA, i, oc⟩, ⟨rA, rn, rc⟩, ⟨bA, rn, bc⟩⟩ u3 v3 (qabs jq + ((1 : Int) : Rat)) (qabs kq + ((1 : Int) : Rat)) d (os.map fun l => l.map ((qabs kq + ((1 : Int) : Rat)) * ·)) (if rn = 0 then [] else (scRows rn at' (qabs jq + ((1 : Int) : Rat)) rs) ++ [rs.getD (at' % rn) []]) (if rn = 0 then [] else (scBounds rn at' (qabs jq + ((1 : Int) : Rat)) bs) ++ [bs.getD (at' % rn) 0]) wr) := by
          have := HM.out
          rw [if_pos h0, if_pos h0]
          subst h0
          exact this
         clear HM
         have h0' : ¬ (0 < (rn : Int)) := by omega
         clear h0
         generalize hOR : (if rn = 0 then [] else (scRows rn at' (qabs jq + ((1 : Int) : Rat)) rs) ++ [rs.getD (at' % rn) []]) = RS at HT
         generalize hOB : (if rn = 0 then [] else (scBounds rn at' (qabs jq + ((1 : Int) : Rat)) bs) ++ [bs.getD (at' % rn) 0]) = BS at HT
         replace hOR := Lib.hid hOR
         replace hOB := Lib.hid hOB
         generalize wr = Wt at *
         obtain ⟨⟨z, ⟨xA, xn, xc⟩, ⟨yA, yn, yc⟩, ⟨uA, un, uc⟩⟩, hz, bQ, hq, n1, n2, n3, hbW, bP, hdW⟩ := mid_prog HT.out
         clear HT
         dsimp only at hz n1 n2 n3
         subst hz
         have HQ := Lib.hid hq
         clear hq
         have n1' : Hid (xn = i) := by
          show xn = i
          rw [n1, List.length_map]; exact h.out.obj.len
         have n2' : yn ≤ 5 := by
          rw [n2, ← hOR.out]
          split
          ·simp
          ·simp [scRows]; omega
         have n3' : Hid (un = yn) := by
          show un = yn
          rw [n2, n3, ← hOR.out, ← hOB.out]
          split
          ·rfl
          ·simp [scRows, scBounds]
         have ho1 : 1 ≤ i := HF.out.2.2.1
         have HC1 : Hid (colsOf os ≤ V) := by have := HF.out.2.2.2.2.2.2.1; show colsOf os ≤ V; omega
         have HC2 : Hid (colsOf rs ≤ V) := by have := HF.out.2.2.2.2.2.2.2.1; show colsOf rs ≤ V; omega
         have HC3 : Hid (colsOf RS ≤ V) := by
          show colsOf RS ≤ V
          rw [← hOR.out]
          split
          ·exact colsOf_le.2 fun l hl => by simp at hl
          ·exact cols_sc HC2.out _
         have hV4 : V ≤ 4 := by have := HF.out.2.1; omega
         have HP := Lib.hid HF.out.2.2.2.2.2.2.2.2
         clear n1 n2 n3
         obtain ⟨p0, p1, p2, p3, -⟩ := id bP
         dsimp only at p0 p1 p2 p3
         have p00 : w.heap.size < Wt.heap.size := block_lt_of_cell p0
         go_wp2_with fail
         with_reducible refine (solveL_calls (p := ⟨V, ⟨oA, i, oc⟩, ⟨rA, rn, rc⟩, ⟨bA, rn, bc⟩⟩) (V := V) (HP.out.below hbW) rfl (by omega) ho1 hon (by show rn ≤ _; omega) rfl HC1.out HC2.out (by omega)).mono ?_
         rintro e x1 ⟨⟨r1, rfl, hs1⟩, hb1⟩
         have HS1 := Lib.hid hs1
         clear hs1
         have bQ1 := bQ.below hb1 hdW
         have hq1 := Lib.hid (HQ.out.below hb1)
         obtain ⟨q0, q1, q2, q3, -⟩ := id bQ1
         dsimp only at q0 q1 q2 q3
         have hd1 : d < x1.heap.size := block_lt_of_cell q0
         clear p0 p1 p2 p3 bQ HQ
         go_wp2_with fail
         have al1 : (x1.alloc (.cells (rcells r1.kind r1) 39)).heap[x1.heap.size]? = some (.cells (rcells r1.kind r1) 39 (0, 0)) := heap_new _ _ rfl
         have ab1 : Below x1.heap.size x1 (x1.alloc (.cells (rcells r1.kind r1) 39)) := (Below.refl _ _).alloc (Nat.le_refl _) _
         with_reducible refine (solveL_calls (p := ⟨V, ⟨xA, xn, xc⟩, ⟨yA, yn, yc⟩, ⟨uA, un, uc⟩⟩) (V := V) (hq1.out.below ab1) rfl (by omega) (by have := n1'.out; show 1 ≤ xn; omega) (by have := n1'.out; show xn ≤ 4; omega) (by show yn ≤ _; omega) n3'.out (cols_map _ HC1.out) HC3.out (by omega)).mono ?_
         rintro e x2 ⟨⟨r2, rfl, hs2⟩, hb2⟩
         rw [← hOR.out, ← hOB.out] at hs2
         have hfin := sc_final HP.out hV4 (factor_pos _) (factor_pos _) h.out.rows.len h.out.bounds.len HS1.out hs2
         have a1 := rbox_keep al1 hb2
         have hb12 := ab1.trans (hb2.mono ab1.size)
         clear al1 bQ1 hq1 q0 q1 q2 q3 hs2 HS1
         have hbx2 := (hbW.trans (hb1.mono hbW.size)).trans (hb12.mono (hbW.trans (hb1.mono hbW.size)).size)
         obtain ⟨k1, k2, l, hl, v1, v2⟩ | ⟨k1, k2⟩ | ⟨k1, k2⟩ := hfin
         ·obtain ⟨a10, a11, -⟩ := rbox_cell a1
          have sx1 : x1.heap.size < x2.heap.size := lt_of_block a1
          go_wp2_with fail
          have ab2 : Below x2.heap.size x2 (x2.alloc (.cells (rcells 1 r2) 39)) := (Below.refl _ _).alloc (Nat.le_refl _) _
          with_reducible refine (equalT_calls (sa := r1.X) (sb := r2.X) ((v1.below hb12).below ab2) (v2.below ab2) (by rw [LM_eq]; omega) (by rw [LM_eq]; omega) (by rw [← v1.len]; omega) (by rw [← v2.len]; omega)).mono ?_
          rintro e x3 ⟨rfl, hb3⟩
          have hbx3 := (hbx2.trans (ab2.mono hbx2.size)).trans (hb3.mono (hbx2.trans (ab2.mono hbx2.size)).size)
          go_wp2_with fail
          refine alive_calls.mono ?_
          rintro e x4 ⟨rfl, hb4⟩
          have hbx4 := hbx3.trans (hb4.mono hbx3.size)
          go_wp2
          go_ret
          exact ⟨rfl, hbx4⟩
         ·skip
          obtain ⟨a10, a11, -⟩ := rbox_cell a1
          have sx1 : x1.heap.size < x2.heap.size := lt_of_block a1
          go_wp2_with fail
          have ab2 : Below x2.heap.size x2 (x2.alloc (.cells (rcells 2 r2) 39)) := (Below.refl _ _).alloc (Nat.le_refl _) _
          have hbx3 := hbx2.trans (ab2.mono hbx2.size)
          refine alive_calls.mono ?_
          rintro e x4 ⟨rfl, hb4⟩
          have hbx4 := hbx3.trans (hb4.mono hbx3.size)
          go_wp2
          go_ret
          exact ⟨rfl, hbx4⟩
         ·skip
          obtain ⟨a10, a11, -⟩ := rbox_cell a1
          have sx1 : x1.heap.size < x2.heap.size := lt_of_block a1
          go_wp2_with fail
          have ab2 : Below x2.heap.size x2 (x2.alloc (.cells (rcells 3 r2) 39)) := (Below.refl _ _).alloc (Nat.le_refl _) _
          have hbx3 := hbx2.trans (ab2.mono hbx2.size)
          refine alive_calls.mono ?_
          rintro e x4 ⟨rfl, hb4⟩
          have hbx4 := hbx3.trans (hb4.mono hbx3.size)
          go_wp2
          go_ret
          exact ⟨rfl, hbx4⟩
        ·have HM2 : Hid (ScMid w ⟨V, ⟨oA, i, oc⟩, ⟨rA, rn, rc⟩, ⟨bA, rn, bc⟩⟩ u3 v3 (qabs jq + ((1 : Int) : Rat)) (qabs kq + ((1 : Int) : Rat)) d (os.map fun l => l.map ((qabs kq + ((1 : Int) : Rat)) * ·)) (scRows rn at' (qabs jq + ((1 : Int) : Rat)) rs) (scBounds rn at' (qabs jq + ((1 : Int) : Rat)) bs) wr) := HM.out
         clear HM
         have h0' : 0 < (rn : Int) := by omega
         obtain ⟨c, HC⟩ : ∃ c : Nat, Hid (c = at' % rn) := ⟨_, rfl⟩
         have hc : c < rn := by rw [HC.out]; exact Nat.mod_lt _ (by omega)
         have hrem : Int.tmod (at' : Int) (rn : Int) = (c : Int) := by rw [HC.out]; exact tmod_nat at' rn
         have hcw : IntKind.i64.wrap (c : Int) = (c : Int) := IntWalk.i64_in _ (by omega)
         have haw : IntKind.i64.wrap (at' : Int) = (at' : Int) := IntWalk.i64_in _ (by omega)
         have hn0 : ¬ ((rn : Int) = 0) := by omega
         obtain ⟨hB, va, vb, vc, G, s1, s2, s3, l1, l2, l3, hQ, e1, e2, e3⟩ := HM2.out
         have HE := Lib.hid (And.intro l1 (And.intro l2 (And.intro l3 (And.intro e1 (And.intro e2 e3)))))
         clear l1 l2 l3 e1 e2 e3
         obtain ⟨c0, c1, c2, c3, cf⟩ := hQ.cells
         have hdl := hQ.dlt
         have hbl := hQ.bel.size
         have hdr : Below wr.heap.size wr wr.drew := (Below.refl _ _).drew
         have t0 : w.heap.size < wr.heap.size := by omega
         obtain ⟨-, p1, p2, p3, -⟩ := id hB.bP
         dsimp only at p1 p2 p3
         obtain ⟨ad, r, e, -, r0', hr⟩ := HF.out.2.2.2.2.2.2.2.2.rows.row c hc
         dsimp only at e
         subst e
         obtain ⟨qA, qn, qc⟩ := r
         have HR := Lib.hid hr
         clear hr
         have r0 : wr.cell? (ad.add c) = some (.slice qA qn qc) := (hQ.bel.cell (block_lt_of_cell r0')).trans r0'
         clear r0'
         have hal : (ad.add c).block < wr.heap.size := block_lt_of_cell r0
         have Hnew : Hid (VecIs wr.drew (fun b => ¬ G b) (fun b => ¬ G b) 16 ⟨qA, qn, qc⟩ (rs.getD c [])) := (old_vec hQ HR.out).below hdr
         go_upto_region 17 with fail
         refine wp_plain_G 11 (fun f w' => f = false → Sees w.heap.size [] wr w') (by kernel_rfl) ?_
         have hS0 : Sees w.heap.size [] wr wr.drew := Sees.st (by simp) hbl
         refine takeA (i := 0) ?_ rfl rfl (by kernel_rfl) (by kernel_rfl) (by kernel_rfl) (by decide) (fun _ _ _ h => h) (by rfl) (fun w' hSw => ?_) (fun _ => hS0) ?_
         rotate_left
         ·((obtain ⟨_, hSw⟩ := hSw); (try dsimp only at hSw); go_simp; try with_reducible rfl)
         simp only [zzA, zzB, zzC]
         refine takeA (i := 2) ?_ rfl rfl (by kernel_rfl) (by kernel_rfl) (by kernel_rfl) (by decide) (fun _ _ _ h => h) (by rfl) (fun w' hSw => ?_) (fun _ => hS0) ?_
         rotate_left
         ·((obtain ⟨_, hSw⟩ := hSw); (try dsimp only at hSw); go_simp; try with_reducible rfl)
         simp only [zzA, zzB, zzC]
         refine takeA (i := 4) ?_ rfl rfl (by kernel_rfl) (by kernel_rfl) (by kernel_rfl) (by decide) (fun _ _ _ h => h) (by rfl) (fun w' hSw => ?_) (fun _ => hS0) ?_
         rotate_left
         ·((obtain ⟨_, hSw⟩ := hSw); (try dsimp only at hSw); go_simp; try with_reducible rfl)
         simp only [zzA, zzB, zzC]
         refine takeA (i := 5) ?_ rfl rfl (by kernel_rfl) (by kernel_rfl) (by kernel_rfl) (by decide) (fun _ _ _ h => h) (by rfl) (fun w' hSw => ?_) (fun _ => hS0) ?_
         rotate_left
         ·((obtain ⟨_, hSw⟩ := hSw); (try dsimp only at hSw); go_simp; try with_reducible rfl)
         simp only [zzA, zzB, zzC]
         refine takeA (i := 6) ?_ rfl rfl (by kernel_rfl) (by kernel_rfl) (by kernel_rfl) (by decide) (fun _ _ _ h => h) (by rfl) (fun w' hSw => ?_) (fun _ => hS0) ?_
         rotate_left
         ·((obtain ⟨_, hSw⟩ := hSw); (try dsimp only at hSw); go_simp; try with_reducible rfl)
         simp only [zzA, zzB, zzC]
         refine takeA (i := 7) ?_ rfl rfl (by kernel_rfl) (by kernel_rfl) (by kernel_rfl) (by decide) (fun _ _ _ h => h) (by rfl) (fun w' hSw => ?_) (fun _ => hS0) ?_
         rotate_left
         ·((obtain ⟨_, hSw⟩ := hSw); (try dsimp only at hSw); go_simp; try with_reducible rfl)
         simp only [zzA, zzB, zzC]
         refine takeW (i := 1) (vb) rfl rfl (by kernel_rfl) (by kernel_rfl) (by kernel_rfl) (by kernel_rfl) (by kernel_rfl) (fun _ _ _ h => h) (by rfl) (fun w' hSw => ?_) (fun _ => hS0) ?_
         ·(replace hSw := hSw rfl; go_simp; try with_reducible rfl)
         simp only [zzA, zzB, zzC]
         refine oneW (i := 3) (by kernel_rfl) rfl (by rfl) ?_
         intro K hK
         go_simp
         refine hK.out _ _ (fun _ => hS0) ?_
         clear hK K
         refine oneW (i := 8) (by kernel_rfl) rfl (by rfl) ?_
         intro K hK
         go_simp
         refine hK.out _ _ (fun _ => hS0) ?_
         clear hK K
         refine oneW (i := 9) (by kernel_rfl) rfl (by rfl) ?_
         intro K hK
         go_simp
         refine hK.out _ _ (fun _ => hS0) ?_
         clear hK K
         refine oneW (i := 10) (by kernel_rfl) rfl (by rfl) ?_
         intro K hK
         go_simp
         refine hK.out _ _ (fun _ => Sees.al hS0) ?_
         clear hK K
         have hown := (own_of (hQ.call hdr)).2.1
         rw [scRows_length] at hown
         refine oneW (i := 11) (by kernel_rfl) rfl (by rfl) ?_
         intro K hK
         refine oper_append_own _ _ 22 rfl (d + 1) 23 ii0 (.slice none 0 0) 1 24 Tryz.underlying22 hii hzi0 hzi1 hzi2 rfl (by decide) vb rn (s2.map SV.val) rfl (hown.alloc _) ⟨wr.drew.heap.size, 0, none⟩ 1 1 [.slice qA qn qc] rfl rfl (cell_one_new _ _ _) (by intro u hu; simp at hu; rcases hu with rfl <;> rfl) (by simp [maxLen]; omega) (by omega) (by have := hdr.size; simp; omega) ?_
         intro v' W5 hown5 hg5 hnil5 hat5
         have d1 : W5.cell? ⟨d, 2, none⟩ = some vb := (World.cell?_of_block (a := ⟨d, 2, none⟩) ((hQ.call hdr).app_blk (f := 2) (by omega) (by omega) hg5 (Nat.lt_of_lt_of_le hdl hdr.size) (.inr rfl))).trans ((hdr.cell (p := ⟨d, 2, none⟩) hdl).trans c2)
         have df : ∀ o, W5.frozen? ⟨d, o, none⟩ = false := fun o => (World.frozen?_of_block (a := ⟨d, o, none⟩) ((hQ.call hdr).app_blk (f := 2) (by omega) (by omega) hg5 (Nat.lt_of_lt_of_le hdl hdr.size) (.inr rfl))).trans ((hQ.call hdr).cells.2.2.2.2 o)
         have Hm : Hid (ScMid w ⟨V, ⟨oA, i, oc⟩, ⟨some ad, rn, rc⟩, ⟨bA, rn, bc⟩⟩ u3 v3 (qabs jq + ((1 : Int) : Rat)) (qabs kq + ((1 : Int) : Rat)) d (os.map fun l => l.map ((qabs kq + ((1 : Int) : Rat)) * ·)) ((scRows rn at' (qabs jq + ((1 : Int) : Rat)) rs) ++ [rs.getD c []]) (scBounds rn at' (qabs jq + ((1 : Int) : Rat)) bs) (W5.setCell ⟨d, 2, none⟩ v')) := by
          obtain ⟨l1, l2, l3, e1, e2, e3⟩ := HE.out
          refine mid_add2 hB l1 l2 l3 hQ e1 e2 e3 hdr (x := ⟨qA, qn, qc⟩) Hnew.out ?_ hg5 hat5
          rw [scRows_length]; exact hown5
         obtain ⟨g5, c5, rfl⟩ := ownsRow_succ hown5
         simp only [Act.put, List.setIfInBounds_toArray, List.set_cons_zero, List.set_cons_succ]
         refine hK.out _ _ (fun h => absurd h (by decide)) ?_
         clear hK K hown hown5 hg5 hat5 hnil5 hS0 hQ hB HE Hnew HR r0 p1 p2 p3 c0 c1 c2 c3 cf
         refine oneW (i := 12) (by kernel_rfl) rfl (by rfl) ?_
         intro K hK
         go_simp
         refine hK.out _ _ (fun h => absurd h (by decide)) ?_
         clear hK K
         refine oneW (i := 13) (by kernel_rfl) rfl (by rfl) ?_
         intro K hK
         go_simp
         refine hK.out _ _ (fun h => absurd h (by decide)) ?_
         clear hK K d1 df
         refine wpAnyG_done (by kernel_rfl) ?_ _
         generalize W5.setCell ⟨d, 2, none⟩ (.slice (some ⟨g5, 0, none⟩) (rn + 1) c5) = wq at *
         clear hdl hbl hdr t0 hal
         obtain ⟨hB, va, vb, vc, G, s1, s2, s3, l1, l2, l3, hQ, e1, e2, e3⟩ := Hm.out
         have HE := Lib.hid (And.intro l1 (And.intro l2 (And.intro l3 (And.intro e1 (And.intro e2 e3)))))
         clear l1 l2 l3 e1 e2 e3
         obtain ⟨c0, c1, c2, c3, cf⟩ := hQ.cells
         have hdl := hQ.dlt
         have hbl := hQ.bel.size
         have hdr : Below wq.heap.size wq wq.drew := (Below.refl _ _).drew
         have t0 : w.heap.size < wq.heap.size := by omega
         obtain ⟨-, p1, p2, p3, -⟩ := id hB.bP
         dsimp only at p1 p2 p3
         obtain ⟨bd, bv, e, -, q0, hq⟩ := HF.out.2.2.2.2.2.2.2.2.bounds.elem c hc
         dsimp only at e
         subst e
         have HR := Lib.hid hq
         clear hq
         obtain ⟨q0, q1, q2, q3⟩ := qcell_below q0 hQ.bel
         have hal : (bd.add (c * 4)).block < wq.heap.size := block_lt_of_cell q0
         have Hnew : Hid (QIs wq.drew (fun b => ¬ G b) 16 bv (bs.getD c 0)) := (old_q hQ HR.out).below hdr
         go_upto_region 18 with fail
         refine wp_plain_G 11 (fun f w' => f = false → Sees w.heap.size [] wq w') (by kernel_rfl) ?_
         have hS0 : Sees w.heap.size [] wq wq.drew := Sees.st (by simp) hbl
         refine takeA (i := 0) ?_ rfl rfl (by kernel_rfl) (by kernel_rfl) (by kernel_rfl) (by decide) (fun _ _ _ h => h) (by rfl) (fun w' hSw => ?_) (fun _ => hS0) ?_
         rotate_left
         ·((obtain ⟨_, hSw⟩ := hSw); (try dsimp only at hSw); go_simp; try with_reducible rfl)
         simp only [zzA, zzB, zzC]
         refine takeA (i := 2) ?_ rfl rfl (by kernel_rfl) (by kernel_rfl) (by kernel_rfl) (by decide) (fun _ _ _ h => h) (by rfl) (fun w' hSw => ?_) (fun _ => hS0) ?_
         rotate_left
         ·((obtain ⟨_, hSw⟩ := hSw); (try dsimp only at hSw); go_simp; try with_reducible rfl)
         simp only [zzA, zzB, zzC]
         refine takeA (i := 4) ?_ rfl rfl (by kernel_rfl) (by kernel_rfl) (by kernel_rfl) (by decide) (fun _ _ _ h => h) (by rfl) (fun w' hSw => ?_) (fun _ => hS0) ?_
         rotate_left
         ·((obtain ⟨_, hSw⟩ := hSw); (try dsimp only at hSw); go_simp; try with_reducible rfl)
         simp only [zzA, zzB, zzC]
         refine takeA (i := 5) ?_ rfl rfl (by kernel_rfl) (by kernel_rfl) (by kernel_rfl) (by decide) (fun _ _ _ h => h) (by rfl) (fun w' hSw => ?_) (fun _ => hS0) ?_
         rotate_left
         ·((obtain ⟨_, hSw⟩ := hSw); (try dsimp only at hSw); go_simp; try with_reducible rfl)
         simp only [zzA, zzB, zzC]
         refine takeA (i := 6) ?_ rfl rfl (by kernel_rfl) (by kernel_rfl) (by kernel_rfl) (by decide) (fun _ _ _ h => h) (by rfl) (fun w' hSw => ?_) (fun _ => hS0) ?_
         rotate_left
         ·((obtain ⟨_, hSw⟩ := hSw); (try dsimp only at hSw); go_simp; try with_reducible rfl)
         simp only [zzA, zzB, zzC]
         refine takeA (i := 7) ?_ rfl rfl (by kernel_rfl) (by kernel_rfl) (by kernel_rfl) (by decide) (fun _ _ _ h => h) (by rfl) (fun w' hSw => ?_) (fun _ => hS0) ?_
         rotate_left
         ·((obtain ⟨_, hSw⟩ := hSw); (try dsimp only at hSw); go_simp; try with_reducible rfl)
         simp only [zzA, zzB, zzC]
         refine takeW (i := 1) (vc) rfl rfl (by kernel_rfl) (by kernel_rfl) (by kernel_rfl) (by kernel_rfl) (by kernel_rfl) (fun _ _ _ h => h) (by rfl) (fun w' hSw => ?_) (fun _ => hS0) ?_
         ·(replace hSw := hSw rfl; go_simp; try with_reducible rfl)
         simp only [zzA, zzB, zzC]
         refine oneW (i := 3) (by kernel_rfl) rfl (by rfl) ?_
         intro K hK
         go_simp
         refine hK.out _ _ (fun _ => hS0) ?_
         clear hK K
         refine oneW (i := 8) (by kernel_rfl) rfl (by rfl) ?_
         intro K hK
         go_simp
         refine hK.out _ _ (fun _ => hS0) ?_
         clear hK K
         refine oneW (i := 9) (by kernel_rfl) rfl (by rfl) ?_
         intro K hK
         go_simp
         refine hK.out _ _ (fun _ => hS0) ?_
         clear hK K
         refine oneW (i := 10) (by kernel_rfl) rfl (by rfl) ?_
         intro K hK
         go_simp
         refine hK.out _ _ (fun _ => Sees.al hS0) ?_
         clear hK K
         have hown := (own_of (hQ.call hdr)).2.2
         rw [scBounds_length] at hown
         refine oneW (i := 11) (by kernel_rfl) rfl (by rfl) ?_
         intro K hK
         refine oper_append_own _ _ 23 rfl (d + 1) 30 iq0 (.agg #[.bool false, .slice none 0 0, .bool false, .slice none 0 0]) 4 64 Tryz.underlying23 hiq hzq0 hzq1 hzq2 rfl (by decide) vc rn (s3.flatMap cells4q) rfl (hown.alloc _) ⟨wq.drew.heap.size, 0, none⟩ 1 1 (cells4q bv) rfl rfl (cell_four_new _ _) (by intro u hu; simp [cells4q] at hu; rcases hu with rfl | rfl | rfl | rfl <;> rfl) (by simp [maxLen]; omega) (by omega) (by have := hdr.size; simp; omega) ?_
         intro v' W5 hown5 hg5 hnil5 hat5
         have d1 : W5.cell? ⟨d, 3, none⟩ = some vc := (World.cell?_of_block (a := ⟨d, 3, none⟩) ((hQ.call hdr).app_blk (f := 3) (by omega) (by omega) hg5 (Nat.lt_of_lt_of_le hdl hdr.size) (.inr rfl))).trans ((hdr.cell (p := ⟨d, 3, none⟩) hdl).trans c3)
         have df : ∀ o, W5.frozen? ⟨d, o, none⟩ = false := fun o => (World.frozen?_of_block (a := ⟨d, o, none⟩) ((hQ.call hdr).app_blk (f := 3) (by omega) (by omega) hg5 (Nat.lt_of_lt_of_le hdl hdr.size) (.inr rfl))).trans ((hQ.call hdr).cells.2.2.2.2 o)
         clear Hm
         have Hm : Hid (ScMid w ⟨V, ⟨oA, i, oc⟩, ⟨some ad, rn, rc⟩, ⟨some bd, rn, bc⟩⟩ u3 v3 (qabs jq + ((1 : Int) : Rat)) (qabs kq + ((1 : Int) : Rat)) d (os.map fun l => l.map ((qabs kq + ((1 : Int) : Rat)) * ·)) ((scRows rn at' (qabs jq + ((1 : Int) : Rat)) rs) ++ [rs.getD c []]) ((scBounds rn at' (qabs jq + ((1 : Int) : Rat)) bs) ++ [bs.getD c 0]) (W5.setCell ⟨d, 3, none⟩ v')) := by
          obtain ⟨l1, l2, l3, e1, e2, e3⟩ := HE.out
          refine mid_add3 hB l1 l2 l3 hQ e1 e2 e3 hdr (x := bv) Hnew.out ?_ hg5 hat5
          rw [scBounds_length]; exact hown5
         obtain ⟨g5, c5, rfl⟩ := ownsRow_succ hown5
         simp only [Act.put, List.setIfInBounds_toArray, List.set_cons_zero, List.set_cons_succ]
         refine hK.out _ _ (fun h => absurd h (by decide)) ?_
         clear hK K hown hown5 hg5 hat5 hnil5 hS0 hQ hB HE Hnew HR q0 q1 q2 q3 p1 p2 p3 c0 c1 c2 c3 cf
         refine oneW (i := 12) (by kernel_rfl) rfl (by rfl) ?_
         intro K hK
         go_simp
         refine hK.out _ _ (fun h => absurd h (by decide)) ?_
         clear hK K
         refine oneW (i := 13) (by kernel_rfl) rfl (by rfl) ?_
         intro K hK
         go_simp
         refine hK.out _ _ (fun h => absurd h (by decide)) ?_
         clear hK K d1 df
         refine wpAnyG_done (by kernel_rfl) ?_ _
         generalize W5.setCell ⟨d, 3, none⟩ (.slice (some ⟨g5, 0, none⟩) (rn + 1) c5) = Wt at *
         clear hdl hbl hdr t0 hal
         have HT : Hid (ScMid w ⟨V, ⟨oA, i, oc⟩, ⟨some ad, rn, rc⟩, ⟨some bd, rn, bc⟩⟩ u3 v3 (qabs jq + ((1 : Int) : Rat)) (qabs kq + ((1 : Int) : Rat)) d (os.map fun l => l.map ((qabs kq + ((1 : Int) : Rat)) * ·)) (if rn = 0 then [] else (scRows rn at' (qabs jq + ((1 : Int) : Rat)) rs) ++ [rs.getD (at' % rn) []]) (if rn = 0 then [] else (scBounds rn at' (qabs jq + ((1 : Int) : Rat)) bs) ++ [bs.getD (at' % rn) 0]) Wt) := by
          have := Hm.out
          rw [HC.out] at this
          rw [if_neg h0, if_neg h0]
          exact this
         clear Hm HC hc hrem hcw haw hn0 h0 h0'
         generalize hOR : (if rn = 0 then [] else (scRows rn at' (qabs jq + ((1 : Int) : Rat)) rs) ++ [rs.getD (at' % rn) []]) = RS at HT
         generalize hOB : (if rn = 0 then [] else (scBounds rn at' (qabs jq + ((1 : Int) : Rat)) bs) ++ [bs.getD (at' % rn) 0]) = BS at HT
         replace hOR := Lib.hid hOR
         replace hOB := Lib.hid hOB
         obtain ⟨⟨z, ⟨xA, xn, xc⟩, ⟨yA, yn, yc⟩, ⟨uA, un, uc⟩⟩, hz, bQ, hq, n1, n2, n3, hbW, bP, hdW⟩ := mid_prog HT.out
         clear HT
         dsimp only at hz n1 n2 n3
         subst hz
         have HQ := Lib.hid hq
         clear hq
         have n1' : Hid (xn = i) := by
          show xn = i
          rw [n1, List.length_map]; exact h.out.obj.len
         have n2' : yn ≤ 5 := by
          rw [n2, ← hOR.out]
          split
          ·simp
          ·simp [scRows]; omega
         have n3' : Hid (un = yn) := by
          show un = yn
          rw [n2, n3, ← hOR.out, ← hOB.out]
          split
          ·rfl
          ·simp [scRows, scBounds]
         have ho1 : 1 ≤ i := HF.out.2.2.1
         have HC1 : Hid (colsOf os ≤ V) := by have := HF.out.2.2.2.2.2.2.1; show colsOf os ≤ V; omega
         have HC2 : Hid (colsOf rs ≤ V) := by have := HF.out.2.2.2.2.2.2.2.1; show colsOf rs ≤ V; omega
         have HC3 : Hid (colsOf RS ≤ V) := by
          show colsOf RS ≤ V
          rw [← hOR.out]
          split
          ·exact colsOf_le.2 fun l hl => by simp at hl
          ·exact cols_sc HC2.out _
         have hV4 : V ≤ 4 := by have := HF.out.2.1; omega
         have HP := Lib.hid HF.out.2.2.2.2.2.2.2.2
         clear n1 n2 n3
         obtain ⟨p0, p1, p2, p3, -⟩ := id bP
         dsimp only at p0 p1 p2 p3
         have p00 : w.heap.size < Wt.heap.size := block_lt_of_cell p0
         go_wp2_with fail
         with_reducible refine (solveL_calls (p := ⟨V, ⟨oA, i, oc⟩, ⟨some ad, rn, rc⟩, ⟨some bd, rn, bc⟩⟩) (V := V) (HP.out.below hbW) rfl (by omega) ho1 hon (by show rn ≤ _; omega) rfl HC1.out HC2.out (by omega)).mono ?_
         rintro e x1 ⟨⟨r1, rfl, hs1⟩, hb1⟩
         have HS1 := Lib.hid hs1
         clear hs1
         have bQ1 := bQ.below hb1 hdW
         have hq1 := Lib.hid (HQ.out.below hb1)
         obtain ⟨q0, q1, q2, q3, -⟩ := id bQ1
         dsimp only at q0 q1 q2 q3
         have hd1 : d < x1.heap.size := block_lt_of_cell q0
         clear p0 p1 p2 p3 bQ HQ
         go_wp2_with fail
         have al1 : (x1.alloc (.cells (rcells r1.kind r1) 39)).heap[x1.heap.size]? = some (.cells (rcells r1.kind r1) 39 (0, 0)) := heap_new _ _ rfl
         have ab1 : Below x1.heap.size x1 (x1.alloc (.cells (rcells r1.kind r1) 39)) := (Below.refl _ _).alloc (Nat.le_refl _) _
         with_reducible refine (solveL_calls (p := ⟨V, ⟨xA, xn, xc⟩, ⟨yA, yn, yc⟩, ⟨uA, un, uc⟩⟩) (V := V) (hq1.out.below ab1) rfl (by omega) (by have := n1'.out; show 1 ≤ xn; omega) (by have := n1'.out; show xn ≤ 4; omega) (by show yn ≤ _; omega) n3'.out (cols_map _ HC1.out) HC3.out (by omega)).mono ?_
         rintro e x2 ⟨⟨r2, rfl, hs2⟩, hb2⟩
         rw [← hOR.out, ← hOB.out] at hs2
         have hfin := sc_final HP.out hV4 (factor_pos _) (factor_pos _) h.out.rows.len h.out.bounds.len HS1.out hs2
         have a1 := rbox_keep al1 hb2
         have hb12 := ab1.trans (hb2.mono ab1.size)
         clear al1 bQ1 hq1 q0 q1 q2 q3 hs2 HS1
         have hbx2 := (hbW.trans (hb1.mono hbW.size)).trans (hb12.mono (hbW.trans (hb1.mono hbW.size)).size)
         obtain ⟨k1, k2, l, hl, v1, v2⟩ | ⟨k1, k2⟩ | ⟨k1, k2⟩ := hfin
         ·obtain ⟨a10, a11, -⟩ := rbox_cell a1
          have sx1 : x1.heap.size < x2.heap.size := lt_of_block a1
          go_wp2_with fail
          have ab2 : Below x2.heap.size x2 (x2.alloc (.cells (rcells 1 r2) 39)) := (Below.refl _ _).alloc (Nat.le_refl _) _
          with_reducible refine (equalT_calls (sa := r1.X) (sb := r2.X) ((v1.below hb12).below ab2) (v2.below ab2) (by rw [LM_eq]; omega) (by rw [LM_eq]; omega) (by rw [← v1.len]; omega) (by rw [← v2.len]; omega)).mono ?_
          rintro e x3 ⟨rfl, hb3⟩
          have hbx3 := (hbx2.trans (ab2.mono hbx2.size)).trans (hb3.mono (hbx2.trans (ab2.mono hbx2.size)).size)
          go_wp2_with fail
          refine alive_calls.mono ?_
          rintro e x4 ⟨rfl, hb4⟩
          have hbx4 := hbx3.trans (hb4.mono hbx3.size)
          go_wp2
          go_ret
          exact ⟨rfl, hbx4⟩
         ·skip
          obtain ⟨a10, a11, -⟩ := rbox_cell a1
          have sx1 : x1.heap.size < x2.heap.size := lt_of_block a1
          go_wp2_with fail
          have ab2 : Below x2.heap.size x2 (x2.alloc (.cells (rcells 2 r2) 39)) := (Below.refl _ _).alloc (Nat.le_refl _) _
          have hbx3 := hbx2.trans (ab2.mono hbx2.size)
          refine alive_calls.mono ?_
          rintro e x4 ⟨rfl, hb4⟩
          have hbx4 := hbx3.trans (hb4.mono hbx3.size)
          go_wp2
          go_ret
          exact ⟨rfl, hbx4⟩
         ·skip
          obtain ⟨a10, a11, -⟩ := rbox_cell a1
          have sx1 : x1.heap.size < x2.heap.size := lt_of_block a1
          go_wp2_with fail
          have ab2 : Below x2.heap.size x2 (x2.alloc (.cells (rcells 3 r2) 39)) := (Below.refl _ _).alloc (Nat.le_refl _) _
          have hbx3 := hbx2.trans (ab2.mono hbx2.size)
          refine alive_calls.mono ?_
          rintro e x4 ⟨rfl, hb4⟩
          have hbx4 := hbx3.trans (hb4.mono hbx3.size)
          go_wp2
          go_ret
          exact ⟨rfl, hbx4⟩
end Go.Proofs.YtjkggfcppkgapaaGreat
