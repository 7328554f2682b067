/- Texts OptmM Optm of this claim. -/
import Derived.Test.YtlepljpdkbjbhaaGreatT23
import Derived.Test.YtlepljpdkbjbhaaGreatT22
import Derived.Test.YtlepljpdkbjbhaaGreatT24
namespace Go.Proofs.YtlepljpdkbjbhaaGreat
open Go.RowKit Go.Shelf Lin
theorem dir_fits {P : Prob} {D : Dict} {k s : Nat} (h : D.Fits P k) (hs : s < P.n) (v : Nat) : Lin.Fits k (D.dir P s v) := by
 unfold Dict.dir
 split
 ·rename_i hf; exact (h.1 _ _ hf (Nat.le_of_lt hs)).neg
 ·split
  ·exact Lin.Fits.one _
  ·exact Lin.Fits.zero _
theorem vcmp_lexneg {f g : Nat → Rat} {N : Nat} (h : LexPos N fun l => g l - f l) : vcmp f g N = -1 := by
 obtain ⟨i, hi, h1, h2⟩ := h
 rw [vcmp_first (x := i) (fun j hj => by have := h2 j hj; grind) (by grind) hi]
 unfold qcmp; grind
theorem feas_dot {V : Nat} {os rs : List (List Rat)} {bs x : List Rat} (hc : colsOf rs ≤ V) (hx : x.length = V) : ((∀ k, k < x.length → 0 ≤ x.getD k 0) ∧ ∀ i, i < rs.length → dotL (rs.getD i []) x ≤ bs.getD i 0) ↔ (probOf V os rs bs).Feasible fun k => x.getD k 0 := by
 constructor
 ·rintro ⟨h1, h2⟩
  refine ⟨fun k hk => h1 k (by rw [hx]; exact hk), fun i hi => ?_⟩
  have := h2 i hi
  rw [dotL_sum (getD_cols hc i) hx] at this
  exact this
 ·rintro ⟨h1, h2⟩
  refine ⟨fun k hk => h1 k (by rw [hx] at hk; exact hk), fun i hi => ?_⟩
  rw [dotL_sum (getD_cols hc i) hx]
  exact h2 i hi
def OptmOut (V : Nat) (os rs : List (List Rat)) (bs x : List Rat) (r : RV) (w' : World) : Prop :=
 (r.kind = 2 ∧ ¬ (probOf V os rs bs).Feasible fun k => x.getD k 0) ∨
 (r.kind = 1 ∧ ∃ l : List Rat, l.length = V ∧ (∀ i, Lin.Fits 180000 (l.getD i 0)) ∧ VecIs w' AllB AllB 6000 r.X l ∧ (((probOf V os rs bs).Feasible fun k => x.getD k 0) → lpcmp os x l < 0 ∨ ∀ i, i < V → x.getD i 0 = l.getD i 0)) ∨
 (r.kind = 3 ∧ ∃ l l' : List Rat, l.length = V ∧ l'.length = V ∧ (∀ i, Lin.Fits 180000 (l.getD i 0)) ∧ (∀ i, Lin.Fits 180000 (l'.getD i 0)) ∧ VecIs w' AllB AllB 6000 r.X l ∧ VecIs w' AllB AllB 6000 r.R l' ∧ (probOf V os rs bs).Unbounded (fun k => l.getD k 0) fun k => l'.getD k 0)
theorem loose_all {w : World} {X Y : Nat → Prop} {N L : Nat} {s : SV} {l : List Rat} (h : VecCan w X Y s l) (hF : ∀ i, Lin.Fits N (l.getD i 0)) (hN : N < 32 * L) : VecIs w AllB AllB L s l :=
 (h.loose fun i => qfit_to (hF i) hN).imp (fun _ _ _ => trivial) fun _ _ hq => hq.imp fun _ _ _ => trivial
theorem optm_out {w1 x1 : World} {r : RV} {V k : Nat} {os rs : List (List Rat)} {bs x : List Rat} (hc : colsOf os ≤ V) (hx : x.length = V) (hV : V ≤ 4) (h1 : Solved w1 (probOf V os rs bs) r x1)
  (p1 : 1 ≤ k) (q1 : k ≤ 288) (f1 : (probOf V os rs bs).start.Fits (probOf V os rs bs) k) : OptmOut V os rs bs x r x1 := by
 have h5 : 5 ^ V ≤ 625 := Nat.le_trans (Nat.pow_le_pow_right (by omega) hV) (by decide)
 have n1 : 5 ^ V * k ≤ 180000 := Nat.le_trans (Nat.mul_le_mul h5 q1) (by decide)
 have hh1 := h1
 rcases h1 with ⟨e1, _⟩ | ⟨e1, _, _, _, _, _, _, no1, _⟩ | ⟨e1, l, l', ll, ll', hu, hX, hR, D, s, hg, hs, el, el'⟩
 ·obtain ⟨l, ll, lf, lv, lo⟩ := opt_vec hh1 e1 p1 f1 n1 (by decide)
  refine .inr (.inl ⟨e1, l, ll, lf, lv, fun hf => ?_⟩)
  rcases lo.2 _ hf with h | h
  ·left
   rw [lpcmp_obj (rs := rs) (bs := bs) hc hx ll]
   have h' : vcmp (fun i => (probOf V os rs bs).obj i fun k => x.getD k 0) (fun i => (probOf V os rs bs).obj i fun k => l.getD k 0) (os.length + V) = -1 := vcmp_lexneg h
   rw [h']; decide
  ·exact .inr h
 ·exact .inl ⟨e1, no1 _⟩
 ·have hF := hg.fits p1 f1
  have g1 : ∀ i, Lin.Fits 180000 (l.getD i 0) := fun i => by
   by_cases hi : i < V
   ·rw [el, getD_map_range _ _ (show i < (probOf V os rs bs).n from hi)]; exact (point_fits hF i).mono n1
   ·rw [getD_none _ _ _ (by rw [ll]; exact Nat.le_of_not_lt hi)]; exact Lin.Fits.zero _
  have g2 : ∀ i, Lin.Fits 180000 (l'.getD i 0) := fun i => by
   by_cases hi : i < V
   ·rw [el', getD_map_range _ _ (show i < (probOf V os rs bs).n from hi)]; exact (dir_fits hF hs i).mono n1
   ·rw [getD_none _ _ _ (by rw [ll']; exact Nat.le_of_not_lt hi)]; exact Lin.Fits.zero _
  exact .inr (.inr ⟨e1, l, l', ll, ll', g1, g2, loose_all hX g1 (by decide), loose_all hR g2 (by decide), hu⟩)
theorem along {V : Nat} {os rs : List (List Rat)} {bs l l' : List Rat} (hco : colsOf os ≤ V) (_ll : l.length = V) (_ll' : l'.length = V) (hu : (probOf V os rs bs).Unbounded (fun k => l.getD k 0) fun k => l'.getD k 0) {t : Rat} (ht : 0 ≤ t) {z m : List Rat}
  (hz : z = (List.range V).map fun i => t * l'.getD i 0 + l.getD i 0) (hm : m = (List.range V).map fun i => z.getD i 0 + l'.getD i 0) :
  ((probOf V os rs bs).Feasible fun k => z.getD k 0) ∧ ((probOf V os rs bs).Feasible fun k => m.getD k 0) ∧ vcmp (fun i => (os.map fun r => dotL r m).getD i 0) (fun i => (os.map fun r => dotL r z).getD i 0) os.length = 1 := by
 have ez : ∀ k, k < V → z.getD k 0 = l.getD k 0 + t * l'.getD k 0 := fun k hk => by rw [hz, getD_map_range _ _ hk]; grind
 have em : ∀ k, k < V → m.getD k 0 = z.getD k 0 + 1 * l'.getD k 0 := fun k hk => by rw [hm, getD_map_range _ _ hk]; grind
 have fz : (probOf V os rs bs).Feasible fun k => z.getD k 0 := (hu.move hu.1 ht).congr fun k hk => (ez k hk).symm
 have fm : (probOf V os rs bs).Feasible fun k => m.getD k 0 := (hu.move fz (by decide : (0 : Rat) ≤ 1)).congr fun k hk => (em k hk).symm
 refine ⟨fz, fm, ?_⟩
 have hr := hu.rise (fun k => z.getD k 0) (t := 1) (by decide)
 have hzl : z.length = V := by rw [hz]; simp
 have hml : m.length = V := by rw [hm]; simp
 have e1 : ∀ y : List Rat, y.length = V → ∀ i, i < os.length → (os.map fun r => dotL r y).getD i 0 = sum V fun k => (os.getD i []).getD k 0 * y.getD k 0 := fun y hy i hi => by
  rw [show (os.map fun r => dotL r y).getD i 0 = dotL (os.getD i []) y by simp [List.getD_eq_getElem?_getD, hi], dotL_sum (getD_cols hco i) hy]
 refine vcmp_lex (hr.congr fun i hi => ?_)
 have hi' : i < os.length := hi
 rw [e1 m hml i hi', e1 z hzl i hi']
 congr 1
 exact sum_congr fun k hk => by rw [em k hk]; rfl
end Go.Proofs.YtlepljpdkbjbhaaGreat
namespace Go.Proofs.YtlepljpdkbjbhaaGreat
open Go.RowKit Go.Shelf
theorem rbox_ray {w : World} {b : Nat} {k : Int} {r : RV} (h : RBox w b k r) : w.cell? ⟨b, 3, none⟩ = some (.slice r.R.A r.R.n r.R.c) := by
 simp only [World.cell?, h]; rfl
theorem compareG_calls {w : World} {X Y X' Y' : Nat → Prop} {L M : Nat} {sa sb : SV} {la lb : List Rat} (ha : VecIs w X Y L sa la) (hb : VecIs w X' Y' M sb lb) (hL : L ≤ LM) (hM : M ≤ LM) {N : Nat} (hna : la.length = N) (hnb : lb.length = N) (hN : N ≤ 1000000) (ho : vcmp (fun i => la.getD i 0) (fun i => lb.getD i 0) N = 1) :
  Calls Tryz.prog 34 #[sa.val, sb.val] w fun e w' => e = .returned (.int .i64 1) ∧ Below w.heap.size w w' :=
 compareV_calls 1 ha hb hL hM (by omega) (by omega) (by rw [hna, hnb, Nat.max_self]; exact ho)
theorem scale_add_fits {t : Rat} {l l' z m : List Rat} {V : Nat} (ht : Lin.Fits 10 t) (hl : ∀ i, Lin.Fits 180000 (l.getD i 0)) (hl' : ∀ i, Lin.Fits 180000 (l'.getD i 0)) (hz : z = (List.range V).map fun i => t * l'.getD i 0 + l.getD i 0) (hm : m = (List.range V).map fun i => z.getD i 0 + l'.getD i 0) :
  (∀ i, Lin.Fits 370000 (z.getD i 0)) ∧ ∀ i, Lin.Fits 560000 (m.getD i 0) := by
 have f1 : ∀ i, Lin.Fits 370000 (z.getD i 0) := fun i => by
  rw [hz]
  by_cases hi : i < V
  ·rw [getD_map_range _ _ hi]; exact ((ht.mul (hl' i)).add (hl i)).mono (by omega)
  ·rw [getD_none _ _ _ (by simp; omega)]; exact Lin.Fits.zero _
 refine ⟨f1, fun i => ?_⟩
 rw [hm]
 by_cases hi : i < V
 ·rw [getD_map_range _ _ hi]; exact ((f1 i).add (hl' i)).mono (by omega)
 ·rw [getD_none _ _ _ (by simp; omega)]; exact Lin.Fits.zero _
theorem feasP_calls {w : World} {X Y X' Y' : Nat → Prop} {L M V : Nat} (kb : Nat) {p : LPV} {os rs : List (List Rat)} {bs x : List Rat} {s : SV} (b : Bool) (h : LPIs w X Y L p os rs bs) (hV : p.n = V) (hV2 : V ≤ 64) (ho1 : 1 ≤ p.O.n) (ho2 : p.O.n ≤ 4) (hr : p.R.n ≤ 128) (hb : p.B.n = p.R.n) (hco : colsOf os ≤ V) (hcr : colsOf rs ≤ V)
  (hx : VecIs w X' Y' M s x) (hxl : x.length = V) (hL : L ≤ LM) (hM : M ≤ LM) (hkb : 1000000 * (kb + 1) < 32 * LM) (hf : ∀ i k, Lin.Fits kb ((rs.getD i []).getD k 0 * x.getD k 0)) (hbb : (if b = true then id else Not) ((probOf V os rs bs).Feasible fun k => x.getD k 0)) :
  Calls Tryz.prog 31 #[p.val, s.val] w fun e w' => e = .returned (.bool b) ∧ Below w.heap.size w w' :=
 feasible_calls b h hV hV2 ho1 ho2 hr hb hco hcr hx (by omega) hL hM hkb hf (by
  cases b with
  | true => exact ⟨fun _ => rfl, fun _ => (feas_dot hcr hxl).2 hbb⟩
  | false => exact ⟨fun h => absurd ((feas_dot hcr hxl).1 h) hbb, fun h => by cases h⟩)
set_option maxRecDepth 40000 in
set_option maxHeartbeats 8000000 in
theorem optimal_calls' {w : World} {p : LPV} {r : SV} {row : List Rat} {far : Nat} {os rs : List (List Rat)} {bs : List Rat} (h : LPRaw w AllB (QAny w AllB) p os rs bs) (hr : VecAt w AllB (QAny w AllB) r row) (hfar : far < 256) :
  Calls Tryz.prog 5 #[p.val, r.val, .int .u8 far] w fun e w' => e = .returned (.bool true) ∧ Below w.heap.size w w' := by
 obtain ⟨z, ⟨oA, on, oc⟩, ⟨rA, rn, rc⟩, ⟨bA, bn, bc⟩⟩ := p
 obtain ⟨qA, qn, qc⟩ := r
 replace h := Lib.hid h
 replace hr := Lib.hid hr
 dsimp only [LPV.val, SV.val] at *
 go_enter Tryz.func5, Tryz.ntmps5
 go_upto_region 1 with fail
 refine gen_world (fun W => Below w.heap.size w W ∧ Box4 W w.heap.size (.int .i64 z) (.slice oA on oc) (.slice rA rn rc) (.slice bA bn bc) ∧ w.heap.size < W.heap.size) ⟨((Below.refl _ _).alloc (by simp <;> omega) _), ⟨by go_simp, by go_simp, by go_simp, by go_simp, by intro o; go_simp⟩, by simp <;> omega⟩ ?_
 rintro W ⟨hbW, bP, s0⟩
 have hBW := hbW.size
 obtain ⟨p0, p1, p2, p3, -⟩ := id bP
 clear hBW
 go_wp2_with fail
 refine (long08_calls (p := ⟨z, ⟨oA, on, oc⟩, ⟨rA, rn, rc⟩, ⟨bA, bn, bc⟩⟩) (h.out.below hbW)).mono ?_
 rintro e w1 ⟨⟨b, rfl, hbb⟩, hb1⟩
 cases b with
 | true =>
  clear hbb
  replace bP := bP.below hb1 s0
  replace s0 := Nat.lt_of_lt_of_le s0 hb1.size
  replace hbW := hbW.trans (hb1.mono hbW.size)
  clear p0 p1 p2 p3
  obtain ⟨p0, p1, p2, p3, -⟩ := id bP
  go_wp2_with fail
  refine alive_calls.mono ?_
  rintro e wl ⟨rfl, hbl⟩
  have hbf := hbW.trans (hbl.mono hbW.size)
  go_wp2
  go_ret
  exact ⟨rfl, hbf⟩
 | false =>
  have HS := Lib.hid (And.intro (Short6.back h.out hbW (hbb rfl).1) (hbb rfl).2)
  clear hbb
  replace bP := bP.below hb1 s0
  replace s0 := Nat.lt_of_lt_of_le s0 hb1.size
  replace hbW := hbW.trans (hb1.mono hbW.size)
  clear p0 p1 p2 p3
  obtain ⟨p0, p1, p2, p3, -⟩ := id bP
  go_wp2_with fail
  have al3 : (w1.alloc (.cells #[.slice qA qn qc] 23)).heap[w1.heap.size]? = some (.cells #[.slice qA qn qc] 23 (0, 0)) := heap_new _ _ rfl
  have hb3 : Below w1.heap.size w1 (w1.alloc (.cells #[.slice qA qn qc] 23)) := (Below.refl _ _).alloc (Nat.le_refl _) _
  replace bP := bP.below hb3 s0
  replace s0 := Nat.lt_of_lt_of_le s0 hb3.size
  replace hbW := hbW.trans (hb3.mono hbW.size)
  clear p0 p1 p2 p3
  obtain ⟨p0, p1, p2, p3, -⟩ := id bP
  refine (long03_calls (mat_one (s := ⟨qA, qn, qc⟩) al3 (vecAny_below hr.out hbW))).mono ?_
  rintro e w4 ⟨⟨b, rfl, hbb⟩, hb4⟩
  cases b with
  | true =>
   clear hbb
   replace bP := bP.below hb4 s0
   replace s0 := Nat.lt_of_lt_of_le s0 hb4.size
   replace hbW := hbW.trans (hb4.mono hbW.size)
   clear p0 p1 p2 p3
   obtain ⟨p0, p1, p2, p3, -⟩ := id bP
   go_wp2_with fail
   refine alive_calls.mono ?_
   rintro e wl ⟨rfl, hbl⟩
   have hbf := hbW.trans (hbl.mono hbW.size)
   go_wp2
   go_ret
   exact ⟨rfl, hbf⟩
  | false =>
   have HRow := Lib.hid (row_short (s := ⟨qA, qn, qc⟩) hr.out hbW al3 (hbb rfl).1)
   clear hbb al3
   replace bP := bP.below hb4 s0
   replace s0 := Nat.lt_of_lt_of_le s0 hb4.size
   replace hbW := hbW.trans (hb4.mono hbW.size)
   clear p0 p1 p2 p3
   obtain ⟨p0, p1, p2, p3, -⟩ := id bP
   go_wp2_with fail
   refine (may_calls (p := ⟨z, ⟨oA, on, oc⟩, ⟨rA, rn, rc⟩, ⟨bA, bn, bc⟩⟩) (h.out.below hbW)).mono ?_
   rintro e w2 ⟨rfl, hb2⟩
   replace bP := bP.below hb2 s0
   replace s0 := Nat.lt_of_lt_of_le s0 hb2.size
   replace hbW := hbW.trans (hb2.mono hbW.size)
   clear p0 p1 p2 p3
   obtain ⟨p0, p1, p2, p3, -⟩ := id bP
   obtain ⟨m, hmm⟩ : ∃ m, mayB ⟨z, ⟨oA, on, oc⟩, ⟨rA, rn, rc⟩, ⟨bA, bn, bc⟩⟩ os rs = m := ⟨_, rfl⟩
   rw [hmm]
   cases m with
   | false =>
    go_wp2_with fail
    refine alive_calls.mono ?_
    rintro e wl ⟨rfl, hbl⟩
    have hbf := hbW.trans (hbl.mono hbW.size)
    go_wp2
    go_ret
    exact ⟨rfl, hbf⟩
   | true =>
    clear hb1 hb2 hb3 hb4
    have HF := Lib.hid (short_prog HS.out.1 HS.out.2 hmm)
    obtain ⟨V, rfl⟩ : ∃ V : Nat, z = V := ⟨z.toNat, by have := HF.out.1; show z = (z.toNat : Int); simp only at this; omega⟩
    have hon : on ≤ 4 := HF.out.2.2.2.1
    have hrn : rn ≤ 4 := HF.out.2.2.2.2.1
    obtain rfl : rn = bn := HF.out.2.2.2.2.2.1.symm
    have ho1 : 1 ≤ on := HF.out.2.2.1
    have HC1 : Hid (colsOf os ≤ V) := by have h : (colsOf os : Int) ≤ (V : Int) := HF.out.2.2.2.2.2.2.1; show colsOf os ≤ V; omega
    have HC2 : Hid (colsOf rs ≤ V) := by have h : (colsOf rs : Int) ≤ (V : Int) := HF.out.2.2.2.2.2.2.2.1; show colsOf rs ≤ V; omega
    have hV4 : V ≤ 4 := by have h : (V : Int) ≤ 4 := HF.out.2.1; omega
    have HP := Lib.hid (HF.out.2.2.2.2.2.2.2.2)
    have HO : Hid (os.length = on) := HP.out.obj.len
    have HRl : Hid (rs.length = rn) := HP.out.rows.len
    clear HF HS hmm h hr
    go_wp2_with fail
    refine (solveL_calls (p := ⟨V, ⟨oA, on, oc⟩, ⟨rA, rn, rc⟩, ⟨bA, rn, bc⟩⟩) (V := V) (HP.out.below hbW) rfl (by omega) ho1 hon (by show rn ≤ _; omega) rfl HC1.out HC2.out (by omega)).mono ?_
    rintro e x1 ⟨⟨r1, rfl, hs1⟩, hx1⟩
    have HOut := Lib.hid (optm_out (x := resize row V) HC1.out (resize_length _ _) hV4 hs1 (by omega) (by omega) (prob_fits HP.out))
    clear hs1
    replace bP := bP.below hx1 s0
    replace s0 := Nat.lt_of_lt_of_le s0 hx1.size
    replace hbW := hbW.trans (hx1.mono hbW.size)
    clear p0 p1 p2 p3
    obtain ⟨p0, p1, p2, p3, -⟩ := id bP
    go_wp2_with fail
    have alA : (x1.alloc (.cells (rcells r1.kind r1) 37)).heap[x1.heap.size]? = some (.cells (rcells r1.kind r1) 37 (0, 0)) := heap_new _ _ rfl
    have abA : Below x1.heap.size x1 (x1.alloc (.cells (rcells r1.kind r1) 37)) := (Below.refl _ _).alloc (Nat.le_refl _) _
    replace bP := bP.below abA s0
    replace s0 := Nat.lt_of_lt_of_le s0 abA.size
    replace hbW := hbW.trans (abA.mono hbW.size)
    clear p0 p1 p2 p3
    obtain ⟨p0, p1, p2, p3, -⟩ := id bP
    refine (resize_calls (s := ⟨qA, qn, qc⟩) (HRow.out.below hbW) V (by omega) (by rw [LM_eq]; omega)).mono ?_
    rintro e w7 ⟨⟨⟨yA, yn, yc⟩, rfl, hz⟩, hb7⟩
    have a1 := rbox_keep alA hb7
    have sx1 : x1.heap.size < w7.heap.size := lt_of_block a1
    have hx17 := abA.trans (hb7.mono abA.size)
    replace bP := bP.below hb7 s0
    replace s0 := Nat.lt_of_lt_of_le s0 hb7.size
    replace hbW := hbW.trans (hb7.mono hbW.size)
    clear p0 p1 p2 p3
    obtain ⟨p0, p1, p2, p3, -⟩ := id bP
    have HR2 : Hid (VecIs w7 AllB AllB 7 ⟨yA, yn, yc⟩ (resize row V)) := (hz.loose (resize_fit HRow.out.fit V)).allB
    have hyn : yn = V := by rw [← resize_length row V]; exact hz.len.symm
    have Hyn := Lib.hid hyn
    clear hz hyn alA abA hb7 hx1
    rcases HOut.out with ⟨k1, hnf⟩ | ⟨k1, l, ll, lf, lv, himp⟩ | ⟨k1, l, l', ll, ll', lf, lf', lv, lv', hu⟩
    ·have HB := Lib.hid hnf
     clear hnf HOut hx17
     rw [k1] at a1
     obtain ⟨a10, a11, -⟩ := rbox_cell a1
     clear a1 k1
     go_wp2_with fail
     refine (feasP_calls 400000 false (p := ⟨V, ⟨oA, on, oc⟩, ⟨rA, rn, rc⟩, ⟨bA, rn, bc⟩⟩) (s := ⟨yA, yn, yc⟩) (HP.out.below hbW) rfl (by omega) ho1 hon (by show rn ≤ 128; omega) rfl HC1.out HC2.out HR2.out (resize_length _ _) (by rw [LM_eq]; omega) (by rw [LM_eq]; omega) (by rw [LM_eq]; omega) (fun i k => ((qfit_fits (HP.out.rows.fit i k)).mul (qfit_fits (HR2.out.fit k))).mono (by omega)) HB.out).mono ?_
     rintro e w8 ⟨rfl, hb8⟩
     replace bP := bP.below hb8 s0
     replace s0 := Nat.lt_of_lt_of_le s0 hb8.size
     replace hbW := hbW.trans (hb8.mono hbW.size)
     clear p0 p1 p2 p3
     obtain ⟨p0, p1, p2, p3, -⟩ := id bP
     go_wp2_with fail
     refine alive_calls.mono ?_
     rintro e wl ⟨rfl, hbl⟩
     have hbf := hbW.trans (hbl.mono hbW.size)
     go_wp2
     go_ret
     exact ⟨rfl, hbf⟩
    ·have LL := Lib.hid ll
     have LF := Lib.hid lf
     have LV := Lib.hid (lv.below hx17)
     have HI := Lib.hid himp
     clear ll lf lv himp HOut hx17
     rw [k1] at a1
     obtain ⟨a10, a11, -⟩ := rbox_cell a1
     clear a1 k1
     by_cases hfe : (probOf V os rs bs).Feasible fun k => (resize row V).getD k 0
     ·have HB := Lib.hid hfe
      obtain ⟨o, ho⟩ : ∃ o, lpcmp os (resize row V) l = o := ⟨_, rfl⟩
      have HI2 := Lib.hid (HI.out hfe)
      rw [ho] at HI2
      have HOo := Lib.hid ho
      clear HI hfe ho
      go_wp2_with fail
      refine (feasP_calls 400000 true (p := ⟨V, ⟨oA, on, oc⟩, ⟨rA, rn, rc⟩, ⟨bA, rn, bc⟩⟩) (s := ⟨yA, yn, yc⟩) (HP.out.below hbW) rfl (by omega) ho1 hon (by show rn ≤ 128; omega) rfl HC1.out HC2.out HR2.out (resize_length _ _) (by rw [LM_eq]; omega) (by rw [LM_eq]; omega) (by rw [LM_eq]; omega) (fun i k => ((qfit_fits (HP.out.rows.fit i k)).mul (qfit_fits (HR2.out.fit k))).mono (by omega)) HB.out).mono ?_
      rintro e w8 ⟨rfl, hb8⟩
      replace bP := bP.below hb8 s0
      replace s0 := Nat.lt_of_lt_of_le s0 hb8.size
      replace hbW := hbW.trans (hb8.mono hbW.size)
      clear p0 p1 p2 p3
      obtain ⟨p0, p1, p2, p3, -⟩ := id bP
      replace LV := Lib.hid (LV.out.below hb8)
      replace HR2 := Lib.hid (HR2.out.below hb8)
      replace a11 := (hb8.cell (p := ⟨x1.heap.size, 1, none⟩) sx1).trans a11
      replace sx1 := Nat.lt_of_lt_of_le sx1 hb8.size
      clear a10 hb8
      go_wp2_with fail
      have hfit : ∀ i k, Lin.Fits 400000 ((os.getD i []).getD k 0 * (resize row V).getD k 0) := fun i k => ((qfit_fits (HP.out.obj.fit i k)).mul (qfit_fits (HR2.out.fit k))).mono (by omega)
      have hfit2 : ∀ i k, Lin.Fits 400000 ((os.getD i []).getD k 0 * l.getD k 0) := fun i k => ((qfit_fits (HP.out.obj.fit i k)).mul (LF.out k)).mono (by omega)
      have n1 : r1.X.n ≤ 1000000 := by rw [← LV.out.len, LL.out]; omega
      refine (lpcompare_calls (kb := 400000) (p := ⟨V, ⟨oA, on, oc⟩, ⟨rA, rn, rc⟩, ⟨bA, rn, bc⟩⟩) (sx := ⟨yA, yn, yc⟩) (sy := r1.X) (HP.out.below hbW) HR2.out LV.out (by show on ≤ _; omega) (fun i => Nat.le_trans (getD_cols HC1.out i) (by omega)) (by show yn ≤ _; rw [Hyn.out]; omega) n1 (by rw [LM_eq]; omega) (by rw [LM_eq]; omega) (by rw [LM_eq]; omega) (by rw [LM_eq]; omega) hfit hfit2).mono ?_
      rw [HOo.out]
      rintro e w9 ⟨rfl, hb9⟩
      clear hfit hfit2 n1
      replace bP := bP.below hb9 s0
      replace s0 := Nat.lt_of_lt_of_le s0 hb9.size
      replace hbW := hbW.trans (hb9.mono hbW.size)
      clear p0 p1 p2 p3
      obtain ⟨p0, p1, p2, p3, -⟩ := id bP
      replace LV := Lib.hid (LV.out.below hb9)
      replace HR2 := Lib.hid (HR2.out.below hb9)
      replace a11 := (hb9.cell (p := ⟨x1.heap.size, 1, none⟩) sx1).trans a11
      replace sx1 := Nat.lt_of_lt_of_le sx1 hb9.size
      clear hb9 HOo
      by_cases hlt : o < 0
      ·clear HI2
       go_wp2_with fail
       refine alive_calls.mono ?_
       rintro e wl ⟨rfl, hbl⟩
       have hbf := hbW.trans (hbl.mono hbW.size)
       go_wp2
       go_ret
       exact ⟨rfl, hbf⟩
      ·have HE : Hid (∀ i, i < V → (resize row V).getD i 0 = l.getD i 0) := HI2.out.resolve_left hlt
       clear HI2
       go_wp2_with fail
       refine (equalO_calls true (V := V) (sa := ⟨yA, yn, yc⟩) (sb := r1.X) HR2.out LV.out (by rw [LM_eq]; omega) (by rw [LM_eq]; omega) (resize_length _ _) LL.out (by omega) ⟨fun _ => rfl, fun _ => HE.out⟩).mono ?_
       rintro e w10 ⟨rfl, hb10⟩
       replace bP := bP.below hb10 s0
       replace s0 := Nat.lt_of_lt_of_le s0 hb10.size
       replace hbW := hbW.trans (hb10.mono hbW.size)
       clear p0 p1 p2 p3
       obtain ⟨p0, p1, p2, p3, -⟩ := id bP
       go_wp2_with fail
       refine alive_calls.mono ?_
       rintro e wl ⟨rfl, hbl⟩
       have hbf := hbW.trans (hbl.mono hbW.size)
       go_wp2
       go_ret
       exact ⟨rfl, hbf⟩
     ·have HB := Lib.hid hfe
      clear HI hfe
      go_wp2_with fail
      refine (feasP_calls 400000 false (p := ⟨V, ⟨oA, on, oc⟩, ⟨rA, rn, rc⟩, ⟨bA, rn, bc⟩⟩) (s := ⟨yA, yn, yc⟩) (HP.out.below hbW) rfl (by omega) ho1 hon (by show rn ≤ 128; omega) rfl HC1.out HC2.out HR2.out (resize_length _ _) (by rw [LM_eq]; omega) (by rw [LM_eq]; omega) (by rw [LM_eq]; omega) (fun i k => ((qfit_fits (HP.out.rows.fit i k)).mul (qfit_fits (HR2.out.fit k))).mono (by omega)) HB.out).mono ?_
      rintro e w8 ⟨rfl, hb8⟩
      replace bP := bP.below hb8 s0
      replace s0 := Nat.lt_of_lt_of_le s0 hb8.size
      replace hbW := hbW.trans (hb8.mono hbW.size)
      clear p0 p1 p2 p3
      obtain ⟨p0, p1, p2, p3, -⟩ := id bP
      go_wp2_with fail
      refine alive_calls.mono ?_
      rintro e wl ⟨rfl, hbl⟩
      have hbf := hbW.trans (hbl.mono hbW.size)
      go_wp2
      go_ret
      exact ⟨rfl, hbf⟩
    ·have LL := Lib.hid ll
     have LL' := Lib.hid ll'
     have LF := Lib.hid lf
     have LF' := Lib.hid lf'
     have LV := Lib.hid (lv.below hx17)
     have LV' := Lib.hid (lv'.below hx17)
     have HU := Lib.hid hu
     clear ll ll' lf lf' lv lv' hu HOut hx17
     rw [k1] at a1
     obtain ⟨a10, a11, -⟩ := rbox_cell a1
     have a13 := rbox_ray a1
     clear a1 k1
     have hX : r1.X.n = V := by rw [← LV.out.len, LL.out]
     have hR : r1.R.n = V := by rw [← LV'.out.len, LL'.out]
     have HXn := Lib.hid hX
     have HRn := Lib.hid hR
     have hfar2 : (far : Int) ≤ 9223372036854775807 := by omega
     have hfar1 : (-9223372036854775808 : Int) ≤ (far : Int) := by omega
     have HFar : Hid (Lin.Fits 10 (((far : Nat) : Int) : Rat)) := Lin.Fits.ofInt (by have h2 : (2 : Nat) ^ 10 = 1024 := (by decide); rw [h2]; omega)
     have hwr : IntKind.i64.wrap (far : Int) = (far : Int) := IntWalk.i64_in _ (by omega)
     clear hX hR
     go_wp2_with fail
     have bW := hbW.size
     go_region_held3 (Sees w.heap.size [] w7) (first | (with_reducible assumption) | ((with_reducible apply Kept.call2) <;> (with_reducible assumption)) | ((with_reducible first | apply Sees.k6 | apply Sees.k2 | apply Sees.k1 | apply Sees.st | apply Sees.d2 | apply Sees.d1 | apply Sees.al) <;> (first | (with_reducible assumption) | (simp; done) | (simp <;> omega))) | ((with_reducible first | apply Sees.k4 | apply Sees.d4 | apply Sees.dr | apply Sees.ax) <;> (first | (with_reducible assumption) | (simp; done) | (simp <;> omega))) | ((with_reducible first | apply Sees.n4 | apply Sees.ad | apply Sees.k1 | apply Sees.d1 | apply Sees.mo) <;> (first | (with_reducible assumption) | (simp; done) | (simp <;> omega))) | ((with_reducible apply Sees.mo) <;> (first | (with_reducible assumption) | (simp; done) | (simp <;> omega))) | ((with_reducible apply Kept.sees) <;> (repeat' (with_reducible first | apply Kept.drew | apply Kept.alloc | apply Kept.setN)) <;> (first | (with_reducible assumption) | (simp; done) | (simp <;> omega) | ((with_reducible apply Kept.refl) <;> (first | (with_reducible assumption) | (simp; done) | (simp <;> omega))))))
      (first
       | (go_at_call 32; ((with_reducible refine (qfromInt64_calls (far : Int) hfar1 hfar2 _).mono ?_); rintro e y1 ⟨⟨u, rfl, hu⟩, hc1⟩))
       | (go_at_call 20; ((with_reducible refine (addScaled_calls (k := u) (sa := r1.R) (sb := r1.X) (hu.qis (qfit_to (L := 1) HFar.out (by decide))) (LV'.out.below (Sees.kept (by assumption)).whole) (LV.out.below (Sees.kept (by assumption)).whole) (by rw [LM_eq]; omega) (by rw [LM_eq]; omega) (by rw [LM_eq]; omega) (by rw [HRn.out]; omega) (by rw [HXn.out]; omega) (fun i => qfit_to ((HFar.out.mul (LF'.out i))) (by rw [LM_eq]; omega))).mono ?_); rintro e y2 ⟨⟨⟨zA, zn, zc⟩, rfl, hz⟩, hc2⟩))
       | fail)
     rename_i hS
     have hS' := hS.kept.whole
     clear hu hc1 hc2 hS bW
     replace bP := bP.below hS' s0
     replace s0 := Nat.lt_of_lt_of_le s0 hS'.size
     replace hbW := hbW.trans (hS'.mono hbW.size)
     clear p0 p1 p2 p3
     obtain ⟨p0, p1, p2, p3, -⟩ := id bP
     replace LV' := Lib.hid (LV'.out.below hS')
     replace a13 := (hS'.cell (p := ⟨x1.heap.size, 3, none⟩) sx1).trans a13
     replace sx1 := Nat.lt_of_lt_of_le sx1 hS'.size
     clear a10 a11 hS' hfar1 hfar2 hwr
     rw [HRn.out, HXn.out, Nat.max_self] at hz
     obtain ⟨zl, hzl⟩ : ∃ zl, zl = (List.range V).map fun i => (((far : Nat) : Int) : Rat) * l'.getD i 0 + l.getD i 0 := ⟨_, rfl⟩
     rw [← hzl] at hz
     obtain ⟨ml, hml⟩ : ∃ ml, ml = (List.range V).map fun i => zl.getD i 0 + l'.getD i 0 := ⟨_, rfl⟩
     have HSF := Lib.hid (scale_add_fits HFar.out LF.out LF'.out hzl hml)
     have HAl := Lib.hid (along HC1.out LL.out LL'.out HU.out (show (0 : Rat) ≤ (((far : Nat) : Int) : Rat) from by exact_mod_cast Int.natCast_nonneg far) hzl hml)
     have hzn : zl.length = V := by rw [hzl]; simp
     have hmn : ml.length = V := by rw [hml]; simp
     have HZn := Lib.hid hzn
     have HMn := Lib.hid hmn
     have HMl := Lib.hid hml
     have HZ := Lib.hid (loose_all (L := 12000) hz HSF.out.1 (by decide))
     have hznn : zn = V := by rw [← hzn]; exact hz.len.symm
     have HZnn := Lib.hid hznn
     clear hz hzl hml hzn hmn hznn
     go_wp2_with fail
     refine (vadd_calls (sa := ⟨zA, zn, zc⟩) (sb := r1.R) HZ.out LV'.out (by rw [LM_eq]; omega) (by rw [LM_eq]; omega) (by show zn ≤ _; rw [HZnn.out]; omega) (by rw [HRn.out]; omega)).mono ?_
     rintro e y3 ⟨⟨⟨mA, mn, mc⟩, rfl, hm⟩, hc3⟩
     rw [show max zn r1.R.n = V by rw [HZnn.out, HRn.out, Nat.max_self], ← HMl.out] at hm
     replace bP := bP.below hc3 s0
     replace s0 := Nat.lt_of_lt_of_le s0 hc3.size
     replace hbW := hbW.trans (hc3.mono hbW.size)
     clear p0 p1 p2 p3
     obtain ⟨p0, p1, p2, p3, -⟩ := id bP
     replace HZ := Lib.hid (HZ.out.below hc3)
     have HMv := Lib.hid (loose_all (L := 18000) hm HSF.out.2 (by decide))
     clear hm hc3 a13 sx1 LV LV'
     have HF1 := Lib.hid HAl.out.1
     have HF2 := Lib.hid HAl.out.2.1
     go_upto_region 14 with fail
     refine wp_plain_G 1000 (fun _ w' => Sees w.heap.size [] y3 w') (by kernel_rfl) ?_
     have hS0 : Sees w.heap.size [] y3 y3.drew := Sees.st (by simp) hbW.size
     refine tkA 0 ?_ (fun w' b hSw => ?_) (hS0) ?_
     rotate_left
     ·(try dsimp only at hSw); go_simp; try with_reducible rfl
     simp only [zzA, zzB, zzC]
     refine tkA 1 ?_ (fun w' b hSw => ?_) (hS0) ?_
     rotate_left
     ·(try dsimp only at hSw); go_simp; try with_reducible rfl
     simp only [zzA, zzB, zzC]
     refine oneW (i := 2) (by kernel_rfl) rfl (by rfl) ?_
     intro K hK
     go_simp
     refine (feasP_calls 400000 true (p := ⟨V, ⟨oA, on, oc⟩, ⟨rA, rn, rc⟩, ⟨bA, rn, bc⟩⟩) (s := ⟨zA, zn, zc⟩) (HP.out.below (hbW.trans (hS0.kept.whole.mono hbW.size))) rfl (by omega) ho1 hon (by show rn ≤ 128; omega) rfl HC1.out HC2.out (HZ.out.below hS0.kept.whole) HZn.out (by rw [LM_eq]; omega) (by rw [LM_eq]; omega) (by rw [LM_eq]; omega) (fun i k => ((qfit_fits (HP.out.rows.fit i k)).mul (HSF.out.1 k)).mono (by omega)) HF1.out).mono ?_
     rintro e y4 ⟨rfl, hc4⟩
     have hS1 := Kept.call2 hc4 hS0
     refine hK.out _ _ hS1 ?_
     clear hK K hS0 hc4
     refine tkA 3 ?_ (fun w' b hSw => ?_) (hS1) ?_
     rotate_left
     ·(try dsimp only at hSw); go_simp; try with_reducible rfl
     simp only [zzA, zzB, zzC]
     refine tkA 4 ?_ (fun w' b hSw => ?_) (hS1) ?_
     rotate_left
     ·(try dsimp only at hSw); go_simp; try with_reducible rfl
     simp only [zzA, zzB, zzC]
     refine tkA 5 ?_ (fun w' b hSw => ?_) (hS1) ?_
     rotate_left
     ·(try dsimp only at hSw); go_simp; try with_reducible rfl
     simp only [zzA, zzB, zzC]
     refine oneW (i := 6) (by kernel_rfl) rfl (by rfl) ?_
     intro K hK
     go_simp
     refine (feasP_calls 600000 true (p := ⟨V, ⟨oA, on, oc⟩, ⟨rA, rn, rc⟩, ⟨bA, rn, bc⟩⟩) (s := ⟨mA, mn, mc⟩) (HP.out.below (hbW.trans (hS1.kept.whole.mono hbW.size))) rfl (by omega) ho1 hon (by show rn ≤ 128; omega) rfl HC1.out HC2.out (HMv.out.below hS1.kept.whole) HMn.out (by rw [LM_eq]; omega) (by rw [LM_eq]; omega) (by rw [LM_eq]; omega) (fun i k => ((qfit_fits (HP.out.rows.fit i k)).mul (HSF.out.2 k)).mono (by omega)) HF2.out).mono ?_
     rintro e y5 ⟨rfl, hc5⟩
     have hS2 := Kept.call2 hc5 hS1
     refine hK.out _ _ hS2 ?_
     clear hK K hS1 hc5
     refine tkA 7 ?_ (fun w' b hSw => ?_) (hS2) ?_
     rotate_left
     ·(try dsimp only at hSw); go_simp; try with_reducible rfl
     simp only [zzA, zzB, zzC]
     refine tkA 8 ?_ (fun w' b hSw => ?_) (hS2) ?_
     rotate_left
     ·(try dsimp only at hSw); go_simp; try with_reducible rfl
     simp only [zzA, zzB, zzC]
     refine tkA 9 ?_ (fun w' b hSw => ?_) (hS2) ?_
     rotate_left
     ·(try dsimp only at hSw); go_simp; try with_reducible rfl
     simp only [zzA, zzB, zzC]
     refine tkA 10 ?_ (fun w' b hSw => ?_) (hS2) ?_
     rotate_left
     ·(try dsimp only at hSw); go_simp; try with_reducible rfl
     simp only [zzA, zzB, zzC]
     refine tkA 12 ?_ (fun w' b hSw => ?_) (hS2) ?_
     rotate_left
     ·(try dsimp only at hSw); go_simp; try with_reducible rfl
     simp only [zzA, zzB, zzC]
     refine tkA 13 ?_ (fun w' b hSw => ?_) (hS2) ?_
     rotate_left
     ·(try dsimp only at hSw); go_simp; try with_reducible rfl
     simp only [zzA, zzB, zzC]
     refine oneW (i := 11) (by kernel_rfl) rfl (by rfl) ?_
     intro K hK
     go_simp
     with_reducible refine (evaluate_calls (kb := 600000) (p := ⟨V, ⟨oA, on, oc⟩, ⟨rA, rn, rc⟩, ⟨bA, rn, bc⟩⟩) (sx := ⟨mA, mn, mc⟩) (HP.out.below (hbW.trans (hS2.kept.whole.mono hbW.size))) (HMv.out.below hS2.kept.whole) (by show on ≤ _; omega) (fun i => Nat.le_trans (getD_cols HC1.out i) (by omega)) (by rw [LM_eq]; omega) (by rw [LM_eq]; omega) (by rw [LM_eq]; omega) (fun i k => ((qfit_fits (HP.out.obj.fit i k)).mul (HSF.out.2 k)).mono (by omega))).mono ?_
     rintro e y6 ⟨⟨⟨eA, en, ec⟩, rfl, he⟩, hc6⟩
     have hS3 := Kept.call2 hc6 hS2
     refine hK.out _ _ hS3 ?_
     clear hK K hS2 hc6
     refine oneW (i := 14) (by kernel_rfl) rfl (by rfl) ?_
     intro K hK
     go_simp
     with_reducible refine (evaluate_calls (kb := 400000) (p := ⟨V, ⟨oA, on, oc⟩, ⟨rA, rn, rc⟩, ⟨bA, rn, bc⟩⟩) (sx := ⟨zA, zn, zc⟩) (HP.out.below (hbW.trans (hS3.kept.whole.mono hbW.size))) (HZ.out.below hS3.kept.whole) (by show on ≤ _; omega) (fun i => Nat.le_trans (getD_cols HC1.out i) (by omega)) (by rw [LM_eq]; omega) (by rw [LM_eq]; omega) (by rw [LM_eq]; omega) (fun i k => ((qfit_fits (HP.out.obj.fit i k)).mul (HSF.out.1 k)).mono (by omega))).mono ?_
     rintro e y7 ⟨⟨⟨gA, gn, gc⟩, rfl, hg⟩, hc7⟩
     have hS4 := Kept.call2 hc7 hS3
     refine hK.out _ _ hS4 ?_
     clear hK K hS3
     refine oneW (i := 15) (by kernel_rfl) rfl (by rfl) ?_
     intro K hK
     go_simp
     with_reducible refine (compareG_calls (L := LM) (M := LM) (sa := ⟨eA, en, ec⟩) (sb := ⟨gA, gn, gc⟩) (N := os.length) ((he.belowC hc7).loose (eval_fits (kb := 600000) (fun i => Nat.le_trans (getD_cols HC1.out i) (by omega)) (by rw [LM_eq]; omega) (fun i k => ((qfit_fits (HP.out.obj.fit i k)).mul (HSF.out.2 k)).mono (by omega)))) (hg.loose (eval_fits (kb := 400000) (fun i => Nat.le_trans (getD_cols HC1.out i) (by omega)) (by rw [LM_eq]; omega) (fun i k => ((qfit_fits (HP.out.obj.fit i k)).mul (HSF.out.1 k)).mono (by omega)))) (Nat.le_refl _) (Nat.le_refl _) (List.length_map _) (List.length_map _) (by rw [HO.out]; omega) HAl.out.2.2).mono ?_
     rintro e y8 ⟨rfl, hc8⟩
     have hS5 := Kept.call2 hc8 hS4
     refine hK.out _ _ hS5 ?_
     clear hK K hS4 he hg hc7 hc8
     refine tkA 16 ?_ (fun w' b hSw => ?_) (hS5) ?_
     rotate_left
     ·(try dsimp only at hSw); go_simp; try with_reducible rfl
     simp only [zzA, zzB, zzC]
     refine tkA 17 ?_ (fun w' b hSw => ?_) (hS5) ?_
     rotate_left
     ·(try dsimp only at hSw); go_simp; try with_reducible rfl
     simp only [zzA, zzB, zzC]
     refine tkA 18 ?_ (fun w' b hSw => ?_) (hS5) ?_
     rotate_left
     ·(try dsimp only at hSw); go_simp; try with_reducible rfl
     simp only [zzA, zzB, zzC]
     refine oneW (i := 19) (by kernel_rfl) rfl (by rfl) ?_
     intro K hK
     go_simp
     refine alive_calls.mono ?_
     rintro e y9 ⟨rfl, hc9⟩
     have hS6 := Kept.call2 hc9 hS5
     refine hK.out _ _ hS6 ?_
     clear hK K hS5 hc9
     refine tkA 20 ?_ (fun w' b hSw => ?_) (hS6) ?_
     rotate_left
     ·(try dsimp only at hSw); go_simp; try with_reducible rfl
     simp only [zzA, zzB, zzC]
     refine tkA 21 ?_ (fun w' b hSw => ?_) (hS6) ?_
     rotate_left
     ·(try dsimp only at hSw); go_simp; try with_reducible rfl
     simp only [zzA, zzB, zzC]
     refine wpAnyG_done (by kernel_rfl) ?_ _
     have hbf := hbW.trans (hS6.kept.whole.mono hbW.size)
     clear hS6
     go_wp2
     go_ret
     exact ⟨rfl, hbf⟩
end Go.Proofs.YtlepljpdkbjbhaaGreat
