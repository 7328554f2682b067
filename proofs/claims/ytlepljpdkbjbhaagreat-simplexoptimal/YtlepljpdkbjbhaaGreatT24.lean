/- Texts AddS Add of this claim. -/
import Derived.Test.YtlepljpdkbjbhaaGreatT07
import Derived.Test.YtlepljpdkbjbhaaGreatT23
namespace Go.Proofs.YtlepljpdkbjbhaaGreat
open Go.RowKit
set_option maxRecDepth 20000 in
set_option maxHeartbeats 4000000 in
theorem asc1_calls {w : World} {X Y Z : Nat → Prop} {L M N b : Nat} {x y kv : QV} {p q k : Rat} (hx : QIs w X L x p) (hy : QIs w Y M y q) (hk : QIs w Z N kv k) (hbox : w.heap[b]? = some (.cells #[.bool kv.num.ng, .slice kv.num.A kv.num.n kv.num.c, .bool kv.den.ng, .slice kv.den.A kv.den.n kv.den.c] 30 (0, 0))) (hL : L ≤ LM) (hM : M ≤ LM) (hN : N ≤ LM) (hf : QFit LM (k * p)) :
  Calls Tryz.prog 65 #[x.val, y.val, .pointer (some ⟨b, 0, none⟩)] w fun e w' => QRet w (k * p + q) e w' ∧ Below w.heap.size w w' := by
 have HX := Lib.hid hx.old
 have HY := Lib.hid hy.old
 have HKv := Lib.hid hk.old
 have HL := Lib.hid hL
 have HM := Lib.hid hM
 have HN := Lib.hid hN
 have HF := Lib.hid hf
 have hbl := lt_of_block hbox
 clear hx hy hk hL hM hN hf
 go_enter Tryz.func65, Tryz.ntmps65
 go_wp2
 refine gen_world (fun W => Below w.heap.size w W ∧ Box4 W w.heap.size (.bool x.num.ng) (.slice x.num.A x.num.n x.num.c) (.bool x.den.ng) (.slice x.den.A x.den.n x.den.c) ∧ Box4 W (w.heap.size + 1) (.bool y.num.ng) (.slice y.num.A y.num.n y.num.c) (.bool y.den.ng) (.slice y.den.A y.den.n y.den.c) ∧ Box4 W (w.heap.size + 1 + 1) (.bool false) (.slice none 0 0) (.bool false) (.slice none 0 0) ∧ w.heap.size < W.heap.size ∧ w.heap.size + 1 < W.heap.size ∧ w.heap.size + 1 + 1 < W.heap.size) ⟨((((Below.refl _ _).alloc (by simp <;> omega) _).alloc (by simp <;> omega) _).alloc (by simp <;> omega) _), ⟨by go_simp, by go_simp, by go_simp, by go_simp, by intro o; go_simp⟩, ⟨by go_simp, by go_simp, by go_simp, by go_simp, by intro o; go_simp⟩, ⟨by go_simp, by go_simp, by go_simp, by go_simp, by intro o; go_simp⟩, by simp <;> omega, by simp <;> omega, by simp <;> omega⟩ ?_
 rintro W ⟨hbW, bX, bY, bR, s0, s1, s2⟩
 have hBW := hbW.size
 have ne02 : ¬ (w.heap.size = w.heap.size + 1 + 1) := by omega
 obtain ⟨k0, k1, k2, k3⟩ : W.cell? ⟨b, 0, none⟩ = some (.bool kv.num.ng) ∧ W.cell? ⟨b, 1, none⟩ = some (.slice kv.num.A kv.num.n kv.num.c) ∧ W.cell? ⟨b, 2, none⟩ = some (.bool kv.den.ng) ∧ W.cell? ⟨b, 3, none⟩ = some (.slice kv.den.A kv.den.n kv.den.c) := by simp [World.cell?, (hbW.block b hbl).trans hbox]
 obtain ⟨x0, x1, x2, x3, -⟩ := id bX
 obtain ⟨y0, y1, y2, y3, -⟩ := id bY
 have HX2 := Lib.hid (HX.out.below hbW)
 have HY2 := Lib.hid (HY.out.below hbW)
 have HK2 := Lib.hid (HKv.out.below hbW)
 have m1 : ¬ (b = w.heap.size + 1 + 1) := by omega
 have m2 : ¬ (b = w.heap.size + 1) := by omega
 have m3 : ¬ (b = w.heap.size) := by omega
 have m4 : b < W.heap.size := by omega
 clear hbox HX HY HKv bX bY
 go_region_held3 (Sees w.heap.size [w.heap.size + 1 + 1] W) (first | (with_reducible assumption) | ((with_reducible apply Kept.call2) <;> (with_reducible assumption)) | ((with_reducible first | apply Sees.k6 | apply Sees.k2 | apply Sees.k1 | apply Sees.st | apply Sees.d2 | apply Sees.d1 | apply Sees.al) <;> (first | (with_reducible assumption) | (simp; done) | (simp <;> omega))) | ((with_reducible first | apply Sees.k4 | apply Sees.d4 | apply Sees.dr | apply Sees.ax) <;> (first | (with_reducible assumption) | (simp; done) | (simp <;> omega))) | ((with_reducible first | apply Sees.n4 | apply Sees.ad | apply Sees.k1 | apply Sees.d1 | apply Sees.mo) <;> (first | (with_reducible assumption) | (simp; done) | (simp <;> omega))) | ((with_reducible apply Sees.mo) <;> (first | (with_reducible assumption) | (simp; done) | (simp <;> omega))) | ((with_reducible apply Kept.sees) <;> (repeat' (with_reducible first | apply Kept.drew | apply Kept.alloc | apply Kept.setN)) <;> (first | (with_reducible assumption) | (simp; done) | (simp <;> omega) | ((with_reducible apply Kept.refl) <;> (first | (with_reducible assumption) | (simp; done) | (simp <;> omega))))))
  (first
   | (go_at_call 45; ((with_reducible refine (qmul_calls (a := kv) (b := x) (HK2.out.keptOld (Sees.kept (by assumption))) (HX2.out.keptOld (Sees.kept (by assumption))) HN.out HL.out).mono ?_); rintro e w1 ⟨⟨u, rfl, hu⟩, hb1⟩))
   | (go_at_call 42; ((with_reducible refine (qadd_calls (a := u) (b := y) (hu.qis HF.out) (HY2.out.keptOld (Sees.kept (by assumption))) (Nat.le_refl _) HM.out).mono ?_); rintro e w2 ⟨⟨z, rfl, hz⟩, hb2⟩))
   | fail)
 rename_i hS
 obtain ⟨v0, v1, v2, v3⟩ := hS.kept.val4 (by simp) (by rw [bR.1]; rfl) (by rw [bR.2.1]; rfl) (by rw [bR.2.2.1]; rfl) (by rw [bR.2.2.2.1]; rfl)
 have hbf := hbW.trans hS.kept.below
 have hb2s := hb2.size
 have hb1s := hb1.size
 clear hS hu
 go_wp2
 refine bodyPost_ret (v := z.val) (by simp [results, Tryz.results65, go_sem, v0, v1, v2, v3]) rfl ⟨⟨z, rfl, ?_⟩, hbf⟩
 simp only [World.size_drew] at hb1s hb2s
 exact (hz.set4 (by omega)).lower (by omega)
end Go.Proofs.YtlepljpdkbjbhaaGreat
namespace Go.Proofs.YtlepljpdkbjbhaaGreat
open Go.RowKit Go.Shelf
set_option maxRecDepth 20000 in
set_option maxHeartbeats 4000000 in
theorem vadd_calls {w : World} {X Y X' Y' : Nat → Prop} {L M : Nat} {sa sb : SV} {la lb : List Rat} (ha : VecIs w X Y L sa la) (hb : VecIs w X' Y' M sb lb) (hL : L ≤ LM) (hM : M ≤ LM) (hna : sa.n ≤ 1000000) (hnb : sb.n ≤ 1000000) :
  Calls Tryz.prog 33 #[sa.val, sb.val] w fun e w' => VRet w ((List.range (max sa.n sb.n)).map fun i => la.getD i 0 + lb.getD i 0) e w' ∧ Below w.heap.size w w' := by
 have HC := Lib.hid (combine_calls (f := 42) (caps := #[]) (g := fun i => la.getD i 0 + lb.getD i 0) ha hb hna hnb (fun args w => rfl) (fun W x y i _ hx hy => qadd_calls (a := x) (b := y) hx hy hL hM))
 clear ha hb hL hM hna hnb
 obtain ⟨A, n, c⟩ := sa
 obtain ⟨B, m, d⟩ := sb
 dsimp only [SV.val] at *
 go_enter Tryz.func33, Tryz.ntmps33
 go_wp2_with fail
 refine HC.out.mono ?_
 rintro e w1 ⟨⟨z, rfl, hz⟩, hb1⟩
 go_wp2
 go_ret
 exact ⟨⟨z, rfl, hz⟩, hb1⟩
set_option maxRecDepth 20000 in
set_option maxHeartbeats 4000000 in
theorem addScaled_calls {w : World} {X Y X' Y' Z : Nat → Prop} {L M N : Nat} {k : QV} {q : Rat} {sa sb : SV} {la lb : List Rat} (hk : QIs w Z N k q) (ha : VecIs w X Y L sa la) (hb : VecIs w X' Y' M sb lb) (hL : L ≤ LM) (hM : M ≤ LM) (hN : N ≤ LM) (hna : sa.n ≤ 1000000) (hnb : sb.n ≤ 1000000) (hf : ∀ i, QFit LM (q * la.getD i 0)) :
  Calls Tryz.prog 20 #[k.val, sa.val, sb.val] w fun e w' => VRet w ((List.range (max sa.n sb.n)).map fun i => q * la.getD i 0 + lb.getD i 0) e w' ∧ Below w.heap.size w w' := by
 have al : Below w.heap.size w (w.alloc (.cells #[.bool k.num.ng, .slice k.num.A k.num.n k.num.c, .bool k.den.ng, .slice k.den.A k.den.n k.den.c] 30)) := (Below.refl _ _).alloc (Nat.le_refl _) _
 have hbx : (w.alloc (.cells #[.bool k.num.ng, .slice k.num.A k.num.n k.num.c, .bool k.den.ng, .slice k.den.A k.den.n k.den.c] 30)).heap[w.heap.size]? = some (.cells #[.bool k.num.ng, .slice k.num.A k.num.n k.num.c, .bool k.den.ng, .slice k.den.A k.den.n k.den.c] 30 (0, 0)) := heap_new _ _ rfl
 have hsz : w.heap.size < (w.alloc (.cells #[.bool k.num.ng, .slice k.num.A k.num.n k.num.c, .bool k.den.ng, .slice k.den.A k.den.n k.den.c] 30)).heap.size := by simp
 have HC := Lib.hid (combine_calls (f := 65) (caps := #[.pointer (some ⟨w.heap.size, 0, none⟩)]) (g := fun i => q * la.getD i 0 + lb.getD i 0) (ha.below al) (hb.below al) hna hnb (fun args w => rfl)
  (fun W x y i hc hx hy => asc1_calls hx hy ((hk.below al).old.carry hc) (hc.blk _ _ _ _ hsz hbx) hL hM hN (hf i)))
 clear ha hb hk hL hM hN hna hnb hf
 obtain ⟨A, n, c⟩ := sa
 obtain ⟨B, m, d⟩ := sb
 dsimp only [SV.val] at *
 go_enter Tryz.func20, Tryz.ntmps20
 go_wp2_with fail
 refine HC.out.mono ?_
 rintro e w1 ⟨⟨z, rfl, hz⟩, hb1⟩
 go_wp2
 go_ret
 exact ⟨⟨z, rfl, hz.low al.size⟩, al.trans (hb1.mono al.size)⟩
end Go.Proofs.YtlepljpdkbjbhaaGreat
