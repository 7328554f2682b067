/- Texts LP3 LP4 RestrM Restr of this claim. -/
import Derived.Test.YtlepljpdkbjbhaaGreatT21
namespace Go.Proofs.YtlepljpdkbjbhaaGreat
open Go.RowKit Go.Shelf
def LPRet (w : World) (n : Int) (L : Nat) (os rs : List (List Rat)) (bs : List Rat) (e : Ending) (w' : World) : Prop :=
 ∃ q : LPV, e = .returned (.tuple #[q.val, .int .i64 0]) ∧ q.n = n ∧ LPIs w' (fun x => w.heap.size ≤ x) (fun x => w.heap.size ≤ x) L q os rs bs
theorem cell_fourN (w : World) (v : QV) : ∀ j u, (cells4q v)[j]? = some u → (w.alloc (.cells #[.bool v.num.ng, .slice v.num.A v.num.n v.num.c, .bool v.den.ng, .slice v.den.A v.den.n v.den.c] 30)).cell? (Addr.add ⟨w.heap.size, 0, none⟩ j) = some u := by
 intro j u h
 rw [add_mk, Nat.zero_add]
 have e : (w.alloc (.cells #[.bool v.num.ng, .slice v.num.A v.num.n v.num.c, .bool v.den.ng, .slice v.den.A v.den.n v.den.c] 30)).heap[w.heap.size]? = some (.cells #[.bool v.num.ng, .slice v.num.A v.num.n v.num.c, .bool v.den.ng, .slice v.den.A v.den.n v.den.c] 30 (0, 0)) := heap_new _ _ rfl
 simp only [World.cell?, e]
 simpa [cells4q] using h
theorem resize_self {l : List Rat} {n : Nat} (h : l.length = n) : resize l n = l := by
 subst h
 unfold resize
 apply List.ext_getElem
 ·simp
 ·intro i h1 h2
  simp [List.getD_eq_getElem?_getD, h2]
theorem ExMid.call {w W W' : World} {B d L : Nat} {n : Int} {os rs : List (List Rat)} {bs : List Rat} (h : ExMid w B d n L os rs bs W) (hb : Below W.heap.size W W') : ExMid w B d n L os rs bs W' := by
 obtain ⟨va, vb, vc, G, s1, s2, s3, l1, l2, l3, hQ, e1, e2, e3⟩ := h
 exact ⟨va, vb, vc, G, s1, s2, s3, l1, l2, l3, hQ.call hb, fun m hm => (e1 m hm).below hb, fun m hm => (e2 m hm).below hb, fun m hm => (e3 m hm).below hb⟩
theorem own_ex {w W : World} {B d : Nat} {n : Int} {va vb vc : Value} {a1 a2 a3 : List Value} {c1 c2 c3 : Nat} {G : Nat → Prop} (h : QT w B d n va vb vc (pick3 [] a1 a2 a3) (pick3 0 c1 c2 c3) G W) :
  W.ownsRow B 23 1 va c1 a1 ∧ W.ownsRow B 23 1 vb c2 a2 ∧ W.ownsRow B 30 4 vc c3 a3 :=
 ⟨h.own 1 (by omega) (by omega), h.own 2 (by omega) (by omega), h.own 3 (by omega) (by omega)⟩
theorem ex_new {w W W1 : World} {B d L : Nat} {n : Int} {va vb vc : Value} {al : Nat → List Value} {cnt : Nat → Nat} {G : Nat → Prop} {s : SV} {l : List Rat} (hQ : QT w B d n va vb vc al cnt G W) (hz : VecCan W1 (New W.heap.size) (New W.heap.size) s l) (hf : ∀ k, QFit L (l.getD k 0)) : VecIs W1 (fun b => ¬ G b ∧ B ≤ b) (fun b => ¬ G b ∧ B ≤ b) L s l :=
 have hk : ∀ b, New W.heap.size b → ¬ G b ∧ B ≤ b := fun b hb => by simp only [New] at hb; exact ⟨fun hg => by have := (hQ.gin b hg).2; omega, by have := hQ.dlt; have := hQ.dB; omega⟩
 (hz.loose hf).imp (fun b _ hb => hk b hb) fun v q hq => hq.imp fun b _ hb => hk b hb
theorem ex_newq {w W W1 : World} {B d L : Nat} {n : Int} {va vb vc : Value} {al : Nat → List Value} {cnt : Nat → Nat} {G : Nat → Prop} {v : QV} {q : Rat} (hQ : QT w B d n va vb vc al cnt G W) (hz : QCan W1 (New W.heap.size) v q) (hf : QFit L q) : QIs W1 (fun b => ¬ G b ∧ B ≤ b) L v q :=
 (hz.qis hf).imp fun b _ hb => by simp only [New] at hb; exact ⟨fun hg => by have := (hQ.gin b hg).2; omega, by have := hQ.dlt; have := hQ.dB; omega⟩
def ExL1 (w : World) (p : LPV) (t : Value) (W : World) : Prop :=
 ∃ i : Nat, i ≤ 1 ∧ t = .int .i64 i ∧ Below w.heap.size w W ∧ LPBox W w.heap.size p ∧ Box4 W (w.heap.size + 1) (.int .i64 0) (.slice none 0 0) (.slice none 0 0) (.slice none 0 0)
def ExL2 (w : World) (B d : Nat) (n : Int) (L : Nat) (os rs : List (List Rat)) (bs : List Rat) (r : List Rat) (b : Rat) (t : Value) (W : World) : Prop :=
 ∃ i : Nat, i ≤ 1 ∧ t = .int .i64 i ∧ Box4 W (w.heap.size + 1) (.int .i64 0) (.slice none 0 0) (.slice none 0 0) (.slice none 0 0) ∧ w.heap.size + 1 < B ∧ ExMid w B d n L os (rs ++ (List.replicate i r)) (bs ++ (List.replicate i b)) W
set_option maxRecDepth 40000 in
set_option maxHeartbeats 8000000 in
theorem extend1_calls {w : World} {X Y X' Y' Z' : Nat → Prop} {L V b : Nat} {p : LPV} {os rs : List (List Rat)} {bs : List Rat} {r : SV} {mv : QV} {row : List Rat} {most : Rat} (h : LPIs w X Y L p os rs bs) (hV : p.n = V) (hV2 : V ≤ 64) (ho1 : 1 ≤ p.O.n) (ho2 : p.O.n ≤ 4) (hr : p.R.n ≤ 127) (hb : p.B.n = p.R.n) (hco : colsOf os ≤ V) (hcr : colsOf rs ≤ V) (hL : L + 1 ≤ LM)
  (hrow : VecIs w X' Y' L r row) (hmost : QIs w Z' L mv most) (hrn : r.n ≤ V) (hl : w.heap[b]? = some (.cells #[.slice r.A r.n r.c, .bool mv.num.ng, .slice mv.num.A mv.num.n mv.num.c, .bool mv.den.ng, .slice mv.den.A mv.den.n mv.den.c] 102 (0, 0))) :
  Calls Tryz.prog 76 #[p.val, .slice (some ⟨b, 0, none⟩) 1 1] w fun e w' => LPRet w p.n (L + 1) os (rs ++ [row]) (bs ++ [most]) e w' ∧ Below w.heap.size w w' := by
 obtain ⟨ii0, hii, hzi0, hzi1, hzi2⟩ := info_parts row_info
 obtain ⟨iq0, hiq, hzq0, hzq1, hzq2⟩ := info_parts q_info
 obtain ⟨z, ⟨oA, on, oc⟩, ⟨rA, rn, rc⟩, ⟨bA, bn, bc⟩⟩ := p
 obtain ⟨qA, qn, qc⟩ := r
 dsimp only at hV hr hb ho1 ho2 hrn
 subst hV
 obtain rfl : rn = bn := hb.symm
 have H := Lib.hid h
 have HRow := Lib.hid hrow
 have HMost := Lib.hid hmost
 have HCo := Lib.hid hco
 have HCr := Lib.hid hcr
 have HL := Lib.hid hL
 have hbl := lt_of_block hl
 obtain ⟨l0, l1x, l2x, l3x, l4⟩ : w.cell? ⟨b, 0, none⟩ = some (.slice qA qn qc) ∧ w.cell? ⟨b, 1, none⟩ = some (.bool mv.num.ng) ∧ w.cell? ⟨b, 2, none⟩ = some (.slice mv.num.A mv.num.n mv.num.c) ∧ w.cell? ⟨b, 3, none⟩ = some (.bool mv.den.ng) ∧ w.cell? ⟨b, 4, none⟩ = some (.slice mv.den.A mv.den.n mv.den.c) := by simp [World.cell?, hl]
 have HO : Hid (os.length = on) := h.obj.len
 have HRl : Hid (rs.length = rn) := h.rows.len
 have HBl : Hid (bs.length = rn) := h.bounds.len
 clear h hrow hmost hco hcr hL hl
 dsimp only [LPV.val] at *
 go_enter Tryz.func76, Tryz.ntmps76
 go_upto_region 1 with fail
 refine gen_world (fun W => Below w.heap.size w W ∧ Box4 W w.heap.size (.int .i64 V) (.slice oA on oc) (.slice rA rn rc) (.slice bA rn bc) ∧ Box4 W (w.heap.size + 1) (.int .i64 0) (.slice none 0 0) (.slice none 0 0) (.slice none 0 0) ∧ w.heap.size < W.heap.size ∧ w.heap.size + 1 < W.heap.size) ⟨(((Below.refl _ _).alloc (by simp <;> omega) _).alloc (by simp <;> omega) _), ⟨by go_simp, by go_simp, by go_simp, by go_simp, by intro o; go_simp⟩, ⟨by go_simp, by go_simp, by go_simp, by go_simp, by intro o; go_simp⟩, by simp <;> omega, by simp <;> omega⟩ ?_
 rintro W ⟨hbW, bP, bR, s0, s1⟩
 have hBW := hbW.size
 obtain ⟨p0, p1, p2, p3, -⟩ := id bP
 go_wp2_with fail
 refine (valid_calls (p := ⟨V, ⟨oA, on, oc⟩, ⟨rA, rn, rc⟩, ⟨bA, rn, bc⟩⟩) (H.out.below hbW) rfl hV2 ho1 ho2 (by show rn ≤ 128; omega) rfl HCo.out HCr.out).mono ?_
 rintro e w1 ⟨rfl, hb1⟩
 replace bP := bP.below hb1 s0
 replace bR := bR.below hb1 s1
 replace s0 := Nat.lt_of_lt_of_le s0 hb1.size
 replace s1 := Nat.lt_of_lt_of_le s1 hb1.size
 replace hbW := hbW.trans (hb1.mono hbW.size)
 clear hb1 hBW p0 p1 p2 p3
 obtain ⟨p0, p1, p2, p3, -⟩ := id bP
 have hg : ¬ ((128 : Int) < (rn : Int) + 1) := by omega
 have hg2 : IntKind.i64.wrap ((rn : Int) + 1) = (rn : Int) + 1 := IntWalk.i64_in _ (by omega)
 have H1 : Hid (ExL1 w ⟨V, ⟨oA, on, oc⟩, ⟨rA, rn, rc⟩, ⟨bA, rn, bc⟩⟩ (.int .i64 0) w1) := ⟨0, by omega, rfl, hbW, bP, bR⟩
 clear bP bR
 go_wp2
 clear p0 p1 p2 p3 hg hg2
 generalize w1 = W0 at *
 go_loopw [26] (fun t W => ExL1 w ⟨V, ⟨oA, on, oc⟩, ⟨rA, rn, rc⟩, ⟨bA, rn, bc⟩⟩ t W) (fun t _ => 1 - (intOf t).toNat)
 case atStart => exact H1.out
 case round =>
  clear H1 hbW s0 s1
  obtain ⟨i, hi, rfl, hbW, bP, bR⟩ := hrel
  obtain ⟨p0, p1, p2, p3, -⟩ := id bP
  have s0 : w.heap.size < wr.heap.size := block_lt_of_cell p0
  have s1 : w.heap.size + 1 < wr.heap.size := block_lt_of_cell bR.1
  rcases (by omega : i = 0 ∨ i = 1) with rfl | rfl
  ·have m0 := (hbW.cell (p := ⟨b, 0, none⟩) hbl).trans l0
   have m1 := (hbW.cell (p := ⟨b, 1, none⟩) hbl).trans l1x
   have m2 := (hbW.cell (p := ⟨b, 2, none⟩) hbl).trans l2x
   have m3 := (hbW.cell (p := ⟨b, 3, none⟩) hbl).trans l3x
   have m4 := (hbW.cell (p := ⟨b, 4, none⟩) hbl).trans l4
   have hbl2 : b < wr.heap.size := Nat.lt_of_lt_of_le hbl hbW.size
   have hq : ¬ ((V : Int) < (qn : Int)) := by omega
   have al : Below wr.heap.size wr (wr.alloc (.cells #[.slice qA qn qc, .bool mv.num.ng, .slice mv.num.A mv.num.n mv.num.c, .bool mv.den.ng, .slice mv.den.A mv.den.n mv.den.c] 102)) := (Below.refl _ _).alloc (Nat.le_refl _) _
   have Hfin : Hid (ExL1 w ⟨V, ⟨oA, on, oc⟩, ⟨rA, rn, rc⟩, ⟨bA, rn, bc⟩⟩ (.int .i64 1) (wr.alloc (.cells #[.slice qA qn qc, .bool mv.num.ng, .slice mv.num.A mv.num.n mv.num.c, .bool mv.den.ng, .slice mv.den.A mv.den.n mv.den.c] 102))) := ⟨1, by omega, rfl, hbW.trans (al.mono hbW.size), bP.below al s0, bR.below al s1⟩
   clear al bP bR
   go_wp2
   go_roundw
   case rel => first | exact Hfin.out | ((repeat apply Exists.intro); exact ⟨Hfin.out, rfl⟩)
   case measure => simp [intOf]
  ·go_wp2_with fail
   refine (copyOf_calls (p := ⟨V, ⟨oA, on, oc⟩, ⟨rA, rn, rc⟩, ⟨bA, rn, bc⟩⟩) (H.out.below hbW) (by show on ≤ _; omega) (by show rn ≤ _; omega) (by show rn ≤ _; omega) (fun i => Nat.le_trans (getD_cols HCo.out i) (by omega)) (fun i => Nat.le_trans (getD_cols HCr.out i) (by omega)) (by have := HL.out; omega)).mono ?_
   rintro e y ⟨⟨k0, k1, k2, k3, b1, b2, b3, hk0, hk3, rfl, g1, g2, g3⟩, hby⟩
   dsimp only at *
   have hbwy := hbW.trans (hby.mono hbW.size)
   have HE := Lib.hid (ex_start (n := V) hbwy (Nat.le_trans hbW.size hk0) hk3 g1 g2 g3 (by rw [HO.out]; omega) (by rw [HRl.out]; omega) (by rw [HBl.out]; omega) H.out.obj.fit H.out.rows.fit H.out.bounds.fit)
   have al : Below y.heap.size y (y.alloc (.cells #[.int .i64 V, .slice (some ⟨b1, 0, none⟩) os.length os.length, .slice (some ⟨b2, 0, none⟩) rs.length rs.length, .slice (some ⟨b3, 0, none⟩) bs.length bs.length] 25)) := (Below.refl _ _).alloc (Nat.le_refl _) _
   have H2 : Hid (ExL2 w k0 y.heap.size V (L + 1) os rs bs row most (.int .i64 0) (y.alloc (.cells #[.int .i64 V, .slice (some ⟨b1, 0, none⟩) os.length os.length, .slice (some ⟨b2, 0, none⟩) rs.length rs.length, .slice (some ⟨b3, 0, none⟩) bs.length bs.length] 25))) := ⟨0, by omega, rfl, (bR.below hby s1).below al (by have := hby.size; omega), by omega, by simp only [List.replicate_zero, List.append_nil]; exact HE.out⟩
   clear HE al g1 g2 g3 hk0 hk3 hby hbwy bP bR p0 p1 p2 p3 s0 s1 hbW
   go_upto_region 10 with fail
   generalize y.alloc (.cells #[.int .i64 V, .slice (some ⟨b1, 0, none⟩) os.length os.length, .slice (some ⟨b2, 0, none⟩) rs.length rs.length, .slice (some ⟨b3, 0, none⟩) bs.length bs.length] 25) = W3 at *
   generalize y.heap.size = d at *
   go_wp2
   go_loopw [42] (fun t W => ExL2 w k0 d V (L + 1) os rs bs row most t W) (fun t _ => 1 - (intOf t).toNat)
   case atStart => exact H2.out
   case round =>
    clear H2
    obtain ⟨i, hi, rfl, bR, hk, hM⟩ := hrel
    rcases (by omega : i = 0 ∨ i = 1) with rfl | rfl
    ·skip
     simp only [List.replicate_zero, List.append_nil] at hM
     obtain ⟨va, vb, vc, G, s1, s2, s3, l1, l2, l3, hQ, e1, e2, e3⟩ := hM
     have hbW := hQ.bel
     have m0 := (hbW.cell (p := ⟨b, 0, none⟩) hbl).trans l0
     have m1 := (hbW.cell (p := ⟨b, 1, none⟩) hbl).trans l1x
     have m2 := (hbW.cell (p := ⟨b, 2, none⟩) hbl).trans l2x
     have m3 := (hbW.cell (p := ⟨b, 3, none⟩) hbl).trans l3x
     have m4 := (hbW.cell (p := ⟨b, 4, none⟩) hbl).trans l4
     have hbl2 : b < wr.heap.size := Nat.lt_of_lt_of_le hbl hbW.size
     go_upto_region 13 with fail
     have al : Below wr.heap.size wr (wr.alloc (.cells #[.slice qA qn qc, .bool mv.num.ng, .slice mv.num.A mv.num.n mv.num.c, .bool mv.den.ng, .slice mv.den.A mv.den.n mv.den.c] 102)) := (Below.refl _ _).alloc (Nat.le_refl _) _
     have hgG : ¬ G wr.heap.size := fun hg => by have := (hQ.gin _ hg).2; omega
     have sR : w.heap.size + 1 < wr.heap.size := block_lt_of_cell bR.1
     have hCB : (wr.alloc (.cells #[.slice qA qn qc, .bool mv.num.ng, .slice mv.num.A mv.num.n mv.num.c, .bool mv.den.ng, .slice mv.den.A mv.den.n mv.den.c] 102)).heap[wr.heap.size]? = some (.cells #[.slice qA qn qc, .bool mv.num.ng, .slice mv.num.A mv.num.n mv.num.c, .bool mv.den.ng, .slice mv.den.A mv.den.n mv.den.c] 102 (0, 0)) := heap_new _ _ rfl
     replace bR := bR.below al sR
     replace hQ := hQ.call al
     have HE := Lib.hid (And.intro l1 (And.intro l2 (And.intro l3 (And.intro (fun m hm => (e1 m hm).below al) (And.intro (fun m hm => (e2 m hm).below al) fun m hm => (e3 m hm).below al)))))
     clear l1 l2 l3 e1 e2 e3 m0 m1 m2 m3 m4 hbl2 al hbW sR
     generalize wr.alloc (.cells #[.slice qA qn qc, .bool mv.num.ng, .slice mv.num.A mv.num.n mv.num.c, .bool mv.den.ng, .slice mv.den.A mv.den.n mv.den.c] 102) = wq at *
     generalize wr.heap.size = g at *
     obtain ⟨t0, t1, t2, t3, t4⟩ : wq.cell? ⟨g, 0, none⟩ = some (.slice qA qn qc) ∧ wq.cell? ⟨g, 1, none⟩ = some (.bool mv.num.ng) ∧ wq.cell? ⟨g, 2, none⟩ = some (.slice mv.num.A mv.num.n mv.num.c) ∧ wq.cell? ⟨g, 3, none⟩ = some (.bool mv.den.ng) ∧ wq.cell? ⟨g, 4, none⟩ = some (.slice mv.den.A mv.den.n mv.den.c) := by simp [World.cell?, hCB]
     have hgl := lt_of_block hCB
     obtain ⟨c0, c1, c2, c3, cf⟩ := hQ.cells
     have hdl := hQ.dlt
     have hbz := hQ.bel.size
     have hdr : Below wq.heap.size wq wq.drew := (Below.refl _ _).drew
     refine wp_plain_G 9 (fun f w' => f = false → Sees w.heap.size [] wq w') (by kernel_rfl) ?_
     have hS0 : Sees w.heap.size [] wq wq.drew := Sees.st (by simp) hbz
     refine tkA 0 ?_ (fun w' b hSw => ?_) (fun _ => hS0) ?_
     rotate_left
     ·(try dsimp only at hSw); go_simp; try with_reducible rfl
     simp only [zzA, zzB, zzC]
     refine tkA 2 ?_ (fun w' b hSw => ?_) (fun _ => hS0) ?_
     rotate_left
     ·(try dsimp only at hSw); go_simp; try with_reducible rfl
     simp only [zzA, zzB, zzC]
     refine tkA 4 ?_ (fun w' b hSw => ?_) (fun _ => hS0) ?_
     rotate_left
     ·(try dsimp only at hSw); go_simp; try with_reducible rfl
     simp only [zzA, zzB, zzC]
     refine tkW 1 (vb) (fun w' hSw => ?_) (fun _ => hS0) ?_
     ·(replace hSw := hSw rfl; go_simp; try with_reducible rfl)
     simp only [zzA, zzB, zzC]
     refine tkV 3 7 (.slice qA qn qc) (fun w' hSw => ?_) (fun _ => hS0) ?_
     ·(replace hSw := hSw rfl; go_simp; try with_reducible rfl)
     simp only [zzA, zzB, zzC]
     refine oneW (i := 5) (by kernel_rfl) rfl (by rfl) ?_
     intro K hK
     go_simp
     refine hK.out _ _ (fun _ => hS0) ?_
     clear hK K
     refine oneW (i := 6) (by kernel_rfl) rfl (by rfl) ?_
     intro K hK
     go_simp
     refine hK.out _ _ (fun _ => hS0) ?_
     clear hK K
     refine oneW (i := 7) (by kernel_rfl) rfl (by rfl) ?_
     intro K hK
     go_simp
     with_reducible refine (resize_calls (s := ⟨qA, qn, qc⟩) (HRow.out.below (hQ.bel.trans (hdr.mono hQ.bel.size))) qn (by omega) (by have := HL.out; omega)).mono ?_
     rintro e w1 ⟨⟨⟨zA, zn, zc⟩, rfl, hz⟩, hb1⟩
     rw [show resize row qn = row from resize_self HRow.out.len] at hz
     have hS1 := Kept.call2 hb1 hS0
     have hb1' : Below wq.heap.size wq w1 := hdr.trans hb1
     have Hnew := Lib.hid (ex_new hQ hz HRow.out.fit)
     refine hK.out _ _ (fun _ => hS1) ?_
     clear hK K hz hb1
     refine oneW (i := 8) (by kernel_rfl) rfl (by rfl) ?_
     intro K hK
     go_simp
     refine hK.out _ _ (fun _ => Sees.al hS1) ?_
     clear hK K
     have hown := (own_ex (hQ.call hb1')).2.1
     refine oneW (i := 9) (by kernel_rfl) rfl (by rfl) ?_
     intro K hK
     refine oper_append_own _ _ 22 rfl k0 23 ii0 (.slice none 0 0) 1 24 Tryz.underlying22 hii hzi0 hzi1 hzi2 rfl (by decide) vb rs.length (s2.map SV.val) rfl (hown.alloc _) ⟨w1.heap.size, 0, none⟩ 1 1 [.slice zA zn zc] rfl rfl (cell_one_new _ _ _) (by intro u hu; simp at hu; rcases hu with rfl <;> rfl) (by have := HRl.out; simp [maxLen]; omega) (by have := HRl.out; omega) (by have := hb1'.size; have := hQ.dB; simp; omega) ?_
     intro v' W5 hown5 hg5 hnil5 hat5
     have d1 : W5.cell? ⟨d, 2, none⟩ = some vb := (World.cell?_of_block (a := ⟨d, 2, none⟩) ((hQ.call hb1').app_blk (f := 2) (by omega) (by omega) hg5 (Nat.lt_of_lt_of_le hdl hb1'.size) (.inr rfl))).trans ((hb1'.cell (p := ⟨d, 2, none⟩) hdl).trans c2)
     have df : ∀ o, W5.frozen? ⟨d, o, none⟩ = false := fun o => (World.frozen?_of_block (a := ⟨d, o, none⟩) ((hQ.call hb1').app_blk (f := 2) (by omega) (by omega) hg5 (Nat.lt_of_lt_of_le hdl hb1'.size) (.inr rfl))).trans ((hQ.call hb1').cells.2.2.2.2 o)
     have Hm : Hid (ExMid w k0 d V (L + 1) os (rs ++ [row]) bs (W5.setCell ⟨d, 2, none⟩ v') ∧ ∀ x, x < wq.heap.size → ¬ G x → (W5.setCell ⟨d, 2, none⟩ v').heap[x]? = wq.heap[x]?) := by
      obtain ⟨l1, l2, l3, e1, e2, e3⟩ := HE.out
      exact ex_add2 l1 l2 l3 hQ e1 e2 e3 hb1' (x := ⟨zA, zn, zc⟩) Hnew.out hown5 hg5 hat5
     have hRG : ¬ G (w.heap.size + 1) := fun hg => by have := (hQ.gin _ hg).1; omega
     have sR : w.heap.size + 1 < wq.heap.size := block_lt_of_cell bR.1
     obtain ⟨g5, c5, rfl⟩ := ownsRow_succ hown5
     simp only [Act.put, List.setIfInBounds_toArray, List.set_cons_zero, List.set_cons_succ]
     refine hK.out _ _ (fun h => absurd h (by decide)) ?_
     clear hK K hown hown5 hg5 hat5 hnil5 hS0 hS1 hQ HE Hnew t0 t1 t2 t3 t4 c0 c1 c2 c3 cf hb1'
     refine oneW (i := 10) (by kernel_rfl) rfl (by rfl) ?_
     intro K hK
     go_simp
     refine hK.out _ _ (fun h => absurd h (by decide)) ?_
     clear hK K
     refine oneW (i := 11) (by kernel_rfl) rfl (by rfl) ?_
     intro K hK
     go_simp
     refine hK.out _ _ (fun h => absurd h (by decide)) ?_
     clear hK K d1 df
     refine wpAnyG_done (by kernel_rfl) ?_ _
     generalize W5.setCell ⟨d, 2, none⟩ (.slice (some ⟨g5, 0, none⟩) (rs.length + 1) c5) = wp at *
     replace bR := bR.heap (Hm.out.2 _ sR hRG)
     replace hCB := (Hm.out.2 _ hgl hgG).trans hCB
     have HM2 := Lib.hid Hm.out.1
     clear Hm hRG hgG hdl hbz hdr sR hgl
     obtain ⟨va, vb, vc, G, s1, s2, s3, l1, l2, l3, hQ, e1, e2, e3⟩ := HM2.out
     have HE := Lib.hid (And.intro l1 (And.intro l2 (And.intro l3 (And.intro e1 (And.intro e2 e3)))))
     clear l1 l2 l3 e1 e2 e3 HM2
     obtain ⟨t0, t1, t2, t3, t4⟩ : wp.cell? ⟨g, 0, none⟩ = some (.slice qA qn qc) ∧ wp.cell? ⟨g, 1, none⟩ = some (.bool mv.num.ng) ∧ wp.cell? ⟨g, 2, none⟩ = some (.slice mv.num.A mv.num.n mv.num.c) ∧ wp.cell? ⟨g, 3, none⟩ = some (.bool mv.den.ng) ∧ wp.cell? ⟨g, 4, none⟩ = some (.slice mv.den.A mv.den.n mv.den.c) := by simp [World.cell?, hCB]
     have hgl := lt_of_block hCB
     obtain ⟨c0, c1, c2, c3, cf⟩ := hQ.cells
     have hdl := hQ.dlt
     have hbz := hQ.bel.size
     have hdr : Below wp.heap.size wp wp.drew := (Below.refl _ _).drew
     go_upto_region 14 with fail
     refine wp_plain_G 6 (fun f w' => f = false → Sees w.heap.size [] wp w') (by kernel_rfl) ?_
     have hS0 : Sees w.heap.size [] wp wp.drew := Sees.st (by simp) hbz
     refine tkA 0 ?_ (fun w' b hSw => ?_) (fun _ => hS0) ?_
     rotate_left
     ·(try dsimp only at hSw); go_simp; try with_reducible rfl
     simp only [zzA, zzB, zzC]
     refine tkA 2 ?_ (fun w' b hSw => ?_) (fun _ => hS0) ?_
     rotate_left
     ·(try dsimp only at hSw); go_simp; try with_reducible rfl
     simp only [zzA, zzB, zzC]
     refine tkW 1 (vc) (fun w' hSw => ?_) (fun _ => hS0) ?_
     ·(replace hSw := hSw rfl; go_simp; try with_reducible rfl)
     simp only [zzA, zzB, zzC]
     refine oneW (i := 3) (by kernel_rfl) rfl (by rfl) ?_
     intro K hK
     go_simp
     refine hK.out _ _ (fun _ => hS0) ?_
     clear hK K
     refine oneW (i := 4) (by kernel_rfl) rfl (by rfl) ?_
     intro K hK
     go_simp
     with_reducible refine (canonical_calls (a := mv) (HMost.out.below (hQ.bel.trans (hdr.mono hQ.bel.size))) (by have := HL.out; omega)).mono ?_
     rintro e w1 ⟨⟨zq, rfl, hz⟩, hb1⟩
     have hS1 := Kept.call2 hb1 hS0
     have hb1' : Below wp.heap.size wp w1 := hdr.trans hb1
     have Hnew := Lib.hid (ex_newq hQ hz HMost.out.fit)
     refine hK.out _ _ (fun _ => hS1) ?_
     clear hK K hz hb1
     refine oneW (i := 5) (by kernel_rfl) rfl (by rfl) ?_
     intro K hK
     go_simp
     refine hK.out _ _ (fun _ => Sees.al hS1) ?_
     clear hK K
     have hown := (own_ex (hQ.call hb1')).2.2
     refine oneW (i := 6) (by kernel_rfl) rfl (by rfl) ?_
     intro K hK
     refine oper_append_own _ _ 23 rfl k0 30 iq0 (.agg #[.bool false, .slice none 0 0, .bool false, .slice none 0 0]) 4 64 Tryz.underlying23 hiq hzq0 hzq1 hzq2 rfl (by decide) vc bs.length (s3.flatMap cells4q) rfl (hown.alloc _) ⟨w1.heap.size, 0, none⟩ 1 1 (cells4q zq) rfl rfl (cell_fourN _ _) (by intro u hu; simp [cells4q] at hu; rcases hu with rfl | rfl | rfl | rfl <;> rfl) (by have := HBl.out; simp [maxLen]; omega) (by have := HBl.out; omega) (by have := hb1'.size; have := hQ.dB; simp; omega) ?_
     intro v' W5 hown5 hg5 hnil5 hat5
     have d1 : W5.cell? ⟨d, 3, none⟩ = some vc := (World.cell?_of_block (a := ⟨d, 3, none⟩) ((hQ.call hb1').app_blk (f := 3) (by omega) (by omega) hg5 (Nat.lt_of_lt_of_le hdl hb1'.size) (.inr rfl))).trans ((hb1'.cell (p := ⟨d, 3, none⟩) hdl).trans c3)
     have df : ∀ o, W5.frozen? ⟨d, o, none⟩ = false := fun o => (World.frozen?_of_block (a := ⟨d, o, none⟩) ((hQ.call hb1').app_blk (f := 3) (by omega) (by omega) hg5 (Nat.lt_of_lt_of_le hdl hb1'.size) (.inr rfl))).trans ((hQ.call hb1').cells.2.2.2.2 o)
     have Hm : Hid (ExMid w k0 d V (L + 1) os (rs ++ [row]) (bs ++ [most]) (W5.setCell ⟨d, 3, none⟩ v') ∧ ∀ x, x < wp.heap.size → ¬ G x → (W5.setCell ⟨d, 3, none⟩ v').heap[x]? = wp.heap[x]?) := by
      obtain ⟨l1, l2, l3, e1, e2, e3⟩ := HE.out
      exact ex_add3 l1 l2 l3 hQ e1 e2 e3 hb1' (x := zq) Hnew.out hown5 hg5 hat5
     have hRG : ¬ G (w.heap.size + 1) := fun hg => by have := (hQ.gin _ hg).1; omega
     have sR : w.heap.size + 1 < wp.heap.size := block_lt_of_cell bR.1
     obtain ⟨g5, c5, rfl⟩ := ownsRow_succ hown5
     simp only [Act.put, List.setIfInBounds_toArray, List.set_cons_zero, List.set_cons_succ]
     refine hK.out _ _ (fun h => absurd h (by decide)) ?_
     clear hK K hown hown5 hg5 hat5 hnil5 hS0 hS1 hQ HE Hnew t0 t1 t2 t3 t4 c0 c1 c2 c3 cf hb1'
     refine oneW (i := 7) (by kernel_rfl) rfl (by rfl) ?_
     intro K hK
     go_simp
     refine hK.out _ _ (fun h => absurd h (by decide)) ?_
     clear hK K
     refine oneW (i := 8) (by kernel_rfl) rfl (by rfl) ?_
     intro K hK
     go_simp
     refine hK.out _ _ (fun h => absurd h (by decide)) ?_
     clear hK K d1 df
     refine wpAnyG_done (by kernel_rfl) ?_ _
     generalize W5.setCell ⟨d, 3, none⟩ (.slice (some ⟨g5, 0, none⟩) (bs.length + 1) c5) = wz at *
     replace bR := bR.heap (Hm.out.2 _ sR hRG)
     have Hfin : Hid (ExL2 w k0 d V (L + 1) os rs bs row most (.int .i64 1) wz) := ⟨1, by omega, rfl, bR, hk, Hm.out.1⟩
     clear Hm hRG hdl hbz hdr sR hgl hCB
     go_wp2
     go_roundw
     case rel => first | exact Hfin.out | ((repeat apply Exists.intro); exact ⟨Hfin.out, rfl⟩)
     case measure => simp [intOf]
    ·skip
     obtain ⟨⟨z, ⟨xA, xn, xc⟩, ⟨yA, yn, yc⟩, ⟨uA, un, uc⟩⟩, hz, bQ, hq, n1, n2, n3, hbW, hdW, hkd⟩ := ex_prog hM
     dsimp only at hz n1 n2 n3
     subst hz
     obtain ⟨q0, q1, q2, q3, -⟩ := id bQ
     obtain ⟨r0, r1, r2, r3, rf⟩ := id bR
     dsimp only at q0 q1 q2 q3
     have sR : w.heap.size + 1 < wr.heap.size := block_lt_of_cell bR.1
     clear hM n1 n2 n3
     have hne : ¬ (d = w.heap.size + 1) := by omega
     have P8 := Put.four (W := wr) (w.heap.size + 1) (.int .i64 V) (.slice xA xn xc) (.slice yA yn yc) (.slice uA un uc)
     have bR8 := bR.stored (.int .i64 V) (.slice xA xn xc) (.slice yA yn yc) (.slice uA un uc)
     have HQ := Lib.hid hq
     clear hq
     go_wp2
     generalize (((wr.setCell ⟨w.heap.size + 1, 0, none⟩ (.int .i64 V)).setCell ⟨w.heap.size + 1, 1, none⟩ (.slice xA xn xc)).setCell ⟨w.heap.size + 1, 2, none⟩ (.slice yA yn yc)).setCell ⟨w.heap.size + 1, 3, none⟩ (.slice uA un uc) = y8 at *
     clear r0 r1 r2 r3 rf
     obtain ⟨r0, r1, r2, r3, -⟩ := id bR8
     refine bodyPost_ret (v := .tuple #[.agg #[.int .i64 V, .slice xA xn xc, .slice yA yn yc, .slice uA un uc], .int .i64 0]) (by simp [results, Tryz.results76, go_sem, r0, r1, r2, r3]) rfl ⟨⟨⟨V, ⟨xA, xn, xc⟩, ⟨yA, yn, yc⟩, ⟨uA, un, uc⟩⟩, rfl, rfl, ?_⟩, hbW.trans (P8.below _ (by omega))⟩
     have hc : ∀ a : Addr, k0 ≤ a.block → y8.cell? a = wr.cell? a := fun a ha => World.cell?_of_block (P8.keep _ (by omega))
     have hv : ∀ {s : SV} {l : List Rat}, VecIs wr (fun b => k0 ≤ b) (fun b => k0 ≤ b) (L + 1) s l → VecIs y8 (fun b => k0 ≤ b) (fun b => k0 ≤ b) (L + 1) s l := fun h => h.keep (fun a ha _ => hc a ha) fun v q hq => hq.keep fun a ha _ => hc a ha
     have h1 : LPIs y8 (fun b => k0 ≤ b) (fun b => k0 ≤ b) (L + 1) ⟨V, ⟨xA, xn, xc⟩, ⟨yA, yn, yc⟩, ⟨uA, un, uc⟩⟩ os (rs ++ [row]) (bs ++ [most]) := ⟨HQ.out.obj.keep (fun a ha _ => hc a ha) fun v q hq => hq.keep fun a ha _ => hc a ha, HQ.out.rows.keep (fun a ha _ => hc a ha) fun v q hq => hq.keep fun a ha _ => hc a ha, hv HQ.out.bounds⟩
     exact ⟨h1.obj.imp (fun b _ hb => by omega) fun _ _ hq => hq.imp fun b _ hb => by omega, h1.rows.imp (fun b _ hb => by omega) fun _ _ hq => hq.imp fun b _ hb => by omega, h1.bounds.imp (fun b _ hb => by omega) fun _ _ hq => hq.imp fun b _ hb => by omega⟩
end Go.Proofs.YtlepljpdkbjbhaaGreat
namespace Go.Proofs.YtlepljpdkbjbhaaGreat
open Go.RowKit Go.Shelf
theorem LPIs.put {w w' : World} {L b B : Nat} {q : LPV} {os rs : List (List Rat)} {bs : List Rat} (h : LPIs w (fun x => B ≤ x) (fun x => B ≤ x) L q os rs bs) (hP : Put w w' b) (hb : b < B) : LPIs w' (fun x => B ≤ x) (fun x => B ≤ x) L q os rs bs :=
 have hc : ∀ a : Addr, B ≤ a.block → w'.cell? a = w.cell? a := fun a ha => World.cell?_of_block (hP.keep _ (by omega))
 ⟨h.obj.keep (fun a ha _ => hc a ha) fun v q hq => hq.keep fun a ha _ => hc a ha, h.rows.keep (fun a ha _ => hc a ha) fun v q hq => hq.keep fun a ha _ => hc a ha, h.bounds.keep (fun a ha _ => hc a ha) fun v q hq => hq.keep fun a ha _ => hc a ha⟩
set_option maxRecDepth 40000 in
set_option maxHeartbeats 4000000 in
theorem addConstraint_calls {w : World} {X Y X' Y' Z' : Nat → Prop} {L V : Nat} {p : LPV} {os rs : List (List Rat)} {bs : List Rat} {r : SV} {mv : QV} {row : List Rat} {most : Rat} (h : LPIs w X Y L p os rs bs) (hV : p.n = V) (hV2 : V ≤ 64) (ho1 : 1 ≤ p.O.n) (ho2 : p.O.n ≤ 4) (hr : p.R.n ≤ 127) (hb : p.B.n = p.R.n) (hco : colsOf os ≤ V) (hcr : colsOf rs ≤ V) (hL : L + 1 ≤ LM)
  (hrow : VecIs w X' Y' L r row) (hmost : QIs w Z' L mv most) (hrn : r.n ≤ V) :
  Calls Tryz.prog 28 #[p.val, r.val, mv.val] w fun e w' => LPRet w p.n (L + 1) os (rs ++ [row]) (bs ++ [most]) e w' ∧ Below w.heap.size w w' := by
 obtain ⟨z, ⟨oA, on, oc⟩, ⟨rA, rn, rc⟩, ⟨bA, bn, bc⟩⟩ := p
 obtain ⟨qA, qn, qc⟩ := r
 dsimp only at hV hr hb ho1 ho2 hrn
 subst hV
 obtain rfl : rn = bn := hb.symm
 have H := Lib.hid h
 have HRow := Lib.hid hrow
 have HMost := Lib.hid hmost
 have HCo := Lib.hid hco
 have HCr := Lib.hid hcr
 have HL := Lib.hid hL
 clear h hrow hmost hco hcr hL
 dsimp only [LPV.val, SV.val] at *
 go_enter Tryz.func28, Tryz.ntmps28
 go_upto_region 1 with fail
 refine gen_world (fun W => Below w.heap.size w W ∧ Box4 W w.heap.size (.int .i64 V) (.slice oA on oc) (.slice rA rn rc) (.slice bA rn bc) ∧ Box4 W (w.heap.size + 1) (.bool mv.num.ng) (.slice mv.num.A mv.num.n mv.num.c) (.bool mv.den.ng) (.slice mv.den.A mv.den.n mv.den.c) ∧ Box4 W (w.heap.size + 1 + 1) (.int .i64 0) (.slice none 0 0) (.slice none 0 0) (.slice none 0 0) ∧ w.heap.size < W.heap.size ∧ w.heap.size + 1 < W.heap.size ∧ w.heap.size + 1 + 1 < W.heap.size) ⟨((((Below.refl _ _).alloc (by simp <;> omega) _).alloc (by simp <;> omega) _).alloc (by simp <;> omega) _), ⟨by go_simp, by go_simp, by go_simp, by go_simp, by intro o; go_simp⟩, ⟨by go_simp, by go_simp, by go_simp, by go_simp, by intro o; go_simp⟩, ⟨by go_simp, by go_simp, by go_simp, by go_simp, by intro o; go_simp⟩, by simp <;> omega, by simp <;> omega, by simp <;> omega⟩ ?_
 rintro W ⟨hbW, bP, bM, bR, s0, s1, s2⟩
 have hBW := hbW.size
 have ne02 : ¬ (w.heap.size = w.heap.size + 1 + 1) := by omega
 obtain ⟨p0, p1, p2, p3, -⟩ := id bP
 obtain ⟨m0, m1, m2, m3, -⟩ := id bM
 go_wp2_with fail
 have al : Below W.heap.size W (W.alloc (.cells #[.slice qA qn qc, .bool mv.num.ng, .slice mv.num.A mv.num.n mv.num.c, .bool mv.den.ng, .slice mv.den.A mv.den.n mv.den.c] 102)) := (Below.refl _ _).alloc (Nat.le_refl _) _
 have hbW2 := hbW.trans (al.mono hbW.size)
 refine (extend1_calls (p := ⟨V, ⟨oA, on, oc⟩, ⟨rA, rn, rc⟩, ⟨bA, rn, bc⟩⟩) (r := ⟨qA, qn, qc⟩) (mv := mv) (b := W.heap.size) (H.out.below hbW2) rfl hV2 ho1 ho2 hr rfl HCo.out HCr.out HL.out (HRow.out.below hbW2) (HMost.out.below hbW2) hrn (heap_new _ _ rfl)).mono ?_
 rintro e w1 ⟨⟨⟨z, ⟨xA, xn, xc⟩, ⟨yA, yn, yc⟩, ⟨uA, un, uc⟩⟩, rfl, hz, hq⟩, hb1⟩
 dsimp only at hz
 subst hz
 have hb1' := al.trans (hb1.mono al.size)
 replace bR := bR.below hb1' (by omega)
 have hbw1 := hbW.trans (hb1'.mono hbW.size)
 obtain ⟨r0, r1, r2, r3, rf⟩ := id bR
 have sR : w.heap.size + 1 + 1 < w1.heap.size := block_lt_of_cell r0
 have P8 := Put.four (W := w1) (w.heap.size + 1 + 1) (.int .i64 V) (.slice xA xn xc) (.slice yA yn yc) (.slice uA un uc)
 have bR8 := bR.stored (.int .i64 V) (.slice xA xn xc) (.slice yA yn yc) (.slice uA un uc)
 have HQ := Lib.hid hq
 clear hq m0 m1 m2 m3 p0 p1 p2 p3
 go_wp2
 generalize (((w1.setCell ⟨w.heap.size + 1 + 1, 0, none⟩ (.int .i64 V)).setCell ⟨w.heap.size + 1 + 1, 1, none⟩ (.slice xA xn xc)).setCell ⟨w.heap.size + 1 + 1, 2, none⟩ (.slice yA yn yc)).setCell ⟨w.heap.size + 1 + 1, 3, none⟩ (.slice uA un uc) = y8 at *
 clear r0 r1 r2 r3 rf
 obtain ⟨r0, r1, r2, r3, -⟩ := id bR8
 refine bodyPost_ret (v := .tuple #[.agg #[.int .i64 V, .slice xA xn xc, .slice yA yn yc, .slice uA un uc], .int .i64 0]) (by simp [results, Tryz.results28, go_sem, r0, r1, r2, r3]) rfl ⟨⟨⟨V, ⟨xA, xn, xc⟩, ⟨yA, yn, yc⟩, ⟨uA, un, uc⟩⟩, rfl, rfl, ?_⟩, hbw1.trans (P8.below _ (by omega))⟩
 have hals := al.size
 have h1 := HQ.out.put P8 (by omega)
 exact ⟨h1.obj.imp (fun b _ hb => by omega) fun _ _ hq => hq.imp fun b _ hb => by omega, h1.rows.imp (fun b _ hb => by omega) fun _ _ hq => hq.imp fun b _ hb => by omega, h1.bounds.imp (fun b _ hb => by omega) fun _ _ hq => hq.imp fun b _ hb => by omega⟩
end Go.Proofs.YtlepljpdkbjbhaaGreat
namespace Go.Proofs.YtlepljpdkbjbhaaGreat
open Go.RowKit Go.Shelf Lin
theorem vcmp_add (f g : Nat → Rat) (a : Nat) : ∀ b, vcmp f g (a + b) = if vcmp f g a = 0 then vcmp (fun i => f (a + i)) (fun i => g (a + i)) b else vcmp f g a
 | 0 => by rw [Nat.add_zero]; split <;> simp_all [vcmp]
 | b + 1 => by
  show (if vcmp f g (a + b) = 0 then qcmp (f (a + b)) (g (a + b)) else vcmp f g (a + b)) = _
  rw [vcmp_add f g a b]
  by_cases h : vcmp f g a = 0
  ·simp only [if_pos h]; rfl
  ·simp only [if_neg h]
theorem qcmp_neg (p q : Rat) : qcmp (- p) (- q) = qcmp q p := by
 unfold qcmp; grind
theorem vcmp_neg (f g : Nat → Rat) : ∀ n, vcmp (fun i => - f i) (fun i => - g i) n = vcmp g f n
 | 0 => rfl
 | n + 1 => by
  show (if vcmp (fun i => - f i) (fun i => - g i) n = 0 then qcmp (- f n) (- g n) else _) = (if vcmp g f n = 0 then qcmp (g n) (f n) else vcmp g f n)
  rw [vcmp_neg f g n, qcmp_neg]
theorem vcmp_congr {f f' g g' : Nat → Rat} : ∀ {n : Nat}, (∀ i, i < n → f i = f' i) → (∀ i, i < n → g i = g' i) → vcmp f g n = vcmp f' g' n
 | 0, _, _ => rfl
 | n + 1, h, h' => by
  show (if vcmp f g n = 0 then qcmp (f n) (g n) else vcmp f g n) = (if vcmp f' g' n = 0 then qcmp (f' n) (g' n) else vcmp f' g' n)
  rw [vcmp_congr (fun i hi => h i (by omega)) fun i hi => h' i (by omega), h n (by omega), h' n (by omega)]
theorem vcmp_lex {f g : Nat → Rat} {N : Nat} (h : LexPos N fun l => f l - g l) : vcmp f g N = 1 := by
 obtain ⟨i, hi, h1, h2⟩ := h
 rw [vcmp_first (x := i) (fun j hj => by have := h2 j hj; grind) (by grind) hi]
 unfold qcmp; grind
theorem dotL_sum {V : Nat} {r x : List Rat} (hr : r.length ≤ V) (hx : x.length = V) : dotL r x = sum V fun k => r.getD k 0 * x.getD k 0 := by
 unfold dotL
 rw [hx, Nat.min_eq_left hr]
 have h : ∀ d, sum (r.length + d) (fun k => r.getD k 0 * x.getD k 0) = sum r.length fun k => r.getD k 0 * x.getD k 0 := fun d => by
  induction d with
  | zero => rfl
  | succ d ih =>
   show sum (r.length + d) _ + r.getD (r.length + d) 0 * x.getD (r.length + d) 0 = _
   rw [ih, getD_none r _ _ (by omega)]; grind
 rw [← h (V - r.length), show r.length + (V - r.length) = V by omega]
theorem lpcmp_obj {V : Nat} {os rs : List (List Rat)} {bs x y : List Rat} (hc : colsOf os ≤ V) (hx : x.length = V) (hy : y.length = V) :
  lpcmp os x y = vcmp (fun l => (probOf V os rs bs).obj l fun k => x.getD k 0) (fun l => (probOf V os rs bs).obj l fun k => y.getD k 0) (os.length + V) := by
 have e1 : ∀ z : List Rat, z.length = V → ∀ i, i < os.length → (probOf V os rs bs).obj i (fun k => z.getD k 0) = (os.map fun r => dotL r z).getD i 0 := fun z hz i hi => by
  rw [show (os.map fun r => dotL r z).getD i 0 = dotL (os.getD i []) z by simp [List.getD_eq_getElem?_getD, hi], dotL_sum (getD_cols hc i) hz]
  show (if i < os.length then _ else _) = _
  rw [if_pos hi]; rfl
 have e2 : ∀ z : List Rat, ∀ i, (probOf V os rs bs).obj (os.length + i) (fun k => z.getD k 0) = - z.getD i 0 := fun z i => by
  show (if os.length + i < os.length then _ else - z.getD (os.length + i - os.length) 0) = _
  rw [if_neg (by omega), show os.length + i - os.length = i by omega]
 rw [vcmp_add, vcmp_congr (n := os.length) (e1 x hx) (e1 y hy)]
 simp only [e2]
 rw [vcmp_neg]
 unfold lpcmp
 rw [hx, hy, Nat.max_self]
theorem lpcmp_nonneg {V : Nat} {os rs : List (List Rat)} {bs x y : List Rat} (hc : colsOf os ≤ V) (hx : x.length = V) (hy : y.length = V) (ho : (probOf V os rs bs).Optimal fun k => x.getD k 0) (hf : (probOf V os rs bs).Feasible fun k => y.getD k 0) : ¬ lpcmp os x y < 0 := by
 rw [lpcmp_obj (rs := rs) (bs := bs) hc hx hy]
 rcases ho.2 _ hf with h | h
 ·have h' : vcmp (fun l => (probOf V os rs bs).obj l fun k => x.getD k 0) (fun l => (probOf V os rs bs).obj l fun k => y.getD k 0) (os.length + V) = 1 := vcmp_lex h
  rw [h']; decide
 ·rw [vcmp_zero fun i hi => ?_]
  ·decide
  ·exact (obj_congr h hi).symm
section
variable {V : Nat} {os rs : List (List Rat)} {bs row : List Rat} {most : Rat}
theorem feas_snoc (hb : bs.length = rs.length) (x : Nat → Rat) : (probOf V os (rs ++ [row]) (bs ++ [most])).Feasible x ↔ (probOf V os rs bs).Feasible x ∧ sum V (fun k => row.getD k 0 * x k) ≤ most := by
 have eA : ∀ i, i < rs.length → (rs ++ [row]).getD i [] = rs.getD i [] := fun i hi => getD_append_left _ _ _ hi
 have eB : ∀ i, i < rs.length → (bs ++ [most]).getD i 0 = bs.getD i 0 := fun i hi => getD_append_left _ _ _ (by omega)
 have eA' : (rs ++ [row]).getD rs.length [] = row := by simp [List.getD_eq_getElem?_getD]
 have eB' : (bs ++ [most]).getD rs.length 0 = most := by rw [← hb]; simp [List.getD_eq_getElem?_getD]
 constructor
 ·rintro ⟨h1, h2⟩
  refine ⟨⟨h1, fun i hi => ?_⟩, ?_⟩
  ·have hi' : i < rs.length := hi
   have := h2 i (by show i < (rs ++ [row]).length; simp; omega)
   simp only [probOf] at this ⊢
   rw [eA i hi', eB i hi'] at this
   exact this
  ·have := h2 rs.length (by show rs.length < (rs ++ [row]).length; simp)
   simp only [probOf] at this
   rw [eA', eB'] at this
   exact this
 ·rintro ⟨⟨h1, h2⟩, h3⟩
  refine ⟨h1, fun i hi => ?_⟩
  have hi' : i < rs.length + 1 := by have : i < (rs ++ [row]).length := hi; simpa using this
  simp only [probOf] at h2 ⊢
  by_cases e : i = rs.length
  ·subst e; rw [eA', eB']; exact h3
  ·rw [eA i (by omega), eB i (by omega)]; exact h2 i (by omega)
theorem unb_snoc (hb : bs.length = rs.length) {x d : Nat → Rat} (h : (probOf V os (rs ++ [row]) (bs ++ [most])).Unbounded x d) : (probOf V os rs bs).Unbounded x d := by
 refine ⟨((feas_snoc hb x).1 h.1).1, h.2.1, fun i hi => ?_, h.2.2.2⟩
 have hi' : i < rs.length := hi
 have := h.2.2.1 i (by show i < (rs ++ [row]).length; simp; omega)
 simp only [probOf] at this ⊢
 rw [show (rs ++ [row]).getD i [] = rs.getD i [] from getD_append_left _ _ _ hi'] at this
 exact this
def RestrOut (V : Nat) (os : List (List Rat)) (row : List Rat) (most : Rat) (r1 r2 : RV) (x1 x2 : World) : Prop :=
 (r1.kind = 2 ∧ r2.kind = 2) ∨ (r1.kind = 3 ∧ r2.kind = 2) ∨ (r1.kind = 3 ∧ r2.kind = 1) ∨ (r1.kind = 3 ∧ r2.kind = 3) ∨
 (r1.kind = 1 ∧ r2.kind = 2 ∧ ∃ l : List Rat, l.length = V ∧ (∀ i, Lin.Fits 180000 (l.getD i 0)) ∧ VecIs x1 AllB AllB 6000 r1.X l ∧ most < sum V fun k => row.getD k 0 * l.getD k 0) ∨
 (r1.kind = 1 ∧ r2.kind = 1 ∧ ∃ l l2 : List Rat, l.length = V ∧ l2.length = V ∧ (∀ i, Lin.Fits 180000 (l.getD i 0)) ∧ (∀ i, Lin.Fits 180000 (l2.getD i 0)) ∧ VecIs x1 AllB AllB 6000 r1.X l ∧ VecIs x2 AllB AllB 6000 r2.X l2 ∧ ¬ lpcmp os l l2 < 0 ∧ ((sum V fun k => row.getD k 0 * l.getD k 0) ≤ most ↔ ∀ i, i < V → l.getD i 0 = l2.getD i 0))
theorem opt_vec {w w' : World} {P : Prob} {r : RV} {k N : Nat} (h : Solved w P r w') (hk : r.kind = 1) (h1 : 1 ≤ k) (h0 : P.start.Fits P k) (hN : 5 ^ P.n * k ≤ N) (hN2 : N < 32 * 6000) : ∃ l : List Rat, l.length = P.n ∧ (∀ i, Lin.Fits N (l.getD i 0)) ∧ VecIs w' AllB AllB 6000 r.X l ∧ P.Optimal fun k => l.getD k 0 := by
 have hh := h
 rcases h with ⟨_, D, l, hg, hf, hc, hl, hopt, hx, _⟩ | ⟨hk', _⟩ | ⟨hk', _⟩
 ·have hF : ∀ i, Lin.Fits N (l.getD i 0) := fun i => (opt_fits hh hk h1 h0 hl hopt i).mono hN
  exact ⟨l, hl, hF, (hx.loose fun i => qfit_to (hF i) hN2).imp (fun _ _ _ => trivial) fun _ _ hq => hq.imp fun _ _ _ => trivial, hopt⟩
 ·rw [hk] at hk'; cases hk'
 ·rw [hk] at hk'; cases hk'
theorem restrict_out {w1 w2 x1 x2 : World} {r1 r2 : RV} {k1 k2 : Nat} (hb : bs.length = rs.length) (hc : colsOf os ≤ V) (hV : V ≤ 4) (h1 : Solved w1 (probOf V os rs bs) r1 x1) (h2 : Solved w2 (probOf V os (rs ++ [row]) (bs ++ [most])) r2 x2)
  (p1 : 1 ≤ k1) (p2 : 1 ≤ k2) (q1 : k1 ≤ 288) (q2 : k2 ≤ 288) (f1 : (probOf V os rs bs).start.Fits (probOf V os rs bs) k1) (f2 : (probOf V os (rs ++ [row]) (bs ++ [most])).start.Fits (probOf V os (rs ++ [row]) (bs ++ [most])) k2) : RestrOut V os row most r1 r2 x1 x2 := by
 have h5 : 5 ^ V ≤ 625 := Nat.le_trans (Nat.pow_le_pow_right (by omega) hV) (by decide)
 have n1 : 5 ^ V * k1 ≤ 180000 := Nat.le_trans (Nat.mul_le_mul h5 q1) (by decide)
 have n2 : 5 ^ V * k2 ≤ 180000 := Nat.le_trans (Nat.mul_le_mul h5 q2) (by decide)
 have hh1 := h1
 have hh2 := h2
 rcases h1 with ⟨e1, _⟩ | ⟨e1, _, _, _, _, _, _, no1, _⟩ | ⟨e1, _⟩
 ·obtain ⟨l, ll, lf, lv, lo⟩ := opt_vec hh1 e1 p1 f1 n1 (by decide)
  rcases h2 with ⟨e2, _⟩ | ⟨e2, _, _, _, _, _, _, no2, _⟩ | ⟨e2, a, b, _, _, hu, _⟩
  ·obtain ⟨l2, ll2, lf2, lv2, lo2⟩ := opt_vec hh2 e2 p2 f2 n2 (by decide)
   refine .inr (.inr (.inr (.inr (.inr ⟨e1, e2, l, l2, ll, ll2, lf, lf2, lv, lv2, lpcmp_nonneg hc ll ll2 lo ((feas_snoc hb _).1 lo2.1).1, fun hd => ?_, fun hs => ?_⟩))))
   ·have hq : (probOf V os (rs ++ [row]) (bs ++ [most])).Optimal fun k => l.getD k 0 := ⟨(feas_snoc hb _).2 ⟨lo.1, hd⟩, fun y hy => lo.2 y ((feas_snoc hb y).1 hy).1⟩
    exact fun i hi => Prob.Optimal.unique hq lo2 hi
   ·have := ((feas_snoc hb _).1 lo2.1).2
    rw [sum_congr (g := fun k => row.getD k 0 * l2.getD k 0) fun k hk => by rw [hs k hk]]
    exact this
  ·refine .inr (.inr (.inr (.inr (.inl ⟨e1, e2, l, ll, lf, lv, ?_⟩))))
   exact Rat.not_le.1 fun h3 => absurd ((feas_snoc hb _).2 ⟨lo.1, h3⟩) (no2 _)
  ·exact absurd lo ((unb_snoc hb hu).no_optimal _)
 ·refine .inl ⟨e1, (hh2.inf fun x hx => no1 x ((feas_snoc hb x).1 hx).1).1⟩
 ·rcases h2 with ⟨e2, _⟩ | ⟨e2, _⟩ | ⟨e2, _⟩
  ·exact .inr (.inr (.inl ⟨e1, e2⟩))
  ·exact .inr (.inl ⟨e1, e2⟩)
  ·exact .inr (.inr (.inr (.inl ⟨e1, e2⟩)))
end
end Go.Proofs.YtlepljpdkbjbhaaGreat
namespace Go.Proofs.YtlepljpdkbjbhaaGreat
open Go.RowKit Go.Shelf
theorem mat_one {w : World} {b : Nat} {s : SV} {l : List Rat} (h : w.heap[b]? = some (.cells #[s.val] 23 (0, 0))) (hv : VecAt w AllB (QAny w AllB) s l) : MatAt w AllB (QAny w AllB) ⟨some ⟨b, 0, none⟩, 1, 1⟩ [l] :=
 ⟨rfl, Nat.le_refl _, by show 1 ≤ _; omega, fun k hk => by
  obtain rfl : k = 0 := by have : k < 1 := hk; omega
  exact ⟨⟨b, 0, none⟩, s, rfl, trivial, by simp [Addr.add, World.cell?, h], hv⟩⟩
theorem vec_one {w : World} {b : Nat} {u : QV} {x : Rat} (h : w.heap[b]? = some (.cells #[.bool u.num.ng, .slice u.num.A u.num.n u.num.c, .bool u.den.ng, .slice u.den.A u.den.n u.den.c] 30 (0, 0))) (hx : QAny w AllB u x) : VecAt w AllB (QAny w AllB) ⟨some ⟨b, 0, none⟩, 1, 1⟩ [x] :=
 ⟨rfl, Nat.le_refl _, by show 1 ≤ _; omega, fun k hk => by
  obtain rfl : k = 0 := by have : k < 1 := hk; omega
  exact ⟨⟨b, 0, none⟩, u, rfl, trivial, by simp [QCell, Addr.add, World.cell?, h], hx⟩⟩
theorem vecAny_below {w W : World} {s : SV} {l : List Rat} (h : VecAt w AllB (QAny w AllB) s l) (hb : Below w.heap.size w W) : VecAt W AllB (QAny W AllB) s l := h.keep (fun _ _ hl => hb.cell hl) fun _ _ hq => hq.below hb
theorem row_short {w W : World} {b : Nat} {s : SV} {l : List Rat} (hh : VecAt w AllB (QAny w AllB) s l) (hb : Below w.heap.size w W) (h : W.heap[b]? = some (.cells #[s.val] 23 (0, 0))) (hv : MatIs W AllB AllB 6 ⟨some ⟨b, 0, none⟩, 1, 1⟩ [l]) : VecIs w AllB AllB 6 s l := by
 obtain ⟨ad, r, e, -, hc, hr⟩ := hv.row 0 (by show 0 < 1; omega)
 cases e
 have e1 : W.cell? (Addr.add ⟨b, 0, none⟩ 0) = some s.val := by simp [Addr.add, World.cell?, h]
 rw [e1] at hc
 obtain ⟨A, n, c⟩ := s
 obtain ⟨A', n', c'⟩ := r
 simp only [SV.val, Option.some.injEq, Value.slice.injEq] at hc
 obtain ⟨rfl, rfl, rfl⟩ := hc
 exact hh.back hb hr
theorem q_short {w W : World} {b : Nat} {u : QV} {x : Rat} (hh : QAny w AllB u x) (h : W.heap[b]? = some (.cells #[.bool u.num.ng, .slice u.num.A u.num.n u.num.c, .bool u.den.ng, .slice u.den.A u.den.n u.den.c] 30 (0, 0))) (hv : VecIs W AllB AllB 6 ⟨some ⟨b, 0, none⟩, 1, 1⟩ [x]) : QIs w AllB 6 u x := by
 obtain ⟨ad, u', e, -, hc, hq⟩ := hv.elem 0 (by show 0 < 1; omega)
 cases e
 have e1 : QCell W (Addr.add ⟨b, 0, none⟩ (0 * 4)) u := by simp [QCell, Addr.add, World.cell?, h]
 obtain rfl := qcell_inj hc e1
 exact hh.qis hq.sizes.1 hq.sizes.2
theorem cols_snoc {rs : List (List Rat)} {row : List Rat} {V : Nat} (h : colsOf rs ≤ V) (hr : row.length ≤ V) : colsOf (rs ++ [row]) ≤ V :=
 colsOf_le.2 fun l hl => by
  rcases List.mem_append.1 hl with hl | hl
  ·exact colsOf_le.1 h l hl
  ·rw [List.mem_singleton.1 hl]; exact hr
theorem resize_length (l : List Rat) (n : Nat) : (resize l n).length = n := by simp [resize]
theorem resize_fit {l : List Rat} {L : Nat} (h : ∀ k, QFit (L + 1) (l.getD k 0)) (n k : Nat) : QFit (L + 1) ((resize l n).getD k 0) := by
 by_cases hk : k < n
 ·rw [resize, getD_mapr _ _ _ _ hk]; exact h k
 ·rw [getD_none _ _ _ (by rw [resize_length]; omega)]; exact QFit.zero L
theorem LPIs.more {w : World} {X Y : Nat → Prop} {L M : Nat} {p : LPV} {os rs : List (List Rat)} {bs : List Rat} (h : LPIs w X Y L p os rs bs) (hL : L ≤ M) : LPIs w X Y M p os rs bs :=
 ⟨h.obj.imp (fun _ _ h => h) fun _ _ hq => hq.mono hL, h.rows.imp (fun _ _ h => h) fun _ _ hq => hq.mono hL, h.bounds.imp (fun _ _ h => h) fun _ _ hq => hq.mono hL⟩
theorem VecAt.allB {w : World} {X Y : Nat → Prop} {L : Nat} {s : SV} {l : List Rat} (h : VecIs w X Y L s l) : VecIs w AllB AllB L s l := h.imp (fun _ _ _ => trivial) fun _ _ hq => hq.imp fun _ _ _ => trivial
theorem dotV_calls {w : World} {X Y X' Y' : Nat → Prop} {L M kb V : Nat} {sa sb : SV} {la lb : List Rat} (ha : VecIs w X Y L sa la) (hb : VecIs w X' Y' M sb lb) (hL : L ≤ LM) (hM : M ≤ LM) (hla : la.length = V) (hlb : lb.length = V) (hV : V ≤ 1000000) (hkb : 1000000 * (kb + 1) < 32 * LM) (hf : ∀ i, Lin.Fits kb (la.getD i 0 * lb.getD i 0)) :
  Calls Tryz.prog 30 #[sa.val, sb.val] w fun e w' => (∃ v : QV, e = .returned v.val ∧ QIs w' AllB LM v (Lin.sum V fun i => la.getD i 0 * lb.getD i 0)) ∧ Below w.heap.size w w' := by
 have e1 : sa.n = V := by rw [← hla]; exact ha.len.symm
 have e2 : sb.n = V := by rw [← hlb]; exact hb.len.symm
 refine (dot_calls ha hb hL hM (by omega) hkb hf).mono ?_
 rintro e w' ⟨⟨v, rfl, hv⟩, hb'⟩
 rw [e1, e2, Nat.min_self] at hv
 refine ⟨⟨v, rfl, (hv.qis ?_).any⟩, hb'⟩
 rw [← lsum_range]
 exact qfit_to (lsum_fits hf _) (Nat.lt_of_le_of_lt (Nat.mul_le_mul_right _ (by rw [List.length_range]; omega)) hkb)
theorem qcmp_le {p q : Rat} (h : p ≤ q) : qcmp p q ≤ 0 := by unfold qcmp; grind
theorem qcmp_gt {p q : Rat} (h : q < p) : qcmp p q = 1 := by unfold qcmp; grind
theorem cmpO_calls {w : World} {X Y : Nat → Prop} {L M : Nat} {a b : QV} {p q : Rat} (o : Int) (ha : QIs w X L a p) (hb : QIs w Y M b q) (hL : L ≤ LM) (hM : M ≤ LM) (ho : qcmp p q = o) :
  Calls Tryz.prog 29 #[a.val, b.val] w fun e w' => e = .returned (.int .i64 o) ∧ Below w.heap.size w w' := by
 subst ho; exact qcmp_calls ha hb hL hM
theorem equalO_calls {w : World} {X Y X' Y' : Nat → Prop} {L M V : Nat} {sa sb : SV} {la lb : List Rat} (b : Bool) (ha : VecIs w X Y L sa la) (hb : VecIs w X' Y' M sb lb) (hL : L ≤ LM) (hM : M ≤ LM) (hla : la.length = V) (hlb : lb.length = V) (hV : V ≤ 1000000) (h : (∀ i, i < V → la.getD i 0 = lb.getD i 0) ↔ b = true) :
  Calls Tryz.prog 22 #[sa.val, sb.val] w fun e w' => e = .returned (.bool b) ∧ Below w.heap.size w w' := by
 have e1 : sa.n = V := by rw [← hla]; exact ha.len.symm
 have e2 : sb.n = V := by rw [← hlb]; exact hb.len.symm
 refine (equal_calls ha hb hL hM (by omega) (by omega)).mono ?_
 rintro e w' ⟨rfl, hb'⟩
 rw [e1, e2, Nat.max_self]
 refine ⟨?_, hb'⟩
 congr 2
 cases b with
 | true => exact beq_iff_eq.2 (vcmp_eq_zero.2 (h.2 rfl))
 | false =>
  refine beq_eq_false_iff_ne.2 fun e => ?_
  have := h.1 (vcmp_eq_zero.1 e)
  cases this
set_option maxRecDepth 40000 in
set_option maxHeartbeats 8000000 in
theorem restrict_calls {w : World} {p : LPV} {r : SV} {row : List Rat} {mv : QV} {most : Rat} {os rs : List (List Rat)} {bs : List Rat} (h : LPRaw w AllB (QAny w AllB) p os rs bs) (hr : VecAt w AllB (QAny w AllB) r row) (hm : QAny w AllB mv most) :
  Calls Tryz.prog 4 #[p.val, r.val, mv.val] w fun e w' => e = .returned (.bool true) ∧ Below w.heap.size w w' := by
 obtain ⟨z, ⟨oA, on, oc⟩, ⟨rA, rn, rc⟩, ⟨bA, bn, bc⟩⟩ := p
 obtain ⟨qA, qn, qc⟩ := r
 replace h := Lib.hid h
 replace hr := Lib.hid hr
 replace hm := Lib.hid hm
 dsimp only [LPV.val, SV.val] at *
 go_enter Tryz.func4, Tryz.ntmps4
 go_upto_region 1 with fail
 refine gen_world (fun W => Below w.heap.size w W ∧ Box4 W w.heap.size (.int .i64 z) (.slice oA on oc) (.slice rA rn rc) (.slice bA bn bc) ∧ Box4 W (w.heap.size + 1) (.bool mv.num.ng) (.slice mv.num.A mv.num.n mv.num.c) (.bool mv.den.ng) (.slice mv.den.A mv.den.n mv.den.c) ∧ w.heap.size < W.heap.size ∧ w.heap.size + 1 < W.heap.size) ⟨(((Below.refl _ _).alloc (by simp <;> omega) _).alloc (by simp <;> omega) _), ⟨by go_simp, by go_simp, by go_simp, by go_simp, by intro o; go_simp⟩, ⟨by go_simp, by go_simp, by go_simp, by go_simp, by intro o; go_simp⟩, by simp <;> omega, by simp <;> omega⟩ ?_
 rintro W ⟨hbW, bP, bM, s0, s1⟩
 have hBW := hbW.size
 obtain ⟨p0, p1, p2, p3, -⟩ := id bP
 obtain ⟨m0, m1, m2, m3, -⟩ := id bM
 clear hBW
 go_wp2_with fail
 refine (long08_calls (p := ⟨z, ⟨oA, on, oc⟩, ⟨rA, rn, rc⟩, ⟨bA, bn, bc⟩⟩) (h.out.below hbW)).mono ?_
 rintro e w1 ⟨⟨b, rfl, hbb⟩, hb1⟩
 cases b with
 | true =>
  clear hbb
  replace bP := bP.below hb1 s0
  replace bM := bM.below hb1 s1
  replace s0 := Nat.lt_of_lt_of_le s0 hb1.size
  replace s1 := Nat.lt_of_lt_of_le s1 hb1.size
  replace hbW := hbW.trans (hb1.mono hbW.size)
  clear p0 p1 p2 p3 m0 m1 m2 m3
  obtain ⟨p0, p1, p2, p3, -⟩ := id bP
  obtain ⟨m0, m1, m2, m3, -⟩ := id bM
  go_wp2_with fail
  refine alive_calls.mono ?_
  rintro e wl ⟨rfl, hbl⟩
  have hbf := hbW.trans (hbl.mono hbW.size)
  go_wp2
  go_ret
  exact ⟨rfl, hbf⟩
 | false =>
  have HS := Lib.hid (And.intro (Short6.back h.out hbW (hbb rfl).1) (hbb rfl).2)
  clear hbb
  replace bP := bP.below hb1 s0
  replace bM := bM.below hb1 s1
  replace s0 := Nat.lt_of_lt_of_le s0 hb1.size
  replace s1 := Nat.lt_of_lt_of_le s1 hb1.size
  replace hbW := hbW.trans (hb1.mono hbW.size)
  clear p0 p1 p2 p3 m0 m1 m2 m3
  obtain ⟨p0, p1, p2, p3, -⟩ := id bP
  obtain ⟨m0, m1, m2, m3, -⟩ := id bM
  go_wp2_with fail
  refine (may_calls (p := ⟨z, ⟨oA, on, oc⟩, ⟨rA, rn, rc⟩, ⟨bA, bn, bc⟩⟩) (h.out.below hbW)).mono ?_
  rintro e w2 ⟨rfl, hb2⟩
  replace bP := bP.below hb2 s0
  replace bM := bM.below hb2 s1
  replace s0 := Nat.lt_of_lt_of_le s0 hb2.size
  replace s1 := Nat.lt_of_lt_of_le s1 hb2.size
  replace hbW := hbW.trans (hb2.mono hbW.size)
  clear p0 p1 p2 p3 m0 m1 m2 m3
  obtain ⟨p0, p1, p2, p3, -⟩ := id bP
  obtain ⟨m0, m1, m2, m3, -⟩ := id bM
  obtain ⟨m, hmm⟩ : ∃ m, mayB ⟨z, ⟨oA, on, oc⟩, ⟨rA, rn, rc⟩, ⟨bA, bn, bc⟩⟩ os rs = m := ⟨_, rfl⟩
  rw [hmm]
  cases m with
  | false =>
   go_wp2_with fail
   refine alive_calls.mono ?_
   rintro e wl ⟨rfl, hbl⟩
   have hbf := hbW.trans (hbl.mono hbW.size)
   go_wp2
   go_ret
   exact ⟨rfl, hbf⟩
  | true =>
   go_wp2_with fail
   have al3 : (w2.alloc (.cells #[.slice qA qn qc] 23)).heap[w2.heap.size]? = some (.cells #[.slice qA qn qc] 23 (0, 0)) := heap_new _ _ rfl
   have hb3 : Below w2.heap.size w2 (w2.alloc (.cells #[.slice qA qn qc] 23)) := (Below.refl _ _).alloc (Nat.le_refl _) _
   replace bP := bP.below hb3 s0
   replace bM := bM.below hb3 s1
   replace s0 := Nat.lt_of_lt_of_le s0 hb3.size
   replace s1 := Nat.lt_of_lt_of_le s1 hb3.size
   replace hbW := hbW.trans (hb3.mono hbW.size)
   clear p0 p1 p2 p3 m0 m1 m2 m3
   obtain ⟨p0, p1, p2, p3, -⟩ := id bP
   obtain ⟨m0, m1, m2, m3, -⟩ := id bM
   refine (long03_calls (mat_one (s := ⟨qA, qn, qc⟩) al3 (vecAny_below hr.out hbW))).mono ?_
   rintro e w4 ⟨⟨b, rfl, hbb⟩, hb4⟩
   cases b with
   | true =>
    clear hbb
    replace bP := bP.below hb4 s0
    replace bM := bM.below hb4 s1
    replace s0 := Nat.lt_of_lt_of_le s0 hb4.size
    replace s1 := Nat.lt_of_lt_of_le s1 hb4.size
    replace hbW := hbW.trans (hb4.mono hbW.size)
    clear p0 p1 p2 p3 m0 m1 m2 m3
    obtain ⟨p0, p1, p2, p3, -⟩ := id bP
    obtain ⟨m0, m1, m2, m3, -⟩ := id bM
    go_wp2_with fail
    refine alive_calls.mono ?_
    rintro e wl ⟨rfl, hbl⟩
    have hbf := hbW.trans (hbl.mono hbW.size)
    go_wp2
    go_ret
    exact ⟨rfl, hbf⟩
   | false =>
    have HRow := Lib.hid (row_short (s := ⟨qA, qn, qc⟩) hr.out hbW al3 (hbb rfl).1)
    clear hbb al3
    replace bP := bP.below hb4 s0
    replace bM := bM.below hb4 s1
    replace s0 := Nat.lt_of_lt_of_le s0 hb4.size
    replace s1 := Nat.lt_of_lt_of_le s1 hb4.size
    replace hbW := hbW.trans (hb4.mono hbW.size)
    clear p0 p1 p2 p3 m0 m1 m2 m3
    obtain ⟨p0, p1, p2, p3, -⟩ := id bP
    obtain ⟨m0, m1, m2, m3, -⟩ := id bM
    go_wp2_with fail
    have al5 : (w4.alloc (.cells #[.bool mv.num.ng, .slice mv.num.A mv.num.n mv.num.c, .bool mv.den.ng, .slice mv.den.A mv.den.n mv.den.c] 30)).heap[w4.heap.size]? = some (.cells #[.bool mv.num.ng, .slice mv.num.A mv.num.n mv.num.c, .bool mv.den.ng, .slice mv.den.A mv.den.n mv.den.c] 30 (0, 0)) := heap_new _ _ rfl
    have hb5 : Below w4.heap.size w4 (w4.alloc (.cells #[.bool mv.num.ng, .slice mv.num.A mv.num.n mv.num.c, .bool mv.den.ng, .slice mv.den.A mv.den.n mv.den.c] 30)) := (Below.refl _ _).alloc (Nat.le_refl _) _
    replace bP := bP.below hb5 s0
    replace bM := bM.below hb5 s1
    replace s0 := Nat.lt_of_lt_of_le s0 hb5.size
    replace s1 := Nat.lt_of_lt_of_le s1 hb5.size
    replace hbW := hbW.trans (hb5.mono hbW.size)
    clear p0 p1 p2 p3 m0 m1 m2 m3
    obtain ⟨p0, p1, p2, p3, -⟩ := id bP
    obtain ⟨m0, m1, m2, m3, -⟩ := id bM
    refine (long02_calls (vec_one al5 (hm.out.below hbW))).mono ?_
    rintro e w6 ⟨⟨b, rfl, hbb⟩, hb6⟩
    cases b with
    | true =>
     clear hbb
     replace bP := bP.below hb6 s0
     replace bM := bM.below hb6 s1
     replace s0 := Nat.lt_of_lt_of_le s0 hb6.size
     replace s1 := Nat.lt_of_lt_of_le s1 hb6.size
     replace hbW := hbW.trans (hb6.mono hbW.size)
     clear p0 p1 p2 p3 m0 m1 m2 m3
     obtain ⟨p0, p1, p2, p3, -⟩ := id bP
     obtain ⟨m0, m1, m2, m3, -⟩ := id bM
     go_wp2_with fail
     refine alive_calls.mono ?_
     rintro e wl ⟨rfl, hbl⟩
     have hbf := hbW.trans (hbl.mono hbW.size)
     go_wp2
     go_ret
     exact ⟨rfl, hbf⟩
    | false =>
     have HMost := Lib.hid (q_short hm.out al5 (hbb rfl))
     clear hbb al5
     replace bP := bP.below hb6 s0
     replace bM := bM.below hb6 s1
     replace s0 := Nat.lt_of_lt_of_le s0 hb6.size
     replace s1 := Nat.lt_of_lt_of_le s1 hb6.size
     replace hbW := hbW.trans (hb6.mono hbW.size)
     clear p0 p1 p2 p3 m0 m1 m2 m3
     obtain ⟨p0, p1, p2, p3, -⟩ := id bP
     obtain ⟨m0, m1, m2, m3, -⟩ := id bM
     clear hb1 hb2 hb3 hb4 hb5 hb6
     have HF := Lib.hid (short_prog HS.out.1 HS.out.2 hmm)
     obtain ⟨V, rfl⟩ : ∃ V : Nat, z = V := ⟨z.toNat, by have := HF.out.1; show z = (z.toNat : Int); simp only at this; omega⟩
     have hon : on ≤ 4 := HF.out.2.2.2.1
     have hrn : rn ≤ 4 := HF.out.2.2.2.2.1
     obtain rfl : rn = bn := HF.out.2.2.2.2.2.1.symm
     clear HS hmm
     by_cases h3 : 3 < rn
     ·have h3' : (3 : Int) < (rn : Int) := by omega
      go_wp2_with fail
      refine alive_calls.mono ?_
      rintro e wl ⟨rfl, hbl⟩
      have hbf := hbW.trans (hbl.mono hbW.size)
      go_wp2
      go_ret
      exact ⟨rfl, hbf⟩
     ·have h3' : ¬ (3 : Int) < (rn : Int) := by omega
      go_wp2_with fail
      refine (resize_calls (s := ⟨qA, qn, qc⟩) (HRow.out.below hbW) V (by have := HF.out.2.1; omega) (by rw [LM_eq]; omega)).mono ?_
      rintro e w7 ⟨⟨⟨yA, yn, yc⟩, rfl, hz⟩, hb7⟩
      replace bP := bP.below hb7 s0
      replace bM := bM.below hb7 s1
      replace s0 := Nat.lt_of_lt_of_le s0 hb7.size
      replace s1 := Nat.lt_of_lt_of_le s1 hb7.size
      replace hbW := hbW.trans (hb7.mono hbW.size)
      clear p0 p1 p2 p3 m0 m1 m2 m3
      obtain ⟨p0, p1, p2, p3, -⟩ := id bP
      obtain ⟨m0, m1, m2, m3, -⟩ := id bM
      have HR2 : Hid (VecIs w7 AllB AllB 7 ⟨yA, yn, yc⟩ (resize row V)) := (hz.loose (resize_fit HRow.out.fit V)).allB
      have hyn : yn = V := by rw [← resize_length row V]; exact hz.len.symm
      have Hyn := Lib.hid hyn
      clear hz hyn
      have ho1 : 1 ≤ on := HF.out.2.2.1
      have HC1 : Hid (colsOf os ≤ V) := by have := HF.out.2.2.2.2.2.2.1; show colsOf os ≤ V; omega
      have HC2 : Hid (colsOf rs ≤ V) := by have := HF.out.2.2.2.2.2.2.2.1; show colsOf rs ≤ V; omega
      have hV4 : V ≤ 4 := by have := HF.out.2.1; omega
      have HP := Lib.hid (HF.out.2.2.2.2.2.2.2.2)
      clear HF
      go_wp2_with fail
      refine (addConstraint_calls (L := 7) (V := V) (p := ⟨V, ⟨oA, on, oc⟩, ⟨rA, rn, rc⟩, ⟨bA, rn, bc⟩⟩) (r := ⟨yA, yn, yc⟩) (mv := mv) ((HP.out.more (by omega)).below hbW) rfl (by omega) ho1 hon (by show rn ≤ 127; omega) rfl HC1.out HC2.out (by rw [LM_eq]; omega) HR2.out ((HMost.out.mono (by omega)).below hbW) (by rw [Hyn.out]; exact Nat.le_refl _)).mono ?_
      rintro e w8 ⟨⟨⟨z, ⟨xA, xn, xc⟩, ⟨gA, gn, gc⟩, ⟨uA, un, uc⟩⟩, rfl, hz, hq⟩, hb8⟩
      dsimp only at hz
      subst hz
      replace bP := bP.below hb8 s0
      replace bM := bM.below hb8 s1
      replace s0 := Nat.lt_of_lt_of_le s0 hb8.size
      replace s1 := Nat.lt_of_lt_of_le s1 hb8.size
      replace hbW := hbW.trans (hb8.mono hbW.size)
      clear p0 p1 p2 p3 m0 m1 m2 m3
      obtain ⟨p0, p1, p2, p3, -⟩ := id bP
      obtain ⟨m0, m1, m2, m3, -⟩ := id bM
      replace HR2 := Lib.hid (HR2.out.below hb8)
      have hxn : Hid (os.length = xn) := hq.obj.len
      have hgn : Hid ((rs ++ [resize row V]).length = gn) := hq.rows.len
      have hun : Hid ((bs ++ [most]).length = un) := hq.bounds.len
      have HO : Hid (os.length = on) := HP.out.obj.len
      have HRl : Hid (rs.length = rn) := HP.out.rows.len
      have HBl : Hid (bs.length = rn) := HP.out.bounds.len
      have HQ := Lib.hid hq
      clear hq
      go_wp2_with fail
      have al9 : Below w8.heap.size w8 (w8.alloc (.cells #[.int .i64 V, .slice xA xn xc, .slice gA gn gc, .slice uA un uc] 25)) := (Below.refl _ _).alloc (Nat.le_refl _) _
      have bQ : Box4 (w8.alloc (.cells #[.int .i64 V, .slice xA xn xc, .slice gA gn gc, .slice uA un uc] 25)) w8.heap.size (.int .i64 V) (.slice xA xn xc) (.slice gA gn gc) (.slice uA un uc) := ⟨by go_simp, by go_simp, by go_simp, by go_simp, by intro o; go_simp⟩
      replace bP := bP.below al9 s0
      replace bM := bM.below al9 s1
      replace s0 := Nat.lt_of_lt_of_le s0 al9.size
      replace s1 := Nat.lt_of_lt_of_le s1 al9.size
      replace hbW := hbW.trans (al9.mono hbW.size)
      clear p0 p1 p2 p3 m0 m1 m2 m3
      obtain ⟨p0, p1, p2, p3, -⟩ := id bP
      obtain ⟨m0, m1, m2, m3, -⟩ := id bM
      replace HR2 := Lib.hid (HR2.out.below al9)
      replace HQ := Lib.hid (HQ.out.below al9)
      have sQ : w8.heap.size < (w8.alloc (.cells #[.int .i64 V, .slice xA xn xc, .slice gA gn gc, .slice uA un uc] 25)).heap.size := by simp
      refine (solveL_calls (p := ⟨V, ⟨oA, on, oc⟩, ⟨rA, rn, rc⟩, ⟨bA, rn, bc⟩⟩) (V := V) (HP.out.below hbW) rfl (by omega) ho1 hon (by show rn ≤ _; omega) rfl HC1.out HC2.out (by omega)).mono ?_
      rintro e x1 ⟨⟨r1, rfl, hs1⟩, hx1⟩
      have HS1 := Lib.hid hs1
      clear hs1
      replace bP := bP.below hx1 s0
      replace bM := bM.below hx1 s1
      replace s0 := Nat.lt_of_lt_of_le s0 hx1.size
      replace s1 := Nat.lt_of_lt_of_le s1 hx1.size
      replace hbW := hbW.trans (hx1.mono hbW.size)
      clear p0 p1 p2 p3 m0 m1 m2 m3
      obtain ⟨p0, p1, p2, p3, -⟩ := id bP
      obtain ⟨m0, m1, m2, m3, -⟩ := id bM
      replace HR2 := Lib.hid (HR2.out.below hx1)
      replace HQ := Lib.hid (HQ.out.below hx1)
      replace bQ := bQ.below hx1 sQ
      obtain ⟨q0, q1, q2, q3, -⟩ := id bQ
      have sQ1 : w8.heap.size < x1.heap.size := block_lt_of_cell q0
      go_wp2_with fail
      have alA : (x1.alloc (.cells (rcells r1.kind r1) 37)).heap[x1.heap.size]? = some (.cells (rcells r1.kind r1) 37 (0, 0)) := heap_new _ _ rfl
      have abA : Below x1.heap.size x1 (x1.alloc (.cells (rcells r1.kind r1) 37)) := (Below.refl _ _).alloc (Nat.le_refl _) _
      replace bP := bP.below abA s0
      replace bM := bM.below abA s1
      replace s0 := Nat.lt_of_lt_of_le s0 abA.size
      replace s1 := Nat.lt_of_lt_of_le s1 abA.size
      replace hbW := hbW.trans (abA.mono hbW.size)
      clear p0 p1 p2 p3 m0 m1 m2 m3
      obtain ⟨p0, p1, p2, p3, -⟩ := id bP
      obtain ⟨m0, m1, m2, m3, -⟩ := id bM
      refine (solveL_calls (p := ⟨V, ⟨xA, xn, xc⟩, ⟨gA, gn, gc⟩, ⟨uA, un, uc⟩⟩) (V := V) (HQ.out.below abA) rfl (by omega) (by have := hxn.out; have := HO.out; show 1 ≤ xn; omega) (by have := hxn.out; have := HO.out; show xn ≤ 4; omega) (by have h1 := hgn.out; have h2 := HRl.out; rw [List.length_append, List.length_singleton] at h1; show gn ≤ 128; omega) (by have h1 := hgn.out; have h2 := hun.out; have h3 := HRl.out; have h4 := HBl.out; rw [List.length_append, List.length_singleton] at h1 h2; show un = gn; omega) HC1.out (cols_snoc HC2.out (by rw [resize_length]; exact Nat.le_refl _)) (by omega)).mono ?_
      rintro e x2 ⟨⟨r2, rfl, hs2⟩, hx2⟩
      have hout := restrict_out (by rw [HRl.out, HBl.out]) HC1.out hV4 HS1.out hs2 (by omega) (by omega) (by omega) (by omega) (prob_fits HP.out) (prob_fits HQ.out)
      have a1 := rbox_keep alA hx2
      have hx12 := abA.trans (hx2.mono abA.size)
      replace HR2 := Lib.hid (HR2.out.below hx12)
      clear HQ hs2 HS1 bQ q0 q1 q2 q3 alA
      replace bP := bP.below hx2 s0
      replace bM := bM.below hx2 s1
      replace s0 := Nat.lt_of_lt_of_le s0 hx2.size
      replace s1 := Nat.lt_of_lt_of_le s1 hx2.size
      replace hbW := hbW.trans (hx2.mono hbW.size)
      clear p0 p1 p2 p3 m0 m1 m2 m3
      obtain ⟨p0, p1, p2, p3, -⟩ := id bP
      obtain ⟨m0, m1, m2, m3, -⟩ := id bM
      clear h hr hm hx2 hx1 abA al9 hb7 hb8 h3 hxn hgn hun
      rcases hout with ⟨k1, k2⟩ | ⟨k1, k2⟩ | ⟨k1, k2⟩ | ⟨k1, k2⟩ | ⟨k1, k2, l, ll, lf, lv, hd⟩ | ⟨k1, k2, l, l2, ll, ll2, lf, lf2, lv, lv2, hcmp, hiff⟩
      ·skip
       have sx0 : x1.heap.size < x2.heap.size := lt_of_block a1
       obtain ⟨a00, a01, -⟩ := rbox_cell a1
       go_upto_region 10 with fail
       have ab2 : Below x2.heap.size x2 (x2.alloc (.cells (rcells 2 r2) 37)) := (Below.refl _ _).alloc (Nat.le_refl _) _
       have al2 : (x2.alloc (.cells (rcells 2 r2) 37)).heap[x2.heap.size]? = some (.cells (rcells 2 r2) 37 (0, 0)) := heap_new _ _ rfl
       replace bP := bP.below ab2 s0
       replace bM := bM.below ab2 s1
       replace s0 := Nat.lt_of_lt_of_le s0 ab2.size
       replace s1 := Nat.lt_of_lt_of_le s1 ab2.size
       replace hbW := hbW.trans (ab2.mono hbW.size)
       clear p0 p1 p2 p3 m0 m1 m2 m3
       obtain ⟨p0, p1, p2, p3, -⟩ := id bP
       obtain ⟨m0, m1, m2, m3, -⟩ := id bM
       have a1' := rbox_keep a1 ab2
       rw [k1] at a1'
       replace HR2 := Lib.hid (HR2.out.below ab2)
       obtain ⟨a10, a11, -⟩ := rbox_cell a1'
       obtain ⟨c10, c11, -⟩ := rbox_cell al2
       have sx1 : x1.heap.size < (x2.alloc (.cells (rcells 2 r2) 37)).heap.size := lt_of_block a1'
       have sx2 : x2.heap.size < (x2.alloc (.cells (rcells 2 r2) 37)).heap.size := lt_of_block al2
       clear a1 a1' al2
       generalize x2.alloc (.cells (rcells 2 r2) 37) = W9 at *
       refine wp_plain_G 1000 (fun _ w' => Sees w.heap.size [] W9 w') (by kernel_rfl) ?_
       have hS0 : Sees w.heap.size [] W9 W9.drew := Sees.st (by simp) hbW.size
       refine tkA 0 ?_ (fun w' b hSw => ?_) (hS0) ?_
       rotate_left
       ·(try dsimp only at hSw); go_simp; try with_reducible rfl
       simp only [zzA, zzB, zzC]
       refine tkA 1 ?_ (fun w' b hSw => ?_) (hS0) ?_
       rotate_left
       ·(try dsimp only at hSw); go_simp; try with_reducible rfl
       simp only [zzA, zzB, zzC]
       refine tkA 2 ?_ (fun w' b hSw => ?_) (hS0) ?_
       rotate_left
       ·(try dsimp only at hSw); go_simp; try with_reducible rfl
       simp only [zzA, zzB, zzC]
       refine tkA 3 ?_ (fun w' b hSw => ?_) (hS0) ?_
       rotate_left
       ·(try dsimp only at hSw); go_simp; try with_reducible rfl
       simp only [zzA, zzB, zzC]
       refine tkA 4 ?_ (fun w' b hSw => ?_) (hS0) ?_
       rotate_left
       ·(try dsimp only at hSw); go_simp; try with_reducible rfl
       simp only [zzA, zzB, zzC]
       refine tkA 5 ?_ (fun w' b hSw => ?_) (hS0) ?_
       rotate_left
       ·(try dsimp only at hSw); go_simp; try with_reducible rfl
       simp only [zzA, zzB, zzC]
       refine tkA 6 ?_ (fun w' b hSw => ?_) (hS0) ?_
       rotate_left
       ·(try dsimp only at hSw); go_simp; try with_reducible rfl
       simp only [zzA, zzB, zzC]
       refine tkA 7 ?_ (fun w' b hSw => ?_) (hS0) ?_
       rotate_left
       ·(try dsimp only at hSw); go_simp; try with_reducible rfl
       simp only [zzA, zzB, zzC]
       refine tkA 8 ?_ (fun w' b hSw => ?_) (hS0) ?_
       rotate_left
       ·(try dsimp only at hSw); go_simp; try with_reducible rfl
       simp only [zzA, zzB, zzC]
       refine tkA 9 ?_ (fun w' b hSw => ?_) (hS0) ?_
       rotate_left
       ·(try dsimp only at hSw); go_simp; try with_reducible rfl
       simp only [zzA, zzB, zzC]
       refine tkA 10 ?_ (fun w' b hSw => ?_) (hS0) ?_
       rotate_left
       ·(try dsimp only at hSw); go_simp; try with_reducible rfl
       simp only [zzA, zzB, zzC]
       refine tkA 11 ?_ (fun w' b hSw => ?_) (hS0) ?_
       rotate_left
       ·(try dsimp only at hSw); go_simp; try with_reducible rfl
       simp only [zzA, zzB, zzC]
       refine tkA 12 ?_ (fun w' b hSw => ?_) (hS0) ?_
       rotate_left
       ·(try dsimp only at hSw); go_simp; try with_reducible rfl
       simp only [zzA, zzB, zzC]
       refine tkN 13 (hS0) ?_
       simp only [zzA, zzB, zzC]
       refine tkN 14 (hS0) ?_
       simp only [zzA, zzB, zzC]
       refine tkN 15 (hS0) ?_
       simp only [zzA, zzB, zzC]
       refine tkN 16 (hS0) ?_
       simp only [zzA, zzB, zzC]
       refine tkN 17 (hS0) ?_
       simp only [zzA, zzB, zzC]
       refine tkN 18 (hS0) ?_
       simp only [zzA, zzB, zzC]
       refine tkN 19 (hS0) ?_
       simp only [zzA, zzB, zzC]
       refine tkA 20 ?_ (fun w' b hSw => ?_) (hS0) ?_
       rotate_left
       ·(try dsimp only at hSw); go_simp; try with_reducible rfl
       simp only [zzA, zzB, zzC]
       refine tkA 21 ?_ (fun w' b hSw => ?_) (hS0) ?_
       rotate_left
       ·(try dsimp only at hSw); go_simp; try with_reducible rfl
       simp only [zzA, zzB, zzC]
       refine tkA 22 ?_ (fun w' b hSw => ?_) (hS0) ?_
       rotate_left
       ·(try dsimp only at hSw); go_simp; try with_reducible rfl
       simp only [zzA, zzB, zzC]
       refine oneW (i := 23) (by kernel_rfl) rfl (by rfl) ?_
       intro K hK
       go_simp
       refine alive_calls.mono ?_
       rintro e y9 ⟨rfl, hb9⟩
       have hSz := Kept.call2 hb9 hS0
       refine hK.out _ _ hSz ?_
       clear hK K
       refine tkA 24 ?_ (fun w' b hSw => ?_) (hSz) ?_
       rotate_left
       ·(try dsimp only at hSw); go_simp; try with_reducible rfl
       simp only [zzA, zzB, zzC]
       refine tkA 25 ?_ (fun w' b hSw => ?_) (hSz) ?_
       rotate_left
       ·(try dsimp only at hSw); go_simp; try with_reducible rfl
       simp only [zzA, zzB, zzC]
       refine wpAnyG_done (by kernel_rfl) ?_ _
       have hbf := hbW.trans (hSz.kept.whole.mono hbW.size)
       clear hSz
       go_wp2
       go_ret
       exact ⟨rfl, hbf⟩
      ·skip
       have sx0 : x1.heap.size < x2.heap.size := lt_of_block a1
       obtain ⟨a00, a01, -⟩ := rbox_cell a1
       go_upto_region 10 with fail
       have ab2 : Below x2.heap.size x2 (x2.alloc (.cells (rcells 2 r2) 37)) := (Below.refl _ _).alloc (Nat.le_refl _) _
       have al2 : (x2.alloc (.cells (rcells 2 r2) 37)).heap[x2.heap.size]? = some (.cells (rcells 2 r2) 37 (0, 0)) := heap_new _ _ rfl
       replace bP := bP.below ab2 s0
       replace bM := bM.below ab2 s1
       replace s0 := Nat.lt_of_lt_of_le s0 ab2.size
       replace s1 := Nat.lt_of_lt_of_le s1 ab2.size
       replace hbW := hbW.trans (ab2.mono hbW.size)
       clear p0 p1 p2 p3 m0 m1 m2 m3
       obtain ⟨p0, p1, p2, p3, -⟩ := id bP
       obtain ⟨m0, m1, m2, m3, -⟩ := id bM
       have a1' := rbox_keep a1 ab2
       rw [k1] at a1'
       replace HR2 := Lib.hid (HR2.out.below ab2)
       obtain ⟨a10, a11, -⟩ := rbox_cell a1'
       obtain ⟨c10, c11, -⟩ := rbox_cell al2
       have sx1 : x1.heap.size < (x2.alloc (.cells (rcells 2 r2) 37)).heap.size := lt_of_block a1'
       have sx2 : x2.heap.size < (x2.alloc (.cells (rcells 2 r2) 37)).heap.size := lt_of_block al2
       clear a1 a1' al2
       generalize x2.alloc (.cells (rcells 2 r2) 37) = W9 at *
       refine wp_plain_G 1000 (fun _ w' => Sees w.heap.size [] W9 w') (by kernel_rfl) ?_
       have hS0 : Sees w.heap.size [] W9 W9.drew := Sees.st (by simp) hbW.size
       refine tkA 0 ?_ (fun w' b hSw => ?_) (hS0) ?_
       rotate_left
       ·(try dsimp only at hSw); go_simp; try with_reducible rfl
       simp only [zzA, zzB, zzC]
       refine tkA 1 ?_ (fun w' b hSw => ?_) (hS0) ?_
       rotate_left
       ·(try dsimp only at hSw); go_simp; try with_reducible rfl
       simp only [zzA, zzB, zzC]
       refine tkA 2 ?_ (fun w' b hSw => ?_) (hS0) ?_
       rotate_left
       ·(try dsimp only at hSw); go_simp; try with_reducible rfl
       simp only [zzA, zzB, zzC]
       refine tkA 3 ?_ (fun w' b hSw => ?_) (hS0) ?_
       rotate_left
       ·(try dsimp only at hSw); go_simp; try with_reducible rfl
       simp only [zzA, zzB, zzC]
       refine tkN 4 (hS0) ?_
       simp only [zzA, zzB, zzC]
       refine tkN 5 (hS0) ?_
       simp only [zzA, zzB, zzC]
       refine tkN 6 (hS0) ?_
       simp only [zzA, zzB, zzC]
       refine tkA 7 ?_ (fun w' b hSw => ?_) (hS0) ?_
       rotate_left
       ·(try dsimp only at hSw); go_simp; try with_reducible rfl
       simp only [zzA, zzB, zzC]
       refine tkA 8 ?_ (fun w' b hSw => ?_) (hS0) ?_
       rotate_left
       ·(try dsimp only at hSw); go_simp; try with_reducible rfl
       simp only [zzA, zzB, zzC]
       refine tkA 9 ?_ (fun w' b hSw => ?_) (hS0) ?_
       rotate_left
       ·(try dsimp only at hSw); go_simp; try with_reducible rfl
       simp only [zzA, zzB, zzC]
       refine tkA 10 ?_ (fun w' b hSw => ?_) (hS0) ?_
       rotate_left
       ·(try dsimp only at hSw); go_simp; try with_reducible rfl
       simp only [zzA, zzB, zzC]
       refine tkA 11 ?_ (fun w' b hSw => ?_) (hS0) ?_
       rotate_left
       ·(try dsimp only at hSw); go_simp; try with_reducible rfl
       simp only [zzA, zzB, zzC]
       refine tkA 12 ?_ (fun w' b hSw => ?_) (hS0) ?_
       rotate_left
       ·(try dsimp only at hSw); go_simp; try with_reducible rfl
       simp only [zzA, zzB, zzC]
       refine tkN 13 (hS0) ?_
       simp only [zzA, zzB, zzC]
       refine tkN 14 (hS0) ?_
       simp only [zzA, zzB, zzC]
       refine tkN 15 (hS0) ?_
       simp only [zzA, zzB, zzC]
       refine tkN 16 (hS0) ?_
       simp only [zzA, zzB, zzC]
       refine tkN 17 (hS0) ?_
       simp only [zzA, zzB, zzC]
       refine tkN 18 (hS0) ?_
       simp only [zzA, zzB, zzC]
       refine tkN 19 (hS0) ?_
       simp only [zzA, zzB, zzC]
       refine tkA 20 ?_ (fun w' b hSw => ?_) (hS0) ?_
       rotate_left
       ·(try dsimp only at hSw); go_simp; try with_reducible rfl
       simp only [zzA, zzB, zzC]
       refine tkA 21 ?_ (fun w' b hSw => ?_) (hS0) ?_
       rotate_left
       ·(try dsimp only at hSw); go_simp; try with_reducible rfl
       simp only [zzA, zzB, zzC]
       refine tkA 22 ?_ (fun w' b hSw => ?_) (hS0) ?_
       rotate_left
       ·(try dsimp only at hSw); go_simp; try with_reducible rfl
       simp only [zzA, zzB, zzC]
       refine oneW (i := 23) (by kernel_rfl) rfl (by rfl) ?_
       intro K hK
       go_simp
       refine alive_calls.mono ?_
       rintro e y9 ⟨rfl, hb9⟩
       have hSz := Kept.call2 hb9 hS0
       refine hK.out _ _ hSz ?_
       clear hK K
       refine tkA 24 ?_ (fun w' b hSw => ?_) (hSz) ?_
       rotate_left
       ·(try dsimp only at hSw); go_simp; try with_reducible rfl
       simp only [zzA, zzB, zzC]
       refine tkA 25 ?_ (fun w' b hSw => ?_) (hSz) ?_
       rotate_left
       ·(try dsimp only at hSw); go_simp; try with_reducible rfl
       simp only [zzA, zzB, zzC]
       refine wpAnyG_done (by kernel_rfl) ?_ _
       have hbf := hbW.trans (hSz.kept.whole.mono hbW.size)
       clear hSz
       go_wp2
       go_ret
       exact ⟨rfl, hbf⟩
      ·skip
       have sx0 : x1.heap.size < x2.heap.size := lt_of_block a1
       obtain ⟨a00, a01, -⟩ := rbox_cell a1
       go_upto_region 12 with fail
       have ab2 : Below x2.heap.size x2 (x2.alloc (.cells (rcells 1 r2) 37)) := (Below.refl _ _).alloc (Nat.le_refl _) _
       have al2 : (x2.alloc (.cells (rcells 1 r2) 37)).heap[x2.heap.size]? = some (.cells (rcells 1 r2) 37 (0, 0)) := heap_new _ _ rfl
       replace bP := bP.below ab2 s0
       replace bM := bM.below ab2 s1
       replace s0 := Nat.lt_of_lt_of_le s0 ab2.size
       replace s1 := Nat.lt_of_lt_of_le s1 ab2.size
       replace hbW := hbW.trans (ab2.mono hbW.size)
       clear p0 p1 p2 p3 m0 m1 m2 m3
       obtain ⟨p0, p1, p2, p3, -⟩ := id bP
       obtain ⟨m0, m1, m2, m3, -⟩ := id bM
       have a1' := rbox_keep a1 ab2
       rw [k1] at a1'
       replace HR2 := Lib.hid (HR2.out.below ab2)
       obtain ⟨a10, a11, -⟩ := rbox_cell a1'
       obtain ⟨c10, c11, -⟩ := rbox_cell al2
       have sx1 : x1.heap.size < (x2.alloc (.cells (rcells 1 r2) 37)).heap.size := lt_of_block a1'
       have sx2 : x2.heap.size < (x2.alloc (.cells (rcells 1 r2) 37)).heap.size := lt_of_block al2
       clear a1 a1' al2
       generalize x2.alloc (.cells (rcells 1 r2) 37) = W9 at *
       go_wp2_with fail
       refine alive_calls.mono ?_
       rintro e wl ⟨rfl, hbl⟩
       have hbf := hbW.trans (hbl.mono hbW.size)
       go_wp2
       go_ret
       exact ⟨rfl, hbf⟩
      ·skip
       have sx0 : x1.heap.size < x2.heap.size := lt_of_block a1
       obtain ⟨a00, a01, -⟩ := rbox_cell a1
       go_upto_region 12 with fail
       have ab2 : Below x2.heap.size x2 (x2.alloc (.cells (rcells 3 r2) 37)) := (Below.refl _ _).alloc (Nat.le_refl _) _
       have al2 : (x2.alloc (.cells (rcells 3 r2) 37)).heap[x2.heap.size]? = some (.cells (rcells 3 r2) 37 (0, 0)) := heap_new _ _ rfl
       replace bP := bP.below ab2 s0
       replace bM := bM.below ab2 s1
       replace s0 := Nat.lt_of_lt_of_le s0 ab2.size
       replace s1 := Nat.lt_of_lt_of_le s1 ab2.size
       replace hbW := hbW.trans (ab2.mono hbW.size)
       clear p0 p1 p2 p3 m0 m1 m2 m3
       obtain ⟨p0, p1, p2, p3, -⟩ := id bP
       obtain ⟨m0, m1, m2, m3, -⟩ := id bM
       have a1' := rbox_keep a1 ab2
       rw [k1] at a1'
       replace HR2 := Lib.hid (HR2.out.below ab2)
       obtain ⟨a10, a11, -⟩ := rbox_cell a1'
       obtain ⟨c10, c11, -⟩ := rbox_cell al2
       have sx1 : x1.heap.size < (x2.alloc (.cells (rcells 3 r2) 37)).heap.size := lt_of_block a1'
       have sx2 : x2.heap.size < (x2.alloc (.cells (rcells 3 r2) 37)).heap.size := lt_of_block al2
       clear a1 a1' al2
       generalize x2.alloc (.cells (rcells 3 r2) 37) = W9 at *
       go_wp2_with fail
       refine alive_calls.mono ?_
       rintro e wl ⟨rfl, hbl⟩
       have hbf := hbW.trans (hbl.mono hbW.size)
       go_wp2
       go_ret
       exact ⟨rfl, hbf⟩
      ·have LL := Lib.hid ll
       have LF := Lib.hid lf
       have LV := Lib.hid lv
       have HD := Lib.hid hd
       clear ll lf lv hd
       have sx0 : x1.heap.size < x2.heap.size := lt_of_block a1
       obtain ⟨a00, a01, -⟩ := rbox_cell a1
       go_upto_region 10 with fail
       replace LV := Lib.hid (LV.out.below hx12)
       have ab2 : Below x2.heap.size x2 (x2.alloc (.cells (rcells 2 r2) 37)) := (Below.refl _ _).alloc (Nat.le_refl _) _
       have al2 : (x2.alloc (.cells (rcells 2 r2) 37)).heap[x2.heap.size]? = some (.cells (rcells 2 r2) 37 (0, 0)) := heap_new _ _ rfl
       replace bP := bP.below ab2 s0
       replace bM := bM.below ab2 s1
       replace s0 := Nat.lt_of_lt_of_le s0 ab2.size
       replace s1 := Nat.lt_of_lt_of_le s1 ab2.size
       replace hbW := hbW.trans (ab2.mono hbW.size)
       clear p0 p1 p2 p3 m0 m1 m2 m3
       obtain ⟨p0, p1, p2, p3, -⟩ := id bP
       obtain ⟨m0, m1, m2, m3, -⟩ := id bM
       have a1' := rbox_keep a1 ab2
       rw [k1] at a1'
       replace HR2 := Lib.hid (HR2.out.below ab2)
       obtain ⟨a10, a11, -⟩ := rbox_cell a1'
       obtain ⟨c10, c11, -⟩ := rbox_cell al2
       have sx1 : x1.heap.size < (x2.alloc (.cells (rcells 2 r2) 37)).heap.size := lt_of_block a1'
       have sx2 : x2.heap.size < (x2.alloc (.cells (rcells 2 r2) 37)).heap.size := lt_of_block al2
       clear a1 a1' al2
       replace LV := Lib.hid (LV.out.below ab2)
       clear ab2
       generalize x2.alloc (.cells (rcells 2 r2) 37) = W9 at *
       refine wp_plain_G 1000 (fun _ w' => Sees w.heap.size [] W9 w') (by kernel_rfl) ?_
       have hS0 : Sees w.heap.size [] W9 W9.drew := Sees.st (by simp) hbW.size
       refine tkA 0 ?_ (fun w' b hSw => ?_) (hS0) ?_
       rotate_left
       ·(try dsimp only at hSw); go_simp; try with_reducible rfl
       simp only [zzA, zzB, zzC]
       refine tkA 1 ?_ (fun w' b hSw => ?_) (hS0) ?_
       rotate_left
       ·(try dsimp only at hSw); go_simp; try with_reducible rfl
       simp only [zzA, zzB, zzC]
       refine tkA 2 ?_ (fun w' b hSw => ?_) (hS0) ?_
       rotate_left
       ·(try dsimp only at hSw); go_simp; try with_reducible rfl
       simp only [zzA, zzB, zzC]
       refine tkA 3 ?_ (fun w' b hSw => ?_) (hS0) ?_
       rotate_left
       ·(try dsimp only at hSw); go_simp; try with_reducible rfl
       simp only [zzA, zzB, zzC]
       refine tkN 4 (hS0) ?_
       simp only [zzA, zzB, zzC]
       refine tkN 5 (hS0) ?_
       simp only [zzA, zzB, zzC]
       refine tkN 6 (hS0) ?_
       simp only [zzA, zzB, zzC]
       refine tkA 7 ?_ (fun w' b hSw => ?_) (hS0) ?_
       rotate_left
       ·(try dsimp only at hSw); go_simp; try with_reducible rfl
       simp only [zzA, zzB, zzC]
       refine tkA 8 ?_ (fun w' b hSw => ?_) (hS0) ?_
       rotate_left
       ·(try dsimp only at hSw); go_simp; try with_reducible rfl
       simp only [zzA, zzB, zzC]
       refine tkA 9 ?_ (fun w' b hSw => ?_) (hS0) ?_
       rotate_left
       ·(try dsimp only at hSw); go_simp; try with_reducible rfl
       simp only [zzA, zzB, zzC]
       refine tkA 10 ?_ (fun w' b hSw => ?_) (hS0) ?_
       rotate_left
       ·(try dsimp only at hSw); go_simp; try with_reducible rfl
       simp only [zzA, zzB, zzC]
       refine tkA 11 ?_ (fun w' b hSw => ?_) (hS0) ?_
       rotate_left
       ·(try dsimp only at hSw); go_simp; try with_reducible rfl
       simp only [zzA, zzB, zzC]
       refine tkA 12 ?_ (fun w' b hSw => ?_) (hS0) ?_
       rotate_left
       ·(try dsimp only at hSw); go_simp; try with_reducible rfl
       simp only [zzA, zzB, zzC]
       refine tkA 13 ?_ (fun w' b hSw => ?_) (hS0) ?_
       rotate_left
       ·(try dsimp only at hSw); go_simp; try with_reducible rfl
       simp only [zzA, zzB, zzC]
       refine tkA 14 ?_ (fun w' b hSw => ?_) (hS0) ?_
       rotate_left
       ·(try dsimp only at hSw); go_simp; try with_reducible rfl
       simp only [zzA, zzB, zzC]
       refine tkA 15 ?_ (fun w' b hSw => ?_) (hS0) ?_
       rotate_left
       ·(try dsimp only at hSw); go_simp; try with_reducible rfl
       simp only [zzA, zzB, zzC]
       refine tkA 17 ?_ (fun w' b hSw => ?_) (hS0) ?_
       rotate_left
       ·(try dsimp only at hSw); go_simp; try with_reducible rfl
       simp only [zzA, zzB, zzC]
       refine oneW (i := 16) (by kernel_rfl) rfl (by rfl) ?_
       intro K hK
       go_simp
       with_reducible refine (dotV_calls (kb := 200000) (V := V) (sa := ⟨yA, yn, yc⟩) (sb := r1.X) (HR2.out.below hS0.kept.whole) (LV.out.below hS0.kept.whole) (by rw [LM_eq]; omega) (by rw [LM_eq]; omega) (resize_length _ _) LL.out (by omega) (by rw [LM_eq]; omega) (fun i => ((qfit_fits (HR2.out.fit i)).mul (LF.out i)).mono (by omega))).mono ?_
       rintro e y1 ⟨⟨u, rfl, hu⟩, hc1⟩
       have hS1 := Kept.call2 hc1 hS0
       refine hK.out _ _ hS1 ?_
       clear hK K
       refine oneW (i := 18) (by kernel_rfl) rfl (by rfl) ?_
       intro K hK
       go_simp
       with_reducible refine (cmpO_calls 1 hu (HMost.out.below (hbW.trans (hS1.kept.whole.mono hbW.size))) (Nat.le_refl _) (by rw [LM_eq]; omega) (qcmp_gt HD.out)).mono ?_
       rintro e y2 ⟨rfl, hc2⟩
       have hS2 := Kept.call2 hc2 hS1
       refine hK.out _ _ hS2 ?_
       clear hK K hS0 hS1 hu hc1 hc2
       refine tkA 19 ?_ (fun w' b hSw => ?_) (hS2) ?_
       rotate_left
       ·(try dsimp only at hSw); go_simp; try with_reducible rfl
       simp only [zzA, zzB, zzC]
       refine tkA 20 ?_ (fun w' b hSw => ?_) (hS2) ?_
       rotate_left
       ·(try dsimp only at hSw); go_simp; try with_reducible rfl
       simp only [zzA, zzB, zzC]
       refine tkA 21 ?_ (fun w' b hSw => ?_) (hS2) ?_
       rotate_left
       ·(try dsimp only at hSw); go_simp; try with_reducible rfl
       simp only [zzA, zzB, zzC]
       refine tkA 22 ?_ (fun w' b hSw => ?_) (hS2) ?_
       rotate_left
       ·(try dsimp only at hSw); go_simp; try with_reducible rfl
       simp only [zzA, zzB, zzC]
       refine oneW (i := 23) (by kernel_rfl) rfl (by rfl) ?_
       intro K hK
       go_simp
       refine alive_calls.mono ?_
       rintro e y9 ⟨rfl, hb9⟩
       have hSz := Kept.call2 hb9 hS2
       refine hK.out _ _ hSz ?_
       clear hK K
       refine tkA 24 ?_ (fun w' b hSw => ?_) (hSz) ?_
       rotate_left
       ·(try dsimp only at hSw); go_simp; try with_reducible rfl
       simp only [zzA, zzB, zzC]
       refine tkA 25 ?_ (fun w' b hSw => ?_) (hSz) ?_
       rotate_left
       ·(try dsimp only at hSw); go_simp; try with_reducible rfl
       simp only [zzA, zzB, zzC]
       refine wpAnyG_done (by kernel_rfl) ?_ _
       have hbf := hbW.trans (hSz.kept.whole.mono hbW.size)
       clear hSz
       go_wp2
       go_ret
       exact ⟨rfl, hbf⟩
      ·have LL := Lib.hid ll
       have LF := Lib.hid lf
       have LV := Lib.hid (lv.below hx12)
       have LL2 := Lib.hid ll2
       have LF2 := Lib.hid lf2
       have LV2 := Lib.hid lv2
       have HI := Lib.hid hiff
       obtain ⟨o, ho⟩ : ∃ o, lpcmp os l l2 = o := ⟨_, rfl⟩
       rw [ho] at hcmp
       have HOo := Lib.hid ho
       clear ll lf lv ll2 lf2 lv2 hiff ho
       have sx0 : x1.heap.size < x2.heap.size := lt_of_block a1
       obtain ⟨a00, a01, -⟩ := rbox_cell a1
       go_wp2_with fail
       have ab2 : Below x2.heap.size x2 (x2.alloc (.cells (rcells 1 r2) 37)) := (Below.refl _ _).alloc (Nat.le_refl _) _
       have al2 : (x2.alloc (.cells (rcells 1 r2) 37)).heap[x2.heap.size]? = some (.cells (rcells 1 r2) 37 (0, 0)) := heap_new _ _ rfl
       replace bP := bP.below ab2 s0
       replace bM := bM.below ab2 s1
       replace s0 := Nat.lt_of_lt_of_le s0 ab2.size
       replace s1 := Nat.lt_of_lt_of_le s1 ab2.size
       replace hbW := hbW.trans (ab2.mono hbW.size)
       clear p0 p1 p2 p3 m0 m1 m2 m3
       obtain ⟨p0, p1, p2, p3, -⟩ := id bP
       obtain ⟨m0, m1, m2, m3, -⟩ := id bM
       have a1' := rbox_keep a1 ab2
       rw [k1] at a1'
       replace HR2 := Lib.hid (HR2.out.below ab2)
       obtain ⟨a10, a11, -⟩ := rbox_cell a1'
       obtain ⟨c10, c11, -⟩ := rbox_cell al2
       have sx1 : x1.heap.size < (x2.alloc (.cells (rcells 1 r2) 37)).heap.size := lt_of_block a1'
       have sx2 : x2.heap.size < (x2.alloc (.cells (rcells 1 r2) 37)).heap.size := lt_of_block al2
       clear a1 a1' al2
       replace LV := Lib.hid (LV.out.below ab2)
       replace LV2 := Lib.hid (LV2.out.below ab2)
       clear ab2
       generalize x2.alloc (.cells (rcells 1 r2) 37) = W9 at *
       have hfit : ∀ i k, Lin.Fits 200000 ((os.getD i []).getD k 0 * l.getD k 0) := fun i k => ((qfit_fits (HP.out.obj.fit i k)).mul (LF.out k)).mono (by omega)
       have hfit2 : ∀ i k, Lin.Fits 200000 ((os.getD i []).getD k 0 * l2.getD k 0) := fun i k => ((qfit_fits (HP.out.obj.fit i k)).mul (LF2.out k)).mono (by omega)
       have n1 : r1.X.n ≤ 1000000 := by rw [← LV.out.len, LL.out]; omega
       have n2 : r2.X.n ≤ 1000000 := by rw [← LV2.out.len, LL2.out]; omega
       refine (lpcompare_calls (kb := 200000) (p := ⟨V, ⟨oA, on, oc⟩, ⟨rA, rn, rc⟩, ⟨bA, rn, bc⟩⟩) (sx := r1.X) (sy := r2.X) (HP.out.below hbW) LV.out LV2.out (by show on ≤ _; omega) (fun i => Nat.le_trans (getD_cols HC1.out i) (by omega)) n1 n2 (by rw [LM_eq]; omega) (by rw [LM_eq]; omega) (by rw [LM_eq]; omega) (by rw [LM_eq]; omega) hfit hfit2).mono ?_
       rw [HOo.out]
       rintro e y1 ⟨rfl, hc1⟩
       clear hfit hfit2 n1 n2
       replace bP := bP.below hc1 s0
       replace bM := bM.below hc1 s1
       replace s0 := Nat.lt_of_lt_of_le s0 hc1.size
       replace s1 := Nat.lt_of_lt_of_le s1 hc1.size
       replace hbW := hbW.trans (hc1.mono hbW.size)
       clear p0 p1 p2 p3 m0 m1 m2 m3
       obtain ⟨p0, p1, p2, p3, -⟩ := id bP
       obtain ⟨m0, m1, m2, m3, -⟩ := id bM
       replace LV := Lib.hid (LV.out.below hc1)
       replace LV2 := Lib.hid (LV2.out.below hc1)
       replace HR2 := Lib.hid (HR2.out.below hc1)
       replace a11 := (hc1.cell (p := ⟨x1.heap.size, 1, none⟩) sx1).trans a11
       replace c11 := (hc1.cell (p := ⟨x2.heap.size, 1, none⟩) sx2).trans c11
       replace sx1 := Nat.lt_of_lt_of_le sx1 hc1.size
       replace sx2 := Nat.lt_of_lt_of_le sx2 hc1.size
       have hlo : ¬ (o < 0) := by omega
       clear a10 c10 hc1
       go_upto_region 15 with fail
       clear HOo
       have bW := hbW
       by_cases hk : (Lin.sum V fun k => (resize row V).getD k 0 * l.getD k 0) ≤ most
       ·obtain ⟨o2, ho2, hle⟩ : ∃ o2, qcmp (Lin.sum V fun k => (resize row V).getD k 0 * l.getD k 0) most = o2 ∧ o2 ≤ 0 := ⟨_, rfl, qcmp_le hk⟩
        have HV2 := Lib.hid ho2
        have HB : Hid (∀ i, i < V → l.getD i 0 = l2.getD i 0) := HI.out.1 hk
        clear ho2 hk
        have hBW := hbW.size
        go_region_held3 (Sees w.heap.size [] y1) (first | (with_reducible assumption) | ((with_reducible apply Kept.call2) <;> (with_reducible assumption)) | ((with_reducible first | apply Sees.k6 | apply Sees.k2 | apply Sees.k1 | apply Sees.st | apply Sees.d2 | apply Sees.d1 | apply Sees.al) <;> (first | (with_reducible assumption) | (simp; done) | (simp <;> omega))) | ((with_reducible first | apply Sees.k4 | apply Sees.d4 | apply Sees.dr | apply Sees.ax) <;> (first | (with_reducible assumption) | (simp; done) | (simp <;> omega))) | ((with_reducible first | apply Sees.n4 | apply Sees.ad | apply Sees.k1 | apply Sees.d1 | apply Sees.mo) <;> (first | (with_reducible assumption) | (simp; done) | (simp <;> omega))) | ((with_reducible apply Sees.mo) <;> (first | (with_reducible assumption) | (simp; done) | (simp <;> omega))) | ((with_reducible apply Kept.sees) <;> (repeat' (with_reducible first | apply Kept.drew | apply Kept.alloc | apply Kept.setN)) <;> (first | (with_reducible assumption) | (simp; done) | (simp <;> omega) | ((with_reducible apply Kept.refl) <;> (first | (with_reducible assumption) | (simp; done) | (simp <;> omega))))))
         (first
          | (go_at_call 30; ((with_reducible refine (dotV_calls (kb := 200000) (V := V) (sa := ⟨yA, yn, yc⟩) (sb := r1.X) (HR2.out.below (Sees.kept (by assumption)).whole) (LV.out.below (Sees.kept (by assumption)).whole) (by rw [LM_eq]; omega) (by rw [LM_eq]; omega) (resize_length _ _) LL.out (by omega) (by rw [LM_eq]; omega) (fun i => ((qfit_fits (HR2.out.fit i)).mul (LF.out i)).mono (by omega))).mono ?_); rintro e y2 ⟨⟨u, rfl, hu⟩, hc2⟩))
          | (go_at_call 29; ((with_reducible refine (cmpO_calls o2 hu (HMost.out.below (bW.trans ((Sees.kept (by assumption)).whole.mono bW.size))) (Nat.le_refl _) (by rw [LM_eq]; omega) HV2.out).mono ?_); rintro e y3 ⟨rfl, hc3⟩))
          | fail)
        rename_i hS
        have hS' := hS
        clear hu hc2 hc3
        replace bP := bP.below hS'.kept.whole s0
        replace bM := bM.below hS'.kept.whole s1
        replace s0 := Nat.lt_of_lt_of_le s0 hS'.kept.whole.size
        replace s1 := Nat.lt_of_lt_of_le s1 hS'.kept.whole.size
        replace hbW := hbW.trans (hS'.kept.whole.mono hbW.size)
        clear p0 p1 p2 p3 m0 m1 m2 m3
        obtain ⟨p0, p1, p2, p3, -⟩ := id bP
        obtain ⟨m0, m1, m2, m3, -⟩ := id bM
        replace LV := Lib.hid (LV.out.below hS'.kept.whole)
        replace LV2 := Lib.hid (LV2.out.below hS'.kept.whole)
        replace a11 := (hS'.kept.whole.cell (p := ⟨x1.heap.size, 1, none⟩) sx1).trans a11
        replace c11 := (hS'.kept.whole.cell (p := ⟨x2.heap.size, 1, none⟩) sx2).trans c11
        clear hS hS'
        go_wp2_with fail
        refine (equalO_calls true (V := V) (sa := r1.X) (sb := r2.X) LV.out LV2.out (by rw [LM_eq]; omega) (by rw [LM_eq]; omega) LL.out LL2.out (by omega) ⟨fun _ => rfl, fun _ => HB.out⟩).mono ?_
        rintro e y4 ⟨rfl, hc4⟩
        replace hbW := hbW.trans (hc4.mono hbW.size)
        go_wp2_with fail
        refine alive_calls.mono ?_
        rintro e wl ⟨rfl, hbl⟩
        have hbf := hbW.trans (hbl.mono hbW.size)
        go_wp2
        go_ret
        exact ⟨rfl, hbf⟩
       ·have HV2 : Hid (qcmp (Lin.sum V fun k => (resize row V).getD k 0 * l.getD k 0) most = 1) := qcmp_gt (Rat.not_le.1 hk)
        have HB : Hid (¬ ∀ i, i < V → l.getD i 0 = l2.getD i 0) := fun h => hk (HI.out.2 h)
        clear hk
        have hBW := hbW.size
        go_region_held3 (Sees w.heap.size [] y1) (first | (with_reducible assumption) | ((with_reducible apply Kept.call2) <;> (with_reducible assumption)) | ((with_reducible first | apply Sees.k6 | apply Sees.k2 | apply Sees.k1 | apply Sees.st | apply Sees.d2 | apply Sees.d1 | apply Sees.al) <;> (first | (with_reducible assumption) | (simp; done) | (simp <;> omega))) | ((with_reducible first | apply Sees.k4 | apply Sees.d4 | apply Sees.dr | apply Sees.ax) <;> (first | (with_reducible assumption) | (simp; done) | (simp <;> omega))) | ((with_reducible first | apply Sees.n4 | apply Sees.ad | apply Sees.k1 | apply Sees.d1 | apply Sees.mo) <;> (first | (with_reducible assumption) | (simp; done) | (simp <;> omega))) | ((with_reducible apply Sees.mo) <;> (first | (with_reducible assumption) | (simp; done) | (simp <;> omega))) | ((with_reducible apply Kept.sees) <;> (repeat' (with_reducible first | apply Kept.drew | apply Kept.alloc | apply Kept.setN)) <;> (first | (with_reducible assumption) | (simp; done) | (simp <;> omega) | ((with_reducible apply Kept.refl) <;> (first | (with_reducible assumption) | (simp; done) | (simp <;> omega))))))
         (first
          | (go_at_call 30; ((with_reducible refine (dotV_calls (kb := 200000) (V := V) (sa := ⟨yA, yn, yc⟩) (sb := r1.X) (HR2.out.below (Sees.kept (by assumption)).whole) (LV.out.below (Sees.kept (by assumption)).whole) (by rw [LM_eq]; omega) (by rw [LM_eq]; omega) (resize_length _ _) LL.out (by omega) (by rw [LM_eq]; omega) (fun i => ((qfit_fits (HR2.out.fit i)).mul (LF.out i)).mono (by omega))).mono ?_); rintro e y2 ⟨⟨u, rfl, hu⟩, hc2⟩))
          | (go_at_call 29; ((with_reducible refine (cmpO_calls 1 hu (HMost.out.below (bW.trans ((Sees.kept (by assumption)).whole.mono bW.size))) (Nat.le_refl _) (by rw [LM_eq]; omega) HV2.out).mono ?_); rintro e y3 ⟨rfl, hc3⟩))
          | fail)
        rename_i hS
        have hS' := hS
        clear hu hc2 hc3
        replace bP := bP.below hS'.kept.whole s0
        replace bM := bM.below hS'.kept.whole s1
        replace s0 := Nat.lt_of_lt_of_le s0 hS'.kept.whole.size
        replace s1 := Nat.lt_of_lt_of_le s1 hS'.kept.whole.size
        replace hbW := hbW.trans (hS'.kept.whole.mono hbW.size)
        clear p0 p1 p2 p3 m0 m1 m2 m3
        obtain ⟨p0, p1, p2, p3, -⟩ := id bP
        obtain ⟨m0, m1, m2, m3, -⟩ := id bM
        replace LV := Lib.hid (LV.out.below hS'.kept.whole)
        replace LV2 := Lib.hid (LV2.out.below hS'.kept.whole)
        replace a11 := (hS'.kept.whole.cell (p := ⟨x1.heap.size, 1, none⟩) sx1).trans a11
        replace c11 := (hS'.kept.whole.cell (p := ⟨x2.heap.size, 1, none⟩) sx2).trans c11
        clear hS hS'
        go_wp2_with fail
        refine (equalO_calls false (V := V) (sa := r1.X) (sb := r2.X) LV.out LV2.out (by rw [LM_eq]; omega) (by rw [LM_eq]; omega) LL.out LL2.out (by omega) ⟨fun h => absurd h HB.out, fun h => by cases h⟩).mono ?_
        rintro e y4 ⟨rfl, hc4⟩
        replace hbW := hbW.trans (hc4.mono hbW.size)
        go_wp2_with fail
        refine alive_calls.mono ?_
        rintro e wl ⟨rfl, hbl⟩
        have hbf := hbW.trans (hbl.mono hbW.size)
        go_wp2
        go_ret
        exact ⟨rfl, hbf⟩
end Go.Proofs.YtlepljpdkbjbhaaGreat
