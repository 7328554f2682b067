/- Texts Long2 Long3 Long4 Long5 Long6 of this claim. -/
import Derived.Test.YtlepljpdkbjbhaaGreatT17
import Derived.Test.YtlepljpdkbjbhaaGreatT14
import Derived.Deep.Cut
import Derived.Test.YtlepljpdkbjbhaaGreatT09
namespace Go.Proofs.YtlepljpdkbjbhaaGreat
open Go.RowKit Go.Shelf
structure LPRaw (w : World) (X : Nat → Prop) (R : QV → Rat → Prop) (p : LPV) (os rs : List (List Rat)) (bs : List Rat) : Prop where
 obj : MatAt w X R p.O os
 rows : MatAt w X R p.R rs
 bounds : VecAt w X R p.B bs
def mayB (p : LPV) (os rs : List (List Rat)) : Bool :=
 decide (0 ≤ p.n ∧ p.n ≤ 64 ∧ 1 ≤ p.O.n ∧ p.O.n ≤ 4 ∧ p.R.n ≤ 128 ∧ p.B.n = p.R.n ∧ (colsOf os : Int) ≤ p.n ∧ (colsOf rs : Int) ≤ p.n)
set_option maxRecDepth 20000 in
set_option maxHeartbeats 4000000 in
theorem may_calls {w : World} {X : Nat → Prop} {R : QV → Rat → Prop} {p : LPV} {os rs : List (List Rat)} {bs : List Rat} (h : LPRaw w X R p os rs bs) :
  Calls Tryz.prog 16 #[p.val] w fun e w' => e = .returned (.bool (mayB p os rs)) ∧ Below w.heap.size w w' := by
 obtain ⟨z, ⟨oA, on, oc⟩, ⟨rA, rn, rc⟩, ⟨bA, bn, bc⟩⟩ := p
 have o1 : on ≤ oc := h.obj.le
 have o2 : oc ≤ 9223372036854775807 := h.obj.cap
 have r1 : rn ≤ rc := h.rows.le
 have r2 : rc ≤ 9223372036854775807 := h.rows.cap
 have b1 : bn ≤ bc := h.bounds.le
 have b2 : bc ≤ 9223372036854775807 := h.bounds.cap
 have ho := Lib.hid h.obj
 have hr := Lib.hid h.rows
 clear h
 dsimp only [LPV.val] at *
 go_enter Tryz.func16, Tryz.ntmps16
 go_upto_region 1 with fail
 refine gen_world (fun W => Below w.heap.size w W ∧ Box4 W w.heap.size (.int .i64 z) (.slice oA on oc) (.slice rA rn rc) (.slice bA bn bc) ∧ w.heap.size < W.heap.size) ⟨((Below.refl _ _).alloc (by simp <;> omega) _), ⟨by go_simp, by go_simp, by go_simp, by go_simp, by intro o; go_simp⟩, by simp <;> omega⟩ ?_
 rintro W ⟨hbW, bP, s0⟩
 have hBW := hbW.size
 obtain ⟨p0, p1, p2, p3, -⟩ := bP
 by_cases a1 : z < 0
 ·have hm : Hid (false = mayB ⟨z, ⟨oA, on, oc⟩, ⟨rA, rn, rc⟩, ⟨bA, bn, bc⟩⟩ os rs) := by show _ = _; symm; simp only [mayB, decide_eq_false_iff_not]; omega
  go_wp2
  go_ret
  exact ⟨by rw [← hm.out]; rfl, hbW⟩
 by_cases a2 : 64 < z
 ·have hm : Hid (false = mayB ⟨z, ⟨oA, on, oc⟩, ⟨rA, rn, rc⟩, ⟨bA, bn, bc⟩⟩ os rs) := by show _ = _; symm; simp only [mayB, decide_eq_false_iff_not]; omega
  go_wp2
  go_ret
  exact ⟨by rw [← hm.out]; rfl, hbW⟩
 by_cases a3 : (on : Int) < 1
 ·have hm : Hid (false = mayB ⟨z, ⟨oA, on, oc⟩, ⟨rA, rn, rc⟩, ⟨bA, bn, bc⟩⟩ os rs) := by show _ = _; symm; simp only [mayB, decide_eq_false_iff_not]; omega
  go_wp2
  go_ret
  exact ⟨by rw [← hm.out]; rfl, hbW⟩
 by_cases a4 : (4 : Int) < (on : Int)
 ·have hm : Hid (false = mayB ⟨z, ⟨oA, on, oc⟩, ⟨rA, rn, rc⟩, ⟨bA, bn, bc⟩⟩ os rs) := by show _ = _; symm; simp only [mayB, decide_eq_false_iff_not]; omega
  go_wp2
  go_ret
  exact ⟨by rw [← hm.out]; rfl, hbW⟩
 by_cases a5 : (128 : Int) < (rn : Int)
 ·have hm : Hid (false = mayB ⟨z, ⟨oA, on, oc⟩, ⟨rA, rn, rc⟩, ⟨bA, bn, bc⟩⟩ os rs) := by show _ = _; symm; simp only [mayB, decide_eq_false_iff_not]; omega
  go_wp2
  go_ret
  exact ⟨by rw [← hm.out]; rfl, hbW⟩
 by_cases a6 : ¬ (bn = rn)
 ·have hm : Hid (false = mayB ⟨z, ⟨oA, on, oc⟩, ⟨rA, rn, rc⟩, ⟨bA, bn, bc⟩⟩ os rs) := by show _ = _; symm; simp only [mayB, decide_eq_false_iff_not]; omega
  have a7 : ((bn : Int) != (rn : Int)) = true := by simp; omega
  clear a6
  go_wp2_with (rw [a7])
  go_ret
  exact ⟨by rw [← hm.out]; rfl, hbW⟩
 have a6' : bn = rn := by omega
 subst a6'
 clear a6
 go_wp2_with fail
 refine (refShort_calls (s := ⟨oA, on, oc⟩) (ho.out.keep (fun a _ hl => hbW.cell hl) fun _ _ hr => hr)).mono ?_; rintro e w1 ⟨rfl, rfl⟩
 by_cases hco : (colsOf os : Int) ≤ z
 ·have hm : Hid (decide ((colsOf rs : Int) ≤ z) = mayB ⟨z, ⟨oA, on, oc⟩, ⟨rA, bn, rc⟩, ⟨bA, bn, bc⟩⟩ os rs) := by show _ = _; unfold mayB; rw [decide_eq_decide]; dsimp only; constructor <;> intro h <;> omega
  rw [decide_eq_true hco]
  clear hco
  have HS := Lib.hid (refShort_calls (w := W) (s := ⟨rA, bn, rc⟩) (z := z) (hr.out.keep (fun a _ hl => hbW.cell hl) fun _ _ hr => hr))
  generalize colsOf rs = cr at *
  go_wp2_with fail
  refine HS.out.mono ?_; rintro e w1 ⟨rfl, rfl⟩
  go_wp2
  go_ret
  exact ⟨by rw [← hm.out]; rfl, hbW⟩
 ·have hm : Hid (false = mayB ⟨z, ⟨oA, on, oc⟩, ⟨rA, bn, rc⟩, ⟨bA, bn, bc⟩⟩ os rs) := by show _ = _; symm; simp only [mayB, decide_eq_false_iff_not]; omega
  rw [decide_eq_false hco]
  clear hco
  go_wp2
  go_ret
  exact ⟨by rw [← hm.out]; rfl, hbW⟩
end Go.Proofs.YtlepljpdkbjbhaaGreat
namespace Go.Proofs.YtlepljpdkbjbhaaGreat
open Go.RowKit Go.Shelf
def QAny (w : World) (Y : Nat → Prop) (v : QV) (q : Rat) : Prop := ∃ L, QIs w Y L v q
theorem QAny.below {w w' : World} {Y : Nat → Prop} {v : QV} {q : Rat} (h : QAny w Y v q) (hb : Below w.heap.size w w') : QAny w' Y v q := by
 obtain ⟨L, h⟩ := h; exact ⟨L, h.below hb⟩
theorem QAny.qis {w : World} {Y : Nat → Prop} {v : QV} {q : Rat} {L : Nat} (h : QAny w Y v q) (h1 : v.num.n ≤ L) (h2 : v.den.n ≤ L) : QIs w Y L v q := by
 obtain ⟨_, x, y, ⟨lx, hx, -, ex⟩, ⟨ly, hy, -, ey⟩, e⟩ := h
 exact ⟨x, y, ⟨lx, hx, h1, ex⟩, ⟨ly, hy, h2, ey⟩, e⟩
theorem QAny.cap {w : World} {Y : Nat → Prop} {v : QV} {q : Rat} (h : QAny w Y v q) : (v.num.n ≤ v.num.c ∧ v.num.c ≤ 9223372036854775807) ∧ v.den.n ≤ v.den.c ∧ v.den.c ≤ 9223372036854775807 := by
 obtain ⟨_, x, y, ⟨lx, hx, -, -⟩, ⟨ly, hy, -, -⟩, -⟩ := h
 exact ⟨⟨hx.le, hx.cap⟩, hy.le, hy.cap⟩
def Seen6 (w : World) (A : Option Addr) (i : Nat) : Prop := ∀ j, j < i → ∀ ad v, A = some ad → QCell w (ad.add (j * 4)) v → v.num.n ≤ 6 ∧ v.den.n ≤ 6
theorem qcell_inj {w : World} {p : Addr} {v v' : QV} (h : QCell w p v) (h' : QCell w p v') : v = v' := by
 obtain ⟨a0, a1, a2, a3⟩ := h
 obtain ⟨b0, b1, b2, b3⟩ := h'
 rw [a0] at b0; rw [a1] at b1; rw [a2] at b2; rw [a3] at b3
 obtain ⟨⟨n0, A0, m0, k0⟩, ⟨n1, A1, m1, k1⟩⟩ := v
 obtain ⟨⟨n0', A0', m0', k0'⟩, ⟨n1', A1', m1', k1'⟩⟩ := v'
 simp at b0 b1 b2 b3
 simp [b0, b1, b2, b3]
theorem Seen6.next {w : World} {ad : Addr} {i : Nat} {v : QV} (h : Seen6 w (some ad) i) (hc : QCell w (ad.add (i * 4)) v) (h1 : v.num.n ≤ 6) (h2 : v.den.n ≤ 6) : Seen6 w (some ad) (i + 1) := by
 intro j hj ad' v' e hc'
 by_cases e2 : j = i
 ·subst e2
  cases e
  rw [qcell_inj hc' hc]; exact ⟨h1, h2⟩
 ·exact h j (by omega) ad' v' e hc'
def L2Loop (w : World) (A : Option Addr) (n : Nat) (t : Value) (W : World) : Prop :=
 ∃ i : Nat, i ≤ n ∧ t = .int .i64 i ∧ Seen6 w A i ∧ Below w.heap.size w W
set_option maxRecDepth 20000 in
set_option maxHeartbeats 4000000 in
theorem long02_calls {w : World} {X Y : Nat → Prop} {s : SV} {l : List Rat} (h : VecAt w X (QAny w Y) s l) :
  Calls Tryz.prog 17 #[s.val] w fun e w' => BRet (fun b => b = false → VecIs w X Y 6 s l) e ∧ Below w.heap.size w w' := by
 have hn := h.le
 have hc := h.cap
 obtain ⟨A, n, c⟩ := s
 dsimp only at hn hc
 have HV := Lib.hid h
 clear h
 show Calls _ _ #[.slice A n c] _ _
 go_enter Tryz.func17, Tryz.ntmps17
 go_wp2
 go_loopw [3] (fun t W => L2Loop w A n t W) (fun t _ => n - (intOf t).toNat)
 case atStart => exact ⟨0, Nat.zero_le _, rfl, fun j hj => absurd hj (by omega), Below.refl _ _⟩
 case round =>
  obtain ⟨i, hi, rfl, hseen, hB⟩ := hrel
  have hseen := Lib.hid hseen
  by_cases hlt : i < n
  ·obtain ⟨ad, v, e, hx, hcell, hq⟩ := HV.out.elem i hlt
   dsimp only at e
   subst e
   have HC := Lib.hid hcell
   obtain ⟨⟨k1, k2⟩, k3, k4⟩ := hq.cap
   have hold : ad.block < w.heap.size := by have := block_lt_of_cell hcell.1; rwa [block_of_add] at this
   obtain ⟨c0, c1, c2, c3⟩ := hcell.keep (w' := _) fun a ha hl => hB.cell (by rw [ha]; exact hl)
   clear hq hx
   go_upto_region 4 with fail
   have hBW := hB.size
   have hadl : (ad.add (i * 4)).block < wr.heap.size := block_lt_of_cell c0
   refine wp_plain_G 1000 (fun _ w' => Sees w.heap.size [] wr w') (by kernel_rfl) ?_
   have hS0 : Sees w.heap.size [] wr wr.drew := Sees.st (by simp) hBW
   refine tkA 0 ?_ (fun w' b hSw => ?_) (hS0) ?_
   rotate_left
   ·(try dsimp only at hSw); go_simp; try with_reducible rfl
   simp only [zzA, zzB, zzC]
   refine tkA 1 ?_ (fun w' b hSw => ?_) (hS0) ?_
   rotate_left
   ·(try dsimp only at hSw); go_simp; try with_reducible rfl
   simp only [zzA, zzB, zzC]
   refine tkA 2 ?_ (fun w' b hSw => ?_) (hS0) ?_
   rotate_left
   ·(try dsimp only at hSw); go_simp; try with_reducible rfl
   simp only [zzA, zzB, zzC]
   refine tkA 3 ?_ (fun w' b hSw => ?_) (hS0) ?_
   rotate_left
   ·(try dsimp only at hSw); go_simp; try with_reducible rfl
   simp only [zzA, zzB, zzC]
   refine tkA 4 ?_ (fun w' b hSw => ?_) (hS0) ?_
   rotate_left
   ·(try dsimp only at hSw); go_simp; try with_reducible rfl
   simp only [zzA, zzB, zzC]
   refine tkA 5 ?_ (fun w' b hSw => ?_) (hS0) ?_
   rotate_left
   ·(try dsimp only at hSw); go_simp; try with_reducible rfl
   simp only [zzA, zzB, zzC]
   refine tkA 6 ?_ (fun w' b hSw => ?_) (hS0) ?_
   rotate_left
   ·(try dsimp only at hSw); go_simp; try with_reducible rfl
   simp only [zzA, zzB, zzC]
   refine tkA 7 ?_ (fun w' b hSw => ?_) (hS0) ?_
   rotate_left
   ·(try dsimp only at hSw); go_simp; try with_reducible rfl
   simp only [zzA, zzB, zzC]
   refine tkA 8 ?_ (fun w' b hSw => ?_) (hS0) ?_
   rotate_left
   ·(try dsimp only at hSw); go_simp; try with_reducible rfl
   simp only [zzA, zzB, zzC]
   refine tkA 9 ?_ (fun w' b hSw => ?_) (hS0) ?_
   rotate_left
   ·(try dsimp only at hSw); go_simp; try with_reducible rfl
   simp only [zzA, zzB, zzC]
   refine oneW (i := 10) (by kernel_rfl) rfl (by rfl) ?_
   intro K hK
   go_simp
   have hA : (wr.alloc (.cells #[.bool v.num.ng, .slice v.num.A v.num.n v.num.c, .bool v.den.ng, .slice v.den.A v.den.n v.den.c] 28)).drew.heap[wr.heap.size]? = some (.cells #[.bool v.num.ng, .slice v.num.A v.num.n v.num.c, .bool v.den.ng, .slice v.den.A v.den.n v.den.c] 28 (0, 0)) := heap_new _ _ rfl
   have hS1 : Sees w.heap.size [] wr (wr.alloc (.cells #[.bool v.num.ng, .slice v.num.A v.num.n v.num.c, .bool v.den.ng, .slice v.den.A v.den.n v.den.c] 28)).drew := Sees.ad hS0
   refine hK.out _ _ hS1 ?_
   clear hK K
   generalize (wr.alloc (.cells #[.bool v.num.ng, .slice v.num.A v.num.n v.num.c, .bool v.den.ng, .slice v.den.A v.den.n v.den.c] 28)).drew = wa at *
   refine oneW (i := 11) (by kernel_rfl) rfl (by rfl) ?_
   intro K hK
   go_simp
   refine (long01_calls hA (by omega) (by omega)).mono ?_
   rintro e wb ⟨⟨r, rfl, -⟩, rfl⟩
   dsimp only
   have hS2 := hS1
   refine hK.out _ _ hS2 ?_
   clear hK K hS0 hS1 hA
   have hbf := hB.trans (hS2.kept.whole.mono hBW)
   cases r with
   | true =>
    refine tkA 12 ?_ (fun w' b hSw => ?_) (hS2) ?_
    rotate_left
    ·(try dsimp only at hSw); go_simp; try with_reducible rfl
    simp only [zzA, zzB, zzC]
    refine tkN 13 (hS2) ?_
    simp only [zzA, zzB, zzC]
    refine tkN 14 (hS2) ?_
    simp only [zzA, zzB, zzC]
    refine tkN 15 (hS2) ?_
    simp only [zzA, zzB, zzC]
    refine tkN 16 (hS2) ?_
    simp only [zzA, zzB, zzC]
    refine tkN 17 (hS2) ?_
    simp only [zzA, zzB, zzC]
    refine tkN 18 (hS2) ?_
    simp only [zzA, zzB, zzC]
    refine tkN 19 (hS2) ?_
    simp only [zzA, zzB, zzC]
    refine tkN 20 (hS2) ?_
    simp only [zzA, zzB, zzC]
    refine tkA 21 ?_ (fun w' b hSw => ?_) (hS2) ?_
    rotate_left
    ·(try dsimp only at hSw); go_simp; try with_reducible rfl
    simp only [zzA, zzB, zzC]
    refine tkA 22 ?_ (fun w' b hSw => ?_) (hS2) ?_
    rotate_left
    ·(try dsimp only at hSw); go_simp; try with_reducible rfl
    simp only [zzA, zzB, zzC]
    refine tkN 23 (hS2) ?_
    simp only [zzA, zzB, zzC]
    refine tkN 24 (hS2) ?_
    simp only [zzA, zzB, zzC]
    refine tkN 25 (hS2) ?_
    simp only [zzA, zzB, zzC]
    refine tkN 26 (hS2) ?_
    simp only [zzA, zzB, zzC]
    refine tkN 27 (hS2) ?_
    simp only [zzA, zzB, zzC]
    refine tkN 28 (hS2) ?_
    simp only [zzA, zzB, zzC]
    refine tkN 29 (hS2) ?_
    simp only [zzA, zzB, zzC]
    refine tkN 30 (hS2) ?_
    simp only [zzA, zzB, zzC]
    refine tkA 31 ?_ (fun w' b hSw => ?_) (hS2) ?_
    rotate_left
    ·(try dsimp only at hSw); go_simp; try with_reducible rfl
    simp only [zzA, zzB, zzC]
    refine wpAnyG_done (by kernel_rfl) ?_ _
    clear hS2 c0 c1 c2 c3
    go_wp2
    go_ret
    exact ⟨⟨_, rfl, fun h => by cases h⟩, hbf⟩
   | false =>
    by_cases h6 : (6 : Int) < (v.num.n : Int)
    ·skip
     refine tkA 12 ?_ (fun w' b hSw => ?_) (hS2) ?_
     rotate_left
     ·(try dsimp only at hSw); go_simp; try with_reducible rfl
     simp only [zzA, zzB, zzC]
     refine tkA 13 ?_ (fun w' b hSw => ?_) (hS2) ?_
     rotate_left
     ·(try dsimp only at hSw); go_simp; try with_reducible rfl
     simp only [zzA, zzB, zzC]
     refine tkA 14 ?_ (fun w' b hSw => ?_) (hS2) ?_
     rotate_left
     ·(try dsimp only at hSw); go_simp; try with_reducible rfl
     simp only [zzA, zzB, zzC]
     refine tkA 15 ?_ (fun w' b hSw => ?_) (hS2) ?_
     rotate_left
     ·(try dsimp only at hSw); go_simp; try with_reducible rfl
     simp only [zzA, zzB, zzC]
     refine tkA 16 ?_ (fun w' b hSw => ?_) (hS2) ?_
     rotate_left
     ·(try dsimp only at hSw); go_simp; try with_reducible rfl
     simp only [zzA, zzB, zzC]
     refine tkA 17 ?_ (fun w' b hSw => ?_) (hS2) ?_
     rotate_left
     ·(try dsimp only at hSw); go_simp; try with_reducible rfl
     simp only [zzA, zzB, zzC]
     refine tkA 18 ?_ (fun w' b hSw => ?_) (hS2) ?_
     rotate_left
     ·(try dsimp only at hSw); go_simp; try with_reducible rfl
     simp only [zzA, zzB, zzC]
     refine tkA 19 ?_ (fun w' b hSw => ?_) (hS2) ?_
     rotate_left
     ·(try dsimp only at hSw); go_simp; try with_reducible rfl
     simp only [zzA, zzB, zzC]
     refine tkA 20 ?_ (fun w' b hSw => ?_) (hS2) ?_
     rotate_left
     ·(try dsimp only at hSw); go_simp; try with_reducible rfl
     simp only [zzA, zzB, zzC]
     refine tkA 21 ?_ (fun w' b hSw => ?_) (hS2) ?_
     rotate_left
     ·(try dsimp only at hSw); go_simp; try with_reducible rfl
     simp only [zzA, zzB, zzC]
     refine tkA 22 ?_ (fun w' b hSw => ?_) (hS2) ?_
     rotate_left
     ·(try dsimp only at hSw); go_simp; try with_reducible rfl
     simp only [zzA, zzB, zzC]
     refine tkN 23 (hS2) ?_
     simp only [zzA, zzB, zzC]
     refine tkN 24 (hS2) ?_
     simp only [zzA, zzB, zzC]
     refine tkN 25 (hS2) ?_
     simp only [zzA, zzB, zzC]
     refine tkN 26 (hS2) ?_
     simp only [zzA, zzB, zzC]
     refine tkN 27 (hS2) ?_
     simp only [zzA, zzB, zzC]
     refine tkN 28 (hS2) ?_
     simp only [zzA, zzB, zzC]
     refine tkN 29 (hS2) ?_
     simp only [zzA, zzB, zzC]
     refine tkN 30 (hS2) ?_
     simp only [zzA, zzB, zzC]
     refine tkA 31 ?_ (fun w' b hSw => ?_) (hS2) ?_
     rotate_left
     ·(try dsimp only at hSw); go_simp; try with_reducible rfl
     simp only [zzA, zzB, zzC]
     refine wpAnyG_done (by kernel_rfl) ?_ _
     clear hS2 c0 c1 c2 c3
     go_wp2
     go_ret
     exact ⟨⟨_, rfl, fun h => by cases h⟩, hbf⟩
    ·by_cases h7 : (6 : Int) < (v.den.n : Int)
     ·skip
      refine tkA 12 ?_ (fun w' b hSw => ?_) (hS2) ?_
      rotate_left
      ·(try dsimp only at hSw); go_simp; try with_reducible rfl
      simp only [zzA, zzB, zzC]
      refine tkA 13 ?_ (fun w' b hSw => ?_) (hS2) ?_
      rotate_left
      ·(try dsimp only at hSw); go_simp; try with_reducible rfl
      simp only [zzA, zzB, zzC]
      refine tkA 14 ?_ (fun w' b hSw => ?_) (hS2) ?_
      rotate_left
      ·(try dsimp only at hSw); go_simp; try with_reducible rfl
      simp only [zzA, zzB, zzC]
      refine tkA 15 ?_ (fun w' b hSw => ?_) (hS2) ?_
      rotate_left
      ·(try dsimp only at hSw); go_simp; try with_reducible rfl
      simp only [zzA, zzB, zzC]
      refine tkA 16 ?_ (fun w' b hSw => ?_) (hS2) ?_
      rotate_left
      ·(try dsimp only at hSw); go_simp; try with_reducible rfl
      simp only [zzA, zzB, zzC]
      refine tkA 17 ?_ (fun w' b hSw => ?_) (hS2) ?_
      rotate_left
      ·(try dsimp only at hSw); go_simp; try with_reducible rfl
      simp only [zzA, zzB, zzC]
      refine tkA 18 ?_ (fun w' b hSw => ?_) (hS2) ?_
      rotate_left
      ·(try dsimp only at hSw); go_simp; try with_reducible rfl
      simp only [zzA, zzB, zzC]
      refine tkA 19 ?_ (fun w' b hSw => ?_) (hS2) ?_
      rotate_left
      ·(try dsimp only at hSw); go_simp; try with_reducible rfl
      simp only [zzA, zzB, zzC]
      refine tkA 20 ?_ (fun w' b hSw => ?_) (hS2) ?_
      rotate_left
      ·(try dsimp only at hSw); go_simp; try with_reducible rfl
      simp only [zzA, zzB, zzC]
      refine tkA 21 ?_ (fun w' b hSw => ?_) (hS2) ?_
      rotate_left
      ·(try dsimp only at hSw); go_simp; try with_reducible rfl
      simp only [zzA, zzB, zzC]
      refine tkA 22 ?_ (fun w' b hSw => ?_) (hS2) ?_
      rotate_left
      ·(try dsimp only at hSw); go_simp; try with_reducible rfl
      simp only [zzA, zzB, zzC]
      refine tkA 23 ?_ (fun w' b hSw => ?_) (hS2) ?_
      rotate_left
      ·(try dsimp only at hSw); go_simp; try with_reducible rfl
      simp only [zzA, zzB, zzC]
      refine tkA 24 ?_ (fun w' b hSw => ?_) (hS2) ?_
      rotate_left
      ·(try dsimp only at hSw); go_simp; try with_reducible rfl
      simp only [zzA, zzB, zzC]
      refine tkA 25 ?_ (fun w' b hSw => ?_) (hS2) ?_
      rotate_left
      ·(try dsimp only at hSw); go_simp; try with_reducible rfl
      simp only [zzA, zzB, zzC]
      refine tkA 26 ?_ (fun w' b hSw => ?_) (hS2) ?_
      rotate_left
      ·(try dsimp only at hSw); go_simp; try with_reducible rfl
      simp only [zzA, zzB, zzC]
      refine tkA 27 ?_ (fun w' b hSw => ?_) (hS2) ?_
      rotate_left
      ·(try dsimp only at hSw); go_simp; try with_reducible rfl
      simp only [zzA, zzB, zzC]
      refine tkA 28 ?_ (fun w' b hSw => ?_) (hS2) ?_
      rotate_left
      ·(try dsimp only at hSw); go_simp; try with_reducible rfl
      simp only [zzA, zzB, zzC]
      refine tkA 29 ?_ (fun w' b hSw => ?_) (hS2) ?_
      rotate_left
      ·(try dsimp only at hSw); go_simp; try with_reducible rfl
      simp only [zzA, zzB, zzC]
      refine tkA 30 ?_ (fun w' b hSw => ?_) (hS2) ?_
      rotate_left
      ·(try dsimp only at hSw); go_simp; try with_reducible rfl
      simp only [zzA, zzB, zzC]
      refine tkA 31 ?_ (fun w' b hSw => ?_) (hS2) ?_
      rotate_left
      ·(try dsimp only at hSw); go_simp; try with_reducible rfl
      simp only [zzA, zzB, zzC]
      refine wpAnyG_done (by kernel_rfl) ?_ _
      clear hS2 c0 c1 c2 c3
      go_wp2
      go_ret
      exact ⟨⟨_, rfl, fun h => by cases h⟩, hbf⟩
     ·skip
      refine tkA 12 ?_ (fun w' b hSw => ?_) (hS2) ?_
      rotate_left
      ·(try dsimp only at hSw); go_simp; try with_reducible rfl
      simp only [zzA, zzB, zzC]
      refine tkA 13 ?_ (fun w' b hSw => ?_) (hS2) ?_
      rotate_left
      ·(try dsimp only at hSw); go_simp; try with_reducible rfl
      simp only [zzA, zzB, zzC]
      refine tkA 14 ?_ (fun w' b hSw => ?_) (hS2) ?_
      rotate_left
      ·(try dsimp only at hSw); go_simp; try with_reducible rfl
      simp only [zzA, zzB, zzC]
      refine tkA 15 ?_ (fun w' b hSw => ?_) (hS2) ?_
      rotate_left
      ·(try dsimp only at hSw); go_simp; try with_reducible rfl
      simp only [zzA, zzB, zzC]
      refine tkA 16 ?_ (fun w' b hSw => ?_) (hS2) ?_
      rotate_left
      ·(try dsimp only at hSw); go_simp; try with_reducible rfl
      simp only [zzA, zzB, zzC]
      refine tkA 17 ?_ (fun w' b hSw => ?_) (hS2) ?_
      rotate_left
      ·(try dsimp only at hSw); go_simp; try with_reducible rfl
      simp only [zzA, zzB, zzC]
      refine tkA 18 ?_ (fun w' b hSw => ?_) (hS2) ?_
      rotate_left
      ·(try dsimp only at hSw); go_simp; try with_reducible rfl
      simp only [zzA, zzB, zzC]
      refine tkA 19 ?_ (fun w' b hSw => ?_) (hS2) ?_
      rotate_left
      ·(try dsimp only at hSw); go_simp; try with_reducible rfl
      simp only [zzA, zzB, zzC]
      refine tkA 20 ?_ (fun w' b hSw => ?_) (hS2) ?_
      rotate_left
      ·(try dsimp only at hSw); go_simp; try with_reducible rfl
      simp only [zzA, zzB, zzC]
      refine tkA 21 ?_ (fun w' b hSw => ?_) (hS2) ?_
      rotate_left
      ·(try dsimp only at hSw); go_simp; try with_reducible rfl
      simp only [zzA, zzB, zzC]
      refine tkA 22 ?_ (fun w' b hSw => ?_) (hS2) ?_
      rotate_left
      ·(try dsimp only at hSw); go_simp; try with_reducible rfl
      simp only [zzA, zzB, zzC]
      refine tkA 23 ?_ (fun w' b hSw => ?_) (hS2) ?_
      rotate_left
      ·(try dsimp only at hSw); go_simp; try with_reducible rfl
      simp only [zzA, zzB, zzC]
      refine tkA 24 ?_ (fun w' b hSw => ?_) (hS2) ?_
      rotate_left
      ·(try dsimp only at hSw); go_simp; try with_reducible rfl
      simp only [zzA, zzB, zzC]
      refine tkA 25 ?_ (fun w' b hSw => ?_) (hS2) ?_
      rotate_left
      ·(try dsimp only at hSw); go_simp; try with_reducible rfl
      simp only [zzA, zzB, zzC]
      refine tkA 26 ?_ (fun w' b hSw => ?_) (hS2) ?_
      rotate_left
      ·(try dsimp only at hSw); go_simp; try with_reducible rfl
      simp only [zzA, zzB, zzC]
      refine tkA 27 ?_ (fun w' b hSw => ?_) (hS2) ?_
      rotate_left
      ·(try dsimp only at hSw); go_simp; try with_reducible rfl
      simp only [zzA, zzB, zzC]
      refine tkA 28 ?_ (fun w' b hSw => ?_) (hS2) ?_
      rotate_left
      ·(try dsimp only at hSw); go_simp; try with_reducible rfl
      simp only [zzA, zzB, zzC]
      refine tkA 29 ?_ (fun w' b hSw => ?_) (hS2) ?_
      rotate_left
      ·(try dsimp only at hSw); go_simp; try with_reducible rfl
      simp only [zzA, zzB, zzC]
      refine tkA 30 ?_ (fun w' b hSw => ?_) (hS2) ?_
      rotate_left
      ·(try dsimp only at hSw); go_simp; try with_reducible rfl
      simp only [zzA, zzB, zzC]
      refine tkA 31 ?_ (fun w' b hSw => ?_) (hS2) ?_
      rotate_left
      ·(try dsimp only at hSw); go_simp; try with_reducible rfl
      simp only [zzA, zzB, zzC]
      refine wpAnyG_done (by kernel_rfl) ?_ _
      have Hfin : Hid (L2Loop w (some ad) n (.int .i64 ((i : Int) + 1)) wa) := ⟨i + 1, by omega, by simp, hseen.out.next HC.out (by omega) (by omega), hbf⟩
      clear hS2 c0 c1 c2 c3
      go_wp2
      go_roundw
      case rel => exact Hfin.out
      case measure => simp [intOf]; omega
  ·obtain rfl : i = n := by omega
   go_wp2
   go_ret
   exact ⟨⟨_, rfl, fun _ => ⟨HV.out.len, HV.out.le, HV.out.cap, fun k hk => by
    obtain ⟨ad, v, e, hx, hcell, hq⟩ := HV.out.elem k hk
    have := hseen.out k hk ad v e hcell
    exact ⟨ad, v, e, hx, hcell, hq.qis this.1 this.2⟩⟩⟩, hB⟩
end Go.Proofs.YtlepljpdkbjbhaaGreat
namespace Go.Proofs.YtlepljpdkbjbhaaGreat
open Go.RowKit Go.Shelf
def SeenR (w : World) (X Y : Nat → Prop) (s : SV) (m : List (List Rat)) (i : Nat) : Prop := ∀ j, j < i → ∃ ad r, s.A = some ad ∧ X ad.block ∧ w.cell? (ad.add j) = some (SV.val r) ∧ r.n ≤ 20 ∧ VecIs w X Y 6 r (m.getD j [])
def L3Loop (w : World) (X Y : Nat → Prop) (s : SV) (m : List (List Rat)) (t : Value) (W : World) : Prop :=
 ∃ i : Nat, i ≤ s.n ∧ t = .int .i64 i ∧ SeenR w X Y s m i ∧ Below w.heap.size w W
theorem VecAt.belowA {w w' : World} {X Y : Nat → Prop} {s : SV} {l : List Rat} (h : VecAt w X (QAny w Y) s l) (hb : Below w.heap.size w w') : VecAt w' X (QAny w' Y) s l := h.keep (fun _ _ hl => hb.cell hl) fun _ _ hr => hr.below hb
theorem MatAt.belowA {w w' : World} {X Y : Nat → Prop} {s : SV} {m : List (List Rat)} (h : MatAt w X (QAny w Y) s m) (hb : Below w.heap.size w w') : MatAt w' X (QAny w' Y) s m := h.keep (fun _ _ hl => hb.cell hl) fun _ _ hr => hr.below hb
theorem VecAt.back {w W : World} {X Y : Nat → Prop} {L : Nat} {s : SV} {l : List Rat} (h : VecAt w X (QAny w Y) s l) (hb : Below w.heap.size w W) (h' : VecIs W X Y L s l) : VecIs w X Y L s l :=
 ⟨h.len, h.le, h.cap, fun k hk => by
  obtain ⟨ad, v, e, hx, hc, hq⟩ := h.elem k hk
  obtain ⟨ad', v', e', _, hc', _, _, ⟨_, _, h1, _⟩, ⟨_, _, h2, _⟩, _⟩ := h'.elem k hk
  rw [e] at e'
  cases e'
  obtain rfl := qcell_inj hc' (hc.keep fun a ha hl => hb.cell (by rw [ha]; exact hl))
  exact ⟨ad, v', e, hx, hc, hq.qis h1 h2⟩⟩
set_option maxRecDepth 20000 in
set_option maxHeartbeats 4000000 in
theorem long03_calls {w : World} {X Y : Nat → Prop} {s : SV} {m : List (List Rat)} (h : MatAt w X (QAny w Y) s m) :
  Calls Tryz.prog 26 #[s.val] w fun e w' => BRet (fun b => b = false → MatIs w X Y 6 s m ∧ colsOf m ≤ 20) e ∧ Below w.heap.size w w' := by
 have hn := h.le
 have hc := h.cap
 obtain ⟨A, n, c⟩ := s
 dsimp only at hn hc
 have HV := Lib.hid h
 clear h
 show Calls _ _ #[.slice A n c] _ _
 go_enter Tryz.func26, Tryz.ntmps26
 go_wp2
 go_loopw [3] (fun t W => L3Loop w X Y ⟨A, n, c⟩ m t W) (fun t _ => n - (intOf t).toNat)
 case atStart => exact ⟨0, Nat.zero_le _, rfl, fun j hj => absurd hj (by omega), Below.refl _ _⟩
 case round =>
  obtain ⟨i, hi, rfl, hseen, hB⟩ := hrel
  dsimp only at hi
  replace hseen := Lib.hid hseen
  by_cases hlt : i < n
  ·obtain ⟨ad, r, e, hx, hcell, hr⟩ := HV.out.row i hlt
   dsimp only at e
   subst e
   have r1 := hr.le
   have r2 := hr.cap
   have HR := Lib.hid hr
   have HX := Lib.hid (And.intro hx hcell)
   replace hcell := (hB.cell (block_lt_of_cell hcell)).trans hcell
   clear hr hx
   obtain ⟨rA, rn, rc⟩ := r
   dsimp only [SV.val] at r1 r2 hcell
   by_cases h20 : (20 : Int) < (rn : Int)
   ·go_wp2
    go_ret
    exact ⟨⟨_, rfl, fun h => by cases h⟩, hB⟩
   ·go_wp2_with fail
    refine (long02_calls (s := ⟨rA, rn, rc⟩) (HR.out.belowA hB)).mono ?_
    rintro e w1 ⟨⟨b, rfl, hbb⟩, hb1⟩
    have hbw := hB.trans (hb1.mono hB.size)
    cases b with
    | true =>
     clear hbb
     go_wp2
     go_ret
     exact ⟨⟨_, rfl, fun h => by cases h⟩, hbw⟩
    | false =>
     have Hfin : Hid (L3Loop w X Y ⟨some ad, n, c⟩ m (.int .i64 ((i : Int) + 1)) w1) := ⟨i + 1, by show i + 1 ≤ n; omega, by simp, fun j hj => by
      by_cases e : j = i
      ·subst e
       exact ⟨ad, ⟨rA, rn, rc⟩, rfl, HX.out.1, HX.out.2, by show rn ≤ 20; omega, HR.out.back hB (hbb rfl)⟩
      ·exact hseen.out j (by omega), hbw⟩
     clear hbb
     go_wp2
     go_roundw
     case rel => exact Hfin.out
     case measure => simp [intOf]; omega
  ·obtain rfl : i = n := by omega
   have HF : Hid (MatIs w X Y 6 ⟨A, i, c⟩ m ∧ colsOf m ≤ 20) := ⟨⟨HV.out.len, HV.out.le, HV.out.cap, fun k hk => by
    obtain ⟨ad, r, e, hx, hcell, h20, hv⟩ := hseen.out k hk
    exact ⟨ad, r, e, hx, hcell, hv⟩⟩, colsOf_le.2 fun l hl => by
    obtain ⟨k, hk, rfl⟩ := List.mem_iff_getElem.1 hl
    have hl : m.length = i := HV.out.len
    obtain ⟨ad, r, e, hx, hcell, h20, hv⟩ := hseen.out k (by omega)
    have := hv.len
    rw [List.getD_eq_getElem?_getD, List.getElem?_eq_getElem hk] at this
    simp only [Option.getD_some] at this
    omega⟩
   go_wp2
   go_ret
   exact ⟨⟨_, rfl, fun _ => HF.out⟩, hB⟩
theorem MatAt.back {w W : World} {X Y : Nat → Prop} {L : Nat} {s : SV} {m : List (List Rat)} (h : MatAt w X (QAny w Y) s m) (hb : Below w.heap.size w W) (h' : MatIs W X Y L s m) : MatIs w X Y L s m :=
 ⟨h.len, h.le, h.cap, fun k hk => by
  obtain ⟨ad, r, e, hx, hc, hq⟩ := h.row k hk
  obtain ⟨ad', r', e', _, hc', hq'⟩ := h'.row k hk
  rw [e] at e'
  cases e'
  rw [(hb.cell (block_lt_of_cell hc)).trans hc] at hc'
  obtain ⟨rA, rn, rc⟩ := r
  obtain ⟨rA', rn', rc'⟩ := r'
  simp [SV.val] at hc'
  obtain ⟨rfl, rfl, rfl⟩ := hc'
  exact ⟨ad, ⟨rA, rn, rc⟩, e, hx, hc, hq.back hb hq'⟩⟩
def L4Loop (w : World) (Q : Prop) (t : Value) (W : World) : Prop :=
 (t = .int .i64 0 ∧ w = W) ∨ (t = .int .i64 1 ∧ Q ∧ Below w.heap.size w W)
set_option maxRecDepth 20000 in
set_option maxHeartbeats 4000000 in
theorem long04_calls {w : World} {X Y : Nat → Prop} {b : Nat} {s : SV} {m : List (List Rat)} (h : MatAt w X (QAny w Y) s m) (hcell : w.cell? ⟨b, 0, none⟩ = some s.val) :
  Calls Tryz.prog 185 #[.slice (some ⟨b, 0, none⟩) 1 1] w fun e w' => BRet (fun b => b = false → s.n ≤ 8 ∧ colsOf m ≤ 8 ∧ MatIs w X Y 6 s m) e ∧ Below w.heap.size w w' := by
 have hn := h.le
 have hc := h.cap
 obtain ⟨A, n, c⟩ := s
 dsimp only at hn hc ⊢
 have HV := Lib.hid h
 clear h
 dsimp only [SV.val] at hcell
 go_enter Tryz.func185, Tryz.ntmps185
 go_wp2
 go_loopw [3] (fun t W => L4Loop w (n ≤ 8 ∧ colsOf m ≤ 8 ∧ MatIs w X Y 6 ⟨A, n, c⟩ m) t W) (fun t _ => 1 - (intOf t).toNat)
 case atStart => exact .inl ⟨rfl, rfl⟩
 case round =>
  rcases hrel with ⟨rfl, rfl⟩ | ⟨rfl, hQ, hB⟩
  ·by_cases h8 : (8 : Int) < (n : Int)
   ·go_wp2
    go_ret
    exact ⟨⟨_, rfl, fun h => by cases h⟩, Below.refl _ _⟩
   ·have HC := Lib.hid (refCols_calls HV.out)
    generalize hk : colsOf m = k at HC
    replace hk := Lib.hid hk
    go_wp2_with fail
    refine HC.out.mono ?_
    rintro e w1 ⟨rfl, rfl⟩
    by_cases h9 : (8 : Int) < (k : Int)
    ·go_wp2
     go_ret
     exact ⟨⟨_, rfl, fun h => by cases h⟩, Below.refl _ _⟩
    ·go_wp2_with fail
     refine (long03_calls HV.out).mono ?_
     rintro e w1 ⟨⟨b, rfl, hbb⟩, hb1⟩
     cases b with
     | true =>
      clear hbb
      go_wp2
      go_ret
      exact ⟨⟨_, rfl, fun h => by cases h⟩, hb1⟩
     | false =>
      have Hfin : Hid (L4Loop w (n ≤ 8 ∧ colsOf m ≤ 8 ∧ MatIs w X Y 6 ⟨A, n, c⟩ m) (.int .i64 1) w1) := .inr ⟨rfl, ⟨by omega, by rw [hk.out]; omega, (hbb rfl).1⟩, hb1⟩
      clear hbb
      go_wp2
      go_roundw
      case rel => rw [← hk.out]; exact Hfin.out
      case measure => simp [intOf]
  ·replace hQ := Lib.hid hQ
   go_wp2
   go_ret
   exact ⟨⟨_, rfl, fun _ => hQ.out⟩, hB⟩
end Go.Proofs.YtlepljpdkbjbhaaGreat
namespace Go.Proofs.YtlepljpdkbjbhaaGreat
open Go.RowKit Go.Shelf
theorem VecAt.back' {w W : World} {X X' Y Y' : Nat → Prop} {L : Nat} {s : SV} {l : List Rat} (h : VecAt w X (QAny w Y) s l) (hb : Below w.heap.size w W) (h' : VecIs W X' Y' L s l) : VecIs w X Y L s l :=
 ⟨h.len, h.le, h.cap, fun k hk => by
  obtain ⟨ad, v, e, hx, hc, hq⟩ := h.elem k hk
  obtain ⟨ad', v', e', _, hc', _, _, ⟨_, _, h1, _⟩, ⟨_, _, h2, _⟩, _⟩ := h'.elem k hk
  rw [e] at e'
  cases e'
  obtain rfl := qcell_inj hc' (hc.keep fun a ha hl => hb.cell (by rw [ha]; exact hl))
  exact ⟨ad, v', e, hx, hc, hq.qis h1 h2⟩⟩
theorem VecAt.cut {w : World} {X : Nat → Prop} {R : QV → Rat → Prop} {A : Option Addr} {n c : Nat} {l : List Rat} (h : VecAt w X R ⟨A, n, c⟩ l) : VecAt w X R ⟨A, min n 20, c⟩ (l.take 20) :=
 ⟨by have := h.len; simp at this ⊢; omega, Nat.le_trans (Nat.min_le_left _ _) h.le, h.cap, fun k hk => by
  have hk' : k < min n 20 := hk
  obtain ⟨ad, v, e, hx, hc, hq⟩ := h.elem k (by show k < n; omega)
  refine ⟨ad, v, e, hx, hc, ?_⟩
  have e2 : (l.take 20).getD k 0 = l.getD k 0 := by simp only [List.getD_eq_getElem?_getD]; rw [List.getElem?_take_of_lt (by omega)]
  rw [e2]; exact hq⟩
theorem MatAt.single {w : World} {X : Nat → Prop} {R : QV → Rat → Prop} {b : Nat} {s : SV} {l : List Rat} (h : VecAt w X R s l) (hc : w.cell? ⟨b, 0, none⟩ = some s.val) : MatAt w (fun x => X x ∨ x = b) R ⟨some ⟨b, 0, none⟩, 1, 1⟩ [l] :=
 ⟨rfl, Nat.le_refl _, by show 1 ≤ _; omega, fun i hi => by
  obtain rfl : i = 0 := by have hi' : i < 1 := hi; omega
  exact ⟨⟨b, 0, none⟩, s, rfl, .inr rfl, by rw [add_mk]; exact hc, h.imp (fun _ _ hx => .inl hx) fun _ _ hq => hq⟩⟩
def Short6 (w : World) (X Y : Nat → Prop) (p : LPV) (os rs : List (List Rat)) (bs : List Rat) : Prop :=
 MatIs w X Y 6 p.O os ∧ (p.R.n ≤ 8 → MatIs w X Y 6 p.R rs) ∧ (p.B.n ≤ 20 → VecIs w X Y 6 p.B bs)
set_option maxRecDepth 20000 in
set_option maxHeartbeats 4000000 in
theorem long06_calls {w : World} {X Y : Nat → Prop} {p : LPV} {os rs : List (List Rat)} {bs : List Rat} (h : LPRaw w X (QAny w Y) p os rs bs) :
  Calls Tryz.prog 117 #[p.val] w fun e w' => BRet (fun b => b = false → Short6 w X Y p os rs bs) e ∧ Below w.heap.size w w' := by
 obtain ⟨z, ⟨oA, on, oc⟩, ⟨rA, rn, rc⟩, ⟨bA, bn, bc⟩⟩ := p
 have o1 : on ≤ oc := h.obj.le
 have o2 : oc ≤ 9223372036854775807 := h.obj.cap
 have r1 : rn ≤ rc := h.rows.le
 have r2 : rc ≤ 9223372036854775807 := h.rows.cap
 have b1 : bn ≤ bc := h.bounds.le
 have b2 : bc ≤ 9223372036854775807 := h.bounds.cap
 have ho := Lib.hid h.obj
 have hr := Lib.hid h.rows
 have hb := Lib.hid h.bounds
 clear h
 dsimp only [LPV.val] at *
 go_enter Tryz.func117, Tryz.ntmps117
 go_upto_region 1 with fail
 refine gen_world (fun W => Below w.heap.size w W ∧ Box4 W w.heap.size (.int .i64 z) (.slice oA on oc) (.slice rA rn rc) (.slice bA bn bc) ∧ w.heap.size < W.heap.size) ⟨((Below.refl _ _).alloc (by simp <;> omega) _), ⟨by go_simp, by go_simp, by go_simp, by go_simp, by intro o; go_simp⟩, by simp <;> omega⟩ ?_
 rintro W ⟨hbW, bP, s0⟩
 have hBW := hbW.size
 have hP := bP
 obtain ⟨p0, p1, p2, p3, -⟩ := bP
 by_cases a1 : (6 : Int) < (on : Int)
 ·skip
  go_wp2
  go_ret
  exact ⟨⟨_, rfl, fun h => by cases h⟩, hbW⟩
 by_cases a2 : (140 : Int) < (rn : Int)
 ·skip
  go_wp2
  go_ret
  exact ⟨⟨_, rfl, fun h => by cases h⟩, hbW⟩
 by_cases a3 : (140 : Int) < (bn : Int)
 ·skip
  go_wp2
  go_ret
  exact ⟨⟨_, rfl, fun h => by cases h⟩, hbW⟩
 by_cases a4 : (8 : Int) < (rn : Int)
 ·have HRow : Hid (rn ≤ 8 → MatIs w X Y 6 ⟨rA, rn, rc⟩ rs) := fun h => by omega
  go_wp2_with fail
  refine (bare_calls (s := ⟨rA, rn, rc⟩) (hr.out.belowA hbW)).mono ?_
  rintro e w1 ⟨⟨b, rfl, -⟩, rfl⟩
  cases b with
  | false =>
   go_wp2
   go_ret
   exact ⟨⟨_, rfl, fun h => by cases h⟩, hbW⟩
  | true =>
   go_wp2_with fail
   have q0 : (W.alloc (.cells #[.slice oA on oc] 22)).cell? ⟨W.heap.size, 0, none⟩ = some (SV.val ⟨oA, on, oc⟩) := by go_simp
   have q1 : Below W.heap.size W (W.alloc (.cells #[.slice oA on oc] 22)) := (Below.refl _ _).alloc (Nat.le_refl _) _
   have q2 := hbW.trans (q1.mono hbW.size)
   refine (long04_calls (ho.out.belowA q2) q0).mono ?_
   rintro e w3 ⟨⟨b, rfl, hbb⟩, hb3⟩
   have q3 := q1.trans (hb3.mono q1.size)
   have hbW := q2.trans (hb3.mono q2.size)
   clear p0 p1 p2 p3
   obtain ⟨p0, p1, p2, p3, -⟩ := hP.below q3 s0
   cases b with
   | true =>
    clear hbb
    go_wp2
    go_ret
    exact ⟨⟨_, rfl, fun h => by cases h⟩, hbW⟩
   | false =>
    have HO : Hid (MatIs w X Y 6 ⟨oA, on, oc⟩ os) := ho.out.back q2 (hbb rfl).2.2
    clear hbb q0 q1 q2 hb3
    go_wp2_with fail
    refine (lawCut_calls (s := ⟨bA, bn, bc⟩) b1 b2).mono ?_
    rintro e w4 ⟨rfl, rfl⟩
    dsimp only
    have HVc := Lib.hid hb.out.cut
    generalize hmn : min bn 20 = mn at *
    replace hmn := Lib.hid hmn
    go_wp2_with fail
    have q0 : (w3.alloc (.cells #[.slice bA mn bc] 23)).cell? ⟨w3.heap.size, 0, none⟩ = some (SV.val ⟨bA, mn, bc⟩) := by go_simp
    have q1 : Below w3.heap.size w3 (w3.alloc (.cells #[.slice bA mn bc] 23)) := (Below.refl _ _).alloc (Nat.le_refl _) _
    have q2 := hbW.trans (q1.mono hbW.size)
    refine (long03_calls (MatAt.single (HVc.out.belowA q2) q0)).mono ?_
    rintro e w5 ⟨⟨b, rfl, hbb⟩, hb5⟩
    have hbf := q2.trans (hb5.mono q2.size)
    cases b with
    | true =>
     clear hbb hbW
     have hbW := hbf
     go_wp2
     go_ret
     exact ⟨⟨_, rfl, fun h => by cases h⟩, hbW⟩
    | false =>
     have HB : Hid (Short6 w X Y ⟨z, ⟨oA, on, oc⟩, ⟨rA, rn, rc⟩, ⟨bA, bn, bc⟩⟩ os rs bs) := ⟨HO.out, HRow.out, fun h20 => by
      have h20' : bn ≤ 20 := h20
      obtain ⟨ad, r, e, -, hc, hv⟩ := (hbb rfl).1.row 0 (by show 0 < 1; omega)
      cases e
      rw [add_mk] at hc
      rw [show (0 + 0 : Nat) = 0 from rfl, q0] at hc
      obtain ⟨rA', rn', rc'⟩ := r
      simp [SV.val] at hc
      obtain ⟨rfl, rfl, rfl⟩ := hc
      have e1 : mn = bn := by rw [← hmn.out]; omega
      subst e1
      have e2 : bs.take 20 = bs := List.take_of_length_le (by have := hb.out.len; dsimp only at this; omega)
      rw [show ([bs.take 20] : List (List Rat)).getD 0 [] = bs from e2] at hv
      exact hb.out.back' q2 hv⟩
     clear hbb
     go_wp2
     go_ret
     exact ⟨⟨_, rfl, fun _ => HB.out⟩, hbf⟩
 ·go_wp2_with fail
  have q0 : (W.alloc (.cells #[.slice rA rn rc] 22)).cell? ⟨W.heap.size, 0, none⟩ = some (SV.val ⟨rA, rn, rc⟩) := by go_simp
  have q1 : Below W.heap.size W (W.alloc (.cells #[.slice rA rn rc] 22)) := (Below.refl _ _).alloc (Nat.le_refl _) _
  have q2 := hbW.trans (q1.mono hbW.size)
  refine (long04_calls (hr.out.belowA q2) q0).mono ?_
  rintro e w2 ⟨⟨b, rfl, hbb⟩, hb2⟩
  have q3 := q1.trans (hb2.mono q1.size)
  have hbw2 := q2.trans (hb2.mono q2.size)
  have hP2 := hP.below q3 s0
  have t0 : w.heap.size < w2.heap.size := Nat.lt_of_lt_of_le s0 q3.size
  clear p0 p1 p2 p3 hP
  have hP3 := hP2
  obtain ⟨p0, p1, p2, p3, -⟩ := hP2
  cases b with
  | true =>
   clear hbb hbW
   have hbW := hbw2
   go_wp2
   go_ret
   exact ⟨⟨_, rfl, fun h => by cases h⟩, hbW⟩
  | false =>
   have HRow : Hid (rn ≤ 8 → MatIs w X Y 6 ⟨rA, rn, rc⟩ rs) := fun _ => hr.out.back q2 (hbb rfl).2.2
   clear hbb q0 q1 q2 hb2 q3 hbW
   go_wp2_with fail
   have q0 : (w2.alloc (.cells #[.slice oA on oc] 22)).cell? ⟨w2.heap.size, 0, none⟩ = some (SV.val ⟨oA, on, oc⟩) := by go_simp
   have q1 : Below w2.heap.size w2 (w2.alloc (.cells #[.slice oA on oc] 22)) := (Below.refl _ _).alloc (Nat.le_refl _) _
   have q2 := hbw2.trans (q1.mono hbw2.size)
   refine (long04_calls (ho.out.belowA q2) q0).mono ?_
   rintro e w3 ⟨⟨b, rfl, hbb⟩, hb3⟩
   have q3 := q1.trans (hb3.mono q1.size)
   have hbW := q2.trans (hb3.mono q2.size)
   clear p0 p1 p2 p3
   obtain ⟨p0, p1, p2, p3, -⟩ := hP3.below q3 t0
   cases b with
   | true =>
    clear hbb
    go_wp2
    go_ret
    exact ⟨⟨_, rfl, fun h => by cases h⟩, hbW⟩
   | false =>
    have HO : Hid (MatIs w X Y 6 ⟨oA, on, oc⟩ os) := ho.out.back q2 (hbb rfl).2.2
    clear hbb q0 q1 q2 hb3
    go_wp2_with fail
    refine (lawCut_calls (s := ⟨bA, bn, bc⟩) b1 b2).mono ?_
    rintro e w4 ⟨rfl, rfl⟩
    dsimp only
    have HVc := Lib.hid hb.out.cut
    generalize hmn : min bn 20 = mn at *
    replace hmn := Lib.hid hmn
    go_wp2_with fail
    have q0 : (w3.alloc (.cells #[.slice bA mn bc] 23)).cell? ⟨w3.heap.size, 0, none⟩ = some (SV.val ⟨bA, mn, bc⟩) := by go_simp
    have q1 : Below w3.heap.size w3 (w3.alloc (.cells #[.slice bA mn bc] 23)) := (Below.refl _ _).alloc (Nat.le_refl _) _
    have q2 := hbW.trans (q1.mono hbW.size)
    refine (long03_calls (MatAt.single (HVc.out.belowA q2) q0)).mono ?_
    rintro e w5 ⟨⟨b, rfl, hbb⟩, hb5⟩
    have hbf := q2.trans (hb5.mono q2.size)
    cases b with
    | true =>
     clear hbb hbW
     have hbW := hbf
     go_wp2
     go_ret
     exact ⟨⟨_, rfl, fun h => by cases h⟩, hbW⟩
    | false =>
     have HB : Hid (Short6 w X Y ⟨z, ⟨oA, on, oc⟩, ⟨rA, rn, rc⟩, ⟨bA, bn, bc⟩⟩ os rs bs) := ⟨HO.out, HRow.out, fun h20 => by
      have h20' : bn ≤ 20 := h20
      obtain ⟨ad, r, e, -, hc, hv⟩ := (hbb rfl).1.row 0 (by show 0 < 1; omega)
      cases e
      rw [add_mk] at hc
      rw [show (0 + 0 : Nat) = 0 from rfl, q0] at hc
      obtain ⟨rA', rn', rc'⟩ := r
      simp [SV.val] at hc
      obtain ⟨rfl, rfl, rfl⟩ := hc
      have e1 : mn = bn := by rw [← hmn.out]; omega
      subst e1
      have e2 : bs.take 20 = bs := List.take_of_length_le (by have := hb.out.len; dsimp only at this; omega)
      rw [show ([bs.take 20] : List (List Rat)).getD 0 [] = bs from e2] at hv
      exact hb.out.back' q2 hv⟩
     clear hbb
     go_wp2
     go_ret
     exact ⟨⟨_, rfl, fun _ => HB.out⟩, hbf⟩
end Go.Proofs.YtlepljpdkbjbhaaGreat
namespace Go.Proofs.YtlepljpdkbjbhaaGreat
open Go.RowKit Go.Shelf
theorem LPRaw.below {w w' : World} {X Y : Nat → Prop} {p : LPV} {os rs : List (List Rat)} {bs : List Rat} (h : LPRaw w X (QAny w Y) p os rs bs) (hb : Below w.heap.size w w') : LPRaw w' X (QAny w' Y) p os rs bs :=
 ⟨h.obj.belowA hb, h.rows.belowA hb, h.bounds.belowA hb⟩
theorem Short6.back {w W : World} {X Y : Nat → Prop} {p : LPV} {os rs : List (List Rat)} {bs : List Rat} (h : LPRaw w X (QAny w Y) p os rs bs) (hb : Below w.heap.size w W) (h' : Short6 W X Y p os rs bs) : Short6 w X Y p os rs bs :=
 ⟨h.obj.back hb h'.1, fun hn => h.rows.back hb (h'.2.1 hn), fun hn => h.bounds.back hb (h'.2.2 hn)⟩
set_option maxRecDepth 20000 in
set_option maxHeartbeats 4000000 in
theorem long07_calls {w : World} {X Y : Nat → Prop} {p : LPV} {os rs : List (List Rat)} {bs : List Rat} (h : LPRaw w X (QAny w Y) p os rs bs) :
  Calls Tryz.prog 57 #[p.val] w fun e w' => BRet (fun b => b = false → Short6 w X Y p os rs bs) e ∧ Below w.heap.size w w' := by
 obtain ⟨z, ⟨oA, on, oc⟩, ⟨rA, rn, rc⟩, ⟨bA, bn, bc⟩⟩ := p
 have r1 : rn ≤ rc := h.rows.le
 have r2 : rc ≤ 9223372036854775807 := h.rows.cap
 replace h := Lib.hid h
 dsimp only [LPV.val] at *
 go_enter Tryz.func57, Tryz.ntmps57
 go_upto_region 1 with fail
 refine gen_world (fun W => Below w.heap.size w W ∧ Box4 W w.heap.size (.int .i64 z) (.slice oA on oc) (.slice rA rn rc) (.slice bA bn bc) ∧ w.heap.size < W.heap.size) ⟨((Below.refl _ _).alloc (by simp <;> omega) _), ⟨by go_simp, by go_simp, by go_simp, by go_simp, by intro o; go_simp⟩, by simp <;> omega⟩ ?_
 rintro W ⟨hbW, bP, s0⟩
 have hBW := hbW.size
 have hP := bP
 obtain ⟨p0, p1, p2, p3, -⟩ := bP
 go_wp2_with fail
 refine (long06_calls (p := ⟨z, ⟨oA, on, oc⟩, ⟨rA, rn, rc⟩, ⟨bA, bn, bc⟩⟩) (h.out.below hbW)).mono ?_
 rintro e w1 ⟨⟨b, rfl, hbb⟩, hb1⟩
 replace hP := hP.below hb1 s0
 have t0 := Nat.lt_of_lt_of_le s0 hb1.size
 clear p0 p1 p2 p3
 obtain ⟨p0, p1, p2, p3, -⟩ := id hP
 have hbf := hbW.trans (hb1.mono hbW.size)
 cases b with
 | true =>
  clear hbb
  go_wp2
  go_ret
  exact ⟨⟨_, rfl, fun h => by cases h⟩, hbf⟩
 | false =>
  have HS := Lib.hid (Short6.back h.out hbW (hbb rfl))
  clear hbb hb1 hbW
  obtain ⟨m, hm⟩ : ∃ m, mayB ⟨z, ⟨oA, on, oc⟩, ⟨rA, rn, rc⟩, ⟨bA, bn, bc⟩⟩ os rs = m := ⟨_, rfl⟩
  by_cases a1 : (5 : Int) < (rn : Int)
  ·skip
   go_wp2_with fail
   refine (may_calls (p := ⟨z, ⟨oA, on, oc⟩, ⟨rA, rn, rc⟩, ⟨bA, bn, bc⟩⟩) (h.out.below hbf)).mono ?_
   rintro e w2 ⟨rfl, hb2⟩
   replace hP := hP.below hb2 t0
   replace t0 := Nat.lt_of_lt_of_le t0 hb2.size
   clear p0 p1 p2 p3
   obtain ⟨p0, p1, p2, p3, -⟩ := id hP
   replace hbf := hbf.trans (hb2.mono hbf.size)
   clear hb2
   rw [hm]
   cases m with
   | true =>
    go_wp2
    go_ret
    exact ⟨⟨_, rfl, fun _ => HS.out⟩, hbf⟩
   | false =>
    by_cases a2 : (6 : Int) < z
    ·skip
     go_wp2_with fail
     refine (may_calls (p := ⟨z, ⟨oA, on, oc⟩, ⟨rA, rn, rc⟩, ⟨bA, bn, bc⟩⟩) (h.out.below hbf)).mono ?_
     rintro e w3 ⟨rfl, hb3⟩
     replace hP := hP.below hb3 t0
     replace t0 := Nat.lt_of_lt_of_le t0 hb3.size
     clear p0 p1 p2 p3
     obtain ⟨p0, p1, p2, p3, -⟩ := id hP
     replace hbf := hbf.trans (hb3.mono hbf.size)
     clear hb3
     rw [hm]
     go_wp2
     go_ret
     exact ⟨⟨_, rfl, fun _ => HS.out⟩, hbf⟩
    ·skip
     go_wp2
     go_ret
     exact ⟨⟨_, rfl, fun _ => HS.out⟩, hbf⟩
  ·by_cases a2 : (6 : Int) < z
   ·skip
    go_wp2_with fail
    refine (may_calls (p := ⟨z, ⟨oA, on, oc⟩, ⟨rA, rn, rc⟩, ⟨bA, bn, bc⟩⟩) (h.out.below hbf)).mono ?_
    rintro e w3 ⟨rfl, hb3⟩
    replace hP := hP.below hb3 t0
    replace t0 := Nat.lt_of_lt_of_le t0 hb3.size
    clear p0 p1 p2 p3
    obtain ⟨p0, p1, p2, p3, -⟩ := id hP
    replace hbf := hbf.trans (hb3.mono hbf.size)
    clear hb3
    rw [hm]
    go_wp2
    go_ret
    exact ⟨⟨_, rfl, fun _ => HS.out⟩, hbf⟩
   ·skip
    go_wp2
    go_ret
    exact ⟨⟨_, rfl, fun _ => HS.out⟩, hbf⟩
set_option maxRecDepth 20000 in
set_option maxHeartbeats 4000000 in
theorem long08_calls {w : World} {X Y : Nat → Prop} {p : LPV} {os rs : List (List Rat)} {bs : List Rat} (h : LPRaw w X (QAny w Y) p os rs bs) :
  Calls Tryz.prog 15 #[p.val] w fun e w' => BRet (fun b => b = false → Short6 w X Y p os rs bs ∧ (mayB p os rs = true → p.n ≤ 4 ∧ p.R.n ≤ 4)) e ∧ Below w.heap.size w w' := by
 obtain ⟨z, ⟨oA, on, oc⟩, ⟨rA, rn, rc⟩, ⟨bA, bn, bc⟩⟩ := p
 have r1 : rn ≤ rc := h.rows.le
 have r2 : rc ≤ 9223372036854775807 := h.rows.cap
 replace h := Lib.hid h
 dsimp only [LPV.val] at *
 go_enter Tryz.func15, Tryz.ntmps15
 go_upto_region 1 with fail
 refine gen_world (fun W => Below w.heap.size w W ∧ Box4 W w.heap.size (.int .i64 z) (.slice oA on oc) (.slice rA rn rc) (.slice bA bn bc) ∧ w.heap.size < W.heap.size) ⟨((Below.refl _ _).alloc (by simp <;> omega) _), ⟨by go_simp, by go_simp, by go_simp, by go_simp, by intro o; go_simp⟩, by simp <;> omega⟩ ?_
 rintro W ⟨hbW, bP, s0⟩
 have hBW := hbW.size
 have hP := bP
 obtain ⟨p0, p1, p2, p3, -⟩ := bP
 go_wp2_with fail
 refine (long07_calls (p := ⟨z, ⟨oA, on, oc⟩, ⟨rA, rn, rc⟩, ⟨bA, bn, bc⟩⟩) (h.out.below hbW)).mono ?_
 rintro e w1 ⟨⟨b, rfl, hbb⟩, hb1⟩
 replace hP := hP.below hb1 s0
 have t0 := Nat.lt_of_lt_of_le s0 hb1.size
 clear p0 p1 p2 p3
 obtain ⟨p0, p1, p2, p3, -⟩ := id hP
 have hbf := hbW.trans (hb1.mono hbW.size)
 cases b with
 | true =>
  clear hbb
  go_wp2
  go_ret
  exact ⟨⟨_, rfl, fun h => by cases h⟩, hbf⟩
 | false =>
  have HS' := Lib.hid (Short6.back h.out hbW (hbb rfl))
  clear hbb hb1 hbW
  obtain ⟨m, hm⟩ : ∃ m, mayB ⟨z, ⟨oA, on, oc⟩, ⟨rA, rn, rc⟩, ⟨bA, bn, bc⟩⟩ os rs = m := ⟨_, rfl⟩
  go_wp2_with fail
  refine (may_calls (p := ⟨z, ⟨oA, on, oc⟩, ⟨rA, rn, rc⟩, ⟨bA, bn, bc⟩⟩) (h.out.below hbf)).mono ?_
  rintro e w2 ⟨rfl, hb2⟩
  replace hP := hP.below hb2 t0
  replace t0 := Nat.lt_of_lt_of_le t0 hb2.size
  clear p0 p1 p2 p3
  obtain ⟨p0, p1, p2, p3, -⟩ := id hP
  replace hbf := hbf.trans (hb2.mono hbf.size)
  clear hb2
  rw [hm]
  cases m with
  | false =>
   have HS : Hid (Short6 w X Y ⟨z, ⟨oA, on, oc⟩, ⟨rA, rn, rc⟩, ⟨bA, bn, bc⟩⟩ os rs bs ∧ (mayB ⟨z, ⟨oA, on, oc⟩, ⟨rA, rn, rc⟩, ⟨bA, bn, bc⟩⟩ os rs = true → z ≤ 4 ∧ rn ≤ 4)) := ⟨HS'.out, fun h => by rw [hm] at h; cases h⟩
   go_wp2
   go_ret
   exact ⟨⟨_, rfl, fun _ => HS.out⟩, hbf⟩
  | true =>
   by_cases a1 : (4 : Int) < z
   ·go_wp2
    go_ret
    exact ⟨⟨_, rfl, fun h => by cases h⟩, hbf⟩
   ·by_cases a2 : (4 : Int) < (rn : Int)
    ·go_wp2
     go_ret
     exact ⟨⟨_, rfl, fun h => by cases h⟩, hbf⟩
    ·have HS : Hid (Short6 w X Y ⟨z, ⟨oA, on, oc⟩, ⟨rA, rn, rc⟩, ⟨bA, bn, bc⟩⟩ os rs bs ∧ (mayB ⟨z, ⟨oA, on, oc⟩, ⟨rA, rn, rc⟩, ⟨bA, bn, bc⟩⟩ os rs = true → z ≤ 4 ∧ rn ≤ 4)) := ⟨HS'.out, fun _ => by omega⟩
     go_wp2
     go_ret
     exact ⟨⟨_, rfl, fun _ => HS.out⟩, hbf⟩
end Go.Proofs.YtlepljpdkbjbhaaGreat
