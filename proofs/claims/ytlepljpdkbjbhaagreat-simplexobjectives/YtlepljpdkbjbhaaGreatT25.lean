/- Texts Rb2 Rb3 Rb4 Rc1 Rc2 Rc3 Rd1 Rd2 Rd3 of this claim. -/
import Derived.Test.YtlepljpdkbjbhaaGreatA0
import Derived.Test.YtlepljpdkbjbhaaGreatT23
import Derived.Test.YtlepljpdkbjbhaaGreatT24
import Derived.Deep.LoopGhost
import Derived.Test.YtlepljpdkbjbhaaGreatT07
import Derived.Test.YtlepljpdkbjbhaaGreatT21
set_option maxHeartbeats 4000000
namespace Go.Proofs.YtlepljpdkbjbhaaGreat
open Go.RowKit
def GcLoop (w : World) (x y N : Nat) (k : Nat) (v1 v2 : Value) (W : World) : Prop :=
 ∃ (a b : Nat) (A : Option Addr) (n c : Nat) (B : Option Addr) (m d : Nat), k = b ∧ v1 = .slice A n c ∧ v2 = .slice B m d ∧ HAt W (New (w.heap.size + 1 + 1 + 1)) A n c (Hal.words a) ∧ HAt W (New (w.heap.size + 1 + 1 + 1)) B m d (Hal.words b) ∧ Nat.gcd a b = Nat.gcd x y ∧ n ≤ N ∧ m ≤ N ∧ Below w.heap.size w W ∧ Box2 W (w.heap.size + 1 + 1) (.bool false) (.slice none 0 0) ∧ w.heap.size + 1 + 1 < W.heap.size
set_option maxRecDepth 20000 in
theorem zHd {w : World} {X Y : Nat → Prop} {A B : Option Addr} {n c m d : Nat} {la lb : List Nat} (ng mg : Bool) (ha : WordsAt w X A n c la) (hb : WordsAt w Y B m d lb) (hn : n ≤ 400000) (hm : m ≤ 400000) :
  Calls Tryz.prog 216 #[.agg #[.bool ng, .slice A n c], .agg #[.bool mg, .slice B m d]] w fun e w' => ZRet1 w ((Nat.gcd (Num.nat la) (Num.nat lb) : Nat) : Int) e w' ∧ Below w.heap.size w w' := by
 have HLA : Hid ((Hal.words (Num.nat la)).length ≤ 800000) := by
  have h1 := zCD ha.ok;rw [ha.len] at h1;show _ ≤ _; omega
 have HLB : Hid ((Hal.words (Num.nat lb)).length ≤ 800000) := by
  have h1 := zCD hb.ok;rw [hb.len] at h1;show _ ≤ _; omega
 obtain ⟨x, hx⟩ : ∃ x, Num.nat la = x := ⟨_, rfl⟩;obtain ⟨y, hy⟩ : ∃ y, Num.nat lb = y := ⟨_, rfl⟩;rw [hx] at HLA ⊢;rw [hy] at HLB ⊢;have HX := hdq hx;have HY := hdq hy;clear hx hy;have HA := hdq ha.old;have HB := hdq hb.old;have HN := hdq hn;have HM := hdq hm;clear ha hb hn hm;go_enter Tryz.func216, Tryz.ntmps216
 go_wp2;refine zAi (fun W => Below w.heap.size w W ∧ Box2 W w.heap.size (.bool ng) (.slice A n c) ∧ Box2 W (w.heap.size + 1) (.bool mg) (.slice B m d) ∧ Box2 W (w.heap.size + 1 + 1) (.bool false) (.slice none 0 0) ∧ w.heap.size < W.heap.size ∧ w.heap.size + 1 < W.heap.size ∧ w.heap.size + 1 + 1 < W.heap.size) ⟨((((brf _ _).alloc (by simp <;> omega) _).alloc (by simp <;> omega) _).alloc (by simp <;> omega) _), ⟨by go_simp, by go_simp, by intro o; go_simp⟩, ⟨by go_simp, by go_simp, by intro o; go_simp⟩, ⟨by go_simp, by go_simp, by intro o; go_simp⟩, by simp <;> omega, by simp <;> omega, by simp <;> omega⟩ ?_;rintro W ⟨hbW, bA, bB, bR, s0, s1, s2⟩;have hBW := hbW.size;have ne02 : ¬ (w.heap.size = w.heap.size + 1 + 1) := by omega
 have HA2 := hdq (HA.out.below hbW);have HB2 := hdq (HB.out.below hbW);obtain ⟨a0, a1, -⟩ := id bA;obtain ⟨b0, b1, -⟩ := id bB;clear HA HB
 go_region_held3 (Sees w.heap.size [] W) (exact kp)
  (first
   | (go_at_call 197; ((with_reducible refine (zAK (HA2.out.keptOld (Sees.kept (by assumption))) (by have := HN.out; omega)).mono ?_); rintro e w1 ⟨⟨A1, n1, c1, rfl, -, h1⟩, hb1⟩))
   | (go_at_call 197; ((with_reducible refine (zAK (HB2.out.keptOld (Sees.kept (by assumption))) (by have := HM.out; omega)).mono ?_); rintro e w2 ⟨⟨A2, n2, c2, rfl, -, h2⟩, hb2⟩))
   | fail)
 rename_i hS;have hW2 : Below W.heap.size W w2 := hS.kept.whole;have hB2 := hbW.trans (hW2.mono hBW);have hb1s := hb1.size;simp only [World.size_drew] at hb1s;rw [HX.out] at h1;rw [HY.out] at h2;have e1 := h1.len;have e2 := h2.len;have H0 : Hid (GcLoop w x y 800000 y (.slice A1 n1 c1) (.slice A2 n2 c2) w2) := ⟨x, y, A1, n1, c1, A2, n2, c2, rfl, rfl, rfl, (h1.below hb2).low (by simp only [World.size_drew]; omega), h2.low (by omega), rfl, by rw [← e1]; exact HLA.out, by rw [← e2]; exact HLB.out, hB2, bR.below hW2 s2, ltl s2 hW2.size⟩;clear hS h1 h2 hb1 hb2 hW2 hB2 e1 e2 bA bB bR a0 a1 b0 b1 HA2 HB2 HLA HLB hb1s hbW hBW;go_wp2;go_loopg [5, 6] y (fun k v1 v2 W => GcLoop w x y 800000 k v1 v2 W)
 case atStart => exact H0.out
 case round =>
  clear H0;obtain ⟨a, b, A1, n1, c1, A2, n2, c2, rfl, rfl, rfl, h1, h2, hg, l1, l2, hB, bR, sR⟩ := hrel;have Hg := hdq hg;clear hg;by_cases hb0 : gk = 0
  ·subst hb0;have hn2 : n2 = 0 := by rw [← h2.len, Hal.words_zero]; rfl
   subst hn2;have ha : a = Nat.gcd x y := by have := Hg.out; rw [Nat.gcd_zero_right] at this; exact this
   have HA1 := hdq h1;have HEq := hdq ha;obtain ⟨r0, r1, rf⟩ := id bR;clear h1 h2 ha;(go_wp2_with fail);refine (zCj false HA1.out (by omega)).mono ?_;rintro e w3 ⟨⟨ng', A', n', c', rfl, hz⟩, hb3⟩;rw [Hal.nat_words, HEq.out] at hz;have bR2 := bR.below hb3 sR;have sR2 := ltl sR hb3.size;have hBs := hB.size;clear r0 r1 rf;obtain ⟨r0, r1, rf⟩ := id bR2;obtain ⟨v0, v1⟩ := bR2.stored (.bool ng') (.slice A' n' c');have hzf := ((hz.set (p := ⟨w.heap.size + 1 + 1, 0, none⟩) sR (.bool ng')).set (p := ⟨w.heap.size + 1 + 1, 1, none⟩) sR (.slice A' n' c')).lower (B' := w.heap.size) hBs;have HZ := hdq hzf;have hbf := ((hB.trans (hb3.mono hBs)).setCell (p := ⟨w.heap.size + 1 + 1, 0, none⟩) (by show w.heap.size ≤ w.heap.size + 1 + 1; omega) (.bool ng')).setCell (p := ⟨w.heap.size + 1 + 1, 1, none⟩) (by show w.heap.size ≤ w.heap.size + 1 + 1; omega) (.slice A' n' c');clear hz hzf hb3;go_wp2;exact bodyPost_ret (v := .agg #[.bool ng', .slice A' n' c']) (by simp [results, Tryz.results216, go_sem, v0, v1]) rfl ⟨⟨_, _, _, _, rfl, HZ.out⟩, hbf⟩
  ·have hn2 : 0 < n2 := by
    rcases Nat.eq_zero_or_pos n2 with h | h
    ·exact absurd (by rw [← Hal.nat_words gk, List.eq_nil_of_length_eq_zero (h2.len.trans h)]; rfl) hb0
    ·exact h
   have hn2i : (0 : Int) < (n2 : Int) := (by omega);have HD := hdq (zEC h1 h2 (by omega) (by omega) (by omega));have H2 := hdq h2;have hlt : a % gk < gk := Nat.mod_lt _ (by omega);clear h1 h2;(go_wp2_with fail);refine HD.out.mono ?_;rintro e w3 ⟨⟨A3, n3, c3, A4, n4, c4, rfl, h3, h4⟩, hb3⟩;have hBs := hB.size
   have Hfin : Hid (GcLoop w x y 800000 (a % gk) (.slice A2 n2 c2) (.slice A4 n4 c4) w3) := ⟨gk, a % gk, A2, n2, c2, A4, n4, c4, rfl, rfl, rfl, H2.out.below hb3, h4.low (by omega), by rw [← Hg.out, Nat.gcd_comm a gk, Nat.gcd_rec gk a, Nat.gcd_comm], l2, by
    have h5 := zBx (Nat.le_of_lt hlt);rw [h4.len, H2.out.len] at h5; omega, hB.trans (hb3.mono hBs), bR.below hb3 sR, ltl sR hb3.size⟩
   clear h3 h4 hb3 hB bR;go_wp2;(go_roundg (a % gk));case rel => first | exact Hfin.out | ((repeat apply Exists.intro); exact ⟨Hfin.out, rfl⟩)
   case measure => exact hlt
def DivZ (w : World) (z : Int) (e : Ending) (w' : World) : Prop :=
 ∃ ng A n c ng2 A2 n2 c2, e = .returned (.tuple #[.agg #[.bool ng, .slice A n c], .agg #[.bool ng2, .slice A2 n2 c2], .int .i64 0]) ∧ ZAt w' (New w.heap.size) ng A n c z
set_option maxRecDepth 20000 in
theorem zEy {w : World} {X Y : Nat → Prop} {A B : Option Addr} {n c m d : Nat} {la lb : List Nat} (ng mg : Bool) (ha : WordsAt w X A n c la) (hb : WordsAt w Y B m d lb) (hn : n ≤ 400000) (hm : m ≤ 400000) (hb0 : Num.nat lb ≠ 0) (hdv : Num.nat la % Num.nat lb = 0) :
  Calls Tryz.prog 217 #[.agg #[.bool ng, .slice A n c], .agg #[.bool mg, .slice B m d]] w fun e w' => DivZ w (zval (ng != mg) (Num.nat la / Num.nat lb)) e w' ∧ Below w.heap.size w w' := by
 have HLA : Hid ((Hal.words (Num.nat la)).length ≤ 800000) := by
  have h1 := zCD ha.ok;rw [ha.len] at h1;show _ ≤ _; omega
 have HLB : Hid ((Hal.words (Num.nat lb)).length ≤ 800000) := by
  have h1 := zCD hb.ok;rw [hb.len] at h1;show _ ≤ _; omega
 obtain ⟨x, hx⟩ : ∃ x, Num.nat la = x := ⟨_, rfl⟩;obtain ⟨y, hy⟩ : ∃ y, Num.nat lb = y := ⟨_, rfl⟩;rw [hx] at HLA hdv ⊢;rw [hy] at HLB hdv hb0 ⊢;have HX := hdq hx;have HY := hdq hy;have HDv := hdq hdv;have HB0 := hdq hb0;clear hx hy hdv hb0;have HA := hdq ha.old;have HB := hdq hb.old;have HN := hdq hn;have HM := hdq hm;clear ha hb hn hm;go_enter Tryz.func217, Tryz.ntmps217
 go_wp2;refine zAi (fun W => Below w.heap.size w W ∧ Box2 W w.heap.size (.bool ng) (.slice A n c) ∧ Box2 W (w.heap.size + 1) (.bool mg) (.slice B m d) ∧ Box2 W (w.heap.size + 1 + 1) (.bool false) (.slice none 0 0) ∧ Box2 W (w.heap.size + 1 + 1 + 1) (.bool false) (.slice none 0 0) ∧ w.heap.size < W.heap.size ∧ w.heap.size + 1 < W.heap.size ∧ w.heap.size + 1 + 1 < W.heap.size ∧ w.heap.size + 1 + 1 + 1 < W.heap.size) ⟨(((((brf _ _).alloc (by simp <;> omega) _).alloc (by simp <;> omega) _).alloc (by simp <;> omega) _).alloc (by simp <;> omega) _), ⟨by go_simp, by go_simp, by intro o; go_simp⟩, ⟨by go_simp, by go_simp, by intro o; go_simp⟩, ⟨by go_simp, by go_simp, by intro o; go_simp⟩, ⟨by go_simp, by go_simp, by intro o; go_simp⟩, by simp <;> omega, by simp <;> omega, by simp <;> omega, by simp <;> omega⟩ ?_;rintro W ⟨hbW, bA, bB, bR, bS, s0, s1, s2, s3⟩;have hBW := hbW.size;have ne02 : ¬ (w.heap.size = w.heap.size + 1 + 1) := by omega
 have ne03 : ¬ (w.heap.size = w.heap.size + 1 + 1 + 1) := by omega
 have ne13 : ¬ (w.heap.size + 1 = w.heap.size + 1 + 1 + 1) := by omega
 have HA2 := hdq (HA.out.below hbW);have HB2 := hdq (HB.out.below hbW);obtain ⟨a0, a1, -⟩ := id bA;obtain ⟨b0, b1, -⟩ := id bB;clear HA HB
 go_region_held3 (Sees w.heap.size [] W) (exact kp)
  (first
   | (go_at_call 197; ((with_reducible refine (zAK (HA2.out.keptOld (Sees.kept (by assumption))) (by have := HN.out; omega)).mono ?_); rintro e w1 ⟨⟨A1, n1, c1, rfl, -, h1⟩, hb1⟩))
   | (go_at_call 197; ((with_reducible refine (zAK (HB2.out.keptOld (Sees.kept (by assumption))) (by have := HM.out; omega)).mono ?_); rintro e w2 ⟨⟨A2, n2, c2, rfl, -, h2⟩, hb2⟩))
   | fail)
 rename_i hS;have hW2 : Below W.heap.size W w2 := hS.kept.whole;have hB2 := hbW.trans (hW2.mono hBW);rw [HX.out] at h1;rw [HY.out] at h2;have e1 := h1.len;have e2 := h2.len;have H1 := hdq (h1.below hb2);have H2 := hdq h2;have l1 : n1 ≤ 800000 := by rw [← e1]; exact HLA.out
 have l2 : n2 ≤ 800000 := by rw [← e2]; exact HLB.out
 have hn2 : ((n2 : Int) == 0) = false := by
  have : n2 ≠ 0 := fun h => HB0.out (by rw [← Hal.nat_words y, List.eq_nil_of_length_eq_zero (e2.trans h)]; rfl)
  simp; omega
 have HD := hdq (zEC H1.out H2.out (Nat.pos_of_ne_zero HB0.out) (by omega) (by omega));replace bA := bA.below hW2 s0;replace bB := bB.below hW2 s1;replace bR := bR.below hW2 s2;replace bS := bS.below hW2 s3;replace s3 := ltl s3 hW2.size;clear hS h1 h2 hb1 hb2 e1 e2 a0 a1 b0 b1 HA2 HB2 HLA HLB hbW hW2 s0 s1 s2;go_wp2_with fail
 refine HD.out.mono ?_;rintro e w3 ⟨⟨A3, n3, c3, A4, n4, c4, rfl, h3, h4⟩, hb3⟩;rw [HDv.out] at h4;have hn4 : n4 = 0 := by rw [← h4.len, Hal.words_zero]; rfl
 subst hn4;have hB3 := hB2.trans (hb3.mono hB2.size);replace bA := bA.below hb3 (by omega);replace bB := bB.below hb3 (by omega);replace bR := bR.below hb3 (by omega);replace bS := bS.below hb3 s3;have s3' := ltl s3 hb3.size;obtain ⟨a0, a1, -⟩ := id bA;obtain ⟨b0, b1, -⟩ := id bB
 have l3 : n3 ≤ 800000 := by
  have := zBx (Nat.div_le_self x y);rw [h3.len, H1.out.len] at this; omega
 have H3 := hdq h3;have H4 := hdq h4;have hb3s := hb3.size;clear h3 h4 HD;cases ng
 all_goals
  go_wp2_with fail
  refine (zCj _ H3.out (by omega)).mono ?_;rintro e w4 ⟨⟨ng', A', n', c', rfl, hz⟩, hb4⟩;have HZ := hdq hz;clear hz;go_wp2_with fail
  refine (zCj false (H4.out.below hb4) (by omega)).mono ?_;rintro e w5 ⟨⟨ng2, A2', n2', c2', rfl, hz2⟩, hb5⟩;have hb45 := hb4.trans (hb5.mono hb4.size);have bR5 := bR.below hb45 (by omega);have bS5 := bS.below hb45 s3';obtain ⟨r0, r1, rf⟩ := id bR5;obtain ⟨q0, q1, qf⟩ := id bS5;have s5 := ltl s3' hb45.size;have hB5 := hB3.trans (hb45.mono hB3.size);have hzf := HZ.out.below hb5;rw [Hal.nat_words] at hzf;have HZF := hdq hzf;clear hz2 hzf hb4 hb5 HZ a0 a1 b0 b1;have bR6 := bR5.restored (.bool ng') (.slice A' n' c');have bS6 := (bS5.far2 (b' := w.heap.size + 1 + 1) (o := 0) (by omega) (.bool ng')).far2 (b' := w.heap.size + 1 + 1) (o := 1) (by omega) (.slice A' n' c');have bS7 := bS6.restored (.bool ng2) (.slice A2' n2' c2');have bR7 := (bR6.far2 (b' := w.heap.size + 1 + 1 + 1) (o := 0) (by omega) (.bool ng2)).far2 (b' := w.heap.size + 1 + 1 + 1) (o := 1) (by omega) (.slice A2' n2' c2');have hB7 := (((hB5.setCell (p := ⟨w.heap.size + 1 + 1, 0, none⟩) (by show w.heap.size ≤ w.heap.size + 1 + 1; omega) (.bool ng')).setCell (p := ⟨w.heap.size + 1 + 1, 1, none⟩) (by show w.heap.size ≤ w.heap.size + 1 + 1; omega) (.slice A' n' c')).setCell (p := ⟨w.heap.size + 1 + 1 + 1, 0, none⟩) (by show w.heap.size ≤ w.heap.size + 1 + 1 + 1; omega) (.bool ng2)).setCell (p := ⟨w.heap.size + 1 + 1 + 1, 1, none⟩) (by show w.heap.size ≤ w.heap.size + 1 + 1 + 1; omega) (.slice A2' n2' c2');have hB3s := hB3.size;have HZ7 := hdq ((((HZF.out.set (p := ⟨w.heap.size + 1 + 1, 0, none⟩) (by show w.heap.size + 1 + 1 < w3.heap.size; omega) (.bool ng')).set (p := ⟨w.heap.size + 1 + 1, 1, none⟩) (by show w.heap.size + 1 + 1 < w3.heap.size; omega) (.slice A' n' c')).set (p := ⟨w.heap.size + 1 + 1 + 1, 0, none⟩) (by show w.heap.size + 1 + 1 + 1 < w3.heap.size; omega) (.bool ng2)).set (p := ⟨w.heap.size + 1 + 1 + 1, 1, none⟩) (by show w.heap.size + 1 + 1 + 1 < w3.heap.size; omega) (.slice A2' n2' c2'));clear bR6 bS6 hB3 hB5 HZF bR5 bS5;go_wp2;generalize (((w5.setCell ⟨w.heap.size + 1 + 1, 0, none⟩ (.bool ng')).setCell ⟨w.heap.size + 1 + 1, 1, none⟩ (.slice A' n' c')).setCell ⟨w.heap.size + 1 + 1 + 1, 0, none⟩ (.bool ng2)).setCell ⟨w.heap.size + 1 + 1 + 1, 1, none⟩ (.slice A2' n2' c2') = W9 at *;obtain ⟨v0, v1, -⟩ := bR7;obtain ⟨v2, v3, -⟩ := bS7;refine bodyPost_ret (v := .tuple #[.agg #[.bool ng', .slice A' n' c'], .agg #[.bool ng2, .slice A2' n2' c2'], .int .i64 0]) (by simp [results, Tryz.results217, go_sem, v0, v1, v2, v3]) rfl ⟨⟨_, _, _, _, _, _, _, _, rfl, ?_⟩, hB7⟩;have := HZ7.out.lower (B' := w.heap.size) (by omega);cases mg <;> simpa using this
theorem zCa {w : World} {X : Nat → Prop} {A : Option Addr} {n c : Nat} {l : List Nat} (h : WordsAt w X A n c l) (hn : n ≤ 100000000000) (h0 : Num.nat l ≠ 0) :
  Calls Tryz.prog 220 #[.agg #[.bool false, .slice A n c]] w fun e w' => e = .returned (.int .i64 1) ∧ Below w.heap.size w w' :=
 (zBC false h hn).mono fun e w' ⟨h1, h2⟩ => ⟨by rw [h1]; simp [zsign, h0], h2⟩
set_option maxRecDepth 20000 in
theorem zF9 {w : World} {X Y : Nat → Prop} {A B : Option Addr} {n c m d : Nat} {la lb : List Nat} (ha : WordsAt w X A n c la) (hb : WordsAt w Y B m d lb) (hn : n ≤ 400000) (hm : m ≤ 400000) (ha0 : Num.nat la ≠ 0) (hb0 : Num.nat lb ≠ 0) :
  Calls Tryz.prog 218 #[.agg #[.bool false, .slice A n c], .agg #[.bool false, .slice B m d]] w fun e w' => e = .returned (.int .i64 (cmpN (Num.nat la) (Num.nat lb))) ∧ Below w.heap.size w w' := by
 obtain ⟨o, ho⟩ : ∃ o, cmpN (Num.nat la) (Num.nat lb) = o := ⟨_, rfl⟩;rw [ho];have HO := hdq ho;clear ho;have HA := hdq ha.old;have HB := hdq hb.old;have HN := hdq hn;have HM := hdq hm;have HA0 := hdq ha0;have HB0 := hdq hb0;clear ha hb hn hm ha0 hb0;go_enter Tryz.func218, Tryz.ntmps218
 go_wp2;refine zAi (fun W => Below w.heap.size w W ∧ Box2 W w.heap.size (.bool false) (.slice A n c) ∧ Box2 W (w.heap.size + 1) (.bool false) (.slice B m d) ∧ w.heap.size < W.heap.size ∧ w.heap.size + 1 < W.heap.size) ⟨(((brf _ _).alloc (by simp <;> omega) _).alloc (by simp <;> omega) _), ⟨by go_simp, by go_simp, by intro o; go_simp⟩, ⟨by go_simp, by go_simp, by intro o; go_simp⟩, by simp <;> omega, by simp <;> omega⟩ ?_;rintro W ⟨hbW, bA, bB, s0, s1⟩;have hBW := hbW.size;have HA2 := hdq (HA.out.below hbW);have HB2 := hdq (HB.out.below hbW);obtain ⟨a0, a1, -⟩ := id bA;obtain ⟨b0, b1, -⟩ := id bB;clear HA HB
 go_region_held3 (Sees w.heap.size [] W) (exact kp)
  (first
   | (go_at_call 220; ((with_reducible refine (zCa (HA2.out.keptOld (Sees.kept (by assumption))) (by have := HN.out; omega) HA0.out).mono ?_); rintro e w1 ⟨rfl, hb1⟩))
   | (go_at_call 220; ((with_reducible refine (zCa (HB2.out.keptOld (Sees.kept (by assumption))) (by have := HM.out; omega) HB0.out).mono ?_); rintro e w2 ⟨rfl, hb2⟩))
   | fail)
 rename_i hS;go_wp2
 go_region_held3 (Sees w.heap.size [] W) (exact kp)
  (first
   | (go_at_call 197; ((with_reducible refine (zAK (HA2.out.keptOld (Sees.kept (by assumption))) (by have := HN.out; omega)).mono ?_); rintro e w3 ⟨⟨A1, n1, c1, rfl, -, h1⟩, hb3⟩))
   | (go_at_call 197; ((with_reducible refine (zAK (HB2.out.keptOld (Sees.kept (by assumption))) (by have := HM.out; omega)).mono ?_); rintro e w4 ⟨⟨A2, n2, c2, rfl, -, h2⟩, hb4⟩))
   | (go_at_call 238; ((with_reducible refine (zEB (h1.below hb4) h2).mono ?_); rintro e w5 ⟨rfl, rfl⟩))
   | fail)
 rename_i hS2;rw [Hal.nat_words, Hal.nat_words, HO.out];have hS3 := hS2.kept.whole;have hbf := hbW.trans (hS3.mono hBW);have HA4 := hdq (HA2.out.below hS3);clear hS hS2 h1 h2 hb1 hb2 hb3 hb4;obtain ⟨a0', a1', -⟩ := bA.below hS3 s0;clear a0 a1 b0 b1;go_wp2_with fail
 refine (zCa HA4.out (by have := HN.out; omega) HA0.out).mono ?_;rintro e w6 ⟨rfl, hb6⟩;have hbf2 := hbf.trans (hb6.mono hbf.size);go_wp2;go_ret;exact ⟨rfl, hbf2⟩
set_option maxRecDepth 20000 in
theorem zHf {w : World} {X Y : Nat → Prop} {L M : Nat} {v : QV} {x y r : Int} (hr : r = if y < 0 then -x else x) (hx : ZIs w X L v.num x) (hy : ZIs w Y M v.den y) (hL : L ≤ 400000) (hM : M ≤ 400000) :
  Calls Tryz.prog 182 #[v.val] w fun e w' => ZRet1 w r e w' ∧ Below w.heap.size w w' := by
 have HR := hdq hr;clear hr;obtain ⟨lx, hlx, hln, ex⟩ := hx;obtain ⟨ly, hly, hlm, ey⟩ := hy;have HX := hdq hlx.old;have HY := hdq hly.old;have HN : Hid (v.num.n ≤ 400000) := nlt hln hL;have HM : Hid (v.den.n ≤ 400000) := nlt hlm hM;have hsg : zsign v.den.ng (Num.nat ly) < 0 ↔ y < 0 := by rw [ey]; exact zIu
 have HEx := hdq ex;have HSg := hdq hsg;clear hlx hly hln hlm hL hM ex ey hsg;obtain ⟨s, hs⟩ : ∃ s, zsign v.den.ng (Num.nat ly) = s := ⟨_, rfl⟩;rw [hs] at HSg;have HS := hdq hs;clear hs;by_cases hneg : s < 0
 ·have hif : Hid (r = -x) := by show _ = _; rw [HR.out, if_pos (HSg.out.1 hneg)]
  go_enter Tryz.func182, Tryz.ntmps182
  go_wp2_with fail
  refine zAg (fun W => Below w.heap.size w W ∧ Box4 W w.heap.size (.bool v.num.ng) (.slice v.num.A v.num.n v.num.c) (.bool v.den.ng) (.slice v.den.A v.den.n v.den.c) ∧ Box2 W (w.heap.size + 1) (.bool false) (.slice none 0 0) ∧ w.heap.size < W.heap.size ∧ w.heap.size + 1 < W.heap.size) ⟨(((brf _ _).alloc (by simp <;> omega) _).alloc (by simp <;> omega) _), ⟨by go_simp, by go_simp, by go_simp, by go_simp, by intro o; go_simp⟩, ⟨by go_simp, by go_simp, by intro o; go_simp⟩, by simp <;> omega, by simp <;> omega⟩ ?_;rintro W ⟨hbW, bA, bR, s0, s1⟩;have hBW := hbW.size;refine (zBC v.den.ng (HY.out.below hbW) (by have := HM.out; omega)).mono ?_;rw [HS.out];rintro e w1 ⟨rfl, hb1⟩;obtain ⟨a0, a1, a2, a3, -⟩ := bA.below hb1 s0;have HX1 := hdq ((HX.out.below hbW).below hb1);go_wp2_with fail
  refine (zHe v.num.ng HX1.out (by have := HN.out; omega)).mono ?_;rintro e w2 ⟨⟨ng', A', n', c', rfl, hz⟩, hb2⟩;have hb12 := hb1.trans (hb2.mono hb1.size);have bR2 := bR.below hb12 s1;have sR2 := ltl s1 hb12.size;have hb1s := hb1.size;obtain ⟨r0, r1, rf⟩ := id bR2;obtain ⟨v0, v1⟩ := bR2.stored (.bool ng') (.slice A' n' c');have hzf := ((hz.set (p := ⟨w.heap.size + 1, 0, none⟩) (by show w.heap.size + 1 < w1.heap.size; omega) (.bool ng')).set (p := ⟨w.heap.size + 1, 1, none⟩) (by show w.heap.size + 1 < w1.heap.size; omega) (.slice A' n' c')).lower (B' := w.heap.size) (by omega);have HZ := hdq hzf;have hbf := ((hbW.trans (hb12.mono hBW)).setCell (p := ⟨w.heap.size + 1, 0, none⟩) (by simp) (.bool ng')).setCell (p := ⟨w.heap.size + 1, 1, none⟩) (by simp) (.slice A' n' c');clear hz hzf hb1 hb2 hb12;go_wp2;exact bodyPost_ret (v := .agg #[.bool ng', .slice A' n' c']) (by simp [results, Tryz.results182, go_sem, v0, v1]) rfl ⟨⟨_, _, _, _, rfl, by rw [hif.out, HEx.out]; exact HZ.out⟩, hbf⟩
 ·have hif : Hid (r = x) := by show _ = _; rw [HR.out, if_neg fun h => hneg (HSg.out.2 h)]
  go_enter Tryz.func182, Tryz.ntmps182
  go_wp2_with fail
  refine zAg (fun W => Below w.heap.size w W ∧ Box4 W w.heap.size (.bool v.num.ng) (.slice v.num.A v.num.n v.num.c) (.bool v.den.ng) (.slice v.den.A v.den.n v.den.c) ∧ Box2 W (w.heap.size + 1) (.bool false) (.slice none 0 0) ∧ w.heap.size < W.heap.size ∧ w.heap.size + 1 < W.heap.size) ⟨(((brf _ _).alloc (by simp <;> omega) _).alloc (by simp <;> omega) _), ⟨by go_simp, by go_simp, by go_simp, by go_simp, by intro o; go_simp⟩, ⟨by go_simp, by go_simp, by intro o; go_simp⟩, by simp <;> omega, by simp <;> omega⟩ ?_;rintro W ⟨hbW, bA, bR, s0, s1⟩;have hBW := hbW.size;refine (zBC v.den.ng (HY.out.below hbW) (by have := HM.out; omega)).mono ?_;rw [HS.out];rintro e w1 ⟨rfl, hb1⟩;obtain ⟨a0, a1, a2, a3, -⟩ := bA.below hb1 s0;have HX1 := hdq ((HX.out.below hbW).below hb1);go_wp2_with fail
  refine (zB9 v.num.ng HX1.out (by have := HN.out; omega)).mono ?_;rintro e w2 ⟨⟨ng', A', n', c', rfl, hz⟩, hb2⟩;have hb12 := hb1.trans (hb2.mono hb1.size);have bR2 := bR.below hb12 s1;have sR2 := ltl s1 hb12.size;have hb1s := hb1.size;obtain ⟨r0, r1, rf⟩ := id bR2;obtain ⟨v0, v1⟩ := bR2.stored (.bool ng') (.slice A' n' c');have hzf := ((hz.set (p := ⟨w.heap.size + 1, 0, none⟩) (by show w.heap.size + 1 < w1.heap.size; omega) (.bool ng')).set (p := ⟨w.heap.size + 1, 1, none⟩) (by show w.heap.size + 1 < w1.heap.size; omega) (.slice A' n' c')).lower (B' := w.heap.size) (by omega);have HZ := hdq hzf;have hbf := ((hbW.trans (hb12.mono hBW)).setCell (p := ⟨w.heap.size + 1, 0, none⟩) (by simp) (.bool ng')).setCell (p := ⟨w.heap.size + 1, 1, none⟩) (by simp) (.slice A' n' c');clear hz hzf hb1 hb2 hb12;go_wp2;exact bodyPost_ret (v := .agg #[.bool ng', .slice A' n' c']) (by simp [results, Tryz.results182, go_sem, v0, v1]) rfl ⟨⟨_, _, _, _, rfl, by rw [hif.out, HEx.out]; exact HZ.out⟩, hbf⟩
set_option maxRecDepth 20000 in
theorem zDc {w : World} : Calls Tryz.prog 219 #[] w fun e w' => ZRet1 w 1 e w' ∧ Below w.heap.size w w' := by
 go_enter Tryz.func219, Tryz.ntmps219
 go_wp2_with fail
 refine zAg (fun W => Below w.heap.size w W ∧ Box2 W w.heap.size (.bool false) (.slice none 0 0) ∧ w.heap.size < W.heap.size) ⟨((brf _ _).alloc (by simp <;> omega) _), ⟨by go_simp, by go_simp, by intro o; go_simp⟩, by simp <;> omega⟩ ?_;rintro W ⟨hbW, bR, s0⟩;have hBW := hbW.size;refine (zGd 1 (by decide) (by decide) (by decide)).mono ?_;rintro e w1 ⟨⟨ng', A', n', c', rfl, hz⟩, hb1⟩;have bR2 := bR.below hb1 s0;obtain ⟨r0, r1, rf⟩ := id bR2;obtain ⟨v0, v1⟩ := bR2.stored (.bool ng') (.slice A' n' c');have sR2 := ltl s0 hb1.size;have hzf := ((hz.set (p := ⟨w.heap.size, 0, none⟩) s0 (.bool ng')).set (p := ⟨w.heap.size, 1, none⟩) s0 (.slice A' n' c')).lower (B' := w.heap.size) hBW;have HZ := hdq hzf;have hbf := ((hbW.trans (hb1.mono hBW)).setCell (p := ⟨w.heap.size, 0, none⟩) (nlr _) (.bool ng')).setCell (p := ⟨w.heap.size, 1, none⟩) (nlr _) (.slice A' n' c');clear hz hzf hb1;go_wp2;exact bodyPost_ret (v := .agg #[.bool ng', .slice A' n' c']) (by simp [results, Tryz.results219, go_sem, v0, v1]) rfl ⟨⟨_, _, _, _, rfl, HZ.out⟩, hbf⟩
set_option maxRecDepth 20000 in
theorem zHc {w : World} {Y : Nat → Prop} {M : Nat} {v : QV} {y r : Int} (hr : r = if y = 0 then 1 else (y.natAbs : Int)) (hy : ZIs w Y M v.den y) (hM : M ≤ 400000) :
  Calls Tryz.prog 183 #[v.val] w fun e w' => ZRet1 w r e w' ∧ Below w.heap.size w w' := by
 have HR := hdq hr;clear hr;obtain ⟨ly, hly, hlm, ey⟩ := hy;have HY := hdq hly.old;have HM : Hid (v.den.n ≤ 400000) := nlt hlm hM;have hsg : zsign v.den.ng (Num.nat ly) = 0 ↔ y = 0 := by rw [ey]; unfold zsign zval; split <;> (try split) <;> simp_all <;> omega
 have habs : y.natAbs = Num.nat ly := by rw [ey]; unfold zval; split <;> omega
 have HAb := hdq habs;have HSg := hdq hsg;clear hly hlm hM ey hsg habs;obtain ⟨s, hs⟩ : ∃ s, zsign v.den.ng (Num.nat ly) = s := ⟨_, rfl⟩;rw [hs] at HSg;have HS := hdq hs;clear hs;by_cases h0 : s = 0
 ·have hif : Hid (r = 1) := by show _ = _; rw [HR.out, if_pos (HSg.out.1 h0)]
  subst h0;go_enter Tryz.func183, Tryz.ntmps183
  go_wp2_with fail
  refine zAg (fun W => Below w.heap.size w W ∧ Box4 W w.heap.size (.bool v.num.ng) (.slice v.num.A v.num.n v.num.c) (.bool v.den.ng) (.slice v.den.A v.den.n v.den.c) ∧ Box2 W (w.heap.size + 1) (.bool false) (.slice none 0 0) ∧ w.heap.size < W.heap.size ∧ w.heap.size + 1 < W.heap.size) ⟨(((brf _ _).alloc (by simp <;> omega) _).alloc (by simp <;> omega) _), ⟨by go_simp, by go_simp, by go_simp, by go_simp, by intro o; go_simp⟩, ⟨by go_simp, by go_simp, by intro o; go_simp⟩, by simp <;> omega, by simp <;> omega⟩ ?_;rintro W ⟨hbW, bA, bR, s0, s1⟩;have hBW := hbW.size;refine (zBC v.den.ng (HY.out.below hbW) (by have := HM.out; omega)).mono ?_;rw [HS.out];rintro e w1 ⟨rfl, hb1⟩;go_wp2_with fail
  refine zDc.mono ?_;rintro e w2 ⟨⟨ng', A', n', c', rfl, hz⟩, hb2⟩;have hb12 := hb1.trans (hb2.mono hb1.size);have bR2 := bR.below hb12 s1;have sR2 := ltl s1 hb12.size;have hb1s := hb1.size;obtain ⟨r0, r1, rf⟩ := id bR2;obtain ⟨v0, v1⟩ := bR2.stored (.bool ng') (.slice A' n' c');have hzf := ((hz.set (p := ⟨w.heap.size + 1, 0, none⟩) (by show w.heap.size + 1 < w1.heap.size; omega) (.bool ng')).set (p := ⟨w.heap.size + 1, 1, none⟩) (by show w.heap.size + 1 < w1.heap.size; omega) (.slice A' n' c')).lower (B' := w.heap.size) (by omega);have HZ := hdq hzf;have hbf := ((hbW.trans (hb12.mono hBW)).setCell (p := ⟨w.heap.size + 1, 0, none⟩) (by simp) (.bool ng')).setCell (p := ⟨w.heap.size + 1, 1, none⟩) (by simp) (.slice A' n' c');clear hz hzf hb1 hb2 hb12;go_wp2;exact bodyPost_ret (v := .agg #[.bool ng', .slice A' n' c']) (by simp [results, Tryz.results183, go_sem, v0, v1]) rfl ⟨⟨_, _, _, _, rfl, by rw [hif.out]; exact HZ.out⟩, hbf⟩
 ·have hif : Hid (r = ((Num.nat ly : Nat) : Int)) := by show _ = _; rw [HR.out, if_neg fun h => h0 (HSg.out.2 h), HAb.out]
  have hb0 : (s == 0) = false := by simpa using h0
  go_enter Tryz.func183, Tryz.ntmps183
  go_wp2_with fail
  refine zAg (fun W => Below w.heap.size w W ∧ Box4 W w.heap.size (.bool v.num.ng) (.slice v.num.A v.num.n v.num.c) (.bool v.den.ng) (.slice v.den.A v.den.n v.den.c) ∧ Box2 W (w.heap.size + 1) (.bool false) (.slice none 0 0) ∧ w.heap.size < W.heap.size ∧ w.heap.size + 1 < W.heap.size) ⟨(((brf _ _).alloc (by simp <;> omega) _).alloc (by simp <;> omega) _), ⟨by go_simp, by go_simp, by go_simp, by go_simp, by intro o; go_simp⟩, ⟨by go_simp, by go_simp, by intro o; go_simp⟩, by simp <;> omega, by simp <;> omega⟩ ?_;rintro W ⟨hbW, bA, bR, s0, s1⟩;have hBW := hbW.size;refine (zBC v.den.ng (HY.out.below hbW) (by have := HM.out; omega)).mono ?_;rw [HS.out];rintro e w1 ⟨rfl, hb1⟩;obtain ⟨a0, a1, a2, a3, -⟩ := bA.below hb1 s0;have HY1 := hdq ((HY.out.below hbW).below hb1);go_wp2_with fail
  refine (zHa v.den.ng HY1.out (by have := HM.out; omega)).mono ?_;rintro e w2 ⟨⟨ng', A', n', c', rfl, hz⟩, hb2⟩;have hb12 := hb1.trans (hb2.mono hb1.size);have bR2 := bR.below hb12 s1;have sR2 := ltl s1 hb12.size;have hb1s := hb1.size;obtain ⟨r0, r1, rf⟩ := id bR2;obtain ⟨v0, v1⟩ := bR2.stored (.bool ng') (.slice A' n' c');have hzf := ((hz.set (p := ⟨w.heap.size + 1, 0, none⟩) (by show w.heap.size + 1 < w1.heap.size; omega) (.bool ng')).set (p := ⟨w.heap.size + 1, 1, none⟩) (by show w.heap.size + 1 < w1.heap.size; omega) (.slice A' n' c')).lower (B' := w.heap.size) (by omega);have HZ := hdq hzf;have hbf := ((hbW.trans (hb12.mono hBW)).setCell (p := ⟨w.heap.size + 1, 0, none⟩) (by simp) (.bool ng')).setCell (p := ⟨w.heap.size + 1, 1, none⟩) (by simp) (.slice A' n' c');clear hz hzf hb1 hb2 hb12;go_wp2;exact bodyPost_ret (v := .agg #[.bool ng', .slice A' n' c']) (by simp [results, Tryz.results183, go_sem, v0, v1]) rfl ⟨⟨_, _, _, _, rfl, by rw [hif.out]; exact HZ.out⟩, hbf⟩
theorem zH3 {x y : Int} (hy : 0 < y) {q : Rat} (hq : q = (x : Rat) / (y : Rat)) {g : Nat} (hg : g = Nat.gcd x.natAbs y.natAbs) :
  g ≠ 0 ∧ x.natAbs % g = 0 ∧ y.natAbs % g = 0 ∧ x.natAbs / g = q.num.natAbs ∧ y.natAbs / g = q.den ∧ (x < 0 ↔ q.num < 0) := by
 obtain ⟨m, hm, hx, hyy⟩ := zDR hy hq;have hx2 : x.natAbs = q.num.natAbs * m := by rw [hx, Int.natAbs_mul]; simp
 have hy2 : y.natAbs = q.den * m := by rw [hyy, Int.natAbs_mul]; simp
 have hgm : g = m := by
  rw [hg, hx2, hy2, Nat.gcd_mul_right];have : Nat.gcd q.num.natAbs q.den = 1 := q.reduced;rw [this, Nat.one_mul]
 subst hgm;have hmp : 0 < g := by omega
 refine ⟨hm, by rw [hx2, Nat.mul_mod_left], by rw [hy2, Nat.mul_mod_left], by rw [hx2, Nat.mul_div_cancel _ hmp], by rw [hy2, Nat.mul_div_cancel _ hmp], ?_⟩;have hmi : (0 : Int) < (g : Int) := by omega
 constructor
 ·intro h;rw [hx] at h;rcases (by omega : q.num < 0 ∨ 0 ≤ q.num) with h1 | h1
  ·exact h1
  ·have := Int.mul_nonneg h1 (Int.le_of_lt hmi); omega
 ·intro h;rw [hx];have := Int.mul_neg_of_neg_of_pos h hmi; exact this
theorem zD5 {w : World} {X Y : Nat → Prop} {A B : Option Addr} {n c m d y : Nat} (o : Int) (ho : cmpN y 1 = o) (hy : 0 < y) (ha : WordsAt w X A n c (Num.words y)) (hb : WordsAt w Y B m d (Num.words (Int.natAbs 1))) (hn : n ≤ 400000) :
  Calls Tryz.prog 218 #[.agg #[.bool false, .slice A n c], .agg #[.bool false, .slice B m d]] w fun e w' => e = .returned (.int .i64 o) ∧ Below w.heap.size w w' := by
 have h1 : Num.nat (Num.words (Int.natAbs 1)) = 1 := by rw [Num.nat_words]; rfl
 have hm : m ≤ 400000 := by
  rw [← hb.len];exact nlt (Num.words_length_le (k := 1) (by decide)) (by decide)
 refine (zF9 ha hb hn hm (by rw [Num.nat_words]; omega) (by rw [h1]; decide)).mono ?_;rw [h1, Num.nat_words, ho];exact fun _ _ h => h
set_option maxRecDepth 20000 in
theorem zG0 {w : World} {X Y : Nat → Prop} {A B : Option Addr} {n c m d : Nat} {ng mg : Bool} {x y : Int} {q : Rat} (ha : ZAt w X ng A n c x) (hb : ZAt w Y mg B m d y) (hn : n ≤ 400000) (hm : m ≤ 400000) (hy : 0 < y) (hq : q = (x : Rat) / (y : Rat)) :
  Calls Tryz.prog 181 #[.agg #[.bool ng, .slice A n c], .agg #[.bool mg, .slice B m d]] w fun e w' => QRet w q e w' ∧ Below w.heap.size w w' := by
 obtain ⟨g, hg⟩ : ∃ g, g = Nat.gcd x.natAbs y.natAbs := ⟨_, rfl⟩;obtain ⟨m1, m2, m3, m4, m5, m6⟩ := zH3 hy hq hg;have hmg : mg = false := by rw [hb.sign]; simp; omega
 subst hmg;have hng : ng = decide (q.num < 0) := by rw [ha.sign]; simp [m6]
 have HA := hdq ha.words.old;have HB := hdq hb.words.old;have HN := hdq hn;have HM := hdq hm;have hgx : Hid (Nat.gcd (Num.nat (Num.words x.natAbs)) (Num.nat (Num.words y.natAbs)) = g) := by show _ = _; rw [Num.nat_words, Num.nat_words]; exact hg.symm
 have M1 := hdq m1;have M2 : Hid (Num.nat (Num.words x.natAbs) % Num.nat (Num.words g) = 0) := by show _ = _; rw [Num.nat_words, Num.nat_words]; exact m2
 have M3 : Hid (Num.nat (Num.words y.natAbs) % Num.nat (Num.words g) = 0) := by show _ = _; rw [Num.nat_words, Num.nat_words]; exact m3
 have M4 : Hid (Num.nat (Num.words x.natAbs) / Num.nat (Num.words g) = q.num.natAbs) := by show _ = _; rw [Num.nat_words, Num.nat_words]; exact m4
 have M5 : Hid (Num.nat (Num.words y.natAbs) / Num.nat (Num.words g) = q.den) := by show _ = _; rw [Num.nat_words, Num.nat_words]; exact m5
 have MG : Hid (Num.nat (Num.words g) ≠ 0) := by show _ ≠ _; rw [Num.nat_words]; exact m1
 have HNg := hdq hng
 have HGl : Hid ((Num.words g).length ≤ 400000) := by
  have h1 : g ≤ y.natAbs := by rw [hg]; exact Nat.le_of_dvd (by omega) (Nat.gcd_dvd_right _ _)
  have h2 := Num.words_length_le (Nat.lt_of_le_of_lt h1 (Num.lt_words_length y.natAbs));rw [hb.words.len] at h2;show _ ≤ _; omega
 have HDl : Hid ((Num.words q.den).length ≤ 400000) := by
  have h1 : q.den ≤ y.natAbs := by rw [← m5]; exact Nat.div_le_self _ _
  have h2 := Num.words_length_le (Nat.lt_of_le_of_lt h1 (Num.lt_words_length y.natAbs));rw [hb.words.len] at h2;show _ ≤ _; omega
 clear ha hb hn hm hy hq hg m1 m2 m3 m4 m5 m6 hng;go_enter Tryz.func181, Tryz.ntmps181
 go_wp2_with fail
 refine zAg (fun W => Below w.heap.size w W ∧ Box2 W w.heap.size (.bool ng) (.slice A n c) ∧ Box2 W (w.heap.size + 1) (.bool false) (.slice B m d) ∧ Box4 W (w.heap.size + 1 + 1) (.bool false) (.slice none 0 0) (.bool false) (.slice none 0 0) ∧ w.heap.size < W.heap.size ∧ w.heap.size + 1 < W.heap.size ∧ w.heap.size + 1 + 1 < W.heap.size) ⟨((((brf _ _).alloc (by simp <;> omega) _).alloc (by simp <;> omega) _).alloc (by simp <;> omega) _), ⟨by go_simp, by go_simp, by intro o; go_simp⟩, ⟨by go_simp, by go_simp, by intro o; go_simp⟩, ⟨by go_simp, by go_simp, by go_simp, by go_simp, by intro o; go_simp⟩, by simp <;> omega, by simp <;> omega, by simp <;> omega⟩ ?_;rintro W ⟨hbW, bA, bB, bR, s0, s1, s2⟩;have hBW := hbW.size;have ne02 : ¬ (w.heap.size = w.heap.size + 1 + 1) := by omega
 refine (zHd ng false (HA.out.below hbW) (HB.out.below hbW) HN.out HM.out).mono ?_;rw [hgx.out];rintro e w1 ⟨⟨gg, gA, gn, gc, rfl, hgz⟩, hb1⟩;have hgg : gg = false := by rw [hgz.sign]; simp
 subst hgg;have hgw := hgz.words;rw [Int.natAbs_natCast] at hgw;have HG := hdq hgw;have HGn : Hid (gn ≤ 400000) := by show _ ≤ _; rw [← hgw.len]; exact HGl.out
 clear hgw;clear hgz;replace bA := bA.below hb1 s0;replace bB := bB.below hb1 s1;replace bR := bR.below hb1 s2;replace s0 := ltl s0 hb1.size;replace s1 := ltl s1 hb1.size;replace s2 := ltl s2 hb1.size;replace hbW := hbW.trans (hb1.mono hbW.size);try clear a0 a1 b0 b1
 obtain ⟨a0, a1, -⟩ := id bA;obtain ⟨b0, b1, -⟩ := id bB;go_wp2_with fail
 have al1 : Below w1.heap.size w1 (w1.alloc (.cells #[.bool false, .slice gA gn gc] 28)) := (brf _ _).alloc (nlr _) _;have bG : Box2 (w1.alloc (.cells #[.bool false, .slice gA gn gc] 28)) w1.heap.size (.bool false) (.slice gA gn gc) := ⟨by go_simp, by go_simp, by intro o; go_simp⟩;have sG : w1.heap.size < (w1.alloc (.cells #[.bool false, .slice gA gn gc] 28)).heap.size := by simp
 replace HG := hdq (HG.out.below al1);have w1s := hbW.size;replace bA := bA.below al1 s0;replace bB := bB.below al1 s1;replace bR := bR.below al1 s2;replace s0 := ltl s0 al1.size;replace s1 := ltl s1 al1.size;replace s2 := ltl s2 al1.size;replace hbW := hbW.trans (al1.mono hbW.size);try clear a0 a1 b0 b1
 obtain ⟨a0, a1, -⟩ := id bA;obtain ⟨b0, b1, -⟩ := id bB;generalize w1.alloc (.cells #[.bool false, .slice gA gn gc] 28) = W1 at *;have f1 := s2;clear al1 hb1;refine (zEy ng false (HA.out.below hbW) HG.out HN.out HGn.out MG.out M2.out).mono ?_;rw [M4.out];rintro e w2 ⟨⟨pg, pA, pn, pc, eg, eA, en, ec, rfl, hp⟩, hb2⟩;replace bG := bG.below hb2 sG;replace sG := ltl sG hb2.size;replace bA := bA.below hb2 s0;replace bB := bB.below hb2 s1;replace bR := bR.below hb2 s2;replace s0 := ltl s0 hb2.size;replace s1 := ltl s1 hb2.size;replace s2 := ltl s2 hb2.size;replace hbW := hbW.trans (hb2.mono hbW.size);try clear a0 a1 b0 b1
 obtain ⟨a0, a1, -⟩ := id bA;obtain ⟨b0, b1, -⟩ := id bB;try clear g0 g1
 obtain ⟨g0, g1, -⟩ := id bG;have HP := hdq hp;replace HG := hdq (HG.out.below hb2);clear hp;go_wp2_with fail
 have al2 : Below w2.heap.size w2 ((w2.alloc (.cells #[.bool pg, .slice pA pn pc] 28)).alloc (.cells #[.bool eg, .slice eA en ec] 28)) := ((brf _ _).alloc (nlr _) _).alloc (by simp) _;have bP : Box2 ((w2.alloc (.cells #[.bool pg, .slice pA pn pc] 28)).alloc (.cells #[.bool eg, .slice eA en ec] 28)) w2.heap.size (.bool pg) (.slice pA pn pc) := ⟨by go_simp, by go_simp, by intro o; go_simp⟩;have sP : w2.heap.size < ((w2.alloc (.cells #[.bool pg, .slice pA pn pc] 28)).alloc (.cells #[.bool eg, .slice eA en ec] 28)).heap.size := by simp; omega
 have f2 : W1.heap.size ≤ w2.heap.size := hb2.size;have f3 := al2.size;replace HP := hdq (HP.out.below al2);replace HG := hdq (HG.out.below al2);replace bG := bG.below al2 sG;replace sG := ltl sG al2.size;replace bA := bA.below al2 s0;replace bB := bB.below al2 s1;replace bR := bR.below al2 s2;replace s0 := ltl s0 al2.size;replace s1 := ltl s1 al2.size;replace s2 := ltl s2 al2.size;replace hbW := hbW.trans (al2.mono hbW.size);try clear a0 a1 b0 b1
 obtain ⟨a0, a1, -⟩ := id bA;obtain ⟨b0, b1, -⟩ := id bB;try clear g0 g1
 obtain ⟨g0, g1, -⟩ := id bG;generalize (w2.alloc (.cells #[.bool pg, .slice pA pn pc] 28)).alloc (.cells #[.bool eg, .slice eA en ec] 28) = W2 at *;have f4 : W1.heap.size ≤ W2.heap.size := nlt f2 f3;clear al2 hb2;refine (zEy false false (HB.out.below hbW) HG.out HM.out HGn.out MG.out M3.out).mono ?_;rw [M5.out];rintro e w3 ⟨⟨qg, qA, qn, qc, fg, fA, fn, fc, rfl, hq2⟩, hb3⟩;have hqg : qg = false := by rw [hq2.sign]; simp [zval]
 subst hqg;have hqw := hq2.words;rw [show (zval (false != false) q.den).natAbs = q.den by simp [zval]] at hqw;have HQ := hdq hqw;have HQn : Hid (qn ≤ 400000) := by show _ ≤ _; rw [← hqw.len]; exact HDl.out
 clear hq2 hqw;replace HP := hdq (HP.out.below hb3);replace bP := bP.below hb3 sP;replace sP := ltl sP hb3.size;replace bG := bG.below hb3 sG;replace sG := ltl sG hb3.size;replace bA := bA.below hb3 s0;replace bB := bB.below hb3 s1;replace bR := bR.below hb3 s2;replace s0 := ltl s0 hb3.size;replace s1 := ltl s1 hb3.size;replace s2 := ltl s2 hb3.size;replace hbW := hbW.trans (hb3.mono hbW.size);try clear a0 a1 b0 b1
 obtain ⟨a0, a1, -⟩ := id bA;obtain ⟨b0, b1, -⟩ := id bB;try clear g0 g1
 obtain ⟨g0, g1, -⟩ := id bG;go_wp2;have al3 : Below w3.heap.size w3 ((w3.alloc (.cells #[.bool false, .slice qA qn qc] 28)).alloc (.cells #[.bool fg, .slice fA fn fc] 28)) := ((brf _ _).alloc (nlr _) _).alloc (by simp) _;have bQ : Box2 ((w3.alloc (.cells #[.bool false, .slice qA qn qc] 28)).alloc (.cells #[.bool fg, .slice fA fn fc] 28)) w3.heap.size (.bool false) (.slice qA qn qc) := ⟨by go_simp, by go_simp, by intro o; go_simp⟩;have sQ : w3.heap.size < ((w3.alloc (.cells #[.bool false, .slice qA qn qc] 28)).alloc (.cells #[.bool fg, .slice fA fn fc] 28)).heap.size := by simp; omega
 have w3s := hbW.size;have w3p := sP;replace HP := hdq (HP.out.below al3);replace HQ := hdq (HQ.out.below al3);replace bP := bP.below al3 sP;replace sP := ltl sP al3.size;replace bG := bG.below al3 sG;replace sG := ltl sG al3.size;replace bA := bA.below al3 s0;replace bB := bB.below al3 s1;replace bR := bR.below al3 s2;replace s0 := ltl s0 al3.size;replace s1 := ltl s1 al3.size;replace s2 := ltl s2 al3.size;replace hbW := hbW.trans (al3.mono hbW.size);try clear a0 a1 b0 b1
 obtain ⟨a0, a1, -⟩ := id bA;obtain ⟨b0, b1, -⟩ := id bB;try clear g0 g1
 obtain ⟨g0, g1, -⟩ := id bG;generalize (w3.alloc (.cells #[.bool false, .slice qA qn qc] 28)).alloc (.cells #[.bool fg, .slice fA fn fc] 28) = W3 at *;obtain ⟨p0, p1, -⟩ := id bP;obtain ⟨q0, q1, -⟩ := id bQ;have hBW3 := hbW.size;clear al3 hb3 a0 a1 b0 b1 g0 g1 bA bB bG sG HG HA HB
 have hnum : Hid (zval (ng != false) q.num.natAbs = q.num) := by
  show _ = _;rw [HNg.out];by_cases h : q.num < 0 <;> simp [h, zval] <;> omega
 by_cases hd1 : q.den = 1
 ·have ho : Hid (cmpN q.den 1 = 0) := by show _ = _; rw [hd1]; rfl
  have hcd : Hid (cden q = 0) := by show _ = _; simp [cden, hd1]
  go_region_held3 (Sees w.heap.size [] W3) (exact kp)
   (first
    | (go_at_call 219; ((with_reducible refine (zDc).mono ?_); rintro e w4 ⟨⟨og, oA, on, oc, rfl, hone⟩, hb4⟩; obtain rfl : og = false := by rw [hone.sign]; rfl))
    | (go_at_call 218; ((with_reducible refine (zD5 0 ho.out q.den_pos ((HQ.out.below (Sees.kept (by assumption)).whole)) hone.words HQn.out).mono ?_); rintro e w5 ⟨rfl, hb5⟩))
    | fail)
  rename_i hS;have hS3 : Below W3.heap.size W3 w5 := hS.kept.whole;clear hS hone hb4 hb5;replace HP := hdq (HP.out.below hS3);replace HQ := hdq (HQ.out.below hS3);replace bP := bP.below hS3 sP;replace bQ := bQ.below hS3 sQ;replace bR := bR.below hS3 s2;replace s2 := ltl s2 hS3.size;replace sP := ltl sP hS3.size;replace sQ := ltl sQ hS3.size;replace hbW := hbW.trans (hS3.mono hbW.size);clear p0 p1 q0 q1 hS3;obtain ⟨p0, p1, -⟩ := id bP;obtain ⟨q0, q1, -⟩ := id bQ;obtain ⟨r0, r1, r2, r3, rf⟩ := id bR;obtain ⟨v0, v1, v2, v3, -⟩ := bR.stored (.bool pg) (.slice pA pn pc) (.bool false) (.slice none 0 0);have hqc : QCan w5 (New W1.heap.size) ⟨⟨pg, pA, pn, pc⟩, ⟨false, none, 0, 0⟩⟩ q := ⟨by rw [← hnum.out]; exact HP.out, by rw [hcd.out]; exact ⟨rfl, by rw [show (0 : Int).natAbs = 0 from rfl, Num.words_zero]; exact WordsAt.nil _ _ none 0 (by decide)⟩⟩;have HQC := hdq ((hqc.set4 (x0 := .bool pg) (x1 := .slice pA pn pc) (x2 := .bool false) (x3 := .slice none 0 0) f1).lower (B' := w.heap.size) (by omega));have hbf := zAr (x0 := .bool pg) (x1 := .slice pA pn pc) (x2 := .bool false) (x3 := .slice none 0 0) (b := w.heap.size + 1 + 1) hbW (by omega);clear r0 r1 r2 r3 hqc;obtain ⟨r0, r1, r2, r3, rf⟩ := id bR;go_wp2;exact bodyPost_ret (v := QV.val ⟨⟨pg, pA, pn, pc⟩, ⟨false, none, 0, 0⟩⟩) (by simp [results, Tryz.results181, go_sem, v0, v1, v2, v3]) rfl ⟨⟨⟨⟨pg, pA, pn, pc⟩, ⟨false, none, 0, 0⟩⟩, rfl, HQC.out⟩, hbf⟩
 ·have ho : Hid (cmpN q.den 1 = 1) := by
   show _ = _;have := q.den_pos;unfold cmpN; rw [if_neg (by omega), if_pos (by omega)]
  have hcd : Hid (cden q = (q.den : Int)) := by show _ = _; simp [cden, hd1]
  go_region_held3 (Sees w.heap.size [] W3) (exact kp)
   (first
    | (go_at_call 219; ((with_reducible refine (zDc).mono ?_); rintro e w4 ⟨⟨og, oA, on, oc, rfl, hone⟩, hb4⟩; obtain rfl : og = false := by rw [hone.sign]; rfl))
    | (go_at_call 218; ((with_reducible refine (zD5 1 ho.out q.den_pos ((HQ.out.below (Sees.kept (by assumption)).whole)) hone.words HQn.out).mono ?_); rintro e w5 ⟨rfl, hb5⟩))
    | fail)
  rename_i hS;have hS3 : Below W3.heap.size W3 w5 := hS.kept.whole;clear hS hone hb4 hb5;replace HP := hdq (HP.out.below hS3);replace HQ := hdq (HQ.out.below hS3);replace bP := bP.below hS3 sP;replace bQ := bQ.below hS3 sQ;replace bR := bR.below hS3 s2;replace s2 := ltl s2 hS3.size;replace sP := ltl sP hS3.size;replace sQ := ltl sQ hS3.size;replace hbW := hbW.trans (hS3.mono hbW.size);clear p0 p1 q0 q1 hS3;obtain ⟨p0, p1, -⟩ := id bP;obtain ⟨q0, q1, -⟩ := id bQ;obtain ⟨r0, r1, r2, r3, rf⟩ := id bR;obtain ⟨v0, v1, v2, v3, -⟩ := bR.stored (.bool pg) (.slice pA pn pc) (.bool false) (.slice qA qn qc);have hqc : QCan w5 (New W1.heap.size) ⟨⟨pg, pA, pn, pc⟩, ⟨false, qA, qn, qc⟩⟩ q := ⟨by rw [← hnum.out]; exact HP.out, by rw [hcd.out]; exact ⟨by simp, by rw [Int.natAbs_natCast]; exact HQ.out.imp fun b _ hb => by simp only [New] at hb ⊢; omega⟩⟩;have HQC := hdq ((hqc.set4 (x0 := .bool pg) (x1 := .slice pA pn pc) (x2 := .bool false) (x3 := .slice qA qn qc) f1).lower (B' := w.heap.size) (by omega));have hbf := zAr (x0 := .bool pg) (x1 := .slice pA pn pc) (x2 := .bool false) (x3 := .slice qA qn qc) (b := w.heap.size + 1 + 1) hbW (by omega);clear r0 r1 r2 r3 hqc;obtain ⟨r0, r1, r2, r3, rf⟩ := id bR;go_wp2;exact bodyPost_ret (v := QV.val ⟨⟨pg, pA, pn, pc⟩, ⟨false, qA, qn, qc⟩⟩) (by simp [results, Tryz.results181, go_sem, v0, v1, v2, v3]) rfl ⟨⟨⟨⟨pg, pA, pn, pc⟩, ⟨false, qA, qn, qc⟩⟩, rfl, HQC.out⟩, hbf⟩
theorem zIM (x y : Int) : qv x y = (((if y < 0 then -x else x) : Int) : Rat) / (((if y = 0 then (1 : Int) else (y.natAbs : Int)) : Int) : Rat) := by
 unfold qv;by_cases h0 : y = 0
 ·subst h0; simp; grind
 ·rw [if_neg h0, if_neg h0];by_cases h1 : y < 0
  ·rw [if_pos h1];have e : (y.natAbs : Int) = -y := (by omega);rw [e];have : (y : Rat) ≠ 0 := (by exact_mod_cast h0);simp only [Rat.intCast_neg];grind
  ·rw [if_neg h1];have e : (y.natAbs : Int) = y := (by omega);rw [e]
set_option maxRecDepth 20000 in
theorem zE7 {w : World} {X : Nat → Prop} {L : Nat} {v : QV} {q : Rat} (h : QIs w X L v q) (hL : L ≤ 300000) :
  Calls Tryz.prog 116 #[v.val] w fun e w' => QRet w q e w' ∧ Below w.heap.size w w' := by
 obtain ⟨x, y, hx, hy, hq⟩ := h;obtain ⟨a, ha⟩ : ∃ a, a = if y < 0 then -x else x := ⟨_, rfl⟩
 obtain ⟨b, hb⟩ : ∃ b, b = if y = 0 then (1 : Int) else (y.natAbs : Int) := ⟨_, rfl⟩
 have hqe : q = (a : Rat) / (b : Rat) := by rw [hq, ha, hb]; exact zIM x y
 have hbp : 0 < b := by rw [hb]; split <;> omega
 obtain ⟨lx, hlx, hln, ex⟩ := id hx;obtain ⟨ly, hly, hlm, ey⟩ := id hy
 have hla : Hid ((Num.words a.natAbs).length ≤ 400000) := by
  have e : a.natAbs = Num.nat lx := by rw [ha, ex]; unfold zval; split <;> split <;> omega
  show _ ≤ _;have h1 := Num.words_length_le (Num.nat_lt hlx.ok);rw [hlx.len] at h1;rw [e]; omega
 have hlb : Hid ((Num.words b.natAbs).length ≤ 400000) := by
  show _ ≤ _;by_cases h0 : y = 0
  ·rw [hb, if_pos h0];exact nlt (Num.words_length_le (k := 1) (by decide)) (by decide)
  ·have e : b.natAbs = Num.nat ly := by rw [hb, if_neg h0, ey]; unfold zval; split <;> omega
   have h1 := Num.words_length_le (Num.nat_lt hly.ok);rw [hly.len] at h1;rw [e]; omega
 have HX := hdq hx;have HY := hdq hy;have HA := hdq ha;have HB := hdq hb;have HQ := hdq hqe;have HP := hdq hbp;clear hx hy hq ha hb hqe hbp hlx hln ex hly hlm ey;go_enter Tryz.func116, Tryz.ntmps116
 go_wp2;refine zAi (fun W => Below w.heap.size w W ∧ Box4 W w.heap.size (.bool v.num.ng) (.slice v.num.A v.num.n v.num.c) (.bool v.den.ng) (.slice v.den.A v.den.n v.den.c) ∧ Box4 W (w.heap.size + 1) (.bool false) (.slice none 0 0) (.bool false) (.slice none 0 0) ∧ w.heap.size < W.heap.size ∧ w.heap.size + 1 < W.heap.size) ⟨(((brf _ _).alloc (by simp <;> omega) _).alloc (by simp <;> omega) _), ⟨by go_simp, by go_simp, by go_simp, by go_simp, by intro o; go_simp⟩, ⟨by go_simp, by go_simp, by go_simp, by go_simp, by intro o; go_simp⟩, by simp <;> omega, by simp <;> omega⟩ ?_;rintro W ⟨hbW, bA, bR, s0, s1⟩;have hBW := hbW.size;have HX2 : Hid (ZIs W (Old w.heap.size) L v.num x) := by obtain ⟨l, h1, h2⟩ := HX.out; exact ⟨l, h1.old.below hbW, h2⟩
 have HY2 : Hid (ZIs W (Old w.heap.size) L v.den y) := by obtain ⟨l, h1, h2⟩ := HY.out; exact ⟨l, h1.old.below hbW, h2⟩
 obtain ⟨a0, a1, a2, a3, -⟩ := id bA;clear HX HY
 go_region_held3 (Sees w.heap.size [w.heap.size + 1] W) (exact kp)
  (first
   | (go_at_call 182; ((with_reducible refine (zHf (v := v) HA.out (HX2.out.keptOld (Sees.kept (by assumption))) (HY2.out.keptOld (Sees.kept (by assumption))) (by omega) (by omega)).mono ?_); rintro e w1 ⟨⟨ng1, A1, n1, c1, rfl, hz1⟩, hb1⟩))
   | (go_at_call 183; ((with_reducible refine (zHc (v := v) HB.out (HY2.out.keptOld (Sees.kept (by assumption))) (by omega)).mono ?_); rintro e w2 ⟨⟨ng2, A2, n2, c2, rfl, hz2⟩, hb2⟩))
   | (go_at_call 181; ((with_reducible refine (zG0 (hz1.below hb2) hz2 (by rw [← hz1.words.len]; exact hla.out) (by rw [← hz2.words.len]; exact hlb.out) HP.out HQ.out).mono ?_); rintro e w3 ⟨⟨z, rfl, hz⟩, hb3⟩))
   | fail)
 rename_i hS;obtain ⟨v0, v1, v2, v3⟩ := hS.kept.val4 (by simp) (by rw [bR.1]; rfl) (by rw [bR.2.1]; rfl) (by rw [bR.2.2.1]; rfl) (by rw [bR.2.2.2.1]; rfl);have hbf := hbW.trans hS.kept.below;have hb2s := hb2.size;have hb1s := hb1.size;have hb3s := hb3.size;simp only [World.size_drew] at hb1s hb2s hb3s;have HZ := hdq ((hz.set4 (b := w.heap.size + 1) (x0 := .bool z.num.ng) (x1 := .slice z.num.A z.num.n z.num.c) (x2 := .bool z.den.ng) (x3 := .slice z.den.A z.den.n z.den.c) (by omega)).lower (B' := w.heap.size) (by omega));clear hS hz hz1 hz2 hb1 hb2 hb3;go_wp2;exact bodyPost_ret (v := z.val) (by simp [results, Tryz.results116, go_sem, v0, v1, v2, v3]) rfl ⟨⟨z, rfl, HZ.out⟩, hbf⟩
open Go.RowKit Go.Shelf
set_option maxRecDepth 20000 in
theorem zIh {w : World} {A : Option Addr} {n c i : Nat} {ad : Addr} {u : QV} (hA : A = some ad) (hc : QCell w (ad.add (i * 4)) u) (hi : i < n) (_hle : n ≤ c) (_hcap : c ≤ 9223372036854775807) :
  Calls Tryz.prog 119 #[.slice A n c, .int .i64 (i : Int)] w fun e w' => e = .returned u.val ∧ Below w.heap.size w w' := by
 subst hA;obtain ⟨q0, q1, q2, q3⟩ := hc;have tq : (ad.add (i * 4)).block < w.heap.size := zAa q0;have hii : (i : Int) < (n : Int) := by omega
 have hi0 : (0 : Int) ≤ (i : Int) := by omega
 go_enter Tryz.func119, Tryz.ntmps119
 go_wp2;refine bodyPost_ret (v := u.val) (by simp [results, Tryz.results119, go_sem]) rfl ⟨rfl, ?_⟩;exact (brf _ _).alloc (nlr _) _
structure FtS (w : World) (g : Nat → Rat) (k : Nat) (v : Value) (G : Nat → Prop) (s : List QV) (W : World) : Prop where
 len : s.length = k
 own : W.ownsRow w.heap.size 30 4 v k (s.flatMap cells4q)
 row : ∀ j, v.ownBlock = some j → G j
 gin : ∀ x, G x → w.heap.size ≤ x ∧ x < W.heap.size
 elem : ∀ j, j < k → QCan W (fun b => ¬ G b ∧ w.heap.size ≤ b) (s.getD j QV.zero) (g j)
 bel : Below w.heap.size w W
theorem FtS.step {w W W1 W2 : World} {v v' : Value} {g : Nat → Rat} {k : Nat} {G : Nat → Prop} {s : List QV} {zq : QV} {o : Obj} (h : FtS w g k v G s W) (hb : Below W.heap.size W W1) (hz : QCan W1 (New W.heap.size) zq (g k))
  (hown : W2.ownsRow w.heap.size 30 4 v' (k + 1) (s.flatMap cells4q ++ cells4q zq)) (hg : (W1.alloc o).grownBy W2 v.ownBlock) (hat : v'.ownBlock = v.ownBlock ∨ v'.ownBlock = some (W1.alloc o).heap.size) :
  FtS w g (k + 1) v' (fun y => G y ∨ v'.ownBlock = some y) (s ++ [zq]) W2 := by
 have hsz : W1.heap.size + 1 ≤ W2.heap.size := by have := hg.size; simpa using this
 have hs1 := hb.size;have hsw := h.bel.size
 have hvl : ∀ j, v.ownBlock = some j → w.heap.size ≤ j ∧ j < W.heap.size ∧ G j := fun j hj => by
  obtain ⟨h1, cs, hh⟩ := zAe h.own hj;exact ⟨h1, zAb hh, h.row j hj⟩
 have k1 : ∀ x, x < W1.heap.size → some x ≠ v.ownBlock → W2.heap[x]? = W1.heap[x]? := fun x hx h2 => (hg.block x (by simp; omega) h2).trans (Below.heap_alloc _ _ _ hx)
 have keepG : ∀ x, x < W.heap.size → ¬ G x → W2.heap[x]? = W.heap[x]? := fun x hx hn => (k1 x (by omega) fun e => hn (h.row x e.symm)).trans (hb.block x hx)
 have hv' : ∀ j, v'.ownBlock = some j → w.heap.size ≤ j ∧ j < W2.heap.size ∧ (G j ∨ j = W1.heap.size + 1) := fun j hj => by
  obtain ⟨h1, cs, hh⟩ := zAe hown hj;refine ⟨h1, zAb hh, ?_⟩;rcases hat with e | e
  ·exact .inl (hvl j (e.symm.trans hj)).2.2
  ·rw [e] at hj; cases hj; exact .inr (by simp)
 refine ⟨by rw [List.length_append, h.len]; rfl, by rw [List.flatMap_append]; simpa using hown, fun j hj => .inr hj, ?_, ?_, ?_⟩
 ·intro y hy;rcases hy with hy | hy
  ·have := h.gin y hy; omega
  ·have := hv' y hy; omega
 ·intro j hj
  have e2 : (s ++ [zq]).getD j QV.zero = if j < k then s.getD j QV.zero else zq := by
   rw [← h.len];by_cases hkl : j < s.length
   ·rw [if_pos hkl, zA0 _ _ _ hkl]
   ·rw [if_neg hkl, show j = s.length by have := h.len; omega]; simp
  rw [e2];by_cases hkl : j < k
  ·rw [if_pos hkl];have q1 := (h.elem j hkl).imp (Y := fun b => (¬ G b ∧ ¬ v'.ownBlock = some b) ∧ w.heap.size ≤ b) fun b hb' hx => ⟨⟨hx.1, fun e => (hv' b e).2.2.elim hx.1 fun h' => by omega⟩, hx.2⟩
   exact (q1.keep fun a hx hl => cob (keepG _ hl hx.1.1)).imp fun b _ hx => ⟨fun hg' => hg'.elim hx.1.1 hx.1.2, hx.2⟩
  ·rw [if_neg hkl];(obtain rfl : j = k := by omega);have q1 := hz.imp (Y := fun b => W.heap.size ≤ b ∧ b < W1.heap.size) fun b hb' hx => ⟨hx, hb'⟩
   (refine (q1.keep fun a hx hl => cob (k1 _ hx.2 fun e => by have := (hvl _ e.symm).2.1; omega)).imp fun b _ hx => ⟨fun hg' => ?_, by omega⟩);rcases hg' with hg' | hg'
   ·have := (h.gin b hg').2; omega
   ·rcases (hv' b hg').2.2 with h' | h'
    ·have := (h.gin b h').2; omega
    ·omega
 ·have hG1 : Below w.heap.size w W1 := h.bel.trans (hb.mono hsw);exact (hG1.alloc (by omega) _).grown hg (by simp; omega) (fun j hj => (hvl j hj).1)
def FtLoop (w : World) (n : Nat) (g : Nat → Rat) (v i : Value) (W : World) : Prop := ∃ k G s, k ≤ n ∧ i = .int .i64 ((k : Nat) : Int) ∧ FtS w g k v G s W
theorem own_vecC' {W : World} {base n : Nat} {v : Value} {qs : List QV} {l : List Rat} {X : Nat → Prop} (h : W.ownsRow base 30 4 v n (qs.flatMap cells4q)) (hl : qs.length = n) (hm : l.length = n) (he : ∀ k, k < n → QCan W X (qs.getD k QV.zero) (l.getD k 0)) :
  ∃ s : SV, v = s.val ∧ s.n = n ∧ VecCan W (fun b => base ≤ b) X s l := by
 rcases h.2 with ⟨rfl, rfl⟩ | ⟨g, cap, cur, rfl, hbg, hh, hnc, hcap, hcur, ht⟩
 ·exact ⟨⟨none, 0, 0⟩, rfl, rfl, hm, nlr _, nzl _, fun k hk => absurd hk (Nat.not_lt_zero k)⟩
 ·refine ⟨⟨some ⟨g, 0, none⟩, n, cap⟩, rfl, rfl, hm, hnc, (by show cap ≤ _; exact nlt ‹_› (show maxLen ≤ 9223372036854775807 by decide)), fun k hk => ⟨⟨g, 0, none⟩, qs.getD k QV.zero, rfl, hbg, ?_, he k hk⟩⟩;have hk' : k < n := hk
  have ec : ∀ o, o < 4 → W.cell? ⟨g, k * 4 + o, none⟩ = (cells4q (qs.getD k QV.zero))[o]? := fun o ho => by
   have e2 : (cur.toList.take (n * 4))[k * 4 + o]? = (qs.flatMap cells4q)[k * 4 + o]? := (by rw [ht]);rw [List.getElem?_take_of_lt (by omega), zDB qs k o (by omega) ho QV.zero] at e2;simp only [World.cell?, hh];simpa using e2
  rw [zBk, Nat.zero_add];exact ⟨ec 0 (by omega), ec 1 (by omega), ec 2 (by omega), ec 3 (by omega)⟩
set_option maxRecDepth 20000 in
theorem zDb {w : World} {X Y : Nat → Prop} {L : Nat} {s : SV} {l : List Rat} (h : VecIs w X Y L s l) (hn : s.n ≤ 1000) (hL : L ≤ 300000) :
  Calls Tryz.prog 63 #[s.val, .int .i64 (s.n : Int)] w fun e w' => VRet w l e w' ∧ Below w.heap.size w w' := by
 obtain ⟨iq0, hiq, hzq0, hzq1, hzq2⟩ := info_parts zGF;obtain ⟨A, n, c⟩ := s;dsimp only [SV.val] at *;have hle : n ≤ c := h.le;have hcap : c ≤ 9223372036854775807 := h.cap;have H := hdq h;have HLen : Hid (l.length = n) := h.len;have HL := hdq hL;clear h hL;go_enter Tryz.func63, Tryz.ntmps63
 go_wp2;go_loopw [5, 6] (fun v i W => FtLoop w n (fun j => l.getD j 0) v i W) (fun _ i _ => n - (intOf i).toNat)
 case atStart => exact ⟨0, fun _ => False, [], nzl _, rfl, rfl, ⟨rfl, .inl ⟨rfl, rfl⟩⟩, fun j hj => by simp [Value.ownBlock] at hj, fun x hx => hx.elim, fun j hj => absurd hj (Nat.not_lt_zero j), brf _ _⟩
 case round =>
  obtain ⟨k, G, qs, hk, rfl, hF⟩ := hrel;have HF := hdq hF;clear hF;by_cases hlt : k < n
  ·have hki : (k : Int) < (n : Int) := (by omega);have hk6 : (k : Int) < 65536 := (by omega);obtain ⟨ad, u, hA, -, hcl, hu⟩ := (H.out.below HF.out.bel).elem k hlt;dsimp only at hA;have HC := hdq (zIh hA hcl hlt hle hcap);have HU := hdq hu;have hlen := HF.out.len;clear hA hcl hu;(go_wp2_with fail);refine HC.out.mono ?_;rintro e w1 ⟨rfl, hb1⟩;have HU1 := hdq (HU.out.below hb1);(go_wp2_with fail);refine (zE7 HU1.out HL.out).mono ?_;rintro e w2 ⟨⟨z, rfl, hz⟩, hb2⟩;have hb12 := hb1.trans (hb2.mono hb1.size);have hz' : QCan w2 (New wr.heap.size) z (l.getD k 0) := hz.lower hb1.size
   have hownk := zAA (W' := w2) HF.out.own fun j hj => by
    obtain ⟨_, cs, hh⟩ := zAe HF.out.own hj;exact hb12.block j (zAb hh)
   have HB12 := hdq hb12;have HZ := hdq hz';have HO := hdq hownk;have hws := HF.out.bel.size;have hws2 := hb12.size;clear hb1 hb2 hz hz' hownk hb12 hlen;(go_wp2_with (at_builtin; refine wpList_append_own_at _ rfl _ _ 23 rfl w.heap.size 30 iq0 (.agg #[.bool false, .slice none 0 0, .bool false, .slice none 0 0]) 4 64 Tryz.underlying23 hiq hzq0 hzq1 hzq2 rfl (by decide) _ k (qs.flatMap cells4q) rfl (HO.out.alloc _) ⟨w2.heap.size, 0, none⟩ 1 1 (cells4q z) rfl rfl (zEo _ _) (by intro u hu; simp [cells4q] at hu; rcases hu with rfl | rfl | rfl | rfl <;> rfl) (by simp [maxLen]; omega) (by omega) (by simp; omega) ?_));intro v' W5 hown5 hg5 hnil5 hat5
   have Hfin : Hid (FtLoop w n (fun j => l.getD j 0) v' (.int .i64 ((k + 1 : Nat) : Int)) W5) :=
    ⟨k + 1, _, _, hlt, rfl, HF.out.step HB12.out HZ.out hown5 hg5 (hat5.imp id fun e => by rw [e]; simp)⟩
   clear hown5 hg5 hnil5 hat5;go_wp2;go_roundw;case rel => exact Hfin.out
   case measure => simp [intOf]; omega
  ·(obtain rfl : k = n := by omega);go_wp2;have hF := HF.out;obtain ⟨sv, hsv, hsn, hV⟩ := own_vecC' (l := l) hF.own hF.len HLen.out hF.elem;refine bodyPost_ret (v := sv.val) (by simp [results, Tryz.results63, go_sem, hsv]) rfl ⟨?_, hF.bel⟩;exact ⟨sv, rfl, hV.imp (fun _ _ h => h) fun _ _ h => h.imp fun _ _ h => h.2⟩
section
variable {w W W1 W2 : World} {n : Int} {B d L : Nat} {os rs : List (List Rat)} {bs : List Rat} {va vb vc v' : Value} {G : Nat → Prop} {s1 s2 : List SV} {s3 : List QV} {o : Obj}
theorem zI4 (l1 : s1.length = os.length) (l2 : s2.length = rs.length) (l3 : s3.length = bs.length)
  (hQ : QT w B d n va vb vc (pick3 [] (s1.map SV.val) (s2.map SV.val) (s3.flatMap cells4q)) (pick3 0 os.length rs.length bs.length) G W)
  (e1 : ∀ m, m < os.length → VecIs W (fun b => ¬ G b ∧ B ≤ b) (fun b => ¬ G b ∧ B ≤ b) L (s1.getD m ⟨none, 0, 0⟩) (os.getD m []))
  (e2 : ∀ m, m < rs.length → VecIs W (fun b => ¬ G b ∧ B ≤ b) (fun b => ¬ G b ∧ B ≤ b) L (s2.getD m ⟨none, 0, 0⟩) (rs.getD m []))
  (e3 : ∀ m, m < bs.length → QIs W (fun b => ¬ G b ∧ B ≤ b) L (s3.getD m ⟨⟨false, none, 0, 0⟩, ⟨false, none, 0, 0⟩⟩) (bs.getD m 0))
  (hb : Below W.heap.size W W1) {x : SV} {l : List Rat} (hx : VecIs W1 (fun b => ¬ G b ∧ B ≤ b) (fun b => ¬ G b ∧ B ≤ b) L x l)
  (hown : W2.ownsRow B 23 1 v' (os.length + 1) (s1.map SV.val ++ [x.val])) (hg : (W1.alloc o).grownBy W2 va.ownBlock) (hat : v'.ownBlock = va.ownBlock ∨ v'.ownBlock = some (W1.alloc o).heap.size) :
  ExMid w B d n L (os ++ [l]) rs bs (W2.setCell ⟨d, 1, none⟩ v') ∧ ∀ x, x < W.heap.size → ¬ G x → (W2.setCell ⟨d, 1, none⟩ v').heap[x]? = W.heap[x]? := by
 obtain ⟨hQ2, st⟩ := (hQ.call hb).append (f := 1) (by omega) (by omega) (xs := [x.val]) (v' := v') hown hg hat;have st' := (Step.below G hb).trans st
 have ea : (fun g => if g = 1 then pick3 [] (s1.map SV.val) (s2.map SV.val) (s3.flatMap cells4q) 1 ++ [x.val] else pick3 [] (s1.map SV.val) (s2.map SV.val) (s3.flatMap cells4q) g) = pick3 [] ((s1 ++ [x]).map SV.val) (s2.map SV.val) (s3.flatMap cells4q) := by
  funext g; unfold pick3; by_cases h1 : g = 1 <;> by_cases h2 : g = 2 <;> by_cases h3 : g = 3 <;> simp_all
 have ec : (fun g => if g = 1 then pick3 0 os.length rs.length bs.length 1 + 1 else pick3 0 os.length rs.length bs.length g) = pick3 0 (os ++ [l]).length rs.length bs.length := by
  funext g; unfold pick3; by_cases h1 : g = 1 <;> by_cases h2 : g = 2 <;> by_cases h3 : g = 3 <;> simp_all
 rw [ea, ec] at hQ2;exact ⟨⟨_, _, _, _, s1 ++ [x], s2, s3, by simp [l1], by simp [l2], by simp [l3], hQ2, zGI l1 (fun m hm => st'.vecK (e1 m hm)) (st.vecK hx), fun m hm => st'.vecK (e2 m hm), fun m hm => st'.qisK (e3 m hm)⟩, st'.keep⟩
end
theorem zJg {w y : World} {L : Nat} {n : Int} (hb : Below w.heap.size w y) :
  ExMid w y.heap.size y.heap.size n L [] [] [] (y.alloc (.cells #[.int .i64 n, .slice none 0 0, .slice none 0 0, .slice none 0 0] 25)) := by
 have al : Below y.heap.size y (y.alloc (.cells #[.int .i64 n, .slice none 0 0, .slice none 0 0, .slice none 0 0] 25)) := (brf _ _).alloc (nlr _) _;have e3 : ∀ f, three (.slice none 0 0) (.slice none 0 0) (.slice none 0 0) f = .slice none 0 0 := fun f => by unfold three; simp
 refine ⟨.slice none 0 0, .slice none 0 0, .slice none 0 0, fun b => b = y.heap.size, [], [], [], rfl, rfl, rfl, ⟨hb.trans (al.mono hb.size), zAc _ _ rfl, fun f h1 h2 => ?_, fun f g j _ _ _ _ _ hj => ?_, fun f j _ _ hj => ?_, fun x hx => by simp; omega, rfl, fun f j _ _ hj => ?_, hb.size, nlr _⟩, fun m hm => absurd hm (Nat.not_lt_zero _), fun m hm => absurd hm (Nat.not_lt_zero _), fun m hm => absurd hm (Nat.not_lt_zero _)⟩
 ·rw [e3];refine ⟨?_, .inl ⟨rfl, ?_⟩⟩ <;> rcases (by omega : f = 1 ∨ f = 2 ∨ f = 3) with rfl | rfl | rfl <;> simp [pick3]
 ·rw [e3] at hj; simp [Value.ownBlock] at hj
 ·rw [e3] at hj; simp [Value.ownBlock] at hj
 ·rw [e3] at hj; simp [Value.ownBlock] at hj
def OffGD (B g d : Nat) (b : Nat) : Prop := (b ≠ g ∧ b ≠ d) ∧ B ≤ b
structure OwnAt (W : World) (B g L : Nat) (q : LPV) (os rs : List (List Rat)) (bs : List Rat) : Prop where
 ge : B ≤ g
 ad : q.O.A = some ⟨g, 0, none⟩
 len : os.length = q.O.n
 le : q.O.n ≤ q.O.c
 cap : q.O.c ≤ 9223372036854775807
 blk : ∃ cur, W.heap[g]? = some (.cells cur 23 (0, 0)) ∧ q.O.n ≤ cur.size
 row : ∀ i, i < q.O.n → ∃ r, W.cell? ⟨g, i, none⟩ = some (SV.val r) ∧ VecIs W (fun b => b ≠ g ∧ B ≤ b) (fun b => b ≠ g ∧ B ≤ b) L r (os.getD i [])
 rows : MatIs W (fun b => b ≠ g ∧ B ≤ b) (fun b => b ≠ g ∧ B ≤ b) L q.R rs
 bounds : VecIs W (fun b => b ≠ g ∧ B ≤ b) (fun b => b ≠ g ∧ B ≤ b) L q.B bs
theorem OwnAt.lp {W : World} {B g L : Nat} {q : LPV} {os rs : List (List Rat)} {bs : List Rat} (h : OwnAt W B g L q os rs bs) : LPIs W (fun b => B ≤ b) (fun b => B ≤ b) L q os rs bs :=
 ⟨⟨h.len, h.le, h.cap, fun i hi => by
  obtain ⟨r, c, hr⟩ := h.row i hi;exact ⟨⟨g, 0, none⟩, r, h.ad, h.ge, by rw [zBk, Nat.zero_add]; exact c, hr.imp (fun _ _ hx => hx.2) fun _ _ hq => hq.imp fun _ _ hx => hx.2⟩⟩,
  h.rows.imp (fun _ _ hx => hx.2) fun _ _ hq => hq.imp fun _ _ hx => hx.2,
  h.bounds.imp (fun _ _ hx => hx.2) fun _ _ hq => hq.imp fun _ _ hx => hx.2⟩
theorem OwnAt.below {W W' : World} {B g L : Nat} {q : LPV} {os rs : List (List Rat)} {bs : List Rat} (h : OwnAt W B g L q os rs bs) (hb : Below W.heap.size W W') : OwnAt W' B g L q os rs bs := by
 obtain ⟨cur, hc, hn⟩ := h.blk
 exact ⟨h.ge, h.ad, h.len, h.le, h.cap, ⟨cur, (hb.block _ (zAb hc)).trans hc, hn⟩, fun i hi => by
  obtain ⟨r, c, hr⟩ := h.row i hi;exact ⟨r, (hb.cell (p := ⟨g, i, none⟩) (zAb hc)).trans c, hr.below hb⟩, h.rows.below hb, h.bounds.below hb⟩
theorem OwnAt.set {W : World} {B g L : Nat} {q : LPV} {os rs : List (List Rat)} {bs : List Rat} (h : OwnAt W B g L q os rs bs) {k : Nat} (hk : k < q.O.n) {x : SV} {l : List Rat} (hx : VecIs W (fun b => b ≠ g ∧ B ≤ b) (fun b => b ≠ g ∧ B ≤ b) L x l) :
  OwnAt (W.setCell ⟨g, k, none⟩ x.val) B g L q (os.set k l) rs bs := by
 obtain ⟨cur, hc, hn⟩ := h.blk;have kb : ∀ b, b ≠ g → (W.setCell ⟨g, k, none⟩ x.val).heap[b]? = W.heap[b]? := fun b hb => bhs _ _ _ _ hb
 have kc : ∀ a : Addr, (a.block ≠ g ∧ B ≤ a.block) → a.block < W.heap.size → (W.setCell ⟨g, k, none⟩ x.val).cell? a = W.cell? a := fun a ha _ => cob (kb _ ha.1)
 have kq : ∀ v q, QIs W (fun b => b ≠ g ∧ B ≤ b) L v q → QIs (W.setCell ⟨g, k, none⟩ x.val) (fun b => b ≠ g ∧ B ≤ b) L v q := fun v q hq => hq.keep kc
 have e := zAd (o := k) x.val hc;refine ⟨h.ge, h.ad, by rw [List.length_set]; exact h.len, h.le, h.cap, ⟨_, e, by simpa using hn⟩, fun i hi => ?_, h.rows.keep kc kq, h.bounds.keep kc kq⟩;by_cases hik : i = k
 ·subst hik;refine ⟨x, ?_, ?_⟩
  ·simp only [World.cell?, e];simp [show i < cur.size by omega]
  ·have : (os.set i l).getD i [] = l := (by simp [show i < os.length by have := h.len; omega]);rw [this]; exact hx.keep kc kq
 ·obtain ⟨r, c, hr⟩ := h.row i hi;refine ⟨r, ?_, ?_⟩
  ·rw [← c];simp only [World.cell?, e, hc];simp [show ¬ k = i from fun h => hik h.symm]
  ·have : (os.set k l).getD i [] = os.getD i [] := (by simp [show ¬ k = i from fun h => hik h.symm]);rw [this]; exact hr.keep kc kq
theorem zH6 {w W : World} {B d L : Nat} {n : Int} {os rs : List (List Rat)} (h : ExMid w B d n L os rs [] W) (ho : 1 ≤ os.length) :
  ∃ (g oc : Nat) (R : SV) (vc : Value), R.n = rs.length ∧ W.heap[d]? = some (.cells #[.int .i64 n, .slice (some ⟨g, 0, none⟩) os.length oc, R.val, vc] 25 (0, 0)) ∧ B ≤ g ∧ g ≠ d ∧ B ≤ d ∧ os.length ≤ oc ∧ oc ≤ 9223372036854775807 ∧
   (∃ cur, W.heap[g]? = some (.cells cur 23 (0, 0)) ∧ os.length ≤ cur.size) ∧
   (∀ i, i < os.length → ∃ r, W.cell? ⟨g, i, none⟩ = some (SV.val r) ∧ VecIs W (OffGD B g d) (OffGD B g d) L r (os.getD i [])) ∧
   MatIs W (OffGD B g d) (OffGD B g d) L R rs ∧ Below w.heap.size w W ∧ w.heap.size ≤ B := by
 obtain ⟨va, vb, vc, G, s1, s2, s3, l1, l2, l3, hQ, e1, e2, e3⟩ := h;obtain ⟨o1, o2, -⟩ := zH5 hQ;rcases o1.2 with ⟨-, e0⟩ | ⟨g, oc, cur, rfl, hbg, hh, hnc, hcap, hcur, ht⟩
 ·rw [e0] at ho; omega
 ·have hGg : G g := hQ.gf 1 g (by omega) (by omega) rfl;have hgd : g ≠ d := hQ.nod 1 g (by omega) (by omega) rfl;have hof : ∀ b, (¬ G b ∧ B ≤ b) → OffGD B g d b := fun b hb => ⟨⟨fun e => hb.1 (e ▸ hGg), fun e => hb.1 (e ▸ hQ.gd)⟩, hb.2⟩
  have hrows : ∃ R : SV, vb = R.val ∧ R.n = rs.length ∧ MatIs W (OffGD B g d) (OffGD B g d) L R rs := by
   rcases o2.2 with ⟨rfl, hz⟩ | ⟨g2, c2, cur2, rfl, hbg2, hh2, hnc2, hcap2, hcur2, ht2⟩
   ·exact ⟨⟨none, 0, 0⟩, rfl, hz.symm, hz, nlr _, nzl _, fun k hk => absurd hk (Nat.not_lt_zero k)⟩
   ·have a1 : g2 ≠ g := (fun e => hQ.apart 2 1 g2 (by omega) (by omega) (by omega) (by omega) (by omega) rfl (by rw [e]; rfl));have a2 : g2 ≠ d := hQ.nod 2 g2 (by omega) (by omega) rfl;refine ⟨⟨some ⟨g2, 0, none⟩, rs.length, c2⟩, rfl, rfl, rfl, hnc2, (by show c2 ≤ _; exact nlt ‹_› (show maxLen ≤ 9223372036854775807 by decide)), fun k hk => ⟨⟨g2, 0, none⟩, s2.getD k ⟨none, 0, 0⟩, rfl, ⟨⟨a1, a2⟩, hbg2⟩, ?_, (e2 k hk).imp (fun b _ hb => hof b hb) fun _ _ hq => hq.imp fun b _ hb => hof b hb⟩⟩;have hk' : k < rs.length := hk;rw [zBk, Nat.zero_add];have t2 : (cur2.toList.take (rs.length * 1))[k]? = (s2.map SV.val)[k]? := (by rw [ht2]);rw [Nat.mul_one, List.getElem?_take_of_lt hk'] at t2;simp only [World.cell?, hh2];have t3 : cur2[k]? = (s2.map SV.val)[k]? := (by simpa using t2);rw [List.getElem?_map, gge (by omega)] at t3;have t4 : s2.getD k ⟨none, 0, 0⟩ = s2[k]'(by omega) := (by simp [gge (show k < s2.length by omega)]);rw [t4];simpa using t3
  obtain ⟨R, rfl, hRn, hR⟩ := hrows;refine ⟨g, oc, R, vc, hRn, hQ.blk, hbg, hgd, hQ.dB, hnc, nlt ‹_› (show maxLen ≤ 9223372036854775807 by decide), ⟨cur, hh, by omega⟩, fun k hk => ⟨s1.getD k ⟨none, 0, 0⟩, ?_, (e1 k hk).imp (fun b _ hb => hof b hb) fun _ _ hq => hq.imp fun b _ hb => hof b hb⟩, hR, hQ.bel, hQ.ge⟩;have t2 : (cur.toList.take (os.length * 1))[k]? = (s1.map SV.val)[k]? := by rw [ht]
  rw [Nat.mul_one, List.getElem?_take_of_lt hk] at t2;simp only [World.cell?, hh];have t3 : cur[k]? = (s1.map SV.val)[k]? := by simpa using t2
  rw [List.getElem?_map, gge (by omega)] at t3;have t4 : s1.getD k ⟨none, 0, 0⟩ = s1[k]'(by omega) := by simp [gge (show k < s1.length by omega)]
  rw [t4];simpa using t3
theorem zI9 {w wr w1 w8 : World} {B d g gc L : Nat} {n : Int} {os rs : List (List Rat)} {bs : List Rat} {R Z : SV} (hg : B ≤ g) (hgd : g ≠ d) (hw : w.heap.size + 1 < B) (_hBd : B ≤ wr.heap.size) (hdr : d < wr.heap.size) (hgc1 : os.length ≤ gc) (hgc2 : gc ≤ 9223372036854775807)
  (hcur : ∃ cur, wr.heap[g]? = some (.cells cur 23 (0, 0)) ∧ os.length ≤ cur.size)
  (hrow : ∀ i, i < os.length → ∃ r, wr.cell? ⟨g, i, none⟩ = some (SV.val r) ∧ VecIs wr (OffGD B g d) (OffGD B g d) L r (os.getD i []))
  (hmat : MatIs wr (OffGD B g d) (OffGD B g d) L R rs) (hb1 : Below wr.heap.size wr w1) (hz : VecIs w1 (New wr.heap.size) (New wr.heap.size) L Z bs)
  (hk : ∀ b, b ≠ d → b ≠ w.heap.size + 1 → w8.heap[b]? = w1.heap[b]?) :
  OwnAt w8 w.heap.size g L ⟨n, ⟨some ⟨g, 0, none⟩, os.length, gc⟩, R, Z⟩ os rs bs := by
 obtain ⟨cur, hh, hn⟩ := hcur;have hgl := zAb hh;have ko : ∀ b, OffGD B g d b → b < wr.heap.size → w8.heap[b]? = wr.heap[b]? := fun b hb hl => (hk b hb.1.2 (by have := hb.2; omega)).trans (hb1.block b hl)
 have kc : ∀ a : Addr, OffGD B g d a.block → a.block < wr.heap.size → w8.cell? a = wr.cell? a := fun a ha hl => cob (ko _ ha hl)
 have kz : ∀ a : Addr, New wr.heap.size a.block → a.block < w1.heap.size → w8.cell? a = w1.cell? a := fun a ha hl => cob (hk _ (by simp only [New] at ha; omega) (by simp only [New] at ha; omega))
 have im : ∀ b, OffGD B g d b → b ≠ g ∧ w.heap.size ≤ b := fun b hb => ⟨hb.1.1, by have := hb.2; omega⟩
 have iz : ∀ b, New wr.heap.size b → b ≠ g ∧ w.heap.size ≤ b := fun b hb => by simp only [New] at hb; omega
 have hg8 : w8.heap[g]? = wr.heap[g]? := (hk g hgd (by omega)).trans (hb1.block g hgl);refine ⟨by show w.heap.size ≤ g; omega, rfl, rfl, hgc1, hgc2, ⟨cur, hg8.trans hh, hn⟩, fun i hi => ?_, ?_, ?_⟩
 ·obtain ⟨r, c, hr⟩ := hrow i hi;exact ⟨r, (cob (a := ⟨g, i, none⟩) hg8).trans c, (VecAt.keep hr kc fun _ _ hq => hq.keep kc).imp (fun b _ hb => im b hb) fun _ _ hq => hq.imp fun b _ hb => im b hb⟩
 ·exact (MatAt.keep hmat kc fun _ _ hq => QIs.keep hq kc).imp (fun b _ hb => im b hb) fun _ _ hq => hq.imp fun b _ hb => im b hb
 ·exact (VecAt.keep hz kz fun _ _ hq => QIs.keep hq kz).imp (fun b _ hb => iz b hb) fun _ _ hq => hq.imp fun b _ hb => iz b hb
def OwnS (B : Nat) (W : World) (a b : Addr) (u v : Value) (f : Bool) (w' : World) : Prop := (f = false → Sees B [] W w') ∧ w'.cell? a = some u ∧ w'.cell? b = some v
def OwL1 (w : World) (p : LPV) (d L : Nat) (os : List (List Rat)) (t : Value) (W : World) : Prop :=
 ∃ i : Nat, i ≤ p.O.n ∧ t = .int .i64 i ∧ LPBox W w.heap.size p ∧ Box4 W (w.heap.size + 1) (.int .i64 0) (.slice none 0 0) (.slice none 0 0) (.slice none 0 0) ∧ ExMid w d d p.n L (os.take i) [] [] W
def OwL2 (w : World) (p : LPV) (d L : Nat) (os rs : List (List Rat)) (t : Value) (W : World) : Prop :=
 ∃ i : Nat, i ≤ p.R.n ∧ t = .int .i64 i ∧ LPBox W w.heap.size p ∧ Box4 W (w.heap.size + 1) (.int .i64 0) (.slice none 0 0) (.slice none 0 0) (.slice none 0 0) ∧ ExMid w d d p.n L os (rs.take i) [] W
theorem zCd {α : Type} {l : List α} {i : Nat} (h : i < l.length) (z : α) : l.take (i + 1) = l.take i ++ [l.getD i z] := by
 rw [List.take_succ_eq_append_getElem h];simp [h]
set_option maxRecDepth 40000 in
theorem zH4 {w : World} {X Y : Nat → Prop} {L : Nat} {p : LPV} {os rs : List (List Rat)} {bs : List Rat} (h : LPIs w X Y L p os rs bs) (ho1 : 1 ≤ p.O.n) (ho2 : p.O.n ≤ 1000) (hr : p.R.n ≤ 1000) (hb : p.B.n ≤ 1000) (ho : ∀ i, (os.getD i []).length ≤ 1000) (hr2 : ∀ i, (rs.getD i []).length ≤ 1000) (hL : L ≤ 300000) :
  Calls Tryz.prog 19 #[p.val] w fun e w' => (∃ (q : LPV) (g : Nat), e = .returned q.val ∧ q.n = p.n ∧ OwnAt w' w.heap.size g (L + 1) q os rs bs) ∧ Below w.heap.size w w' := by
 obtain ⟨ii0, hii, hzi0, hzi1, hzi2⟩ := info_parts zE6;obtain ⟨z, ⟨oA, on, oc⟩, ⟨rA, rn, rc⟩, ⟨bA, bn, bc⟩⟩ := p;dsimp only at ho1 ho2 hr hb;have H := hdq h;have HO := hdq ho;have HR := hdq hr2;have HL := hdq hL;have HOl : Hid (os.length = on) := h.obj.len;have HRl : Hid (rs.length = rn) := h.rows.len;have oc1 : on ≤ oc := h.obj.le;have oc2 : oc ≤ 9223372036854775807 := h.obj.cap;have rc1 : rn ≤ rc := h.rows.le;have rc2 : rc ≤ 9223372036854775807 := h.rows.cap;have bc1 : bn ≤ bc := h.bounds.le;have bc2 : bc ≤ 9223372036854775807 := h.bounds.cap;clear h ho hr2 hL;dsimp only [LPV.val] at *;go_enter Tryz.func19, Tryz.ntmps19
 go_upto_region 2 with fail
 have H1 : Hid (OwL1 w ⟨z, ⟨oA, on, oc⟩, ⟨rA, rn, rc⟩, ⟨bA, bn, bc⟩⟩ (w.heap.size + 1 + 1) (L + 1) os (.int .i64 0) (((w.alloc (.cells #[.int .i64 z, .slice oA on oc, .slice rA rn rc, .slice bA bn bc] 25)).alloc (.cells #[.int .i64 0, .slice none 0 0, .slice none 0 0, .slice none 0 0] 25)).alloc (.cells #[.int .i64 z, .slice none 0 0, .slice none 0 0, .slice none 0 0] 25))) := by
  refine ⟨0, nzl _, rfl, ⟨by go_simp, by go_simp, by go_simp, by go_simp, by intro o; go_simp⟩, ⟨by go_simp, by go_simp, by go_simp, by go_simp, by intro o; go_simp⟩, ?_⟩;rw [List.take_zero];have := zJg (w := w) (y := (w.alloc (.cells #[.int .i64 z, .slice oA on oc, .slice rA rn rc, .slice bA bn bc] 25)).alloc (.cells #[.int .i64 0, .slice none 0 0, .slice none 0 0, .slice none 0 0] 25)) (L := L + 1) (n := z) (((brf _ _).alloc (nlr _) _).alloc (by simp) _);simpa using this
 generalize ((w.alloc (.cells #[.int .i64 z, .slice oA on oc, .slice rA rn rc, .slice bA bn bc] 25)).alloc (.cells #[.int .i64 0, .slice none 0 0, .slice none 0 0, .slice none 0 0] 25)).alloc (.cells #[.int .i64 z, .slice none 0 0, .slice none 0 0, .slice none 0 0] 25) = W0 at *;go_wp2;go_loopw [4] (fun t W => OwL1 w ⟨z, ⟨oA, on, oc⟩, ⟨rA, rn, rc⟩, ⟨bA, bn, bc⟩⟩ (w.heap.size + 1 + 1) (L + 1) os t W) (fun t _ => on - (intOf t).toNat)
 case atStart => exact H1.out
 case round =>
  clear H1;obtain ⟨i, hi, rfl, bP, bR, hM⟩ := hrel;by_cases hlt : i < on
  ·skip
   have ht := zCd (l := os) (i := i) (by have := HOl.out; omega) [];have HT := hdq ht;have hTl : (os.take i).length = i := by rw [List.length_take]; have := HOl.out; omega
   have HTl := hdq hTl;clear ht hTl;obtain ⟨va, vb, vc, G, s1, s2, s3, l1, l2, l3, hQ, e1, e2, e3⟩ := hM;have HE := hdq (And.intro l1 (And.intro l2 (And.intro l3 (And.intro e1 (And.intro e2 e3)))));clear l1 l2 l3 e1 e2 e3;obtain ⟨ad, r, e, -, r0, hr⟩ := (H.out.obj.below hQ.bel).row i hlt;dsimp only at e;subst e;obtain ⟨qA, qn, qc⟩ := r;have HRw := hdq hr;have hrl := hr.len;dsimp only at hrl
   have hqn : Hid (qn ≤ 1000) := by
    have h1 := HO.out i;show qn ≤ 1000; omega
   clear hr hrl;obtain ⟨c0, c1, c2, c3, cf⟩ := hQ.cells;have hdl := hQ.dlt;obtain ⟨p0, p1, p2, p3, -⟩ := id bP;dsimp only at p0 p1 p2 p3;have hbl := hQ.bel.size;have hal : (ad.add i).block < wr.heap.size := zAa r0
   have hal0 : (ad.add i).block < w.heap.size := by
    obtain ⟨ad2, r2, e2, -, r02, -⟩ := H.out.obj.row i hlt;cases e2;exact zAa r02
   have t0 : w.heap.size < wr.heap.size := zAa p0;have hdr : Below wr.heap.size wr wr.drew := (brf _ _).drew;(go_upto_region 5 with fail);refine zAo 15 (OwnS w.heap.size wr ⟨w.heap.size, 1, none⟩ (ad.add i) (.slice (some ad) on oc) (.slice qA qn qc)) (by kernel_rfl) ?_;have hS0 : Sees w.heap.size [] wr wr.drew := Sees.st (by simp) hbl;have hp0 : wr.drew.cell? ⟨w.heap.size, 1, none⟩ = some (.slice (some ad) on oc) := p1;have hr0 : wr.drew.cell? (ad.add i) = some (.slice qA qn qc) := r0;refine tkX 0 (⟨fun _ => hS0, hp0, hr0⟩) ?_;simp only [zz];refine tkX 2 (⟨fun _ => hS0, hp0, hr0⟩) ?_;simp only [zz];refine tkX 4 (⟨fun _ => hS0, hp0, hr0⟩) ?_;simp only [zz];refine tkX 7 (⟨fun _ => hS0, hp0, hr0⟩) ?_;simp only [zz];refine tkX 9 (⟨fun _ => hS0, hp0, hr0⟩) ?_;simp only [zz];refine tkW 1 (va) (fun w' hSw => ?_) (⟨fun _ => hS0, hp0, hr0⟩) ?_
   ·(replace hSw := hSw.1 rfl; go_simp; try with_reducible rfl)
   simp only [zz];refine takeA (i := 3) (.slice (some ad) on oc) rfl rfl (by kernel_rfl) (by kernel_rfl) (by kernel_rfl) (by decide) (fun _ _ _ h => h) (by rfl) (fun w' hSw => ?_) (⟨fun _ => hS0, hp0, hr0⟩) ?_
   ·(obtain ⟨_, -, hc2, -⟩ := hSw; go_simp; try with_reducible rfl)
   simp only [zz];refine takeA (i := 8) (.slice (some ad) on oc) rfl rfl (by kernel_rfl) (by kernel_rfl) (by kernel_rfl) (by decide) (fun _ _ _ h => h) (by rfl) (fun w' hSw => ?_) (⟨fun _ => hS0, hp0, hr0⟩) ?_
   ·(obtain ⟨_, -, hc2, -⟩ := hSw; go_simp; try with_reducible rfl)
   simp only [zz];refine tkX 5 (⟨fun _ => hS0, hp0, hr0⟩) ?_;simp only [zz];refine tkX 10 (⟨fun _ => hS0, hp0, hr0⟩) ?_;simp only [zz];refine takeA (i := 6) (.slice qA qn qc) rfl rfl (by kernel_rfl) (by kernel_rfl) (by kernel_rfl) (by decide) (fun _ _ _ h => h) (by rfl) (fun w' hSw => ?_) (⟨fun _ => hS0, hp0, hr0⟩) ?_
   ·(obtain ⟨_, -, -, hc2⟩ := hSw; go_simp; try with_reducible rfl)
   simp only [zz];refine takeA (i := 11) (.slice qA qn qc) rfl rfl (by kernel_rfl) (by kernel_rfl) (by kernel_rfl) (by decide) (fun _ _ _ h => h) (by rfl) (fun w' hSw => ?_) (⟨fun _ => hS0, hp0, hr0⟩) ?_
   ·(obtain ⟨_, -, -, hc2⟩ := hSw; go_simp; try with_reducible rfl)
   simp only [zz];refine tkX 12 (⟨fun _ => hS0, hp0, hr0⟩) ?_;simp only [zz];refine oneW (i := 13) (by kernel_rfl) rfl (by rfl) ?_;intro K hK;go_simp;(with_reducible refine (zDb (s := ⟨qA, qn, qc⟩) (HRw.out.below hdr) hqn.out HL.out).mono ?_);rintro e w1 ⟨⟨⟨zA, zn, zc⟩, rfl, hz⟩, hb1⟩;have hS1 := Kept.call2 hb1 hS0;have hb1' : Below wr.heap.size wr w1 := hdr.trans hb1;have Hnew := hdq (zIX hQ hz HRw.out.fit);have hp1 : w1.cell? ⟨w.heap.size, 1, none⟩ = some (.slice (some ad) on oc) := (hb1'.cell (p := ⟨w.heap.size, 1, none⟩) t0).trans p1;have hr1 : w1.cell? (ad.add i) = some (.slice qA qn qc) := (hb1'.cell (p := ad.add i) hal).trans r0;refine hK.out _ _ ⟨fun _ => hS1, hp1, hr1⟩ ?_;clear hK K hz hb1;refine oneW (i := 14) (by kernel_rfl) rfl (by rfl) ?_;intro K hK;go_simp;have hw1 : w.heap.size < w1.heap.size := ltl t0 hb1'.size;have hw2 : (ad.add i).block < w1.heap.size := ltl hal hb1'.size;refine hK.out _ _ ⟨fun _ => Sees.al hS1, (World.cell?_alloc_lt _ _ _ hw1).trans hp1, (World.cell?_alloc_lt _ _ _ hw2).trans hr1⟩ ?_;clear hK K;have hown := (zH5 (hQ.call hb1')).1;rw [HTl.out] at hown;refine oneW (i := 15) (by kernel_rfl) rfl (by rfl) ?_;intro K hK;refine zAC _ _ 22 rfl (w.heap.size + 1 + 1) 23 ii0 (.slice none 0 0) 1 24 Tryz.underlying22 hii hzi0 hzi1 hzi2 rfl (by decide) va i (s1.map SV.val) rfl (hown.alloc _) ⟨w1.heap.size, 0, none⟩ 1 1 [.slice zA zn zc] rfl rfl (cell_one_new _ _ _) (by intro u hu; simp at hu; rcases hu with rfl <;> rfl) (by simp [maxLen]; omega) (by omega) (by have := hb1'.size; simp; omega) ?_;intro v' W5 hown5 hg5 hnil5 hat5;have d1 : W5.cell? ⟨w.heap.size + 1 + 1, 1, none⟩ = some va := (cob (a := ⟨w.heap.size + 1 + 1, 1, none⟩) ((hQ.call hb1').app_blk (f := 1) (by omega) (by omega) hg5 (ltl hdl hb1'.size) (.inr rfl))).trans ((hb1'.cell (p := ⟨w.heap.size + 1 + 1, 1, none⟩) hdl).trans c1);have df : ∀ o, W5.frozen? ⟨w.heap.size + 1 + 1, o, none⟩ = false := (fun o => (World.frozen?_of_block (a := ⟨w.heap.size + 1 + 1, o, none⟩) ((hQ.call hb1').app_blk (f := 1) (by omega) (by omega) hg5 (ltl hdl hb1'.size) (.inr rfl))).trans ((hQ.call hb1').cells.2.2.2.2 o));have hlow : ∀ x, x < w.heap.size + 1 + 1 → x < wr.heap.size → ¬ G x := fun x hx _ hg => by have := (hQ.gin _ hg).1; omega
   have Hm : Hid (ExMid w (w.heap.size + 1 + 1) (w.heap.size + 1 + 1) z (L + 1) (os.take (i + 1)) [] [] (W5.setCell ⟨w.heap.size + 1 + 1, 1, none⟩ v') ∧ ∀ x, x < wr.heap.size → ¬ G x → (W5.setCell ⟨w.heap.size + 1 + 1, 1, none⟩ v').heap[x]? = wr.heap[x]?) := by
    obtain ⟨l1, l2, l3, e1, e2, e3⟩ := HE.out;rw [HT.out];refine zI4 l1 l2 l3 hQ e1 e2 e3 hb1' (x := ⟨zA, zn, zc⟩) Hnew.out ?_ hg5 hat5;rw [HTl.out]; exact hown5
   have h5 : ∀ x, x < w.heap.size + 1 + 1 → x < wr.heap.size → W5.heap[x]? = wr.heap[x]? := (fun x h1 h2 => ((hQ.call hb1').app_blk (f := 1) (by omega) (by omega) hg5 (ltl h2 hb1'.size) (.inl (hlow x h1 h2))).trans (hb1'.block x h2));have hp5 : W5.cell? ⟨w.heap.size, 1, none⟩ = some (.slice (some ad) on oc) := (cob (a := ⟨w.heap.size, 1, none⟩) (h5 _ (show w.heap.size < w.heap.size + 1 + 1 by omega) t0)).trans p1;have hr5 : W5.cell? (ad.add i) = some (.slice qA qn qc) := (cob (a := ad.add i) (h5 _ (show (ad.add i).block < w.heap.size + 1 + 1 by omega) hal)).trans r0;have hP2 : w.heap.size + 1 < wr.heap.size := zAa bR.1;have bP5 := bP.heap (Hm.out.2 _ t0 (hlow _ (by omega) t0));have bR5 := bR.heap (Hm.out.2 _ hP2 (hlow _ (by omega) hP2));have HP5 := hdq (And.intro bP5 bR5);clear bP5 bR5 bP bR;obtain ⟨g5, c5, rfl⟩ := ownsRow_succ hown5;simp only [Act.put, zz];refine hK.out _ _ ⟨fun h => absurd h (by decide), hp5, hr5⟩ ?_;clear hK K hown hown5 hg5 hat5 hnil5 hS0 hS1 hQ HE Hnew p0 p1 p2 p3 c0 c1 c2 c3 cf hb1' hp0 hr0 hp1 hr1 r0;refine oneW (i := 16) (by kernel_rfl) rfl (by rfl) ?_;intro K hK;go_simp;refine hK.out _ _ ⟨fun h => absurd h (by decide), hp5, hr5⟩ ?_;clear hK K;refine oneW (i := 17) (by kernel_rfl) rfl (by rfl) ?_;intro K hK;go_simp;refine hK.out _ _ ⟨fun h => absurd h (by decide), ?_, ?_⟩ ?_
   ·exact (cob (a := ⟨w.heap.size, 1, none⟩) (bhs _ _ _ _ (show w.heap.size ≠ w.heap.size + 1 + 1 by omega))).trans hp5
   ·exact (cob (a := ad.add i) (bhs _ _ _ _ (show (ad.add i).block ≠ w.heap.size + 1 + 1 by omega))).trans hr5
   clear hK K d1 df hp5 hr5;refine zAf (by kernel_rfl) ?_ _;have Hfin : Hid (OwL1 w ⟨z, ⟨some ad, on, oc⟩, ⟨rA, rn, rc⟩, ⟨bA, bn, bc⟩⟩ (w.heap.size + 1 + 1) (L + 1) os (.int .i64 ((i : Int) + 1)) (W5.setCell ⟨w.heap.size + 1 + 1, 1, none⟩ (.slice (some ⟨g5, 0, none⟩) (i + 1) c5))) := ⟨i + 1, hlt, by simp, HP5.out.1, HP5.out.2, Hm.out.1⟩;clear Hm HP5 h5 hlow;generalize W5.setCell ⟨w.heap.size + 1 + 1, 1, none⟩ (.slice (some ⟨g5, 0, none⟩) (i + 1) c5) = wq at *;go_wp2;go_roundw;case rel => first | exact Hfin.out | ((repeat apply Exists.intro); exact ⟨Hfin.out, rfl⟩)
   case measure => simp [intOf]; omega
  ·dsimp only at hi;(obtain rfl : on = i := by omega);rw [show os.take on = os by rw [← HOl.out]; exact List.take_length] at hM;obtain ⟨p0, p1, p2, p3, -⟩ := id bP;dsimp only at p0 p1 p2 p3;have H2 : Hid (OwL2 w ⟨z, ⟨oA, on, oc⟩, ⟨rA, rn, rc⟩, ⟨bA, bn, bc⟩⟩ (w.heap.size + 1 + 1) (L + 1) os rs (.int .i64 0) wr) := ⟨0, nzl _, rfl, bP, bR, by rw [List.take_zero]; exact hM⟩;clear hM bP bR hi hlt;go_wp2;clear p0 p1 p2 p3;obtain ⟨wo, hwo⟩ : ∃ wo : World, wo = wr := ⟨_, rfl⟩;rw [← hwo] at H2 ⊢;clear hwo;(go_loopw [5] (fun t W => OwL2 w ⟨z, ⟨oA, on, oc⟩, ⟨rA, rn, rc⟩, ⟨bA, bn, bc⟩⟩ (w.heap.size + 1 + 1) (L + 1) os rs t W) (fun t _ => rn - (intOf t).toNat));case atStart => exact H2.out
   case round =>
    clear H2;obtain ⟨i, hi, rfl, bP, bR, hM⟩ := hrel;by_cases hlt : i < rn
    ·skip
     have ht := zCd (l := rs) (i := i) (by have := HRl.out; omega) [];have HT := hdq ht;have hTl : (rs.take i).length = i := by rw [List.length_take]; have := HRl.out; omega
     have HTl := hdq hTl;clear ht hTl;obtain ⟨va, vb, vc, G, s1, s2, s3, l1, l2, l3, hQ, e1, e2, e3⟩ := hM;have HE := hdq (And.intro l1 (And.intro l2 (And.intro l3 (And.intro e1 (And.intro e2 e3)))));clear l1 l2 l3 e1 e2 e3;obtain ⟨ad, r, e, -, r0, hr⟩ := (H.out.rows.below hQ.bel).row i hlt;dsimp only at e;subst e;obtain ⟨qA, qn, qc⟩ := r;have HRw := hdq hr;have hrl := hr.len;dsimp only at hrl
     have hqn : Hid (qn ≤ 1000) := by
      have h1 := HR.out i;show qn ≤ 1000; omega
     clear hr hrl;obtain ⟨c0, c1, c2, c3, cf⟩ := hQ.cells;have hdl := hQ.dlt;obtain ⟨p0, p1, p2, p3, -⟩ := id bP;dsimp only at p0 p1 p2 p3;have hbl := hQ.bel.size;have hal : (ad.add i).block < wr.heap.size := zAa r0
     have hal0 : (ad.add i).block < w.heap.size := by
      obtain ⟨ad2, r2, e2, -, r02, -⟩ := H.out.rows.row i hlt;cases e2;exact zAa r02
     have t0 : w.heap.size < wr.heap.size := zAa p0;have hdr : Below wr.heap.size wr wr.drew := (brf _ _).drew;(go_upto_region 9 with fail);refine zAo 15 (OwnS w.heap.size wr ⟨w.heap.size, 2, none⟩ (ad.add i) (.slice (some ad) rn rc) (.slice qA qn qc)) (by kernel_rfl) ?_;have hS0 : Sees w.heap.size [] wr wr.drew := Sees.st (by simp) hbl;have hp0 : wr.drew.cell? ⟨w.heap.size, 2, none⟩ = some (.slice (some ad) rn rc) := p2;have hr0 : wr.drew.cell? (ad.add i) = some (.slice qA qn qc) := r0;refine tkX 0 (⟨fun _ => hS0, hp0, hr0⟩) ?_;simp only [zz];refine tkX 2 (⟨fun _ => hS0, hp0, hr0⟩) ?_;simp only [zz];refine tkX 4 (⟨fun _ => hS0, hp0, hr0⟩) ?_;simp only [zz];refine tkX 7 (⟨fun _ => hS0, hp0, hr0⟩) ?_;simp only [zz];refine tkX 9 (⟨fun _ => hS0, hp0, hr0⟩) ?_;simp only [zz];refine tkW 1 (vb) (fun w' hSw => ?_) (⟨fun _ => hS0, hp0, hr0⟩) ?_
     ·(replace hSw := hSw.1 rfl; go_simp; try with_reducible rfl)
     simp only [zz];refine takeA (i := 3) (.slice (some ad) rn rc) rfl rfl (by kernel_rfl) (by kernel_rfl) (by kernel_rfl) (by decide) (fun _ _ _ h => h) (by rfl) (fun w' hSw => ?_) (⟨fun _ => hS0, hp0, hr0⟩) ?_
     ·(obtain ⟨_, -, hc2, -⟩ := hSw; go_simp; try with_reducible rfl)
     simp only [zz];refine takeA (i := 8) (.slice (some ad) rn rc) rfl rfl (by kernel_rfl) (by kernel_rfl) (by kernel_rfl) (by decide) (fun _ _ _ h => h) (by rfl) (fun w' hSw => ?_) (⟨fun _ => hS0, hp0, hr0⟩) ?_
     ·(obtain ⟨_, -, hc2, -⟩ := hSw; go_simp; try with_reducible rfl)
     simp only [zz];refine tkX 5 (⟨fun _ => hS0, hp0, hr0⟩) ?_;simp only [zz];refine tkX 10 (⟨fun _ => hS0, hp0, hr0⟩) ?_;simp only [zz];refine takeA (i := 6) (.slice qA qn qc) rfl rfl (by kernel_rfl) (by kernel_rfl) (by kernel_rfl) (by decide) (fun _ _ _ h => h) (by rfl) (fun w' hSw => ?_) (⟨fun _ => hS0, hp0, hr0⟩) ?_
     ·(obtain ⟨_, -, -, hc2⟩ := hSw; go_simp; try with_reducible rfl)
     simp only [zz];refine takeA (i := 11) (.slice qA qn qc) rfl rfl (by kernel_rfl) (by kernel_rfl) (by kernel_rfl) (by decide) (fun _ _ _ h => h) (by rfl) (fun w' hSw => ?_) (⟨fun _ => hS0, hp0, hr0⟩) ?_
     ·(obtain ⟨_, -, -, hc2⟩ := hSw; go_simp; try with_reducible rfl)
     simp only [zz];refine tkX 12 (⟨fun _ => hS0, hp0, hr0⟩) ?_;simp only [zz];refine oneW (i := 13) (by kernel_rfl) rfl (by rfl) ?_;intro K hK;go_simp;(with_reducible refine (zDb (s := ⟨qA, qn, qc⟩) (HRw.out.below hdr) hqn.out HL.out).mono ?_);rintro e w1 ⟨⟨⟨zA, zn, zc⟩, rfl, hz⟩, hb1⟩;have hS1 := Kept.call2 hb1 hS0;have hb1' : Below wr.heap.size wr w1 := hdr.trans hb1;have Hnew := hdq (zIX hQ hz HRw.out.fit);have hp1 : w1.cell? ⟨w.heap.size, 2, none⟩ = some (.slice (some ad) rn rc) := (hb1'.cell (p := ⟨w.heap.size, 2, none⟩) t0).trans p2;have hr1 : w1.cell? (ad.add i) = some (.slice qA qn qc) := (hb1'.cell (p := ad.add i) hal).trans r0;refine hK.out _ _ ⟨fun _ => hS1, hp1, hr1⟩ ?_;clear hK K hz hb1;refine oneW (i := 14) (by kernel_rfl) rfl (by rfl) ?_;intro K hK;go_simp;have hw1 : w.heap.size < w1.heap.size := ltl t0 hb1'.size;have hw2 : (ad.add i).block < w1.heap.size := ltl hal hb1'.size;refine hK.out _ _ ⟨fun _ => Sees.al hS1, (World.cell?_alloc_lt _ _ _ hw1).trans hp1, (World.cell?_alloc_lt _ _ _ hw2).trans hr1⟩ ?_;clear hK K;have hown := (zH5 (hQ.call hb1')).2.1;rw [HTl.out] at hown;refine oneW (i := 15) (by kernel_rfl) rfl (by rfl) ?_;intro K hK;refine zAC _ _ 22 rfl (w.heap.size + 1 + 1) 23 ii0 (.slice none 0 0) 1 24 Tryz.underlying22 hii hzi0 hzi1 hzi2 rfl (by decide) vb i (s2.map SV.val) rfl (hown.alloc _) ⟨w1.heap.size, 0, none⟩ 1 1 [.slice zA zn zc] rfl rfl (cell_one_new _ _ _) (by intro u hu; simp at hu; rcases hu with rfl <;> rfl) (by simp [maxLen]; omega) (by omega) (by have := hb1'.size; simp; omega) ?_;intro v' W5 hown5 hg5 hnil5 hat5;have d1 : W5.cell? ⟨w.heap.size + 1 + 1, 2, none⟩ = some vb := (cob (a := ⟨w.heap.size + 1 + 1, 2, none⟩) ((hQ.call hb1').app_blk (f := 2) (by omega) (by omega) hg5 (ltl hdl hb1'.size) (.inr rfl))).trans ((hb1'.cell (p := ⟨w.heap.size + 1 + 1, 2, none⟩) hdl).trans c2);have df : ∀ o, W5.frozen? ⟨w.heap.size + 1 + 1, o, none⟩ = false := (fun o => (World.frozen?_of_block (a := ⟨w.heap.size + 1 + 1, o, none⟩) ((hQ.call hb1').app_blk (f := 2) (by omega) (by omega) hg5 (ltl hdl hb1'.size) (.inr rfl))).trans ((hQ.call hb1').cells.2.2.2.2 o));have hlow : ∀ x, x < w.heap.size + 1 + 1 → x < wr.heap.size → ¬ G x := fun x hx _ hg => by have := (hQ.gin _ hg).1; omega
     have Hm : Hid (ExMid w (w.heap.size + 1 + 1) (w.heap.size + 1 + 1) z (L + 1) os (rs.take (i + 1)) [] (W5.setCell ⟨w.heap.size + 1 + 1, 2, none⟩ v') ∧ ∀ x, x < wr.heap.size → ¬ G x → (W5.setCell ⟨w.heap.size + 1 + 1, 2, none⟩ v').heap[x]? = wr.heap[x]?) := by
      obtain ⟨l1, l2, l3, e1, e2, e3⟩ := HE.out;rw [HT.out];refine zI5 l1 l2 l3 hQ e1 e2 e3 hb1' (x := ⟨zA, zn, zc⟩) Hnew.out ?_ hg5 hat5;rw [HTl.out]; exact hown5
     have h5 : ∀ x, x < w.heap.size + 1 + 1 → x < wr.heap.size → W5.heap[x]? = wr.heap[x]? := (fun x h1 h2 => ((hQ.call hb1').app_blk (f := 2) (by omega) (by omega) hg5 (ltl h2 hb1'.size) (.inl (hlow x h1 h2))).trans (hb1'.block x h2));have hp5 : W5.cell? ⟨w.heap.size, 2, none⟩ = some (.slice (some ad) rn rc) := (cob (a := ⟨w.heap.size, 2, none⟩) (h5 _ (show w.heap.size < w.heap.size + 1 + 1 by omega) t0)).trans p2;have hr5 : W5.cell? (ad.add i) = some (.slice qA qn qc) := (cob (a := ad.add i) (h5 _ (show (ad.add i).block < w.heap.size + 1 + 1 by omega) hal)).trans r0;have hP2 : w.heap.size + 1 < wr.heap.size := zAa bR.1;have bP5 := bP.heap (Hm.out.2 _ t0 (hlow _ (by omega) t0));have bR5 := bR.heap (Hm.out.2 _ hP2 (hlow _ (by omega) hP2));have HP5 := hdq (And.intro bP5 bR5);clear bP5 bR5 bP bR;obtain ⟨g5, c5, rfl⟩ := ownsRow_succ hown5;simp only [Act.put, zz];refine hK.out _ _ ⟨fun h => absurd h (by decide), hp5, hr5⟩ ?_;clear hK K hown hown5 hg5 hat5 hnil5 hS0 hS1 hQ HE Hnew p0 p1 p2 p3 c0 c1 c2 c3 cf hb1' hp0 hr0 hp1 hr1 r0;refine oneW (i := 16) (by kernel_rfl) rfl (by rfl) ?_;intro K hK;go_simp;refine hK.out _ _ ⟨fun h => absurd h (by decide), hp5, hr5⟩ ?_;clear hK K;refine oneW (i := 17) (by kernel_rfl) rfl (by rfl) ?_;intro K hK;go_simp;refine hK.out _ _ ⟨fun h => absurd h (by decide), ?_, ?_⟩ ?_
     ·exact (cob (a := ⟨w.heap.size, 2, none⟩) (bhs _ _ _ _ (show w.heap.size ≠ w.heap.size + 1 + 1 by omega))).trans hp5
     ·exact (cob (a := ad.add i) (bhs _ _ _ _ (show (ad.add i).block ≠ w.heap.size + 1 + 1 by omega))).trans hr5
     clear hK K d1 df hp5 hr5;refine zAf (by kernel_rfl) ?_ _;have Hfin : Hid (OwL2 w ⟨z, ⟨oA, on, oc⟩, ⟨some ad, rn, rc⟩, ⟨bA, bn, bc⟩⟩ (w.heap.size + 1 + 1) (L + 1) os rs (.int .i64 ((i : Int) + 1)) (W5.setCell ⟨w.heap.size + 1 + 1, 2, none⟩ (.slice (some ⟨g5, 0, none⟩) (i + 1) c5))) := ⟨i + 1, hlt, by simp, HP5.out.1, HP5.out.2, Hm.out.1⟩;clear Hm HP5 h5 hlow;generalize W5.setCell ⟨w.heap.size + 1 + 1, 2, none⟩ (.slice (some ⟨g5, 0, none⟩) (i + 1) c5) = wq at *;go_wp2;go_roundw;case rel => first | exact Hfin.out | ((repeat apply Exists.intro); exact ⟨Hfin.out, rfl⟩)
     case measure => simp [intOf]; omega
    ·dsimp only at hi;(obtain rfl : rn = i := by omega);rw [show rs.take rn = rs by rw [← HRl.out]; exact List.take_length] at hM;obtain ⟨p0, p1, p2, p3, -⟩ := id bP;dsimp only at p0 p1 p2 p3;obtain ⟨r0, r1, r2, r3, rf⟩ := id bR;obtain ⟨g, gc, ⟨RA, Rn, Rc⟩, vc, hRn, hblk, hg, hgd, hd, hgc1, hgc2, hcur, hrow, hmat, hbel, hge⟩ := zH6 hM (by rw [HOl.out]; exact ho1);have HG := hdq (And.intro hRn (And.intro hg (And.intro hgd (And.intro hgc1 (And.intro hgc2 (And.intro hcur (And.intro hrow hmat)))))));have hbl := hbel.size;have HBn := hdq (H.out.bounds.below hbel);(obtain ⟨c0, c1, c2, c3, cf⟩ : wr.cell? ⟨w.heap.size + 1 + 1, 0, none⟩ = some (.int .i64 z) ∧ wr.cell? ⟨w.heap.size + 1 + 1, 1, none⟩ = some (.slice (some ⟨g, 0, none⟩) os.length gc) ∧ wr.cell? ⟨w.heap.size + 1 + 1, 2, none⟩ = some (.slice RA Rn Rc) ∧ wr.cell? ⟨w.heap.size + 1 + 1, 3, none⟩ = some vc ∧ ∀ o, wr.frozen? ⟨w.heap.size + 1 + 1, o, none⟩ = false := by simp [World.cell?, World.frozen?, hblk]);clear hRn hg hgd hd hgc1 hgc2 hcur hrow hmat hge hM bP hi hlt;(go_wp2_with fail);refine (zDb (s := ⟨bA, bn, bc⟩) HBn.out hb HL.out).mono ?_;rintro e w1 ⟨⟨⟨zA, zn, zc⟩, rfl, hz⟩, hb1⟩;have HZ := hdq (hz.loose HBn.out.fit);clear hz;have hd1 : w.heap.size + 1 + 1 < wr.heap.size := zAa c0;have hr1 : w.heap.size + 1 < wr.heap.size := zAa r0;have bD : Box4 wr (w.heap.size + 1 + 1) (.int .i64 z) (.slice (some ⟨g, 0, none⟩) os.length gc) (.slice RA Rn Rc) vc := ⟨c0, c1, c2, c3, cf⟩;replace bD := bD.below hb1 hd1;replace bR := bR.below hb1 hr1;clear c0 c1 c2 c3 cf r0 r1 r2 r3 rf p0 p1 p2 p3;obtain ⟨c0, c1, c2, c3, cf⟩ := id bD;obtain ⟨r0, r1, r2, r3, rf⟩ := id bR;(go_upto_region 11 with fail);have k6 : ∀ b, b ≠ w.heap.size + 1 + 1 → (w1.setCell ⟨w.heap.size + 1 + 1, 3, none⟩ (.slice zA zn zc)).heap[b]? = w1.heap[b]? := (fun b hb => bhs _ _ _ _ hb);have bD6 : Box4 (w1.setCell ⟨w.heap.size + 1 + 1, 3, none⟩ (.slice zA zn zc)) (w.heap.size + 1 + 1) (.int .i64 z) (.slice (some ⟨g, 0, none⟩) os.length gc) (.slice RA Rn Rc) (.slice zA zn zc) := ⟨by go_simp, by go_simp, by go_simp, by go_simp, by intro o; go_simp⟩;have bR6 := bR.heap (k6 _ (show w.heap.size + 1 ≠ w.heap.size + 1 + 1 by omega));have hb6 : Below w.heap.size w1 (w1.setCell ⟨w.heap.size + 1 + 1, 3, none⟩ (.slice zA zn zc)) := (brf _ _).setCell (p := ⟨w.heap.size + 1 + 1, 3, none⟩) (show w.heap.size ≤ w.heap.size + 1 + 1 by omega) _;have hs6 : (w1.setCell ⟨w.heap.size + 1 + 1, 3, none⟩ (.slice zA zn zc)).heap.size = w1.heap.size := (by simp [World.setCell]);generalize w1.setCell ⟨w.heap.size + 1 + 1, 3, none⟩ (.slice zA zn zc) = w6 at *;clear c0 c1 c2 c3 cf r0 r1 r2 r3 rf bD bR;obtain ⟨c0, c1, c2, c3, cf⟩ := id bD6;obtain ⟨r0, r1, r2, r3, rf⟩ := id bR6;go_wp2;have P8 := Put.four (W := w6) (w.heap.size + 1) (.int .i64 z) (.slice (some ⟨g, 0, none⟩) os.length gc) (.slice RA Rn Rc) (.slice zA zn zc);have bR8 := bR6.stored (.int .i64 z) (.slice (some ⟨g, 0, none⟩) os.length gc) (.slice RA Rn Rc) (.slice zA zn zc);generalize (((w6.setCell ⟨w.heap.size + 1, 0, none⟩ (.int .i64 z)).setCell ⟨w.heap.size + 1, 1, none⟩ (.slice (some ⟨g, 0, none⟩) os.length gc)).setCell ⟨w.heap.size + 1, 2, none⟩ (.slice RA Rn Rc)).setCell ⟨w.heap.size + 1, 3, none⟩ (.slice zA zn zc) = y8 at *;clear r0 r1 r2 r3 rf;obtain ⟨r0, r1, r2, r3, -⟩ := id bR8;obtain ⟨-, g1, g2, g3, g4, g5, g6, g7, g8⟩ := (⟨trivial, HG.out⟩ : True ∧ _);refine bodyPost_ret (v := .agg #[.int .i64 z, .slice (some ⟨g, 0, none⟩) os.length gc, .slice RA Rn Rc, .slice zA zn zc]) (by simp [results, Tryz.results19, go_sem, r0, r1, r2, r3]) rfl ⟨⟨⟨z, ⟨some ⟨g, 0, none⟩, os.length, gc⟩, ⟨RA, Rn, Rc⟩, ⟨zA, zn, zc⟩⟩, g, rfl, rfl, ?_⟩, ?_⟩
     ·exact zI9 g2 g3 (by omega) (by omega) hd1 g4 g5 g6 g7 g8 hb1 HZ.out fun b h1 h2 => (P8.keep b h2).trans (k6 b h1)
     ·exact ((hbel.trans (hb1.mono hbl)).trans hb6).trans (P8.below _ (by omega))
theorem zII {y : World} {L k0 k1 k2 k3 b1 b2 b3 : Nat} {n : Int} {os rs : List (List Rat)} {bs : List Rat} (h1 : MPart k0 k1 b1 os y) (h2 : MPart k1 k2 b2 rs y) (h3 : VPart k2 k3 b3 bs y)
  (n1 : os.length ≤ 1000000) (n2 : rs.length ≤ 1000000) (n3 : bs.length ≤ 1000000) (f1 : ∀ i k, QFit L ((os.getD i []).getD k 0)) (f2 : ∀ i k, QFit L ((rs.getD i []).getD k 0)) (f3 : ∀ k, QFit L (bs.getD k 0)) :
  LPIs y (fun b => k0 ≤ b) (fun b => k0 ≤ b) L ⟨n, ⟨some ⟨b1, 0, none⟩, os.length, os.length⟩, ⟨some ⟨b2, 0, none⟩, rs.length, rs.length⟩, ⟨some ⟨b3, 0, none⟩, bs.length, bs.length⟩⟩ os rs bs := by
 have q1 := h1.1; have q1' := h1.2.1; have q2 := h2.1; have q2' := h2.2.1; have q3 := h3.1; have q3' := h3.2.1
 obtain ⟨s1, l1, o1, e1⟩ := h1.own (B := k0) (nlr _) n1;obtain ⟨s2, l2, o2, e2⟩ := h2.own (B := k0) (by omega) n2;obtain ⟨s3, l3, o3, e3⟩ := h3.own (B := k0) (by omega) n3;obtain ⟨⟨x1A, x1n, x1c⟩, v1, -, m1⟩ := zGD o1 l1 rfl fun k hk => ((e1 k hk).loose (f1 k)).imp (fun _ _ hx => hx.1) fun _ _ hq => hq.imp fun _ _ hx => hx.1
 obtain ⟨⟨x2A, x2n, x2c⟩, v2, -, m2⟩ := zGD o2 l2 rfl fun k hk => ((e2 k hk).loose (f2 k)).imp (fun _ _ hx => by have := hx.1; omega) fun _ _ hq => hq.imp fun _ _ hx => by have := hx.1; omega
 obtain ⟨⟨x3A, x3n, x3c⟩, v3, -, m3⟩ := zIH o3 l3 rfl fun k hk => ((e3 k hk).qis (f3 k)).imp fun _ _ hx => by have := hx.1; omega
 simp only [SV.val, Value.slice.injEq] at v1 v2 v3;obtain ⟨rfl, rfl, rfl⟩ := v1;obtain ⟨rfl, rfl, rfl⟩ := v2;obtain ⟨rfl, rfl, rfl⟩ := v3;exact ⟨m1, m2, m3⟩
set_option maxRecDepth 40000 in
theorem zCc {w : World} {X Y : Nat → Prop} {L V : Nat} {p : LPV} {os rs : List (List Rat)} {bs : List Rat} (h : LPIs w X Y L p os rs bs) (hV : p.n = V) (hV2 : V ≤ 64) (ho1 : 1 ≤ p.O.n) (ho2 : p.O.n ≤ 4) (hr : p.R.n ≤ 128) (hb : p.B.n = p.R.n) (hco : colsOf os ≤ V) (hcr : colsOf rs ≤ V) (hL : L ≤ LM) :
  Calls Tryz.prog 23 #[p.val, .int .i64 0] w fun e w' => LPRet w p.n (L + 1) [os.getD 0 []] rs bs e w' ∧ Below w.heap.size w w' := by
 obtain ⟨z, ⟨oA, on, oc⟩, ⟨rA, rn, rc⟩, ⟨bA, bn, bc⟩⟩ := p;dsimp only at hV hr hb ho1 ho2;subst hV;obtain rfl : rn = bn := hb.symm;obtain ⟨ad, r, eA, hXa, r0, hr0⟩ := h.obj.row 0 ho1;dsimp only at eA;subst eA;have hoc1 : on ≤ oc := h.obj.le;have hoc2 : oc ≤ 9223372036854775807 := h.obj.cap;have H := hdq h;have HCo := hdq hco;have HCr := hdq hcr;have HL := hdq hL
 have H1 : Hid (LPIs w X Y L ⟨V, ⟨some ad, 1, oc⟩, ⟨rA, rn, rc⟩, ⟨bA, rn, bc⟩⟩ [os.getD 0 []] rs bs) := ⟨⟨rfl, by show 1 ≤ oc; omega, hoc2, fun i hi => by
  obtain rfl : i = 0 := by have : i < 1 := hi; omega
  exact ⟨ad, r, rfl, hXa, r0, hr0⟩⟩, h.rows, h.bounds⟩
 have HRl : Hid (rs.length = rn) := h.rows.len;have HBl : Hid (bs.length = rn) := h.bounds.len;clear h hco hcr hL hr0 r0 hXa;dsimp only [LPV.val] at *;go_enter Tryz.func23, Tryz.ntmps23
 go_upto_region 1 with fail
 refine zAi (fun W => Below w.heap.size w W ∧ Box4 W w.heap.size (.int .i64 V) (.slice (some ad) on oc) (.slice rA rn rc) (.slice bA rn bc) ∧ Box4 W (w.heap.size + 1) (.int .i64 0) (.slice none 0 0) (.slice none 0 0) (.slice none 0 0) ∧ w.heap.size < W.heap.size ∧ w.heap.size + 1 < W.heap.size) ⟨(((brf _ _).alloc (by simp <;> omega) _).alloc (by simp <;> omega) _), ⟨by go_simp, by go_simp, by go_simp, by go_simp, by intro o; go_simp⟩, ⟨by go_simp, by go_simp, by go_simp, by go_simp, by intro o; go_simp⟩, by simp <;> omega, by simp <;> omega⟩ ?_;rintro W ⟨hbW, bP, bR, s0, s1⟩;have hBW := hbW.size;obtain ⟨p0, p1, p2, p3, -⟩ := id bP;go_wp2_with fail
 refine (zEa (p := ⟨V, ⟨some ad, on, oc⟩, ⟨rA, rn, rc⟩, ⟨bA, rn, bc⟩⟩) (H.out.below hbW) rfl hV2 ho1 ho2 (by show rn ≤ 128; omega) rfl HCo.out HCr.out).mono ?_;rintro e w1 ⟨rfl, hb1⟩;replace bP := bP.below hb1 s0;replace bR := bR.below hb1 s1;replace s0 := ltl s0 hb1.size;replace s1 := ltl s1 hb1.size;replace hbW := hbW.trans (hb1.mono hbW.size);clear hb1 hBW p0 p1 p2 p3;obtain ⟨p0, p1, p2, p3, pf⟩ := id bP;have hg : ¬ ((on : Int) ≤ 0) := by omega
 have hg1 : (1 : Int) ≤ (on : Int) := by omega
 have hg2 : (1 : Int) ≤ (oc : Int) := by omega
 go_upto_region 4 with fail
 have bP6 : Box4 (w1.setCell ⟨w.heap.size, 1, none⟩ (.slice (some ad) 1 oc)) w.heap.size (.int .i64 V) (.slice (some ad) 1 oc) (.slice rA rn rc) (.slice bA rn bc) := ⟨by go_simp, by go_simp, by go_simp, by go_simp, by intro o; go_simp⟩;have k6 : ∀ b, b ≠ w.heap.size → (w1.setCell ⟨w.heap.size, 1, none⟩ (.slice (some ad) 1 oc)).heap[b]? = w1.heap[b]? := fun b hb => bhs _ _ _ _ hb
 have bR6 := bR.heap (k6 _ (show w.heap.size + 1 ≠ w.heap.size by omega));have hb6 : Below w.heap.size w1 (w1.setCell ⟨w.heap.size, 1, none⟩ (.slice (some ad) 1 oc)) := (brf _ _).setCell (p := ⟨w.heap.size, 1, none⟩) (nlr _) _;have hs6 : (w1.setCell ⟨w.heap.size, 1, none⟩ (.slice (some ad) 1 oc)).heap.size = w1.heap.size := by simp [World.setCell]
 have hbW6 := hbW.trans hb6;generalize w1.setCell ⟨w.heap.size, 1, none⟩ (.slice (some ad) 1 oc) = w6 at *;rw [← hs6] at s0 s1;clear p0 p1 p2 p3 pf bP bR hbW hb6 k6;obtain ⟨p0, p1, p2, p3, -⟩ := id bP6;go_wp2_with fail
 refine (zFg (p := ⟨V, ⟨some ad, 1, oc⟩, ⟨rA, rn, rc⟩, ⟨bA, rn, bc⟩⟩) (H1.out.below hbW6) (by show 1 ≤ _; omega) (by show rn ≤ _; omega) (by show rn ≤ _; omega) (fun i => by
  have h0 := zAI HCo.out 0
  have : ([os.getD 0 []].getD i []).length ≤ V := by
   cases i with
   | zero => exact h0
   | succ i => simp
  omega) (fun i => nlt (zAI HCr.out i) (by omega)) HL.out).mono ?_
 rintro e y ⟨⟨k0, k1, k2, k3, b1, b2, b3, hk0, hk3, rfl, g1, g2, g3⟩, hby⟩;dsimp only at *;have HE := hdq (zII (n := V) g1 g2 g3 (by simp) (by rw [HRl.out]; omega) (by rw [HBl.out]; omega) H1.out.obj.fit H1.out.rows.fit H1.out.bounds.fit);clear g1 g2 g3;have bR7 := bR6.below hby s1;have hbw7 := hbW6.trans (hby.mono hbW6.size);obtain ⟨r0, r1, r2, r3, rf⟩ := id bR7;go_wp2;have P8 := Put.four (W := y) (w.heap.size + 1) (.int .i64 V) (.slice (some ⟨b1, 0, none⟩) [os.getD 0 []].length [os.getD 0 []].length) (.slice (some ⟨b2, 0, none⟩) rs.length rs.length) (.slice (some ⟨b3, 0, none⟩) bs.length bs.length);have bR8 := bR7.stored (.int .i64 V) (.slice (some ⟨b1, 0, none⟩) [os.getD 0 []].length [os.getD 0 []].length) (.slice (some ⟨b2, 0, none⟩) rs.length rs.length) (.slice (some ⟨b3, 0, none⟩) bs.length bs.length);generalize (((y.setCell ⟨w.heap.size + 1, 0, none⟩ (.int .i64 V)).setCell ⟨w.heap.size + 1, 1, none⟩ (.slice (some ⟨b1, 0, none⟩) [os.getD 0 []].length [os.getD 0 []].length)).setCell ⟨w.heap.size + 1, 2, none⟩ (.slice (some ⟨b2, 0, none⟩) rs.length rs.length)).setCell ⟨w.heap.size + 1, 3, none⟩ (.slice (some ⟨b3, 0, none⟩) bs.length bs.length) = y8 at *;clear r0 r1 r2 r3 rf;obtain ⟨r0, r1, r2, r3, -⟩ := id bR8;refine bodyPost_ret (v := .tuple #[.agg #[.int .i64 V, .slice (some ⟨b1, 0, none⟩) [os.getD 0 []].length [os.getD 0 []].length, .slice (some ⟨b2, 0, none⟩) rs.length rs.length, .slice (some ⟨b3, 0, none⟩) bs.length bs.length], .int .i64 0]) (by simp [results, Tryz.results23, go_sem, r0, r1, r2, r3]) rfl ⟨⟨⟨V, ⟨some ⟨b1, 0, none⟩, [os.getD 0 []].length, [os.getD 0 []].length⟩, ⟨some ⟨b2, 0, none⟩, rs.length, rs.length⟩, ⟨some ⟨b3, 0, none⟩, bs.length, bs.length⟩⟩, rfl, rfl, ?_⟩, hbw7.trans (P8.below _ (by omega))⟩;have hk : w.heap.size + 1 < k0 := by have : w6.heap.size ≤ k0 := hk0; omega
 have hc : ∀ a : Addr, k0 ≤ a.block → y8.cell? a = y.cell? a := fun a ha => cob (P8.keep _ (by omega))
 have hq := HE.out;have h1 : LPIs y8 (fun b => k0 ≤ b) (fun b => k0 ≤ b) (L + 1) ⟨V, ⟨some ⟨b1, 0, none⟩, [os.getD 0 []].length, [os.getD 0 []].length⟩, ⟨some ⟨b2, 0, none⟩, rs.length, rs.length⟩, ⟨some ⟨b3, 0, none⟩, bs.length, bs.length⟩⟩ [os.getD 0 []] rs bs := ⟨hq.obj.keep (fun a ha _ => hc a ha) fun v q hq => hq.keep fun a ha _ => hc a ha, hq.rows.keep (fun a ha _ => hc a ha) fun v q hq => hq.keep fun a ha _ => hc a ha, hq.bounds.keep (fun a ha _ => hc a ha) fun v q hq => hq.keep fun a ha _ => hc a ha⟩;exact ⟨h1.obj.imp (fun b _ hb => by omega) fun _ _ hq => hq.imp fun b _ hb => by omega, h1.rows.imp (fun b _ hb => by omega) fun _ _ hq => hq.imp fun b _ hb => by omega, h1.bounds.imp (fun b _ hb => by omega) fun _ _ hq => hq.imp fun b _ hb => by omega⟩
end Go.Proofs.YtlepljpdkbjbhaaGreat
