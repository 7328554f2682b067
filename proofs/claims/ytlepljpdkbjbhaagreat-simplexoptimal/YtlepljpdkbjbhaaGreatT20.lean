/- Texts MatI of this claim. -/
import Derived.Test.YtlepljpdkbjbhaaGreatT16
import Derived.Test.YtlepljpdkbjbhaaGreatT12
namespace Go.Proofs.YtlepljpdkbjbhaaGreat
open Go.RowKit Go.Shelf
set_option maxRecDepth 20000 in
set_option maxHeartbeats 1000000 in
theorem equal_calls {w : World} {X Y X' Y' : Nat → Prop} {L M : Nat} {sa sb : SV} {la lb : List Rat} (ha : VecIs w X Y L sa la) (hb : VecIs w X' Y' M sb lb) (hL : L ≤ LM) (hM : M ≤ LM) (hna : sa.n ≤ 1000000) (hnb : sb.n ≤ 1000000) :
  Calls Tryz.prog 22 #[sa.val, sb.val] w fun e w' => e = .returned (.bool (vcmp (fun i => la.getD i 0) (fun i => lb.getD i 0) (max sa.n sb.n) == 0)) ∧ Below w.heap.size w w' := by
 have HC := Lib.hid (compare_calls ha hb hL hM hna hnb)
 clear ha hb hL hM
 generalize vcmp (fun i => la.getD i 0) (fun i => lb.getD i 0) (max sa.n sb.n) = z at *
 go_enter Tryz.func22, Tryz.ntmps22
 go_wp2_with fail
 refine HC.out.mono ?_; rintro e w1 ⟨rfl, hb1⟩
 go_wp2
 go_ret
 exact ⟨rfl, hb1⟩
structure IntsMat (w : World) (s : SV) (m : List (List Int)) : Prop where
 len : m.length = s.n
 le : s.n ≤ s.c
 cap : s.c ≤ 9223372036854775807
 row : ∀ i, i < s.n → ∃ ad r, s.A = some ad ∧ w.cell? (ad.add i) = some (SV.val r) ∧ IntsAt w r (m.getD i []) ∧ r.n ≤ 1000
theorem IntsMat.below {w w' : World} {s : SV} {m : List (List Int)} (h : IntsMat w s m) (hb : Below w.heap.size w w') : IntsMat w' s m :=
 ⟨h.len, h.le, h.cap, fun i hi => by
  obtain ⟨ad, r, e, hc, hr, hn⟩ := h.row i hi
  exact ⟨ad, r, e, (hb.cell (block_lt_of_cell hc)).trans hc, hr.below hb, hn⟩⟩
def MRet (w : World) (m : List (List Rat)) (e : Ending) (w' : World) : Prop := ∃ s : SV, e = .returned s.val ∧ MatCan w' (New w.heap.size) (New w.heap.size) s m
def rats (l : List Int) : List Rat := l.map fun x : Int => (x : Rat)
def MILoop (w : World) (m : List (List Int)) (n : Nat) (t : Value) (W : World) : Prop :=
 ∃ i : Nat, i ≤ n ∧ t = .int .i64 i ∧ Below w.heap.size w W ∧ ∃ (cs : Array Value) (sv : Nat → SV), W.heap[w.heap.size]? = some (.cells cs 23 (0, 0)) ∧ cs.size = n ∧ ∀ j, j < i → cs[j]? = some (sv j).val ∧ VecCan W (New (w.heap.size + 1)) (New (w.heap.size + 1)) (sv j) (rats (m.getD j []))
set_option maxRecDepth 40000 in
set_option maxHeartbeats 4000000 in
theorem matFromInts_calls {w : World} {s : SV} {m : List (List Int)} (h : IntsMat w s m) (hn : s.n ≤ 1000) :
  Calls Tryz.prog 98 #[s.val] w fun e w' => MRet w (m.map rats) e w' ∧ Below w.heap.size w w' := by
 obtain ⟨A, n, c⟩ := s
 dsimp only at hn
 have HLen : Hid (m.length = n) := h.len
 have hle : n ≤ c := h.le
 have hcap : c ≤ 9223372036854775807 := h.cap
 have hmk := run_make_s n (by omega)
 show Calls _ _ #[.slice A n c] _ _
 go_enter Tryz.func98, Tryz.ntmps98
 go_wp2
 have H0 : MILoop w m n (.int .i64 0) (w.alloc (.cells (zeroS n) 23)) :=
  ⟨0, Nat.zero_le _, rfl, (Below.refl _ _).alloc (Nat.le_refl _) _, zeroS n, fun _ => ⟨none, 0, 0⟩, heap_new _ _ rfl, zeroS_size n, fun j hj => absurd hj (by omega)⟩
 clear hmk
 generalize w.alloc (.cells (zeroS n) 23) = W0 at *
 go_loopw [11] (fun t W => MILoop w m n t W) (fun t _ => n - (intOf t).toNat)
 case atStart => exact H0
 case round =>
  clear H0
  obtain ⟨i, hi, rfl, hB, cs, sv, h1, h2, h3⟩ := hrel
  by_cases hlt : i < n
  ·obtain ⟨ad, r, e, r0, hr, hr2⟩ := (h.below hB).row i hlt
   dsimp only at e
   subst e
   obtain ⟨rA, rn, rc⟩ := r
   have hyl := lt_of_block h1
   go_wp2_with fail
   refine (fromInts_calls hr hr2).mono ?_; rintro e w1 ⟨⟨z, rfl, hz⟩, hb1⟩
   obtain ⟨zA, zn, zc⟩ := z
   have h1' : w1.heap[w.heap.size]? = some (.cells cs 23 (0, 0)) := (hb1.block _ hyl).trans h1
   have y0 : (w1.cell? ⟨w.heap.size, i, none⟩).isSome = true := by simp only [World.cell?, h1']; simp [h2, hlt]
   obtain ⟨yv, hyv⟩ := Option.isSome_iff_exists.1 y0
   have yf : ∀ o, w1.frozen? ⟨w.heap.size, o, none⟩ = false := fun o => by simp [World.frozen?, h1']
   have Hfin : Hid (MILoop w m n (.int .i64 ((i : Int) + 1)) (w1.setCell ⟨w.heap.size, i, none⟩ (.slice zA zn zc))) := by
    have k : ∀ p : Addr, New (w.heap.size + 1) p.block → (w1.setCell ⟨w.heap.size, i, none⟩ (.slice zA zn zc)).cell? p = w1.cell? p := fun p hp => World.cell?_of_block (Below.heap_setCell _ _ _ _ (by simp only [New] at hp; show p.block ≠ w.heap.size; omega))
    have kv : ∀ {s : SV} {l : List Rat}, VecCan w1 (New (w.heap.size + 1)) (New (w.heap.size + 1)) s l → VecCan (w1.setCell ⟨w.heap.size, i, none⟩ (.slice zA zn zc)) (New (w.heap.size + 1)) (New (w.heap.size + 1)) s l := fun hv => hv.keep (fun a ha _ => k a ha) fun v q hq => hq.keep fun p hp _ => k p hp
    refine ⟨i + 1, by omega, by simp, (hB.trans (hb1.mono hB.size)).setCell (p := ⟨w.heap.size, i, none⟩) (Nat.le_refl _) _, cs.setIfInBounds i (.slice zA zn zc), fun j => if j = i then ⟨zA, zn, zc⟩ else sv j, heap_setCell_blk _ h1', by simpa using h2, fun j hj => ?_⟩
    rw [Array.getElem?_setIfInBounds]
    by_cases e : i = j
    ·subst e
     rw [if_pos rfl, if_pos (by omega)]
     dsimp only
     rw [if_pos rfl]
     exact ⟨rfl, kv (hz.imp (fun b _ hb => by simp only [New] at hb ⊢; omega) fun v q hq => hq.imp fun b _ hb => by simp only [New] at hb ⊢; omega)⟩
    ·rw [if_neg e]
     dsimp only
     rw [if_neg (Ne.symm e)]
     obtain ⟨g1, g2⟩ := h3 j (by omega)
     exact ⟨g1, kv (g2.belowC hb1)⟩
   clear h1 h2 h3 h1' hz hb1 hB hr r0 y0
   go_wp2
   go_roundw
   case rel => first | exact Hfin.out | ((repeat apply Exists.intro); exact ⟨Hfin.out, rfl⟩)
   case measure => simp [intOf]; omega
  ·have hin : i = n := by omega
   rw [hin] at h3
   have HF : Hid (MRet w (m.map rats) (.returned (.slice (some ⟨w.heap.size, 0, none⟩) n n)) wr) := by
    refine ⟨⟨some ⟨w.heap.size, 0, none⟩, n, n⟩, rfl, by rw [List.length_map]; exact HLen.out, Nat.le_refl _, by show n ≤ _; omega, fun j hj => ?_⟩
    have hj' : j < n := hj
    obtain ⟨g1, g2⟩ := h3 j hj'
    refine ⟨⟨w.heap.size, 0, none⟩, sv j, rfl, Nat.le_refl _, ?_, ?_⟩
    ·rw [add_mk, Nat.zero_add]; simp only [World.cell?, h1]; simpa using g1
    ·have e : (m.map rats).getD j [] = rats (m.getD j []) := by
      have := HLen.out
      simp [List.getD_eq_getElem?_getD, List.getElem?_map, List.getElem?_eq_getElem (show j < m.length by omega)]
     rw [e]
     exact g2.imp (fun b _ hb => by simp only [New] at hb ⊢; omega) fun v q hq => hq.imp fun b _ hb => by simp only [New] at hb ⊢; omega
   clear h1 h2 h3
   go_wp2
   go_ret
   exact ⟨HF.out, hB⟩
end Go.Proofs.YtlepljpdkbjbhaaGreat
