/- Texts Long1 of this claim. -/
import Derived.Test.YtlepljpdkbjbhaaGreatT07
namespace Go.Proofs.YtlepljpdkbjbhaaGreat
open Go.RowKit
set_option maxRecDepth 20000 in
set_option maxHeartbeats 1000000 in
theorem refCols_calls {w : World} {X : Nat → Prop} {R : QV → Rat → Prop} {s : SV} {m : List (List Rat)} (h : MatAt w X R s m) :
  Calls Tryz.prog 118 #[s.val] w fun e w' => e = .returned (.int .i64 (colsOf m)) ∧ w = w' := by
 have hn := h.le
 have hc := h.cap
 obtain ⟨A, n, c⟩ := s
 dsimp only at hn hc
 have HL : Hid (m.length = n) := h.len
 have HB : Hid (∀ k, k < n → (m.getD k []).length ≤ 9223372036854775807) := fun k hk => by
  obtain ⟨ad, r, e, hx, hcell, hr⟩ := h.row k hk
  rw [hr.len]; exact Nat.le_trans hr.le hr.cap
 have HC : Hid (colsOf m ≤ 9223372036854775807) := colsOf_le.2 fun r hr => by
  obtain ⟨k, hk, rfl⟩ := List.mem_iff_getElem.1 hr
  have := HB.out k (by rw [← HL.out]; exact hk)
  simpa [List.getD_eq_getElem?_getD, hk] using this
 have HR := Lib.hid h.row
 clear h
 show Calls _ _ #[.slice A n c] _ _
 go_enter Tryz.func118, Tryz.ntmps118
 go_wp2
 go_loop [3, 4] (fun t i => ∃ k : Nat, k ≤ n ∧ i = .int .i64 k ∧ t = .int .i64 (colsOf (m.take k))) (fun _ i => n - (intOf i).toNat)
 case atStart => exact ⟨0, Nat.zero_le _, rfl, rfl⟩
 case round =>
  obtain ⟨k, hk, rfl, rfl⟩ := hrel
  by_cases hlt : k < n
  ·obtain ⟨ad, r, e, hx, hcell, hr⟩ := HR.out k hlt
   subst e
   have Hlen := Lib.hid hr.len
   have HS := Lib.hid (take_snoc' m k [] (by rw [HL.out]; exact hlt))
   have hr1 := hr.le
   have hr2 := hr.cap
   clear hr
   obtain ⟨B, p, q⟩ := r
   dsimp only [SV.val] at hcell hr1 hr2 Hlen
   have hcl : colsOf (m.take k) ≤ 9223372036854775807 := colsOf_le.2 fun r hr => colsOf_le.1 HC.out r (List.mem_of_mem_take hr)
   go_wp2
   all_goals
    go_round
    case rel => exact ⟨k + 1, by omega, by go_num, by rw [HS.out, colsOf_snoc, Hlen.out]; go_num⟩
    case measure => simp [intOf]; omega
  ·obtain rfl : k = n := by omega
   go_wp2
   go_ret
   exact ⟨ret_int (by rw [← HL.out, List.take_length]), rfl⟩
set_option maxRecDepth 20000 in
set_option maxHeartbeats 1000000 in
theorem refShort_calls {w : World} {X : Nat → Prop} {R : QV → Rat → Prop} {s : SV} {m : List (List Rat)} {z : Int} (h : MatAt w X R s m) :
  Calls Tryz.prog 58 #[s.val, .int .i64 z] w fun e w' => e = .returned (.bool (decide ((colsOf m : Int) ≤ z))) ∧ w = w' := by
 have HC := Lib.hid (refCols_calls h)
 clear h
 generalize colsOf m = c at *
 go_enter Tryz.func58, Tryz.ntmps58
 go_wp2_with fail
 refine HC.out.mono ?_; rintro e w1 ⟨rfl, rfl⟩
 go_wp2
 go_ret
 exact ⟨rfl, rfl⟩
def BRet (Q : Bool → Prop) (e : Ending) : Prop := ∃ b : Bool, e = .returned (.bool b) ∧ Q b
set_option maxRecDepth 20000 in
set_option maxHeartbeats 1000000 in
theorem bare_calls {w : World} {X : Nat → Prop} {R : QV → Rat → Prop} {s : SV} {m : List (List Rat)} (h : MatAt w X R s m) :
  Calls Tryz.prog 184 #[s.val] w fun e w' => BRet (fun _ => True) e ∧ w = w' := by
 have hn := h.le
 have hc := h.cap
 obtain ⟨A, n, c⟩ := s
 dsimp only at hn hc
 have HR := Lib.hid h.row
 clear h
 show Calls _ _ #[.slice A n c] _ _
 go_enter Tryz.func184, Tryz.ntmps184
 go_wp2
 go_loop [3] (fun i => ∃ k : Nat, k ≤ n ∧ i = .int .i64 k) (fun i => n - (intOf i).toNat)
 case atStart => exact ⟨0, Nat.zero_le _, rfl⟩
 case round =>
  obtain ⟨k, hk, rfl⟩ := hrel
  by_cases hlt : k < n
  ·obtain ⟨ad, r, e, hx, hcell, hr⟩ := HR.out k hlt
   subst e
   have hr1 := hr.le
   have hr2 := hr.cap
   clear hr
   obtain ⟨B, p, q⟩ := r
   dsimp only [SV.val] at hcell hr1 hr2
   by_cases hp : 0 < p
   ·go_wp2
    go_ret
    exact ⟨⟨_, rfl, trivial⟩, rfl⟩
   ·go_wp2
    go_round
    case rel => exact ⟨k + 1, by omega, by go_num⟩
    case measure => simp [intOf]; omega
  ·obtain rfl : k = n := by omega
   go_wp2
   go_ret
   exact ⟨⟨_, rfl, trivial⟩, rfl⟩
set_option maxRecDepth 20000 in
set_option maxHeartbeats 1000000 in
theorem lawCut_calls {w : World} {s : SV} (h1 : s.n ≤ s.c) (h2 : s.c ≤ 9223372036854775807) :
  Calls Tryz.prog 186 #[s.val] w fun e w' => e = .returned (.slice s.A (min s.n 20) s.c) ∧ w = w' := by
 obtain ⟨A, n, c⟩ := s
 dsimp only at h1 h2 ⊢
 go_enter Tryz.func186, Tryz.ntmps186
 go_wp2
 go_ret
 exact ⟨by simp; omega, rfl⟩
set_option maxRecDepth 20000 in
set_option maxHeartbeats 1000000 in
theorem long01_calls {w : World} {b : Nat} {v : QV} {T : TypeId} {f : Nat × Nat} (h : w.heap[b]? = some (.cells #[.bool v.num.ng, .slice v.num.A v.num.n v.num.c, .bool v.den.ng, .slice v.den.A v.den.n v.den.c] T f)) (h1 : v.num.n ≤ 9223372036854775807) (h2 : v.den.n ≤ 9223372036854775807) :
  Calls Tryz.prog 59 #[.slice (some ⟨b, 0, none⟩) 2 2] w fun e w' => BRet (fun _ => True) e ∧ w = w' := by
 have c1 : w.cell? ⟨b, 1, none⟩ = some (.slice v.num.A v.num.n v.num.c) := by simp only [World.cell?, h]; rfl
 have c3 : w.cell? ⟨b, 3, none⟩ = some (.slice v.den.A v.den.n v.den.c) := by simp only [World.cell?, h]; rfl
 obtain ⟨⟨n0, A0, m0, k0⟩, ⟨n1, A1, m1, k1⟩⟩ := v
 dsimp only at c1 c3 h1 h2
 clear h
 go_enter Tryz.func59, Tryz.ntmps59
 go_wp2
 go_loop [3] (fun i => ∃ k : Nat, k ≤ 2 ∧ i = .int .i64 k) (fun i => 2 - (intOf i).toNat)
 case atStart => exact ⟨0, by omega, rfl⟩
 case round =>
  obtain ⟨k, hk, rfl⟩ := hrel
  rcases (by omega : k = 0 ∨ k = 1 ∨ k = 2) with rfl | rfl | rfl
  ·by_cases hp : 12 < m0
   ·go_wp2
    go_ret
    exact ⟨⟨_, rfl, trivial⟩, rfl⟩
   ·go_wp2
    go_round
    case rel => exact ⟨1, by omega, by go_num⟩
    case measure => simp [intOf] <;> omega
  ·by_cases hp : 12 < m1
   ·go_wp2
    go_ret
    exact ⟨⟨_, rfl, trivial⟩, rfl⟩
   ·go_wp2
    go_round
    case rel => exact ⟨2, by omega, by go_num⟩
    case measure => simp [intOf] <;> omega
  ·go_wp2
   go_ret
   exact ⟨⟨_, rfl, trivial⟩, rfl⟩
end Go.Proofs.YtlepljpdkbjbhaaGreat
