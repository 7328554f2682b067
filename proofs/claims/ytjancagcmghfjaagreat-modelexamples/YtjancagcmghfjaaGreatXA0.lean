/- Short names of some laws. -/
import Derived.WalkKit
import Derived.WalkSpells
import Derived.WalkLawsBesides
import Derived.Lib.Hide
import Derived.Deep.Draws
import Derived.Deep.RegionHeld3
import Derived.Deep.QuietTactic
import Derived.BigQuiet
import Derived.Deep.LoopGhost
import Derived.Maps.AppendAt
import Derived.Lib.SliceRun
namespace Go.Proofs.YtjancagcmghfjaaGreat
open Go.RowKit
theorem ltl {n m k : Nat} (h : n < m) (h' : m ≤ k) : n < k := Nat.lt_of_lt_of_le h h'
theorem nlr (n : Nat) : n ≤ n := Nat.le_refl n
theorem nlt {n m k : Nat} (h : n ≤ m) (h' : m ≤ k) : n ≤ k := Nat.le_trans h h'
theorem nzl (n : Nat) : 0 ≤ n := Nat.zero_le n
theorem gdd {α : Type} {l : List α} {i : Nat} {a : α} : l.getD i a = l[i]?.getD a := List.getD_eq_getElem?_getD
theorem gge {α : Type} {l : List α} {i : Nat} (h : i < l.length) : l[i]? = some l[i] := List.getElem?_eq_getElem h
theorem hdq {p : Prop} (h : p) : Hid p := Lib.hid h
theorem brf (B : Nat) (w : World) : Below B w w := Below.refl B w
theorem cob {w w' : World} {a : Addr} (h : w'.heap[a.block]? = w.heap[a.block]?) : w'.cell? a = w.cell? a := World.cell?_of_block h
theorem bal {w : World} {o : Obj} : Below w.heap.size w (w.alloc o) := (Below.refl _ _).alloc (Nat.le_refl _) o
theorem bhs (w : World) (a : Addr) (u : Value) (k : Nat) (h : k ≠ a.block) : (w.setCell a u).heap[k]? = w.heap[k]? := Below.heap_setCell w a u k h
theorem fn_ {P G:Prop} (h:P) (k:P->G:=by intro h; first | exact h | ((repeat apply Exists.intro); exact ⟨h,rfl⟩)):G:=k h
instance:CoeOut World Nat:=⟨fun w=>w.heap.size⟩
instance:Coe Nat Addr:=⟨fun b=>⟨b,0,none⟩⟩
end Go.Proofs.YtjancagcmghfjaaGreat
