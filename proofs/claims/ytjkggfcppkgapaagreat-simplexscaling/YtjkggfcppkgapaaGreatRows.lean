/-
  No cell of these rows narrows 'for every input' (looked for: loops, veiled, ifaces, maps, wideKeys, modest, calm, conditions, laid).
  DERIVED. THE GIVEN ROWS OF THIS SEAT. 4 by the template 'for every input the law returns true; each argument reads behind the call as it read before'; 0 by the template 'total and deterministic' (their statements: YtjkggfcppkgapaaGreatTotals.lean).
  GIVEN WITH THE SEED: the statements are not yours to turn. If you find one false, say at which input.
  Laid BY PROGRAM, IN A SANDBOX (cutbox-rows.mjs): the forced cells as the released guide's own fill.sh prints them over the translation df632a51e3705d13… (all of the seat's roots in one cut). By AI agents, Wed Nov 11 2026. No macro, syntax, notation, axiom, sorry.
-/
import Derived.Test.YtjkggfcppkgapaaGreatChecked
import GoSem.Claim
import GoSem.ClaimJoined
import GoSem.ClaimMapViews
import Derived.JoinedTies
import Derived.KernelRfl
namespace Go.Proofs.YtjkggfcppkgapaaGreat
/- THE CELL 'sum', in the pinned program and in every row, IS THE sha256 OF THE DUMP (.gsa) THAT YtjkggfcppkgapaaGreatProg.lean LOADS. Nothing in Lean hashes anything: it is a label: what it is worth is what the hold of that sum in a sandbox is worth. -/
noncomputable def Tryz.pinned : Pinned := { name := "ytjkggfcppkgapaagreat", sum := "df632a51e3705d13d08a03554f874522eec7beeeef90c542e44c353099b8fcc9", checked := Tryz.checked }
namespace Rows
def none {H : Type} : Left H := { results := [], args := [] }

/-- 'pylonlaw08.SimplexScaling': WHATEVER THE INPUT: true; the input reads as it did. -/
def simplexScalingSpec : ChangeSpec := { name := "simplexScaling", fn := fun _ => fun
  | [d1, d2, d3, d4] => { results := [.lit (.bool true)], args := [d1, d2, d3, d4] }
  | _ => none }
def simplexScalingRow : OpenClaim := { program := "ytjkggfcppkgapaagreat", sum := "df632a51e3705d13d08a03554f874522eec7beeeef90c542e44c353099b8fcc9", func := "pylon/pylonlaw08.SimplexScaling", spec := "simplexScaling", unfollowed := true, recurses := true, apart := false }
def SimplexScalingSaid : Prop := simplexScalingRow.holds Tryz.pinned (OpenSpec.ofChange simplexScalingSpec)

/-- ITS FALSE NEIGHBOUR: 'it returns false'. Refute it at one input. -/
def simplexScalingWrong : ChangeSpec := { name := "simplexScaling", fn := fun _ => fun
  | [d1, d2, d3, d4] => { results := [.lit (.bool false)], args := [d1, d2, d3, d4] }
  | _ => none }
def SimplexScalingWrongFalsely : Prop := simplexScalingRow.holds Tryz.pinned (OpenSpec.ofChange simplexScalingWrong)

/-- 'pylonlaw08.SimplexObjectives': WHATEVER THE INPUT: true; the input reads as it did. -/
def simplexObjectivesSpec : ChangeSpec := { name := "simplexObjectives", fn := fun _ => fun
  | [d1, d2] => { results := [.lit (.bool true)], args := [d1, d2] }
  | _ => none }
def simplexObjectivesRow : OpenClaim := { program := "ytjkggfcppkgapaagreat", sum := "df632a51e3705d13d08a03554f874522eec7beeeef90c542e44c353099b8fcc9", func := "pylon/pylonlaw08.SimplexObjectives", spec := "simplexObjectives", unfollowed := true, recurses := true, apart := false }
def SimplexObjectivesSaid : Prop := simplexObjectivesRow.holds Tryz.pinned (OpenSpec.ofChange simplexObjectivesSpec)

/-- ITS FALSE NEIGHBOUR: 'it returns false'. Refute it at one input. -/
def simplexObjectivesWrong : ChangeSpec := { name := "simplexObjectives", fn := fun _ => fun
  | [d1, d2] => { results := [.lit (.bool false)], args := [d1, d2] }
  | _ => none }
def SimplexObjectivesWrongFalsely : Prop := simplexObjectivesRow.holds Tryz.pinned (OpenSpec.ofChange simplexObjectivesWrong)

/-- 'pylonlaw08.SimplexRestrict': WHATEVER THE INPUT: true; the input reads as it did. -/
def simplexRestrictSpec : ChangeSpec := { name := "simplexRestrict", fn := fun _ => fun
  | [d1, d2, d3] => { results := [.lit (.bool true)], args := [d1, d2, d3] }
  | _ => none }
def simplexRestrictRow : OpenClaim := { program := "ytjkggfcppkgapaagreat", sum := "df632a51e3705d13d08a03554f874522eec7beeeef90c542e44c353099b8fcc9", func := "pylon/pylonlaw08.SimplexRestrict", spec := "simplexRestrict", unfollowed := true, recurses := true, apart := false }
def SimplexRestrictSaid : Prop := simplexRestrictRow.holds Tryz.pinned (OpenSpec.ofChange simplexRestrictSpec)

/-- ITS FALSE NEIGHBOUR: 'it returns false'. Refute it at one input. -/
def simplexRestrictWrong : ChangeSpec := { name := "simplexRestrict", fn := fun _ => fun
  | [d1, d2, d3] => { results := [.lit (.bool false)], args := [d1, d2, d3] }
  | _ => none }
def SimplexRestrictWrongFalsely : Prop := simplexRestrictRow.holds Tryz.pinned (OpenSpec.ofChange simplexRestrictWrong)

/-- 'pylonlaw08.SimplexOptimal': WHATEVER THE INPUT: true; the input reads as it did. -/
def simplexOptimalSpec : ChangeSpec := { name := "simplexOptimal", fn := fun _ => fun
  | [d1, d2, d3] => { results := [.lit (.bool true)], args := [d1, d2, d3] }
  | _ => none }
def simplexOptimalRow : OpenClaim := { program := "ytjkggfcppkgapaagreat", sum := "df632a51e3705d13d08a03554f874522eec7beeeef90c542e44c353099b8fcc9", func := "pylon/pylonlaw08.SimplexOptimal", spec := "simplexOptimal", unfollowed := true, recurses := true, apart := false }
def SimplexOptimalSaid : Prop := simplexOptimalRow.holds Tryz.pinned (OpenSpec.ofChange simplexOptimalSpec)

/-- ITS FALSE NEIGHBOUR: 'it returns false'. Refute it at one input. -/
def simplexOptimalWrong : ChangeSpec := { name := "simplexOptimal", fn := fun _ => fun
  | [d1, d2, d3] => { results := [.lit (.bool false)], args := [d1, d2, d3] }
  | _ => none }
def SimplexOptimalWrongFalsely : Prop := simplexOptimalRow.holds Tryz.pinned (OpenSpec.ofChange simplexOptimalWrong)

/- THE SECOND FORM. 'bulk': how many values and letters a reading holds, each counted each time it is reached (what is shared counts as often as it is met; a slice's spare places count too). A statement '..UptoSaid' is the law's where the arguments, and the package variables that the reading takes, are together of bulk at most 1048576: NARROWER than '..Said'. Prove '..Said' where nothing that the law and all that it calls make is longer than what came in: it says more and counts as full. Else prove '..UptoSaid'. A law counts once. -/
mutual
def uptoBulk {H : Type} : DataW H → Nat
  | .lit (.string bytes) => bytes.length + 1
  | .lit _ => 1
  | .nil => 1
  | .ptr d => uptoBulk d + 1
  | .slice elems spare => uptoBulkAll elems + uptoBulkAll spare + 1
  | .agg parts => uptoBulkAll parts + 1
  | .iface _ d => uptoBulk d + 1
  | .map entries => uptoBulkEntries entries + 1
  | .held _ => 1
def uptoBulkAll {H : Type} : List (DataW H) → Nat
  | [] => 0
  | d :: r => uptoBulk d + uptoBulkAll r
def uptoBulkEntries {H : Type} : List (Lit × DataW H) → Nat
  | [] => 0
  | x :: r => uptoBulkEntry x + uptoBulkEntries r
def uptoBulkEntry {H : Type} : Lit × DataW H → Nat
  | (.string bytes, d) => bytes.length + uptoBulk d + 1
  | (_, d) => uptoBulk d + 1
 end
def uptoSmall : (H : Type) → List (DataW H) → Bool := fun _ ds => decide (uptoBulkAll ds ≤ 1048576)
def OpenSpec.upto (s : _root_.Go.ChangeSpec) : _root_.Go.OpenSpec := { _root_.Go.OpenSpec.ofChange s with cond := some uptoSmall }

/-- 'pylonlaw08.SimplexScaling', WHERE WHAT IT READS IS OF BULK AT MOST 1048576: true; the input reads as it did. -/
def simplexScalingUptoRow : OpenClaim := { program := "ytjkggfcppkgapaagreat", sum := "df632a51e3705d13d08a03554f874522eec7beeeef90c542e44c353099b8fcc9", func := "pylon/pylonlaw08.SimplexScaling", spec := "simplexScaling", unfollowed := true, recurses := true, apart := false, narrowed := true }
def SimplexScalingUptoSaid : Prop := simplexScalingUptoRow.holds Tryz.pinned (OpenSpec.upto simplexScalingSpec)

/-- 'pylonlaw08.SimplexObjectives', WHERE WHAT IT READS IS OF BULK AT MOST 1048576: true; the input reads as it did. -/
def simplexObjectivesUptoRow : OpenClaim := { program := "ytjkggfcppkgapaagreat", sum := "df632a51e3705d13d08a03554f874522eec7beeeef90c542e44c353099b8fcc9", func := "pylon/pylonlaw08.SimplexObjectives", spec := "simplexObjectives", unfollowed := true, recurses := true, apart := false, narrowed := true }
def SimplexObjectivesUptoSaid : Prop := simplexObjectivesUptoRow.holds Tryz.pinned (OpenSpec.upto simplexObjectivesSpec)

/-- 'pylonlaw08.SimplexRestrict', WHERE WHAT IT READS IS OF BULK AT MOST 1048576: true; the input reads as it did. -/
def simplexRestrictUptoRow : OpenClaim := { program := "ytjkggfcppkgapaagreat", sum := "df632a51e3705d13d08a03554f874522eec7beeeef90c542e44c353099b8fcc9", func := "pylon/pylonlaw08.SimplexRestrict", spec := "simplexRestrict", unfollowed := true, recurses := true, apart := false, narrowed := true }
def SimplexRestrictUptoSaid : Prop := simplexRestrictUptoRow.holds Tryz.pinned (OpenSpec.upto simplexRestrictSpec)

/-- 'pylonlaw08.SimplexOptimal', WHERE WHAT IT READS IS OF BULK AT MOST 1048576: true; the input reads as it did. -/
def simplexOptimalUptoRow : OpenClaim := { program := "ytjkggfcppkgapaagreat", sum := "df632a51e3705d13d08a03554f874522eec7beeeef90c542e44c353099b8fcc9", func := "pylon/pylonlaw08.SimplexOptimal", spec := "simplexOptimal", unfollowed := true, recurses := true, apart := false, narrowed := true }
def SimplexOptimalUptoSaid : Prop := simplexOptimalUptoRow.holds Tryz.pinned (OpenSpec.upto simplexOptimalSpec)

end Rows
end Go.Proofs.YtjkggfcppkgapaaGreat
