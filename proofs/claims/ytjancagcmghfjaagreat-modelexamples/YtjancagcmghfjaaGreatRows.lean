/-
  No cell of these rows narrows 'for every input' (looked for: loops, veiled, ifaces, maps, wideKeys, modest, calm, conditions, laid).
  DERIVED. THE GIVEN ROWS OF THIS SEAT. 6 by the template 'for every input the law returns true; each argument reads behind the call as it read before'; 0 by the template 'total and deterministic' (their statements: YtjancagcmghfjaaGreatTotals.lean).
  GIVEN WITH THE SEED: the statements are not yours to turn. If you find one false, say at which input.
  Laid BY PROGRAM, IN A SANDBOX (cutbox-rows.mjs): the forced cells as the released guide's own fill.sh prints them over the translation 2c2ec2c822109011… (all of the seat's roots in one cut). By AI agents, Wed Nov 11 2026. No macro, syntax, notation, axiom, sorry.
-/
import Derived.Test.YtjancagcmghfjaaGreatChecked
import GoSem.Claim
import GoSem.ClaimJoined
import GoSem.ClaimMapViews
import Derived.JoinedTies
import Derived.KernelRfl
namespace Go.Proofs.YtjancagcmghfjaaGreat
/- THE CELL 'sum', in the pinned program and in every row, IS THE sha256 OF THE DUMP (.gsa) THAT YtjancagcmghfjaaGreatProg.lean LOADS. Nothing in Lean hashes anything: it is a label: what it is worth is what the hold of that sum in a sandbox is worth. -/
noncomputable def Tryz.pinned : Pinned := { name := "ytjancagcmghfjaagreat", sum := "2c2ec2c822109011275ed27262fc316d1eccbd81acf6c3baed1791665a36c68f", checked := Tryz.checked }
namespace Rows
def none {H : Type} : Left H := { results := [], args := [] }

/-- 'pylonlaw32.ModelMatches': WHATEVER THE INPUT: true; the input reads as it did. -/
def modelMatchesSpec : ChangeSpec := { name := "modelMatches", fn := fun _ => fun
  | [d] => { results := [.lit (.bool true)], args := [d] }
  | _ => none }
def modelMatchesRow : OpenClaim := { program := "ytjancagcmghfjaagreat", sum := "2c2ec2c822109011275ed27262fc316d1eccbd81acf6c3baed1791665a36c68f", func := "pylon/pylonlaw32.ModelMatches", spec := "modelMatches", unfollowed := true, recurses := true, apart := false }
def ModelMatchesSaid : Prop := modelMatchesRow.holds Tryz.pinned (OpenSpec.ofChange modelMatchesSpec)

/-- ITS FALSE NEIGHBOUR: 'it returns false'. Refute it at one input. -/
def modelMatchesWrong : ChangeSpec := { name := "modelMatches", fn := fun _ => fun
  | [d] => { results := [.lit (.bool false)], args := [d] }
  | _ => none }
def ModelMatchesWrongFalsely : Prop := modelMatchesRow.holds Tryz.pinned (OpenSpec.ofChange modelMatchesWrong)

/-- 'pylonlaw32.ModelUncommitted': WHATEVER THE INPUT: true; the input reads as it did. -/
def modelUncommittedSpec : ChangeSpec := { name := "modelUncommitted", fn := fun _ => fun
  | [d] => { results := [.lit (.bool true)], args := [d] }
  | _ => none }
def modelUncommittedRow : OpenClaim := { program := "ytjancagcmghfjaagreat", sum := "2c2ec2c822109011275ed27262fc316d1eccbd81acf6c3baed1791665a36c68f", func := "pylon/pylonlaw32.ModelUncommitted", spec := "modelUncommitted", unfollowed := true, recurses := true, apart := false }
def ModelUncommittedSaid : Prop := modelUncommittedRow.holds Tryz.pinned (OpenSpec.ofChange modelUncommittedSpec)

/-- ITS FALSE NEIGHBOUR: 'it returns false'. Refute it at one input. -/
def modelUncommittedWrong : ChangeSpec := { name := "modelUncommitted", fn := fun _ => fun
  | [d] => { results := [.lit (.bool false)], args := [d] }
  | _ => none }
def ModelUncommittedWrongFalsely : Prop := modelUncommittedRow.holds Tryz.pinned (OpenSpec.ofChange modelUncommittedWrong)

/-- 'pylonlaw32.ModelOrientation': WHATEVER THE INPUT: true; the input reads as it did. -/
def modelOrientationSpec : ChangeSpec := { name := "modelOrientation", fn := fun _ => fun
  | [d1, d2] => { results := [.lit (.bool true)], args := [d1, d2] }
  | _ => none }
def modelOrientationRow : OpenClaim := { program := "ytjancagcmghfjaagreat", sum := "2c2ec2c822109011275ed27262fc316d1eccbd81acf6c3baed1791665a36c68f", func := "pylon/pylonlaw32.ModelOrientation", spec := "modelOrientation", unfollowed := true, recurses := true, apart := false }
def ModelOrientationSaid : Prop := modelOrientationRow.holds Tryz.pinned (OpenSpec.ofChange modelOrientationSpec)

/-- ITS FALSE NEIGHBOUR: 'it returns false'. Refute it at one input. -/
def modelOrientationWrong : ChangeSpec := { name := "modelOrientation", fn := fun _ => fun
  | [d1, d2] => { results := [.lit (.bool false)], args := [d1, d2] }
  | _ => none }
def ModelOrientationWrongFalsely : Prop := modelOrientationRow.holds Tryz.pinned (OpenSpec.ofChange modelOrientationWrong)

/-- 'pylonlaw32.ModelSize': WHATEVER THE INPUT: true; the input reads as it did. -/
def modelSizeSpec : ChangeSpec := { name := "modelSize", fn := fun _ => fun
  | [d] => { results := [.lit (.bool true)], args := [d] }
  | _ => none }
def modelSizeRow : OpenClaim := { program := "ytjancagcmghfjaagreat", sum := "2c2ec2c822109011275ed27262fc316d1eccbd81acf6c3baed1791665a36c68f", func := "pylon/pylonlaw32.ModelSize", spec := "modelSize", unfollowed := true, recurses := true, apart := false }
def ModelSizeSaid : Prop := modelSizeRow.holds Tryz.pinned (OpenSpec.ofChange modelSizeSpec)

/-- ITS FALSE NEIGHBOUR: 'it returns false'. Refute it at one input. -/
def modelSizeWrong : ChangeSpec := { name := "modelSize", fn := fun _ => fun
  | [d] => { results := [.lit (.bool false)], args := [d] }
  | _ => none }
def ModelSizeWrongFalsely : Prop := modelSizeRow.holds Tryz.pinned (OpenSpec.ofChange modelSizeWrong)

/-- 'pylonlaw32.ModelExamples': WHATEVER THE INPUT: true; the input reads as it did. -/
def modelExamplesSpec : ChangeSpec := { name := "modelExamples", fn := fun _ => fun
  | [] => { results := [.lit (.bool true)], args := [] }
  | _ => none }
def modelExamplesRow : OpenClaim := { program := "ytjancagcmghfjaagreat", sum := "2c2ec2c822109011275ed27262fc316d1eccbd81acf6c3baed1791665a36c68f", func := "pylon/pylonlaw32.ModelExamples", spec := "modelExamples", unfollowed := true, recurses := true, apart := false }
def ModelExamplesSaid : Prop := modelExamplesRow.holds Tryz.pinned (OpenSpec.ofChange modelExamplesSpec)

/-- ITS FALSE NEIGHBOUR: 'it returns false'. Refute it at one input. -/
def modelExamplesWrong : ChangeSpec := { name := "modelExamples", fn := fun _ => fun
  | [] => { results := [.lit (.bool false)], args := [] }
  | _ => none }
def ModelExamplesWrongFalsely : Prop := modelExamplesRow.holds Tryz.pinned (OpenSpec.ofChange modelExamplesWrong)

/-- 'pylonlaw32.ModelFeasible': WHATEVER THE INPUT: true; the input reads as it did. -/
def modelFeasibleSpec : ChangeSpec := { name := "modelFeasible", fn := fun _ => fun
  | [d1, d2] => { results := [.lit (.bool true)], args := [d1, d2] }
  | _ => none }
def modelFeasibleRow : OpenClaim := { program := "ytjancagcmghfjaagreat", sum := "2c2ec2c822109011275ed27262fc316d1eccbd81acf6c3baed1791665a36c68f", func := "pylon/pylonlaw32.ModelFeasible", spec := "modelFeasible", unfollowed := true, recurses := true, apart := false }
def ModelFeasibleSaid : Prop := modelFeasibleRow.holds Tryz.pinned (OpenSpec.ofChange modelFeasibleSpec)

/-- ITS FALSE NEIGHBOUR: 'it returns false'. Refute it at one input. -/
def modelFeasibleWrong : ChangeSpec := { name := "modelFeasible", fn := fun _ => fun
  | [d1, d2] => { results := [.lit (.bool false)], args := [d1, d2] }
  | _ => none }
def ModelFeasibleWrongFalsely : Prop := modelFeasibleRow.holds Tryz.pinned (OpenSpec.ofChange modelFeasibleWrong)

/- THE SECOND FORM. 'bulk': how many values and letters a reading holds, each counted each time it is reached (what is shared counts as often as it is met; a slice's spare places count too). A statement '..UptoSaid' is the law's where the arguments, and the package variables that the reading takes, are together of bulk at most 1048576: NARROWER than '..Said'. Prove '..Said' where nothing that the law and all that it calls make is longer than what came in: it says more and counts as full. Else prove '..UptoSaid'. A law counts once. -/
mutual
def uptoBulk {H : Type} : DataW H → Nat
  | .lit (.string bytes) => bytes.length + 1
  | .lit _ => 1
  | .nil => 1
  | .ptr d => uptoBulk d + 1
  | .slice elems spare => uptoBulkAll elems + uptoBulkAll spare + 1
  | .agg parts => uptoBulkAll parts + 1
  | .iface _ d => uptoBulk d + 1
  | .map entries => uptoBulkEntries entries + 1
  | .held _ => 1
def uptoBulkAll {H : Type} : List (DataW H) → Nat
  | [] => 0
  | d :: r => uptoBulk d + uptoBulkAll r
def uptoBulkEntries {H : Type} : List (Lit × DataW H) → Nat
  | [] => 0
  | x :: r => uptoBulkEntry x + uptoBulkEntries r
def uptoBulkEntry {H : Type} : Lit × DataW H → Nat
  | (.string bytes, d) => bytes.length + uptoBulk d + 1
  | (_, d) => uptoBulk d + 1
 end
def uptoSmall : (H : Type) → List (DataW H) → Bool := fun _ ds => decide (uptoBulkAll ds ≤ 1048576)
def OpenSpec.upto (s : _root_.Go.ChangeSpec) : _root_.Go.OpenSpec := { _root_.Go.OpenSpec.ofChange s with cond := some uptoSmall }

/-- 'pylonlaw32.ModelMatches', WHERE WHAT IT READS IS OF BULK AT MOST 1048576: true; the input reads as it did. -/
def modelMatchesUptoRow : OpenClaim := { program := "ytjancagcmghfjaagreat", sum := "2c2ec2c822109011275ed27262fc316d1eccbd81acf6c3baed1791665a36c68f", func := "pylon/pylonlaw32.ModelMatches", spec := "modelMatches", unfollowed := true, recurses := true, apart := false, narrowed := true }
def ModelMatchesUptoSaid : Prop := modelMatchesUptoRow.holds Tryz.pinned (OpenSpec.upto modelMatchesSpec)

/-- 'pylonlaw32.ModelUncommitted', WHERE WHAT IT READS IS OF BULK AT MOST 1048576: true; the input reads as it did. -/
def modelUncommittedUptoRow : OpenClaim := { program := "ytjancagcmghfjaagreat", sum := "2c2ec2c822109011275ed27262fc316d1eccbd81acf6c3baed1791665a36c68f", func := "pylon/pylonlaw32.ModelUncommitted", spec := "modelUncommitted", unfollowed := true, recurses := true, apart := false, narrowed := true }
def ModelUncommittedUptoSaid : Prop := modelUncommittedUptoRow.holds Tryz.pinned (OpenSpec.upto modelUncommittedSpec)

/-- 'pylonlaw32.ModelOrientation', WHERE WHAT IT READS IS OF BULK AT MOST 1048576: true; the input reads as it did. -/
def modelOrientationUptoRow : OpenClaim := { program := "ytjancagcmghfjaagreat", sum := "2c2ec2c822109011275ed27262fc316d1eccbd81acf6c3baed1791665a36c68f", func := "pylon/pylonlaw32.ModelOrientation", spec := "modelOrientation", unfollowed := true, recurses := true, apart := false, narrowed := true }
def ModelOrientationUptoSaid : Prop := modelOrientationUptoRow.holds Tryz.pinned (OpenSpec.upto modelOrientationSpec)

/-- 'pylonlaw32.ModelSize', WHERE WHAT IT READS IS OF BULK AT MOST 1048576: true; the input reads as it did. -/
def modelSizeUptoRow : OpenClaim := { program := "ytjancagcmghfjaagreat", sum := "2c2ec2c822109011275ed27262fc316d1eccbd81acf6c3baed1791665a36c68f", func := "pylon/pylonlaw32.ModelSize", spec := "modelSize", unfollowed := true, recurses := true, apart := false, narrowed := true }
def ModelSizeUptoSaid : Prop := modelSizeUptoRow.holds Tryz.pinned (OpenSpec.upto modelSizeSpec)

/-- 'pylonlaw32.ModelExamples', WHERE WHAT IT READS IS OF BULK AT MOST 1048576: true; the input reads as it did. -/
def modelExamplesUptoRow : OpenClaim := { program := "ytjancagcmghfjaagreat", sum := "2c2ec2c822109011275ed27262fc316d1eccbd81acf6c3baed1791665a36c68f", func := "pylon/pylonlaw32.ModelExamples", spec := "modelExamples", unfollowed := true, recurses := true, apart := false, narrowed := true }
def ModelExamplesUptoSaid : Prop := modelExamplesUptoRow.holds Tryz.pinned (OpenSpec.upto modelExamplesSpec)

/-- 'pylonlaw32.ModelFeasible', WHERE WHAT IT READS IS OF BULK AT MOST 1048576: true; the input reads as it did. -/
def modelFeasibleUptoRow : OpenClaim := { program := "ytjancagcmghfjaagreat", sum := "2c2ec2c822109011275ed27262fc316d1eccbd81acf6c3baed1791665a36c68f", func := "pylon/pylonlaw32.ModelFeasible", spec := "modelFeasible", unfollowed := true, recurses := true, apart := false, narrowed := true }
def ModelFeasibleUptoSaid : Prop := modelFeasibleUptoRow.holds Tryz.pinned (OpenSpec.upto modelFeasibleSpec)

end Rows
end Go.Proofs.YtjancagcmghfjaaGreat
