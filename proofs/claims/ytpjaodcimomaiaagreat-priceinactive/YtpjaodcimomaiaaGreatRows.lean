/-
  No cell of these rows narrows 'for every input' (looked for: loops, veiled, ifaces, maps, wideKeys, modest, calm, conditions, laid).
  DERIVED. THE GIVEN ROWS OF THIS SEAT. 10 by the template 'for every input the law returns true; each argument reads behind the call as it read before'; 0 by the template 'total and deterministic' (their statements: YtpjaodcimomaiaaGreatTotals.lean).
  GIVEN WITH THE SEED: the statements are not yours to turn. If you find one false, say at which input.
  Laid BY PROGRAM, IN A SANDBOX (cutbox-rows.mjs): the forced cells as the released guide's own fill.sh prints them over the translation ed854027095cf4c0… (all of the seat's roots in one cut). By AI agents, Wed Nov 11 2026. No macro, syntax, notation, axiom, sorry.
-/
import Derived.Test.YtpjaodcimomaiaaGreatChecked
import GoSem.Claim
import GoSem.ClaimJoined
import GoSem.ClaimMapViews
import Derived.JoinedTies
import Derived.KernelRfl
namespace Go.Proofs.YtpjaodcimomaiaaGreat
/- THE CELL 'sum', in the pinned program and in every row, IS THE sha256 OF THE DUMP (.gsa) THAT YtpjaodcimomaiaaGreatProg.lean LOADS. Nothing in Lean hashes anything: it is a label: what it is worth is what the hold of that sum in a sandbox is worth. -/
noncomputable def Tryz.pinned : Pinned := { name := "ytpjaodcimomaiaagreat", sum := "ed854027095cf4c03a65170a0f64868eb9cbe1efd2832b621e2e6500159e1a69", checked := Tryz.checked }
namespace Rows
def none {H : Type} : Left H := { results := [], args := [] }

/-- 'pylonlaw12.BinaryExamples': WHATEVER THE INPUT: true; the input reads as it did. -/
def binaryExamplesSpec : ChangeSpec := { name := "binaryExamples", fn := fun _ => fun
  | [] => { results := [.lit (.bool true)], args := [] }
  | _ => none }
def binaryExamplesRow : OpenClaim := { program := "ytpjaodcimomaiaagreat", sum := "ed854027095cf4c03a65170a0f64868eb9cbe1efd2832b621e2e6500159e1a69", func := "pylon/pylonlaw12.BinaryExamples", spec := "binaryExamples", unfollowed := true, recurses := true, apart := false }
def BinaryExamplesSaid : Prop := binaryExamplesRow.holds Tryz.pinned (OpenSpec.ofChange binaryExamplesSpec)

/-- ITS FALSE NEIGHBOUR: 'it returns false'. Refute it at one input. -/
def binaryExamplesWrong : ChangeSpec := { name := "binaryExamples", fn := fun _ => fun
  | [] => { results := [.lit (.bool false)], args := [] }
  | _ => none }
def BinaryExamplesWrongFalsely : Prop := binaryExamplesRow.holds Tryz.pinned (OpenSpec.ofChange binaryExamplesWrong)

/-- 'pylonlaw12.BinaryLimit': WHATEVER THE INPUT: true; the input reads as it did. -/
def binaryLimitSpec : ChangeSpec := { name := "binaryLimit", fn := fun _ => fun
  | [d] => { results := [.lit (.bool true)], args := [d] }
  | _ => none }
def binaryLimitRow : OpenClaim := { program := "ytpjaodcimomaiaagreat", sum := "ed854027095cf4c03a65170a0f64868eb9cbe1efd2832b621e2e6500159e1a69", func := "pylon/pylonlaw12.BinaryLimit", spec := "binaryLimit", unfollowed := true, recurses := true, apart := false }
def BinaryLimitSaid : Prop := binaryLimitRow.holds Tryz.pinned (OpenSpec.ofChange binaryLimitSpec)

/-- ITS FALSE NEIGHBOUR: 'it returns false'. Refute it at one input. -/
def binaryLimitWrong : ChangeSpec := { name := "binaryLimit", fn := fun _ => fun
  | [d] => { results := [.lit (.bool false)], args := [d] }
  | _ => none }
def BinaryLimitWrongFalsely : Prop := binaryLimitRow.holds Tryz.pinned (OpenSpec.ofChange binaryLimitWrong)

/-- 'pylonlaw12.BinaryRestrict': WHATEVER THE INPUT: true; the input reads as it did. -/
def binaryRestrictSpec : ChangeSpec := { name := "binaryRestrict", fn := fun _ => fun
  | [d1, d2] => { results := [.lit (.bool true)], args := [d1, d2] }
  | _ => none }
def binaryRestrictRow : OpenClaim := { program := "ytpjaodcimomaiaagreat", sum := "ed854027095cf4c03a65170a0f64868eb9cbe1efd2832b621e2e6500159e1a69", func := "pylon/pylonlaw12.BinaryRestrict", spec := "binaryRestrict", unfollowed := true, recurses := true, apart := false }
def BinaryRestrictSaid : Prop := binaryRestrictRow.holds Tryz.pinned (OpenSpec.ofChange binaryRestrictSpec)

/-- ITS FALSE NEIGHBOUR: 'it returns false'. Refute it at one input. -/
def binaryRestrictWrong : ChangeSpec := { name := "binaryRestrict", fn := fun _ => fun
  | [d1, d2] => { results := [.lit (.bool false)], args := [d1, d2] }
  | _ => none }
def BinaryRestrictWrongFalsely : Prop := binaryRestrictRow.holds Tryz.pinned (OpenSpec.ofChange binaryRestrictWrong)

/-- 'pylonlaw12.BinaryOptimal': WHATEVER THE INPUT: true; the input reads as it did. -/
def binaryOptimalSpec : ChangeSpec := { name := "binaryOptimal", fn := fun _ => fun
  | [d1, d2, d3, d4] => { results := [.lit (.bool true)], args := [d1, d2, d3, d4] }
  | _ => none }
def binaryOptimalRow : OpenClaim := { program := "ytpjaodcimomaiaagreat", sum := "ed854027095cf4c03a65170a0f64868eb9cbe1efd2832b621e2e6500159e1a69", func := "pylon/pylonlaw12.BinaryOptimal", spec := "binaryOptimal", unfollowed := true, recurses := true, apart := false }
def BinaryOptimalSaid : Prop := binaryOptimalRow.holds Tryz.pinned (OpenSpec.ofChange binaryOptimalSpec)

/-- ITS FALSE NEIGHBOUR: 'it returns false'. Refute it at one input. -/
def binaryOptimalWrong : ChangeSpec := { name := "binaryOptimal", fn := fun _ => fun
  | [d1, d2, d3, d4] => { results := [.lit (.bool false)], args := [d1, d2, d3, d4] }
  | _ => none }
def BinaryOptimalWrongFalsely : Prop := binaryOptimalRow.holds Tryz.pinned (OpenSpec.ofChange binaryOptimalWrong)

/-- 'pylonlaw11.SpreadConcave': WHATEVER THE INPUT: true; the input reads as it did. -/
def spreadConcaveSpec : ChangeSpec := { name := "spreadConcave", fn := fun _ => fun
  | [d1, d2, d3, d4] => { results := [.lit (.bool true)], args := [d1, d2, d3, d4] }
  | _ => none }
def spreadConcaveRow : OpenClaim := { program := "ytpjaodcimomaiaagreat", sum := "ed854027095cf4c03a65170a0f64868eb9cbe1efd2832b621e2e6500159e1a69", func := "pylon/pylonlaw11.SpreadConcave", spec := "spreadConcave", unfollowed := true, recurses := true, apart := false }
def SpreadConcaveSaid : Prop := spreadConcaveRow.holds Tryz.pinned (OpenSpec.ofChange spreadConcaveSpec)

/-- ITS FALSE NEIGHBOUR: 'it returns false'. Refute it at one input. -/
def spreadConcaveWrong : ChangeSpec := { name := "spreadConcave", fn := fun _ => fun
  | [d1, d2, d3, d4] => { results := [.lit (.bool false)], args := [d1, d2, d3, d4] }
  | _ => none }
def SpreadConcaveWrongFalsely : Prop := spreadConcaveRow.holds Tryz.pinned (OpenSpec.ofChange spreadConcaveWrong)

/-- 'pylonlaw11.SpreadExamples': WHATEVER THE INPUT: true; the input reads as it did. -/
def spreadExamplesSpec : ChangeSpec := { name := "spreadExamples", fn := fun _ => fun
  | [] => { results := [.lit (.bool true)], args := [] }
  | _ => none }
def spreadExamplesRow : OpenClaim := { program := "ytpjaodcimomaiaagreat", sum := "ed854027095cf4c03a65170a0f64868eb9cbe1efd2832b621e2e6500159e1a69", func := "pylon/pylonlaw11.SpreadExamples", spec := "spreadExamples", unfollowed := true, recurses := true, apart := false }
def SpreadExamplesSaid : Prop := spreadExamplesRow.holds Tryz.pinned (OpenSpec.ofChange spreadExamplesSpec)

/-- ITS FALSE NEIGHBOUR: 'it returns false'. Refute it at one input. -/
def spreadExamplesWrong : ChangeSpec := { name := "spreadExamples", fn := fun _ => fun
  | [] => { results := [.lit (.bool false)], args := [] }
  | _ => none }
def SpreadExamplesWrongFalsely : Prop := spreadExamplesRow.holds Tryz.pinned (OpenSpec.ofChange spreadExamplesWrong)

/-- 'pylonlaw10.PriceStrongDuality': WHATEVER THE INPUT: true; the input reads as it did. -/
def priceStrongDualitySpec : ChangeSpec := { name := "priceStrongDuality", fn := fun _ => fun
  | [d] => { results := [.lit (.bool true)], args := [d] }
  | _ => none }
def priceStrongDualityRow : OpenClaim := { program := "ytpjaodcimomaiaagreat", sum := "ed854027095cf4c03a65170a0f64868eb9cbe1efd2832b621e2e6500159e1a69", func := "pylon/pylonlaw10.PriceStrongDuality", spec := "priceStrongDuality", unfollowed := true, recurses := true, apart := false }
def PriceStrongDualitySaid : Prop := priceStrongDualityRow.holds Tryz.pinned (OpenSpec.ofChange priceStrongDualitySpec)

/-- ITS FALSE NEIGHBOUR: 'it returns false'. Refute it at one input. -/
def priceStrongDualityWrong : ChangeSpec := { name := "priceStrongDuality", fn := fun _ => fun
  | [d] => { results := [.lit (.bool false)], args := [d] }
  | _ => none }
def PriceStrongDualityWrongFalsely : Prop := priceStrongDualityRow.holds Tryz.pinned (OpenSpec.ofChange priceStrongDualityWrong)

/-- 'pylonlaw12.BinaryRelax': WHATEVER THE INPUT: true; the input reads as it did. -/
def binaryRelaxSpec : ChangeSpec := { name := "binaryRelax", fn := fun _ => fun
  | [d] => { results := [.lit (.bool true)], args := [d] }
  | _ => none }
def binaryRelaxRow : OpenClaim := { program := "ytpjaodcimomaiaagreat", sum := "ed854027095cf4c03a65170a0f64868eb9cbe1efd2832b621e2e6500159e1a69", func := "pylon/pylonlaw12.BinaryRelax", spec := "binaryRelax", unfollowed := true, recurses := true, apart := false }
def BinaryRelaxSaid : Prop := binaryRelaxRow.holds Tryz.pinned (OpenSpec.ofChange binaryRelaxSpec)

/-- ITS FALSE NEIGHBOUR: 'it returns false'. Refute it at one input. -/
def binaryRelaxWrong : ChangeSpec := { name := "binaryRelax", fn := fun _ => fun
  | [d] => { results := [.lit (.bool false)], args := [d] }
  | _ => none }
def BinaryRelaxWrongFalsely : Prop := binaryRelaxRow.holds Tryz.pinned (OpenSpec.ofChange binaryRelaxWrong)

/-- 'pylonlaw10.PriceInactive': WHATEVER THE INPUT: true; the input reads as it did. -/
def priceInactiveSpec : ChangeSpec := { name := "priceInactive", fn := fun _ => fun
  | [d1, d2, d3] => { results := [.lit (.bool true)], args := [d1, d2, d3] }
  | _ => none }
def priceInactiveRow : OpenClaim := { program := "ytpjaodcimomaiaagreat", sum := "ed854027095cf4c03a65170a0f64868eb9cbe1efd2832b621e2e6500159e1a69", func := "pylon/pylonlaw10.PriceInactive", spec := "priceInactive", unfollowed := true, recurses := true, apart := false }
def PriceInactiveSaid : Prop := priceInactiveRow.holds Tryz.pinned (OpenSpec.ofChange priceInactiveSpec)

/-- ITS FALSE NEIGHBOUR: 'it returns false'. Refute it at one input. -/
def priceInactiveWrong : ChangeSpec := { name := "priceInactive", fn := fun _ => fun
  | [d1, d2, d3] => { results := [.lit (.bool false)], args := [d1, d2, d3] }
  | _ => none }
def PriceInactiveWrongFalsely : Prop := priceInactiveRow.holds Tryz.pinned (OpenSpec.ofChange priceInactiveWrong)

/-- 'pylonlaw12.BinaryBest': WHATEVER THE INPUT: true; the input reads as it did. -/
def binaryBestSpec : ChangeSpec := { name := "binaryBest", fn := fun _ => fun
  | [d] => { results := [.lit (.bool true)], args := [d] }
  | _ => none }
def binaryBestRow : OpenClaim := { program := "ytpjaodcimomaiaagreat", sum := "ed854027095cf4c03a65170a0f64868eb9cbe1efd2832b621e2e6500159e1a69", func := "pylon/pylonlaw12.BinaryBest", spec := "binaryBest", unfollowed := true, recurses := true, apart := false }
def BinaryBestSaid : Prop := binaryBestRow.holds Tryz.pinned (OpenSpec.ofChange binaryBestSpec)

/-- ITS FALSE NEIGHBOUR: 'it returns false'. Refute it at one input. -/
def binaryBestWrong : ChangeSpec := { name := "binaryBest", fn := fun _ => fun
  | [d] => { results := [.lit (.bool false)], args := [d] }
  | _ => none }
def BinaryBestWrongFalsely : Prop := binaryBestRow.holds Tryz.pinned (OpenSpec.ofChange binaryBestWrong)

/- THE SECOND FORM. 'bulk': how many values and letters a reading holds, each counted each time it is reached (what is shared counts as often as it is met; a slice's spare places count too). A statement '..UptoSaid' is the law's where the arguments, and the package variables that the reading takes, are together of bulk at most 1048576: NARROWER than '..Said'. Prove '..Said' where nothing that the law and all that it calls make is longer than what came in: it says more and counts as full. Else prove '..UptoSaid'. A law counts once. -/
mutual
def uptoBulk {H : Type} : DataW H → Nat
  | .lit (.string bytes) => bytes.length + 1
  | .lit _ => 1
  | .nil => 1
  | .ptr d => uptoBulk d + 1
  | .slice elems spare => uptoBulkAll elems + uptoBulkAll spare + 1
  | .agg parts => uptoBulkAll parts + 1
  | .iface _ d => uptoBulk d + 1
  | .map entries => uptoBulkEntries entries + 1
  | .held _ => 1
def uptoBulkAll {H : Type} : List (DataW H) → Nat
  | [] => 0
  | d :: r => uptoBulk d + uptoBulkAll r
def uptoBulkEntries {H : Type} : List (Lit × DataW H) → Nat
  | [] => 0
  | x :: r => uptoBulkEntry x + uptoBulkEntries r
def uptoBulkEntry {H : Type} : Lit × DataW H → Nat
  | (.string bytes, d) => bytes.length + uptoBulk d + 1
  | (_, d) => uptoBulk d + 1
 end
def uptoSmall : (H : Type) → List (DataW H) → Bool := fun _ ds => decide (uptoBulkAll ds ≤ 1048576)
def OpenSpec.upto (s : _root_.Go.ChangeSpec) : _root_.Go.OpenSpec := { _root_.Go.OpenSpec.ofChange s with cond := some uptoSmall }

/-- 'pylonlaw12.BinaryExamples', WHERE WHAT IT READS IS OF BULK AT MOST 1048576: true; the input reads as it did. -/
def binaryExamplesUptoRow : OpenClaim := { program := "ytpjaodcimomaiaagreat", sum := "ed854027095cf4c03a65170a0f64868eb9cbe1efd2832b621e2e6500159e1a69", func := "pylon/pylonlaw12.BinaryExamples", spec := "binaryExamples", unfollowed := true, recurses := true, apart := false, narrowed := true }
def BinaryExamplesUptoSaid : Prop := binaryExamplesUptoRow.holds Tryz.pinned (OpenSpec.upto binaryExamplesSpec)

/-- 'pylonlaw12.BinaryLimit', WHERE WHAT IT READS IS OF BULK AT MOST 1048576: true; the input reads as it did. -/
def binaryLimitUptoRow : OpenClaim := { program := "ytpjaodcimomaiaagreat", sum := "ed854027095cf4c03a65170a0f64868eb9cbe1efd2832b621e2e6500159e1a69", func := "pylon/pylonlaw12.BinaryLimit", spec := "binaryLimit", unfollowed := true, recurses := true, apart := false, narrowed := true }
def BinaryLimitUptoSaid : Prop := binaryLimitUptoRow.holds Tryz.pinned (OpenSpec.upto binaryLimitSpec)

/-- 'pylonlaw12.BinaryRestrict', WHERE WHAT IT READS IS OF BULK AT MOST 1048576: true; the input reads as it did. -/
def binaryRestrictUptoRow : OpenClaim := { program := "ytpjaodcimomaiaagreat", sum := "ed854027095cf4c03a65170a0f64868eb9cbe1efd2832b621e2e6500159e1a69", func := "pylon/pylonlaw12.BinaryRestrict", spec := "binaryRestrict", unfollowed := true, recurses := true, apart := false, narrowed := true }
def BinaryRestrictUptoSaid : Prop := binaryRestrictUptoRow.holds Tryz.pinned (OpenSpec.upto binaryRestrictSpec)

/-- 'pylonlaw12.BinaryOptimal', WHERE WHAT IT READS IS OF BULK AT MOST 1048576: true; the input reads as it did. -/
def binaryOptimalUptoRow : OpenClaim := { program := "ytpjaodcimomaiaagreat", sum := "ed854027095cf4c03a65170a0f64868eb9cbe1efd2832b621e2e6500159e1a69", func := "pylon/pylonlaw12.BinaryOptimal", spec := "binaryOptimal", unfollowed := true, recurses := true, apart := false, narrowed := true }
def BinaryOptimalUptoSaid : Prop := binaryOptimalUptoRow.holds Tryz.pinned (OpenSpec.upto binaryOptimalSpec)

/-- 'pylonlaw11.SpreadConcave', WHERE WHAT IT READS IS OF BULK AT MOST 1048576: true; the input reads as it did. -/
def spreadConcaveUptoRow : OpenClaim := { program := "ytpjaodcimomaiaagreat", sum := "ed854027095cf4c03a65170a0f64868eb9cbe1efd2832b621e2e6500159e1a69", func := "pylon/pylonlaw11.SpreadConcave", spec := "spreadConcave", unfollowed := true, recurses := true, apart := false, narrowed := true }
def SpreadConcaveUptoSaid : Prop := spreadConcaveUptoRow.holds Tryz.pinned (OpenSpec.upto spreadConcaveSpec)

/-- 'pylonlaw11.SpreadExamples', WHERE WHAT IT READS IS OF BULK AT MOST 1048576: true; the input reads as it did. -/
def spreadExamplesUptoRow : OpenClaim := { program := "ytpjaodcimomaiaagreat", sum := "ed854027095cf4c03a65170a0f64868eb9cbe1efd2832b621e2e6500159e1a69", func := "pylon/pylonlaw11.SpreadExamples", spec := "spreadExamples", unfollowed := true, recurses := true, apart := false, narrowed := true }
def SpreadExamplesUptoSaid : Prop := spreadExamplesUptoRow.holds Tryz.pinned (OpenSpec.upto spreadExamplesSpec)

/-- 'pylonlaw10.PriceStrongDuality', WHERE WHAT IT READS IS OF BULK AT MOST 1048576: true; the input reads as it did. -/
def priceStrongDualityUptoRow : OpenClaim := { program := "ytpjaodcimomaiaagreat", sum := "ed854027095cf4c03a65170a0f64868eb9cbe1efd2832b621e2e6500159e1a69", func := "pylon/pylonlaw10.PriceStrongDuality", spec := "priceStrongDuality", unfollowed := true, recurses := true, apart := false, narrowed := true }
def PriceStrongDualityUptoSaid : Prop := priceStrongDualityUptoRow.holds Tryz.pinned (OpenSpec.upto priceStrongDualitySpec)

/-- 'pylonlaw12.BinaryRelax', WHERE WHAT IT READS IS OF BULK AT MOST 1048576: true; the input reads as it did. -/
def binaryRelaxUptoRow : OpenClaim := { program := "ytpjaodcimomaiaagreat", sum := "ed854027095cf4c03a65170a0f64868eb9cbe1efd2832b621e2e6500159e1a69", func := "pylon/pylonlaw12.BinaryRelax", spec := "binaryRelax", unfollowed := true, recurses := true, apart := false, narrowed := true }
def BinaryRelaxUptoSaid : Prop := binaryRelaxUptoRow.holds Tryz.pinned (OpenSpec.upto binaryRelaxSpec)

/-- 'pylonlaw10.PriceInactive', WHERE WHAT IT READS IS OF BULK AT MOST 1048576: true; the input reads as it did. -/
def priceInactiveUptoRow : OpenClaim := { program := "ytpjaodcimomaiaagreat", sum := "ed854027095cf4c03a65170a0f64868eb9cbe1efd2832b621e2e6500159e1a69", func := "pylon/pylonlaw10.PriceInactive", spec := "priceInactive", unfollowed := true, recurses := true, apart := false, narrowed := true }
def PriceInactiveUptoSaid : Prop := priceInactiveUptoRow.holds Tryz.pinned (OpenSpec.upto priceInactiveSpec)

/-- 'pylonlaw12.BinaryBest', WHERE WHAT IT READS IS OF BULK AT MOST 1048576: true; the input reads as it did. -/
def binaryBestUptoRow : OpenClaim := { program := "ytpjaodcimomaiaagreat", sum := "ed854027095cf4c03a65170a0f64868eb9cbe1efd2832b621e2e6500159e1a69", func := "pylon/pylonlaw12.BinaryBest", spec := "binaryBest", unfollowed := true, recurses := true, apart := false, narrowed := true }
def BinaryBestUptoSaid : Prop := binaryBestUptoRow.holds Tryz.pinned (OpenSpec.upto binaryBestSpec)

end Rows
end Go.Proofs.YtpjaodcimomaiaaGreat
