/-
  No cell of these rows narrows 'for every input' (looked for: loops, veiled, ifaces, maps, wideKeys, modest, calm, conditions, laid).
  DERIVED. THE GIVEN ROWS OF THIS SEAT. 4 by the template 'for every input the law returns true; each argument reads behind the call as it read before'; 0 by the template 'total and deterministic' (their statements: YtbpngececjihlaaGreatTotals.lean).
  GIVEN WITH THE SEED: the statements are not yours to turn. If you find one false, say at which input.
  Laid BY PROGRAM, IN A SANDBOX (cutbox-rows.mjs): the forced cells as the released guide's own fill.sh prints them over the translation e0ac715ce550770e… (all of the seat's roots in one cut). By AI agents, Wed Nov 11 2026. No macro, syntax, notation, axiom, sorry.
-/
import Derived.Test.YtbpngececjihlaaGreatChecked
import GoSem.Claim
import GoSem.ClaimJoined
import GoSem.ClaimMapViews
import Derived.JoinedTies
import Derived.KernelRfl
namespace Go.Proofs.YtbpngececjihlaaGreat
/- THE CELL 'sum', in the pinned program and in every row, IS THE sha256 OF THE DUMP (.gsa) THAT YtbpngececjihlaaGreatProg.lean LOADS. Nothing in Lean hashes anything: it is a label: what it is worth is what the hold of that sum in a sandbox is worth. -/
noncomputable def Tryz.pinned : Pinned := { name := "ytbpngececjihlaagreat", sum := "e0ac715ce550770e41fd569c51c72707ad553fbbdb3bb94f97b96377c61314e9", checked := Tryz.checked }
namespace Rows
def none {H : Type} : Left H := { results := [], args := [] }

/-- 'pylonlaw11.SpreadConcave': WHATEVER THE INPUT: true; the input reads as it did. -/
def spreadConcaveSpec : ChangeSpec := { name := "spreadConcave", fn := fun _ => fun
  | [d1, d2, d3, d4] => { results := [.lit (.bool true)], args := [d1, d2, d3, d4] }
  | _ => none }
def spreadConcaveRow : OpenClaim := { program := "ytbpngececjihlaagreat", sum := "e0ac715ce550770e41fd569c51c72707ad553fbbdb3bb94f97b96377c61314e9", func := "pylon/pylonlaw11.SpreadConcave", spec := "spreadConcave", unfollowed := true, recurses := true, apart := false }
def SpreadConcaveSaid : Prop := spreadConcaveRow.holds Tryz.pinned (OpenSpec.ofChange spreadConcaveSpec)

/-- ITS FALSE NEIGHBOUR: 'it returns false'. Refute it at one input. -/
def spreadConcaveWrong : ChangeSpec := { name := "spreadConcave", fn := fun _ => fun
  | [d1, d2, d3, d4] => { results := [.lit (.bool false)], args := [d1, d2, d3, d4] }
  | _ => none }
def SpreadConcaveWrongFalsely : Prop := spreadConcaveRow.holds Tryz.pinned (OpenSpec.ofChange spreadConcaveWrong)

/-- 'pylonlaw11.SpreadExamples': WHATEVER THE INPUT: true; the input reads as it did. -/
def spreadExamplesSpec : ChangeSpec := { name := "spreadExamples", fn := fun _ => fun
  | [] => { results := [.lit (.bool true)], args := [] }
  | _ => none }
def spreadExamplesRow : OpenClaim := { program := "ytbpngececjihlaagreat", sum := "e0ac715ce550770e41fd569c51c72707ad553fbbdb3bb94f97b96377c61314e9", func := "pylon/pylonlaw11.SpreadExamples", spec := "spreadExamples", unfollowed := true, recurses := true, apart := false }
def SpreadExamplesSaid : Prop := spreadExamplesRow.holds Tryz.pinned (OpenSpec.ofChange spreadExamplesSpec)

/-- ITS FALSE NEIGHBOUR: 'it returns false'. Refute it at one input. -/
def spreadExamplesWrong : ChangeSpec := { name := "spreadExamples", fn := fun _ => fun
  | [] => { results := [.lit (.bool false)], args := [] }
  | _ => none }
def SpreadExamplesWrongFalsely : Prop := spreadExamplesRow.holds Tryz.pinned (OpenSpec.ofChange spreadExamplesWrong)

/-- 'pylonlaw12.BinaryBest': WHATEVER THE INPUT: true; the input reads as it did. -/
def binaryBestSpec : ChangeSpec := { name := "binaryBest", fn := fun _ => fun
  | [d] => { results := [.lit (.bool true)], args := [d] }
  | _ => none }
def binaryBestRow : OpenClaim := { program := "ytbpngececjihlaagreat", sum := "e0ac715ce550770e41fd569c51c72707ad553fbbdb3bb94f97b96377c61314e9", func := "pylon/pylonlaw12.BinaryBest", spec := "binaryBest", unfollowed := true, recurses := true, apart := false }
def BinaryBestSaid : Prop := binaryBestRow.holds Tryz.pinned (OpenSpec.ofChange binaryBestSpec)

/-- ITS FALSE NEIGHBOUR: 'it returns false'. Refute it at one input. -/
def binaryBestWrong : ChangeSpec := { name := "binaryBest", fn := fun _ => fun
  | [d] => { results := [.lit (.bool false)], args := [d] }
  | _ => none }
def BinaryBestWrongFalsely : Prop := binaryBestRow.holds Tryz.pinned (OpenSpec.ofChange binaryBestWrong)

/-- 'pylonlaw10.PriceInactive': WHATEVER THE INPUT: true; the input reads as it did. -/
def priceInactiveSpec : ChangeSpec := { name := "priceInactive", fn := fun _ => fun
  | [d1, d2, d3] => { results := [.lit (.bool true)], args := [d1, d2, d3] }
  | _ => none }
def priceInactiveRow : OpenClaim := { program := "ytbpngececjihlaagreat", sum := "e0ac715ce550770e41fd569c51c72707ad553fbbdb3bb94f97b96377c61314e9", func := "pylon/pylonlaw10.PriceInactive", spec := "priceInactive", unfollowed := true, recurses := true, apart := false }
def PriceInactiveSaid : Prop := priceInactiveRow.holds Tryz.pinned (OpenSpec.ofChange priceInactiveSpec)

/-- ITS FALSE NEIGHBOUR: 'it returns false'. Refute it at one input. -/
def priceInactiveWrong : ChangeSpec := { name := "priceInactive", fn := fun _ => fun
  | [d1, d2, d3] => { results := [.lit (.bool false)], args := [d1, d2, d3] }
  | _ => none }
def PriceInactiveWrongFalsely : Prop := priceInactiveRow.holds Tryz.pinned (OpenSpec.ofChange priceInactiveWrong)

/- THE SECOND FORM. 'bulk': how many values and letters a reading holds, each counted each time it is reached (what is shared counts as often as it is met; a slice's spare places count too). A statement '..UptoSaid' is the law's where the arguments, and the package variables that the reading takes, are together of bulk at most 1048576: NARROWER than '..Said'. Prove '..Said' where nothing that the law and all that it calls make is longer than what came in: it says more and counts as full. Else prove '..UptoSaid'. A law counts once. -/
mutual
def uptoBulk {H : Type} : DataW H → Nat
  | .lit (.string bytes) => bytes.length + 1
  | .lit _ => 1
  | .nil => 1
  | .ptr d => uptoBulk d + 1
  | .slice elems spare => uptoBulkAll elems + uptoBulkAll spare + 1
  | .agg parts => uptoBulkAll parts + 1
  | .iface _ d => uptoBulk d + 1
  | .map entries => uptoBulkEntries entries + 1
  | .held _ => 1
def uptoBulkAll {H : Type} : List (DataW H) → Nat
  | [] => 0
  | d :: r => uptoBulk d + uptoBulkAll r
def uptoBulkEntries {H : Type} : List (Lit × DataW H) → Nat
  | [] => 0
  | x :: r => uptoBulkEntry x + uptoBulkEntries r
def uptoBulkEntry {H : Type} : Lit × DataW H → Nat
  | (.string bytes, d) => bytes.length + uptoBulk d + 1
  | (_, d) => uptoBulk d + 1
 end
def uptoSmall : (H : Type) → List (DataW H) → Bool := fun _ ds => decide (uptoBulkAll ds ≤ 1048576)
def OpenSpec.upto (s : _root_.Go.ChangeSpec) : _root_.Go.OpenSpec := { _root_.Go.OpenSpec.ofChange s with cond := some uptoSmall }

/-- 'pylonlaw11.SpreadConcave', WHERE WHAT IT READS IS OF BULK AT MOST 1048576: true; the input reads as it did. -/
def spreadConcaveUptoRow : OpenClaim := { program := "ytbpngececjihlaagreat", sum := "e0ac715ce550770e41fd569c51c72707ad553fbbdb3bb94f97b96377c61314e9", func := "pylon/pylonlaw11.SpreadConcave", spec := "spreadConcave", unfollowed := true, recurses := true, apart := false, narrowed := true }
def SpreadConcaveUptoSaid : Prop := spreadConcaveUptoRow.holds Tryz.pinned (OpenSpec.upto spreadConcaveSpec)

/-- 'pylonlaw11.SpreadExamples', WHERE WHAT IT READS IS OF BULK AT MOST 1048576: true; the input reads as it did. -/
def spreadExamplesUptoRow : OpenClaim := { program := "ytbpngececjihlaagreat", sum := "e0ac715ce550770e41fd569c51c72707ad553fbbdb3bb94f97b96377c61314e9", func := "pylon/pylonlaw11.SpreadExamples", spec := "spreadExamples", unfollowed := true, recurses := true, apart := false, narrowed := true }
def SpreadExamplesUptoSaid : Prop := spreadExamplesUptoRow.holds Tryz.pinned (OpenSpec.upto spreadExamplesSpec)

/-- 'pylonlaw12.BinaryBest', WHERE WHAT IT READS IS OF BULK AT MOST 1048576: true; the input reads as it did. -/
def binaryBestUptoRow : OpenClaim := { program := "ytbpngececjihlaagreat", sum := "e0ac715ce550770e41fd569c51c72707ad553fbbdb3bb94f97b96377c61314e9", func := "pylon/pylonlaw12.BinaryBest", spec := "binaryBest", unfollowed := true, recurses := true, apart := false, narrowed := true }
def BinaryBestUptoSaid : Prop := binaryBestUptoRow.holds Tryz.pinned (OpenSpec.upto binaryBestSpec)

/-- 'pylonlaw10.PriceInactive', WHERE WHAT IT READS IS OF BULK AT MOST 1048576: true; the input reads as it did. -/
def priceInactiveUptoRow : OpenClaim := { program := "ytbpngececjihlaagreat", sum := "e0ac715ce550770e41fd569c51c72707ad553fbbdb3bb94f97b96377c61314e9", func := "pylon/pylonlaw10.PriceInactive", spec := "priceInactive", unfollowed := true, recurses := true, apart := false, narrowed := true }
def PriceInactiveUptoSaid : Prop := priceInactiveUptoRow.holds Tryz.pinned (OpenSpec.upto priceInactiveSpec)

end Rows
end Go.Proofs.YtbpngececjihlaaGreat
