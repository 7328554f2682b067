/-
  No cell of these rows narrows 'for every input' (looked for: loops, veiled, ifaces, maps, wideKeys, modest, calm, conditions, laid).
  DERIVED. THE GIVEN ROWS OF THIS SEAT. 12 by the template 'for every input the law returns true; each argument reads behind the call as it read before'; 0 by the template 'total and deterministic' (their statements: YtlepljpdkbjbhaaGreatTotals.lean).
  GIVEN WITH THE SEED: the statements are not yours to turn. If you find one false, say at which input.
  Laid BY PROGRAM, IN A SANDBOX (cutbox-rows.mjs): the forced cells as the released guide's own fill.sh prints them over the translation 1e5ccae7a6b103bf… (all of the seat's roots in one cut). By AI agents, Wed Nov 11 2026. No macro, syntax, notation, axiom, sorry.
-/
import Derived.Test.YtlepljpdkbjbhaaGreatChecked
import GoSem.Claim
import GoSem.ClaimJoined
import GoSem.ClaimMapViews
import Derived.JoinedTies
import Derived.KernelRfl
namespace Go.Proofs.YtlepljpdkbjbhaaGreat
/- THE CELL 'sum', in the pinned program and in every row, IS THE sha256 OF THE DUMP (.gsa) THAT YtlepljpdkbjbhaaGreatProg.lean LOADS. Nothing in Lean hashes anything: it is a label: what it is worth is what the hold of that sum in a sandbox is worth. -/
noncomputable def Tryz.pinned : Pinned := { name := "ytlepljpdkbjbhaagreat", sum := "1e5ccae7a6b103bfa092dcd86126cc2fac7611594c1da3aa0fad0acf6e16bdd2", checked := Tryz.checked }
namespace Rows
def none {H : Type} : Left H := { results := [], args := [] }

/-- 'pylonlaw08.SimplexObjectives': WHATEVER THE INPUT: true; the input reads as it did. -/
def simplexObjectivesSpec : ChangeSpec := { name := "simplexObjectives", fn := fun _ => fun
  | [d1, d2] => { results := [.lit (.bool true)], args := [d1, d2] }
  | _ => none }
def simplexObjectivesRow : OpenClaim := { program := "ytlepljpdkbjbhaagreat", sum := "1e5ccae7a6b103bfa092dcd86126cc2fac7611594c1da3aa0fad0acf6e16bdd2", func := "pylon/pylonlaw08.SimplexObjectives", spec := "simplexObjectives", unfollowed := true, recurses := true, apart := false }
def SimplexObjectivesSaid : Prop := simplexObjectivesRow.holds Tryz.pinned (OpenSpec.ofChange simplexObjectivesSpec)

/-- ITS FALSE NEIGHBOUR: 'it returns false'. Refute it at one input. -/
def simplexObjectivesWrong : ChangeSpec := { name := "simplexObjectives", fn := fun _ => fun
  | [d1, d2] => { results := [.lit (.bool false)], args := [d1, d2] }
  | _ => none }
def SimplexObjectivesWrongFalsely : Prop := simplexObjectivesRow.holds Tryz.pinned (OpenSpec.ofChange simplexObjectivesWrong)

/-- 'pylonlaw08.SimplexRestrict': WHATEVER THE INPUT: true; the input reads as it did. -/
def simplexRestrictSpec : ChangeSpec := { name := "simplexRestrict", fn := fun _ => fun
  | [d1, d2, d3] => { results := [.lit (.bool true)], args := [d1, d2, d3] }
  | _ => none }
def simplexRestrictRow : OpenClaim := { program := "ytlepljpdkbjbhaagreat", sum := "1e5ccae7a6b103bfa092dcd86126cc2fac7611594c1da3aa0fad0acf6e16bdd2", func := "pylon/pylonlaw08.SimplexRestrict", spec := "simplexRestrict", unfollowed := true, recurses := true, apart := false }
def SimplexRestrictSaid : Prop := simplexRestrictRow.holds Tryz.pinned (OpenSpec.ofChange simplexRestrictSpec)

/-- ITS FALSE NEIGHBOUR: 'it returns false'. Refute it at one input. -/
def simplexRestrictWrong : ChangeSpec := { name := "simplexRestrict", fn := fun _ => fun
  | [d1, d2, d3] => { results := [.lit (.bool false)], args := [d1, d2, d3] }
  | _ => none }
def SimplexRestrictWrongFalsely : Prop := simplexRestrictRow.holds Tryz.pinned (OpenSpec.ofChange simplexRestrictWrong)

/-- 'pylonlaw08.SimplexOptimal': WHATEVER THE INPUT: true; the input reads as it did. -/
def simplexOptimalSpec : ChangeSpec := { name := "simplexOptimal", fn := fun _ => fun
  | [d1, d2, d3] => { results := [.lit (.bool true)], args := [d1, d2, d3] }
  | _ => none }
def simplexOptimalRow : OpenClaim := { program := "ytlepljpdkbjbhaagreat", sum := "1e5ccae7a6b103bfa092dcd86126cc2fac7611594c1da3aa0fad0acf6e16bdd2", func := "pylon/pylonlaw08.SimplexOptimal", spec := "simplexOptimal", unfollowed := true, recurses := true, apart := false }
def SimplexOptimalSaid : Prop := simplexOptimalRow.holds Tryz.pinned (OpenSpec.ofChange simplexOptimalSpec)

/-- ITS FALSE NEIGHBOUR: 'it returns false'. Refute it at one input. -/
def simplexOptimalWrong : ChangeSpec := { name := "simplexOptimal", fn := fun _ => fun
  | [d1, d2, d3] => { results := [.lit (.bool false)], args := [d1, d2, d3] }
  | _ => none }
def SimplexOptimalWrongFalsely : Prop := simplexOptimalRow.holds Tryz.pinned (OpenSpec.ofChange simplexOptimalWrong)

/-- 'pylonlaw12.BinaryExamples': WHATEVER THE INPUT: true; the input reads as it did. -/
def binaryExamplesSpec : ChangeSpec := { name := "binaryExamples", fn := fun _ => fun
  | [] => { results := [.lit (.bool true)], args := [] }
  | _ => none }
def binaryExamplesRow : OpenClaim := { program := "ytlepljpdkbjbhaagreat", sum := "1e5ccae7a6b103bfa092dcd86126cc2fac7611594c1da3aa0fad0acf6e16bdd2", func := "pylon/pylonlaw12.BinaryExamples", spec := "binaryExamples", unfollowed := true, recurses := true, apart := false }
def BinaryExamplesSaid : Prop := binaryExamplesRow.holds Tryz.pinned (OpenSpec.ofChange binaryExamplesSpec)

/-- ITS FALSE NEIGHBOUR: 'it returns false'. Refute it at one input. -/
def binaryExamplesWrong : ChangeSpec := { name := "binaryExamples", fn := fun _ => fun
  | [] => { results := [.lit (.bool false)], args := [] }
  | _ => none }
def BinaryExamplesWrongFalsely : Prop := binaryExamplesRow.holds Tryz.pinned (OpenSpec.ofChange binaryExamplesWrong)

/-- 'pylonlaw12.BinaryLimit': WHATEVER THE INPUT: true; the input reads as it did. -/
def binaryLimitSpec : ChangeSpec := { name := "binaryLimit", fn := fun _ => fun
  | [d] => { results := [.lit (.bool true)], args := [d] }
  | _ => none }
def binaryLimitRow : OpenClaim := { program := "ytlepljpdkbjbhaagreat", sum := "1e5ccae7a6b103bfa092dcd86126cc2fac7611594c1da3aa0fad0acf6e16bdd2", func := "pylon/pylonlaw12.BinaryLimit", spec := "binaryLimit", unfollowed := true, recurses := true, apart := false }
def BinaryLimitSaid : Prop := binaryLimitRow.holds Tryz.pinned (OpenSpec.ofChange binaryLimitSpec)

/-- ITS FALSE NEIGHBOUR: 'it returns false'. Refute it at one input. -/
def binaryLimitWrong : ChangeSpec := { name := "binaryLimit", fn := fun _ => fun
  | [d] => { results := [.lit (.bool false)], args := [d] }
  | _ => none }
def BinaryLimitWrongFalsely : Prop := binaryLimitRow.holds Tryz.pinned (OpenSpec.ofChange binaryLimitWrong)

/-- 'pylonlaw10.PriceMarginal': WHATEVER THE INPUT: true; the input reads as it did. -/
def priceMarginalSpec : ChangeSpec := { name := "priceMarginal", fn := fun _ => fun
  | [d1, d2, d3] => { results := [.lit (.bool true)], args := [d1, d2, d3] }
  | _ => none }
def priceMarginalRow : OpenClaim := { program := "ytlepljpdkbjbhaagreat", sum := "1e5ccae7a6b103bfa092dcd86126cc2fac7611594c1da3aa0fad0acf6e16bdd2", func := "pylon/pylonlaw10.PriceMarginal", spec := "priceMarginal", unfollowed := true, recurses := true, apart := false }
def PriceMarginalSaid : Prop := priceMarginalRow.holds Tryz.pinned (OpenSpec.ofChange priceMarginalSpec)

/-- ITS FALSE NEIGHBOUR: 'it returns false'. Refute it at one input. -/
def priceMarginalWrong : ChangeSpec := { name := "priceMarginal", fn := fun _ => fun
  | [d1, d2, d3] => { results := [.lit (.bool false)], args := [d1, d2, d3] }
  | _ => none }
def PriceMarginalWrongFalsely : Prop := priceMarginalRow.holds Tryz.pinned (OpenSpec.ofChange priceMarginalWrong)

/-- 'pylonlaw10.PriceExamples': WHATEVER THE INPUT: true; the input reads as it did. -/
def priceExamplesSpec : ChangeSpec := { name := "priceExamples", fn := fun _ => fun
  | [] => { results := [.lit (.bool true)], args := [] }
  | _ => none }
def priceExamplesRow : OpenClaim := { program := "ytlepljpdkbjbhaagreat", sum := "1e5ccae7a6b103bfa092dcd86126cc2fac7611594c1da3aa0fad0acf6e16bdd2", func := "pylon/pylonlaw10.PriceExamples", spec := "priceExamples", unfollowed := true, recurses := true, apart := false }
def PriceExamplesSaid : Prop := priceExamplesRow.holds Tryz.pinned (OpenSpec.ofChange priceExamplesSpec)

/-- ITS FALSE NEIGHBOUR: 'it returns false'. Refute it at one input. -/
def priceExamplesWrong : ChangeSpec := { name := "priceExamples", fn := fun _ => fun
  | [] => { results := [.lit (.bool false)], args := [] }
  | _ => none }
def PriceExamplesWrongFalsely : Prop := priceExamplesRow.holds Tryz.pinned (OpenSpec.ofChange priceExamplesWrong)

/-- 'pylonlaw10.PriceLeast': WHATEVER THE INPUT: true; the input reads as it did. -/
def priceLeastSpec : ChangeSpec := { name := "priceLeast", fn := fun _ => fun
  | [d1, d2, d3] => { results := [.lit (.bool true)], args := [d1, d2, d3] }
  | _ => none }
def priceLeastRow : OpenClaim := { program := "ytlepljpdkbjbhaagreat", sum := "1e5ccae7a6b103bfa092dcd86126cc2fac7611594c1da3aa0fad0acf6e16bdd2", func := "pylon/pylonlaw10.PriceLeast", spec := "priceLeast", unfollowed := true, recurses := true, apart := false }
def PriceLeastSaid : Prop := priceLeastRow.holds Tryz.pinned (OpenSpec.ofChange priceLeastSpec)

/-- ITS FALSE NEIGHBOUR: 'it returns false'. Refute it at one input. -/
def priceLeastWrong : ChangeSpec := { name := "priceLeast", fn := fun _ => fun
  | [d1, d2, d3] => { results := [.lit (.bool false)], args := [d1, d2, d3] }
  | _ => none }
def PriceLeastWrongFalsely : Prop := priceLeastRow.holds Tryz.pinned (OpenSpec.ofChange priceLeastWrong)

/-- 'pylonlaw12.BinaryRestrict': WHATEVER THE INPUT: true; the input reads as it did. -/
def binaryRestrictSpec : ChangeSpec := { name := "binaryRestrict", fn := fun _ => fun
  | [d1, d2] => { results := [.lit (.bool true)], args := [d1, d2] }
  | _ => none }
def binaryRestrictRow : OpenClaim := { program := "ytlepljpdkbjbhaagreat", sum := "1e5ccae7a6b103bfa092dcd86126cc2fac7611594c1da3aa0fad0acf6e16bdd2", func := "pylon/pylonlaw12.BinaryRestrict", spec := "binaryRestrict", unfollowed := true, recurses := true, apart := false }
def BinaryRestrictSaid : Prop := binaryRestrictRow.holds Tryz.pinned (OpenSpec.ofChange binaryRestrictSpec)

/-- ITS FALSE NEIGHBOUR: 'it returns false'. Refute it at one input. -/
def binaryRestrictWrong : ChangeSpec := { name := "binaryRestrict", fn := fun _ => fun
  | [d1, d2] => { results := [.lit (.bool false)], args := [d1, d2] }
  | _ => none }
def BinaryRestrictWrongFalsely : Prop := binaryRestrictRow.holds Tryz.pinned (OpenSpec.ofChange binaryRestrictWrong)

/-- 'pylonlaw12.BinaryOptimal': WHATEVER THE INPUT: true; the input reads as it did. -/
def binaryOptimalSpec : ChangeSpec := { name := "binaryOptimal", fn := fun _ => fun
  | [d1, d2, d3, d4] => { results := [.lit (.bool true)], args := [d1, d2, d3, d4] }
  | _ => none }
def binaryOptimalRow : OpenClaim := { program := "ytlepljpdkbjbhaagreat", sum := "1e5ccae7a6b103bfa092dcd86126cc2fac7611594c1da3aa0fad0acf6e16bdd2", func := "pylon/pylonlaw12.BinaryOptimal", spec := "binaryOptimal", unfollowed := true, recurses := true, apart := false }
def BinaryOptimalSaid : Prop := binaryOptimalRow.holds Tryz.pinned (OpenSpec.ofChange binaryOptimalSpec)

/-- ITS FALSE NEIGHBOUR: 'it returns false'. Refute it at one input. -/
def binaryOptimalWrong : ChangeSpec := { name := "binaryOptimal", fn := fun _ => fun
  | [d1, d2, d3, d4] => { results := [.lit (.bool false)], args := [d1, d2, d3, d4] }
  | _ => none }
def BinaryOptimalWrongFalsely : Prop := binaryOptimalRow.holds Tryz.pinned (OpenSpec.ofChange binaryOptimalWrong)

/-- 'pylonlaw11.SpreadConcave': WHATEVER THE INPUT: true; the input reads as it did. -/
def spreadConcaveSpec : ChangeSpec := { name := "spreadConcave", fn := fun _ => fun
  | [d1, d2, d3, d4] => { results := [.lit (.bool true)], args := [d1, d2, d3, d4] }
  | _ => none }
def spreadConcaveRow : OpenClaim := { program := "ytlepljpdkbjbhaagreat", sum := "1e5ccae7a6b103bfa092dcd86126cc2fac7611594c1da3aa0fad0acf6e16bdd2", func := "pylon/pylonlaw11.SpreadConcave", spec := "spreadConcave", unfollowed := true, recurses := true, apart := false }
def SpreadConcaveSaid : Prop := spreadConcaveRow.holds Tryz.pinned (OpenSpec.ofChange spreadConcaveSpec)

/-- ITS FALSE NEIGHBOUR: 'it returns false'. Refute it at one input. -/
def spreadConcaveWrong : ChangeSpec := { name := "spreadConcave", fn := fun _ => fun
  | [d1, d2, d3, d4] => { results := [.lit (.bool false)], args := [d1, d2, d3, d4] }
  | _ => none }
def SpreadConcaveWrongFalsely : Prop := spreadConcaveRow.holds Tryz.pinned (OpenSpec.ofChange spreadConcaveWrong)

/-- 'pylonlaw11.SpreadExamples': WHATEVER THE INPUT: true; the input reads as it did. -/
def spreadExamplesSpec : ChangeSpec := { name := "spreadExamples", fn := fun _ => fun
  | [] => { results := [.lit (.bool true)], args := [] }
  | _ => none }
def spreadExamplesRow : OpenClaim := { program := "ytlepljpdkbjbhaagreat", sum := "1e5ccae7a6b103bfa092dcd86126cc2fac7611594c1da3aa0fad0acf6e16bdd2", func := "pylon/pylonlaw11.SpreadExamples", spec := "spreadExamples", unfollowed := true, recurses := true, apart := false }
def SpreadExamplesSaid : Prop := spreadExamplesRow.holds Tryz.pinned (OpenSpec.ofChange spreadExamplesSpec)

/-- ITS FALSE NEIGHBOUR: 'it returns false'. Refute it at one input. -/
def spreadExamplesWrong : ChangeSpec := { name := "spreadExamples", fn := fun _ => fun
  | [] => { results := [.lit (.bool false)], args := [] }
  | _ => none }
def SpreadExamplesWrongFalsely : Prop := spreadExamplesRow.holds Tryz.pinned (OpenSpec.ofChange spreadExamplesWrong)

/- THE SECOND FORM. 'bulk': how many values and letters a reading holds, each counted each time it is reached (what is shared counts as often as it is met; a slice's spare places count too). A statement '..UptoSaid' is the law's where the arguments, and the package variables that the reading takes, are together of bulk at most 1048576: NARROWER than '..Said'. Prove '..Said' where nothing that the law and all that it calls make is longer than what came in: it says more and counts as full. Else prove '..UptoSaid'. A law counts once. -/
mutual
def uptoBulk {H : Type} : DataW H → Nat
  | .lit (.string bytes) => bytes.length + 1
  | .lit _ => 1
  | .nil => 1
  | .ptr d => uptoBulk d + 1
  | .slice elems spare => uptoBulkAll elems + uptoBulkAll spare + 1
  | .agg parts => uptoBulkAll parts + 1
  | .iface _ d => uptoBulk d + 1
  | .map entries => uptoBulkEntries entries + 1
  | .held _ => 1
def uptoBulkAll {H : Type} : List (DataW H) → Nat
  | [] => 0
  | d :: r => uptoBulk d + uptoBulkAll r
def uptoBulkEntries {H : Type} : List (Lit × DataW H) → Nat
  | [] => 0
  | x :: r => uptoBulkEntry x + uptoBulkEntries r
def uptoBulkEntry {H : Type} : Lit × DataW H → Nat
  | (.string bytes, d) => bytes.length + uptoBulk d + 1
  | (_, d) => uptoBulk d + 1
 end
def uptoSmall : (H : Type) → List (DataW H) → Bool := fun _ ds => decide (uptoBulkAll ds ≤ 1048576)
def OpenSpec.upto (s : _root_.Go.ChangeSpec) : _root_.Go.OpenSpec := { _root_.Go.OpenSpec.ofChange s with cond := some uptoSmall }

/-- 'pylonlaw08.SimplexObjectives', WHERE WHAT IT READS IS OF BULK AT MOST 1048576: true; the input reads as it did. -/
def simplexObjectivesUptoRow : OpenClaim := { program := "ytlepljpdkbjbhaagreat", sum := "1e5ccae7a6b103bfa092dcd86126cc2fac7611594c1da3aa0fad0acf6e16bdd2", func := "pylon/pylonlaw08.SimplexObjectives", spec := "simplexObjectives", unfollowed := true, recurses := true, apart := false, narrowed := true }
def SimplexObjectivesUptoSaid : Prop := simplexObjectivesUptoRow.holds Tryz.pinned (OpenSpec.upto simplexObjectivesSpec)

/-- 'pylonlaw08.SimplexRestrict', WHERE WHAT IT READS IS OF BULK AT MOST 1048576: true; the input reads as it did. -/
def simplexRestrictUptoRow : OpenClaim := { program := "ytlepljpdkbjbhaagreat", sum := "1e5ccae7a6b103bfa092dcd86126cc2fac7611594c1da3aa0fad0acf6e16bdd2", func := "pylon/pylonlaw08.SimplexRestrict", spec := "simplexRestrict", unfollowed := true, recurses := true, apart := false, narrowed := true }
def SimplexRestrictUptoSaid : Prop := simplexRestrictUptoRow.holds Tryz.pinned (OpenSpec.upto simplexRestrictSpec)

/-- 'pylonlaw08.SimplexOptimal', WHERE WHAT IT READS IS OF BULK AT MOST 1048576: true; the input reads as it did. -/
def simplexOptimalUptoRow : OpenClaim := { program := "ytlepljpdkbjbhaagreat", sum := "1e5ccae7a6b103bfa092dcd86126cc2fac7611594c1da3aa0fad0acf6e16bdd2", func := "pylon/pylonlaw08.SimplexOptimal", spec := "simplexOptimal", unfollowed := true, recurses := true, apart := false, narrowed := true }
def SimplexOptimalUptoSaid : Prop := simplexOptimalUptoRow.holds Tryz.pinned (OpenSpec.upto simplexOptimalSpec)

/-- 'pylonlaw12.BinaryExamples', WHERE WHAT IT READS IS OF BULK AT MOST 1048576: true; the input reads as it did. -/
def binaryExamplesUptoRow : OpenClaim := { program := "ytlepljpdkbjbhaagreat", sum := "1e5ccae7a6b103bfa092dcd86126cc2fac7611594c1da3aa0fad0acf6e16bdd2", func := "pylon/pylonlaw12.BinaryExamples", spec := "binaryExamples", unfollowed := true, recurses := true, apart := false, narrowed := true }
def BinaryExamplesUptoSaid : Prop := binaryExamplesUptoRow.holds Tryz.pinned (OpenSpec.upto binaryExamplesSpec)

/-- 'pylonlaw12.BinaryLimit', WHERE WHAT IT READS IS OF BULK AT MOST 1048576: true; the input reads as it did. -/
def binaryLimitUptoRow : OpenClaim := { program := "ytlepljpdkbjbhaagreat", sum := "1e5ccae7a6b103bfa092dcd86126cc2fac7611594c1da3aa0fad0acf6e16bdd2", func := "pylon/pylonlaw12.BinaryLimit", spec := "binaryLimit", unfollowed := true, recurses := true, apart := false, narrowed := true }
def BinaryLimitUptoSaid : Prop := binaryLimitUptoRow.holds Tryz.pinned (OpenSpec.upto binaryLimitSpec)

/-- 'pylonlaw10.PriceMarginal', WHERE WHAT IT READS IS OF BULK AT MOST 1048576: true; the input reads as it did. -/
def priceMarginalUptoRow : OpenClaim := { program := "ytlepljpdkbjbhaagreat", sum := "1e5ccae7a6b103bfa092dcd86126cc2fac7611594c1da3aa0fad0acf6e16bdd2", func := "pylon/pylonlaw10.PriceMarginal", spec := "priceMarginal", unfollowed := true, recurses := true, apart := false, narrowed := true }
def PriceMarginalUptoSaid : Prop := priceMarginalUptoRow.holds Tryz.pinned (OpenSpec.upto priceMarginalSpec)

/-- 'pylonlaw10.PriceExamples', WHERE WHAT IT READS IS OF BULK AT MOST 1048576: true; the input reads as it did. -/
def priceExamplesUptoRow : OpenClaim := { program := "ytlepljpdkbjbhaagreat", sum := "1e5ccae7a6b103bfa092dcd86126cc2fac7611594c1da3aa0fad0acf6e16bdd2", func := "pylon/pylonlaw10.PriceExamples", spec := "priceExamples", unfollowed := true, recurses := true, apart := false, narrowed := true }
def PriceExamplesUptoSaid : Prop := priceExamplesUptoRow.holds Tryz.pinned (OpenSpec.upto priceExamplesSpec)

/-- 'pylonlaw10.PriceLeast', WHERE WHAT IT READS IS OF BULK AT MOST 1048576: true; the input reads as it did. -/
def priceLeastUptoRow : OpenClaim := { program := "ytlepljpdkbjbhaagreat", sum := "1e5ccae7a6b103bfa092dcd86126cc2fac7611594c1da3aa0fad0acf6e16bdd2", func := "pylon/pylonlaw10.PriceLeast", spec := "priceLeast", unfollowed := true, recurses := true, apart := false, narrowed := true }
def PriceLeastUptoSaid : Prop := priceLeastUptoRow.holds Tryz.pinned (OpenSpec.upto priceLeastSpec)

/-- 'pylonlaw12.BinaryRestrict', WHERE WHAT IT READS IS OF BULK AT MOST 1048576: true; the input reads as it did. -/
def binaryRestrictUptoRow : OpenClaim := { program := "ytlepljpdkbjbhaagreat", sum := "1e5ccae7a6b103bfa092dcd86126cc2fac7611594c1da3aa0fad0acf6e16bdd2", func := "pylon/pylonlaw12.BinaryRestrict", spec := "binaryRestrict", unfollowed := true, recurses := true, apart := false, narrowed := true }
def BinaryRestrictUptoSaid : Prop := binaryRestrictUptoRow.holds Tryz.pinned (OpenSpec.upto binaryRestrictSpec)

/-- 'pylonlaw12.BinaryOptimal', WHERE WHAT IT READS IS OF BULK AT MOST 1048576: true; the input reads as it did. -/
def binaryOptimalUptoRow : OpenClaim := { program := "ytlepljpdkbjbhaagreat", sum := "1e5ccae7a6b103bfa092dcd86126cc2fac7611594c1da3aa0fad0acf6e16bdd2", func := "pylon/pylonlaw12.BinaryOptimal", spec := "binaryOptimal", unfollowed := true, recurses := true, apart := false, narrowed := true }
def BinaryOptimalUptoSaid : Prop := binaryOptimalUptoRow.holds Tryz.pinned (OpenSpec.upto binaryOptimalSpec)

/-- 'pylonlaw11.SpreadConcave', WHERE WHAT IT READS IS OF BULK AT MOST 1048576: true; the input reads as it did. -/
def spreadConcaveUptoRow : OpenClaim := { program := "ytlepljpdkbjbhaagreat", sum := "1e5ccae7a6b103bfa092dcd86126cc2fac7611594c1da3aa0fad0acf6e16bdd2", func := "pylon/pylonlaw11.SpreadConcave", spec := "spreadConcave", unfollowed := true, recurses := true, apart := false, narrowed := true }
def SpreadConcaveUptoSaid : Prop := spreadConcaveUptoRow.holds Tryz.pinned (OpenSpec.upto spreadConcaveSpec)

/-- 'pylonlaw11.SpreadExamples', WHERE WHAT IT READS IS OF BULK AT MOST 1048576: true; the input reads as it did. -/
def spreadExamplesUptoRow : OpenClaim := { program := "ytlepljpdkbjbhaagreat", sum := "1e5ccae7a6b103bfa092dcd86126cc2fac7611594c1da3aa0fad0acf6e16bdd2", func := "pylon/pylonlaw11.SpreadExamples", spec := "spreadExamples", unfollowed := true, recurses := true, apart := false, narrowed := true }
def SpreadExamplesUptoSaid : Prop := spreadExamplesUptoRow.holds Tryz.pinned (OpenSpec.upto spreadExamplesSpec)

end Rows
end Go.Proofs.YtlepljpdkbjbhaaGreat
