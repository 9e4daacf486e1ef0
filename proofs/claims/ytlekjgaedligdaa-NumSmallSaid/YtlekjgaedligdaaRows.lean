/-
  No cell of these rows narrows 'for every input' (looked for: loops, veiled, ifaces, maps, wideKeys, modest, calm, conditions, laid).
  DERIVED. THE GIVEN ROWS OF THIS SEAT. 11 by the template 'for every input the law returns true; each argument reads behind the call as it read before'; 0 by the template 'total and deterministic' (their statements: YtlekjgaedligdaaTotals.lean).
  GIVEN WITH THE SEED: the statements are not yours to turn. If you find one false, say at which input.
  Laid BY PROGRAM, IN A SANDBOX (cutbox-rows.mjs): the forced cells as the released guide's own fill.sh prints them over the translation fa737d7a43c52017… (all of the seat's roots in one cut). By AI agents, Wed Nov 11 2026. No macro, syntax, notation, axiom, sorry.
-/
import Derived.Test.YtlekjgaedligdaaChecked
import GoSem.Claim
import GoSem.ClaimJoined
import GoSem.ClaimMapViews
import Derived.JoinedTies
import Derived.KernelRfl
namespace Go.Proofs.Ytlekjgaedligdaa
/- THE CELL 'sum', in the pinned program and in every row, IS THE sha256 OF THE DUMP (.gsa) THAT YtlekjgaedligdaaProg.lean LOADS. Nothing in Lean hashes anything: it is a label: what it is worth is what the hold of that sum in a sandbox is worth. -/
noncomputable def Try.pinned : Pinned := { name := "ytlekjgaedligdaa", sum := "fa737d7a43c52017a3064c69c094253c4a635e9fa9a6115fd9522e5e73ac1ebf", checked := Try.checked }
namespace Rows
def none {H : Type} : Left H := { results := [], args := [] }

/-- 'boatswainlaw01.NumShares': WHATEVER THE INPUT: true; the input reads as it did. -/
def numSharesSpec : ChangeSpec := { name := "numShares", fn := fun _ => fun
  | [d1, d2, d3] => { results := [.lit (.bool true)], args := [d1, d2, d3] }
  | _ => none }
def numSharesRow : OpenClaim := { program := "ytlekjgaedligdaa", sum := "fa737d7a43c52017a3064c69c094253c4a635e9fa9a6115fd9522e5e73ac1ebf", func := "boatswain/boatswainlaw01.NumShares", spec := "numShares", inPlace := ["math/bits.Add64", "math.Float64bits", "math.Float64frombits", "math.archMin"], apart := false }
def NumSharesSaid : Prop := numSharesRow.holds Try.pinned (OpenSpec.ofChange numSharesSpec)

/-- ITS FALSE NEIGHBOUR: 'it returns false'. Refute it at one input. -/
def numSharesWrong : ChangeSpec := { name := "numShares", fn := fun _ => fun
  | [d1, d2, d3] => { results := [.lit (.bool false)], args := [d1, d2, d3] }
  | _ => none }
def NumSharesWrongFalsely : Prop := numSharesRow.holds Try.pinned (OpenSpec.ofChange numSharesWrong)

/-- 'boatswainlaw01.NumClamps': WHATEVER THE INPUT: true; the input reads as it did. -/
def numClampsSpec : ChangeSpec := { name := "numClamps", fn := fun _ => fun
  | [d] => { results := [.lit (.bool true)], args := [d] }
  | _ => none }
def numClampsRow : OpenClaim := { program := "ytlekjgaedligdaa", sum := "fa737d7a43c52017a3064c69c094253c4a635e9fa9a6115fd9522e5e73ac1ebf", func := "boatswain/boatswainlaw01.NumClamps", spec := "numClamps", inPlace := ["math.Float64bits", "math.Float64frombits", "math.archMin", "math/bits.Add64"], apart := false }
def NumClampsSaid : Prop := numClampsRow.holds Try.pinned (OpenSpec.ofChange numClampsSpec)

/-- ITS FALSE NEIGHBOUR: 'it returns false'. Refute it at one input. -/
def numClampsWrong : ChangeSpec := { name := "numClamps", fn := fun _ => fun
  | [d] => { results := [.lit (.bool false)], args := [d] }
  | _ => none }
def NumClampsWrongFalsely : Prop := numClampsRow.holds Try.pinned (OpenSpec.ofChange numClampsWrong)

/-- 'boatswainlaw01.NumHighest': WHATEVER THE INPUT: true; the input reads as it did. -/
def numHighestSpec : ChangeSpec := { name := "numHighest", fn := fun _ => fun
  | [d] => { results := [.lit (.bool true)], args := [d] }
  | _ => none }
def numHighestRow : OpenClaim := { program := "ytlekjgaedligdaa", sum := "fa737d7a43c52017a3064c69c094253c4a635e9fa9a6115fd9522e5e73ac1ebf", func := "boatswain/boatswainlaw01.NumHighest", spec := "numHighest", inPlace := ["math/bits.Add64", "math.Float64bits", "math.Float64frombits", "math.archMin"], apart := false }
def NumHighestSaid : Prop := numHighestRow.holds Try.pinned (OpenSpec.ofChange numHighestSpec)

/-- ITS FALSE NEIGHBOUR: 'it returns false'. Refute it at one input. -/
def numHighestWrong : ChangeSpec := { name := "numHighest", fn := fun _ => fun
  | [d] => { results := [.lit (.bool false)], args := [d] }
  | _ => none }
def NumHighestWrongFalsely : Prop := numHighestRow.holds Try.pinned (OpenSpec.ofChange numHighestWrong)

/-- 'boatswainlaw01.NumSmall': WHATEVER THE INPUT: true; the input reads as it did. -/
def numSmallSpec : ChangeSpec := { name := "numSmall", fn := fun _ => fun
  | [d1, d2, d3] => { results := [.lit (.bool true)], args := [d1, d2, d3] }
  | _ => none }
def numSmallRow : OpenClaim := { program := "ytlekjgaedligdaa", sum := "fa737d7a43c52017a3064c69c094253c4a635e9fa9a6115fd9522e5e73ac1ebf", func := "boatswain/boatswainlaw01.NumSmall", spec := "numSmall", inPlace := ["math/bits.Add64", "math.Float64bits", "math.Float64frombits", "math.archMin"], apart := false }
def NumSmallSaid : Prop := numSmallRow.holds Try.pinned (OpenSpec.ofChange numSmallSpec)

/-- ITS FALSE NEIGHBOUR: 'it returns false'. Refute it at one input. -/
def numSmallWrong : ChangeSpec := { name := "numSmall", fn := fun _ => fun
  | [d1, d2, d3] => { results := [.lit (.bool false)], args := [d1, d2, d3] }
  | _ => none }
def NumSmallWrongFalsely : Prop := numSmallRow.holds Try.pinned (OpenSpec.ofChange numSmallWrong)

/-- 'boatswainlaw01.NumOrder': WHATEVER THE INPUT: true; the input reads as it did. -/
def numOrderSpec : ChangeSpec := { name := "numOrder", fn := fun _ => fun
  | [d1, d2, d3] => { results := [.lit (.bool true)], args := [d1, d2, d3] }
  | _ => none }
def numOrderRow : OpenClaim := { program := "ytlekjgaedligdaa", sum := "fa737d7a43c52017a3064c69c094253c4a635e9fa9a6115fd9522e5e73ac1ebf", func := "boatswain/boatswainlaw01.NumOrder", spec := "numOrder", inPlace := ["math/bits.Add64", "math.Float64bits", "math.Float64frombits", "math.archMin"], apart := false }
def NumOrderSaid : Prop := numOrderRow.holds Try.pinned (OpenSpec.ofChange numOrderSpec)

/-- ITS FALSE NEIGHBOUR: 'it returns false'. Refute it at one input. -/
def numOrderWrong : ChangeSpec := { name := "numOrder", fn := fun _ => fun
  | [d1, d2, d3] => { results := [.lit (.bool false)], args := [d1, d2, d3] }
  | _ => none }
def NumOrderWrongFalsely : Prop := numOrderRow.holds Try.pinned (OpenSpec.ofChange numOrderWrong)

/-- 'boatswainlaw01.NumTimes': WHATEVER THE INPUT: true; the input reads as it did. -/
def numTimesSpec : ChangeSpec := { name := "numTimes", fn := fun _ => fun
  | [d1, d2] => { results := [.lit (.bool true)], args := [d1, d2] }
  | _ => none }
def numTimesRow : OpenClaim := { program := "ytlekjgaedligdaa", sum := "fa737d7a43c52017a3064c69c094253c4a635e9fa9a6115fd9522e5e73ac1ebf", func := "boatswain/boatswainlaw01.NumTimes", spec := "numTimes", inPlace := ["math/bits.Add64", "math.Float64bits", "math.Float64frombits", "math.archMin"], apart := false }
def NumTimesSaid : Prop := numTimesRow.holds Try.pinned (OpenSpec.ofChange numTimesSpec)

/-- ITS FALSE NEIGHBOUR: 'it returns false'. Refute it at one input. -/
def numTimesWrong : ChangeSpec := { name := "numTimes", fn := fun _ => fun
  | [d1, d2] => { results := [.lit (.bool false)], args := [d1, d2] }
  | _ => none }
def NumTimesWrongFalsely : Prop := numTimesRow.holds Try.pinned (OpenSpec.ofChange numTimesWrong)

/-- 'boatswainlaw01.NumRound': WHATEVER THE INPUT: true; the input reads as it did. -/
def numRoundSpec : ChangeSpec := { name := "numRound", fn := fun _ => fun
  | [d1, d2] => { results := [.lit (.bool true)], args := [d1, d2] }
  | _ => none }
def numRoundRow : OpenClaim := { program := "ytlekjgaedligdaa", sum := "fa737d7a43c52017a3064c69c094253c4a635e9fa9a6115fd9522e5e73ac1ebf", func := "boatswain/boatswainlaw01.NumRound", spec := "numRound", inPlace := ["math/bits.Add64", "math.Float64bits", "math.Float64frombits", "math.archMin"], apart := false }
def NumRoundSaid : Prop := numRoundRow.holds Try.pinned (OpenSpec.ofChange numRoundSpec)

/-- ITS FALSE NEIGHBOUR: 'it returns false'. Refute it at one input. -/
def numRoundWrong : ChangeSpec := { name := "numRound", fn := fun _ => fun
  | [d1, d2] => { results := [.lit (.bool false)], args := [d1, d2] }
  | _ => none }
def NumRoundWrongFalsely : Prop := numRoundRow.holds Try.pinned (OpenSpec.ofChange numRoundWrong)

/-- 'boatswainlaw01.NumMeans': WHATEVER THE INPUT: true; the input reads as it did. -/
def numMeansSpec : ChangeSpec := { name := "numMeans", fn := fun _ => fun
  | [d] => { results := [.lit (.bool true)], args := [d] }
  | _ => none }
def numMeansRow : OpenClaim := { program := "ytlekjgaedligdaa", sum := "fa737d7a43c52017a3064c69c094253c4a635e9fa9a6115fd9522e5e73ac1ebf", func := "boatswain/boatswainlaw01.NumMeans", spec := "numMeans", inPlace := ["math.Float64frombits", "math.Float64bits", "math.archMin", "math/bits.Add64"], apart := false }
def NumMeansSaid : Prop := numMeansRow.holds Try.pinned (OpenSpec.ofChange numMeansSpec)

/-- ITS FALSE NEIGHBOUR: 'it returns false'. Refute it at one input. -/
def numMeansWrong : ChangeSpec := { name := "numMeans", fn := fun _ => fun
  | [d] => { results := [.lit (.bool false)], args := [d] }
  | _ => none }
def NumMeansWrongFalsely : Prop := numMeansRow.holds Try.pinned (OpenSpec.ofChange numMeansWrong)

/-- 'boatswainlaw01.NumProducts': WHATEVER THE INPUT: true; the input reads as it did. -/
def numProductsSpec : ChangeSpec := { name := "numProducts", fn := fun _ => fun
  | [d] => { results := [.lit (.bool true)], args := [d] }
  | _ => none }
def numProductsRow : OpenClaim := { program := "ytlekjgaedligdaa", sum := "fa737d7a43c52017a3064c69c094253c4a635e9fa9a6115fd9522e5e73ac1ebf", func := "boatswain/boatswainlaw01.NumProducts", spec := "numProducts", inPlace := ["math/bits.Add64", "math.Float64bits", "math.Float64frombits", "math.archMin", "math/bits.Sub64"], apart := false }
def NumProductsSaid : Prop := numProductsRow.holds Try.pinned (OpenSpec.ofChange numProductsSpec)

/-- ITS FALSE NEIGHBOUR: 'it returns false'. Refute it at one input. -/
def numProductsWrong : ChangeSpec := { name := "numProducts", fn := fun _ => fun
  | [d] => { results := [.lit (.bool false)], args := [d] }
  | _ => none }
def NumProductsWrongFalsely : Prop := numProductsRow.holds Try.pinned (OpenSpec.ofChange numProductsWrong)

/-- 'boatswainlaw01.NumLess': WHATEVER THE INPUT: true; the input reads as it did. -/
def numLessSpec : ChangeSpec := { name := "numLess", fn := fun _ => fun
  | [d] => { results := [.lit (.bool true)], args := [d] }
  | _ => none }
def numLessRow : OpenClaim := { program := "ytlekjgaedligdaa", sum := "fa737d7a43c52017a3064c69c094253c4a635e9fa9a6115fd9522e5e73ac1ebf", func := "boatswain/boatswainlaw01.NumLess", spec := "numLess", inPlace := ["math/bits.Sub64", "math/bits.Add64", "math.Float64bits", "math.Float64frombits", "math.archMin"], apart := false }
def NumLessSaid : Prop := numLessRow.holds Try.pinned (OpenSpec.ofChange numLessSpec)

/-- ITS FALSE NEIGHBOUR: 'it returns false'. Refute it at one input. -/
def numLessWrong : ChangeSpec := { name := "numLess", fn := fun _ => fun
  | [d] => { results := [.lit (.bool false)], args := [d] }
  | _ => none }
def NumLessWrongFalsely : Prop := numLessRow.holds Try.pinned (OpenSpec.ofChange numLessWrong)

/-- 'boatswaintop.TopShares': WHATEVER THE INPUT: true; the input reads as it did. -/
def topSharesSpec : ChangeSpec := { name := "topShares", fn := fun _ => fun
  | [d1, d2] => { results := [.lit (.bool true)], args := [d1, d2] }
  | _ => none }
def topSharesRow : OpenClaim := { program := "ytlekjgaedligdaa", sum := "fa737d7a43c52017a3064c69c094253c4a635e9fa9a6115fd9522e5e73ac1ebf", func := "boatswain/boatswaintop.TopShares", spec := "topShares", inPlace := ["math.Float64frombits", "math.Float64bits", "math.archMin"], apart := false }
def TopSharesSaid : Prop := topSharesRow.holds Try.pinned (OpenSpec.ofChange topSharesSpec)

/-- ITS FALSE NEIGHBOUR: 'it returns false'. Refute it at one input. -/
def topSharesWrong : ChangeSpec := { name := "topShares", fn := fun _ => fun
  | [d1, d2] => { results := [.lit (.bool false)], args := [d1, d2] }
  | _ => none }
def TopSharesWrongFalsely : Prop := topSharesRow.holds Try.pinned (OpenSpec.ofChange topSharesWrong)

/- THE SECOND FORM. 'bulk': how many values and letters a reading holds, each counted each time it is reached (what is shared counts as often as it is met; a slice's spare places count too). A statement '..UptoSaid' is the law's where the arguments, and the package variables that the reading takes, are together of bulk at most 1048576: NARROWER than '..Said'. Prove '..Said' where nothing that the law and all that it calls make is longer than what came in: it says more and counts as full. Else prove '..UptoSaid'. A law counts once. -/
mutual
def uptoBulk {H : Type} : DataW H → Nat
  | .lit (.string bytes) => bytes.length + 1
  | .lit _ => 1
  | .nil => 1
  | .ptr d => uptoBulk d + 1
  | .slice elems spare => uptoBulkAll elems + uptoBulkAll spare + 1
  | .agg parts => uptoBulkAll parts + 1
  | .iface _ d => uptoBulk d + 1
  | .map entries => uptoBulkEntries entries + 1
  | .held _ => 1
def uptoBulkAll {H : Type} : List (DataW H) → Nat
  | [] => 0
  | d :: r => uptoBulk d + uptoBulkAll r
def uptoBulkEntries {H : Type} : List (Lit × DataW H) → Nat
  | [] => 0
  | x :: r => uptoBulkEntry x + uptoBulkEntries r
def uptoBulkEntry {H : Type} : Lit × DataW H → Nat
  | (.string bytes, d) => bytes.length + uptoBulk d + 1
  | (_, d) => uptoBulk d + 1
 end
def uptoSmall : (H : Type) → List (DataW H) → Bool := fun _ ds => decide (uptoBulkAll ds ≤ 1048576)
def OpenSpec.upto (s : _root_.Go.ChangeSpec) : _root_.Go.OpenSpec := { _root_.Go.OpenSpec.ofChange s with cond := some uptoSmall }

/-- 'boatswainlaw01.NumShares', WHERE WHAT IT READS IS OF BULK AT MOST 1048576: true; the input reads as it did. -/
def numSharesUptoRow : OpenClaim := { program := "ytlekjgaedligdaa", sum := "fa737d7a43c52017a3064c69c094253c4a635e9fa9a6115fd9522e5e73ac1ebf", func := "boatswain/boatswainlaw01.NumShares", spec := "numShares", inPlace := ["math/bits.Add64", "math.Float64bits", "math.Float64frombits", "math.archMin"], apart := false, narrowed := true }
def NumSharesUptoSaid : Prop := numSharesUptoRow.holds Try.pinned (OpenSpec.upto numSharesSpec)

/-- 'boatswainlaw01.NumClamps', WHERE WHAT IT READS IS OF BULK AT MOST 1048576: true; the input reads as it did. -/
def numClampsUptoRow : OpenClaim := { program := "ytlekjgaedligdaa", sum := "fa737d7a43c52017a3064c69c094253c4a635e9fa9a6115fd9522e5e73ac1ebf", func := "boatswain/boatswainlaw01.NumClamps", spec := "numClamps", inPlace := ["math.Float64bits", "math.Float64frombits", "math.archMin", "math/bits.Add64"], apart := false, narrowed := true }
def NumClampsUptoSaid : Prop := numClampsUptoRow.holds Try.pinned (OpenSpec.upto numClampsSpec)

/-- 'boatswainlaw01.NumHighest', WHERE WHAT IT READS IS OF BULK AT MOST 1048576: true; the input reads as it did. -/
def numHighestUptoRow : OpenClaim := { program := "ytlekjgaedligdaa", sum := "fa737d7a43c52017a3064c69c094253c4a635e9fa9a6115fd9522e5e73ac1ebf", func := "boatswain/boatswainlaw01.NumHighest", spec := "numHighest", inPlace := ["math/bits.Add64", "math.Float64bits", "math.Float64frombits", "math.archMin"], apart := false, narrowed := true }
def NumHighestUptoSaid : Prop := numHighestUptoRow.holds Try.pinned (OpenSpec.upto numHighestSpec)

/-- 'boatswainlaw01.NumSmall', WHERE WHAT IT READS IS OF BULK AT MOST 1048576: true; the input reads as it did. -/
def numSmallUptoRow : OpenClaim := { program := "ytlekjgaedligdaa", sum := "fa737d7a43c52017a3064c69c094253c4a635e9fa9a6115fd9522e5e73ac1ebf", func := "boatswain/boatswainlaw01.NumSmall", spec := "numSmall", inPlace := ["math/bits.Add64", "math.Float64bits", "math.Float64frombits", "math.archMin"], apart := false, narrowed := true }
def NumSmallUptoSaid : Prop := numSmallUptoRow.holds Try.pinned (OpenSpec.upto numSmallSpec)

/-- 'boatswainlaw01.NumOrder', WHERE WHAT IT READS IS OF BULK AT MOST 1048576: true; the input reads as it did. -/
def numOrderUptoRow : OpenClaim := { program := "ytlekjgaedligdaa", sum := "fa737d7a43c52017a3064c69c094253c4a635e9fa9a6115fd9522e5e73ac1ebf", func := "boatswain/boatswainlaw01.NumOrder", spec := "numOrder", inPlace := ["math/bits.Add64", "math.Float64bits", "math.Float64frombits", "math.archMin"], apart := false, narrowed := true }
def NumOrderUptoSaid : Prop := numOrderUptoRow.holds Try.pinned (OpenSpec.upto numOrderSpec)

/-- 'boatswainlaw01.NumTimes', WHERE WHAT IT READS IS OF BULK AT MOST 1048576: true; the input reads as it did. -/
def numTimesUptoRow : OpenClaim := { program := "ytlekjgaedligdaa", sum := "fa737d7a43c52017a3064c69c094253c4a635e9fa9a6115fd9522e5e73ac1ebf", func := "boatswain/boatswainlaw01.NumTimes", spec := "numTimes", inPlace := ["math/bits.Add64", "math.Float64bits", "math.Float64frombits", "math.archMin"], apart := false, narrowed := true }
def NumTimesUptoSaid : Prop := numTimesUptoRow.holds Try.pinned (OpenSpec.upto numTimesSpec)

/-- 'boatswainlaw01.NumRound', WHERE WHAT IT READS IS OF BULK AT MOST 1048576: true; the input reads as it did. -/
def numRoundUptoRow : OpenClaim := { program := "ytlekjgaedligdaa", sum := "fa737d7a43c52017a3064c69c094253c4a635e9fa9a6115fd9522e5e73ac1ebf", func := "boatswain/boatswainlaw01.NumRound", spec := "numRound", inPlace := ["math/bits.Add64", "math.Float64bits", "math.Float64frombits", "math.archMin"], apart := false, narrowed := true }
def NumRoundUptoSaid : Prop := numRoundUptoRow.holds Try.pinned (OpenSpec.upto numRoundSpec)

/-- 'boatswainlaw01.NumMeans', WHERE WHAT IT READS IS OF BULK AT MOST 1048576: true; the input reads as it did. -/
def numMeansUptoRow : OpenClaim := { program := "ytlekjgaedligdaa", sum := "fa737d7a43c52017a3064c69c094253c4a635e9fa9a6115fd9522e5e73ac1ebf", func := "boatswain/boatswainlaw01.NumMeans", spec := "numMeans", inPlace := ["math.Float64frombits", "math.Float64bits", "math.archMin", "math/bits.Add64"], apart := false, narrowed := true }
def NumMeansUptoSaid : Prop := numMeansUptoRow.holds Try.pinned (OpenSpec.upto numMeansSpec)

/-- 'boatswainlaw01.NumProducts', WHERE WHAT IT READS IS OF BULK AT MOST 1048576: true; the input reads as it did. -/
def numProductsUptoRow : OpenClaim := { program := "ytlekjgaedligdaa", sum := "fa737d7a43c52017a3064c69c094253c4a635e9fa9a6115fd9522e5e73ac1ebf", func := "boatswain/boatswainlaw01.NumProducts", spec := "numProducts", inPlace := ["math/bits.Add64", "math.Float64bits", "math.Float64frombits", "math.archMin", "math/bits.Sub64"], apart := false, narrowed := true }
def NumProductsUptoSaid : Prop := numProductsUptoRow.holds Try.pinned (OpenSpec.upto numProductsSpec)

/-- 'boatswainlaw01.NumLess', WHERE WHAT IT READS IS OF BULK AT MOST 1048576: true; the input reads as it did. -/
def numLessUptoRow : OpenClaim := { program := "ytlekjgaedligdaa", sum := "fa737d7a43c52017a3064c69c094253c4a635e9fa9a6115fd9522e5e73ac1ebf", func := "boatswain/boatswainlaw01.NumLess", spec := "numLess", inPlace := ["math/bits.Sub64", "math/bits.Add64", "math.Float64bits", "math.Float64frombits", "math.archMin"], apart := false, narrowed := true }
def NumLessUptoSaid : Prop := numLessUptoRow.holds Try.pinned (OpenSpec.upto numLessSpec)

/-- 'boatswaintop.TopShares', WHERE WHAT IT READS IS OF BULK AT MOST 1048576: true; the input reads as it did. -/
def topSharesUptoRow : OpenClaim := { program := "ytlekjgaedligdaa", sum := "fa737d7a43c52017a3064c69c094253c4a635e9fa9a6115fd9522e5e73ac1ebf", func := "boatswain/boatswaintop.TopShares", spec := "topShares", inPlace := ["math.Float64frombits", "math.Float64bits", "math.archMin"], apart := false, narrowed := true }
def TopSharesUptoSaid : Prop := topSharesUptoRow.holds Try.pinned (OpenSpec.upto topSharesSpec)

end Rows
end Go.Proofs.Ytlekjgaedligdaa
