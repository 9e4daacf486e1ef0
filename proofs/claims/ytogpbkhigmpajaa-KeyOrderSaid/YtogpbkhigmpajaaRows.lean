/-
  No cell of these rows narrows 'for every input' (looked for: loops, veiled, ifaces, maps, wideKeys, modest, calm, conditions, laid).
  DERIVED. THE GIVEN ROWS OF THIS SEAT. 6 by the template 'for every input the law returns true; each argument reads behind the call as it read before'; 0 by the template 'total and deterministic' (their statements: YtogpbkhigmpajaaTotals.lean).
  GIVEN WITH THE SEED: the statements are not yours to turn. If you find one false, say at which input.
  Laid BY PROGRAM, IN A SANDBOX (cutbox-rows.mjs): the forced cells as the released guide's own fill.sh prints them over the translation d598ae26c96c7c70… (all of the seat's roots in one cut). By AI agents, Wed Nov 11 2026. No macro, syntax, notation, axiom, sorry.
-/
import Derived.Test.YtogpbkhigmpajaaChecked
import GoSem.Claim
import GoSem.ClaimJoined
import GoSem.ClaimMapViews
import Derived.JoinedTies
import Derived.KernelRfl
namespace Go.Proofs.Ytogpbkhigmpajaa
/- THE CELL 'sum', in the pinned program and in every row, IS THE sha256 OF THE DUMP (.gsa) THAT YtogpbkhigmpajaaProg.lean LOADS. Nothing in Lean hashes anything: it is a label: what it is worth is what the hold of that sum in a sandbox is worth. -/
noncomputable def Try.pinned : Pinned := { name := "ytogpbkhigmpajaa", sum := "d598ae26c96c7c703016fcde7af7b964f95ea70639b5f8a35608d81a9edc1538", checked := Try.checked }
namespace Rows
def none {H : Type} : Left H := { results := [], args := [] }

/-- 'boatswainlaw08.KeyMakes': WHATEVER THE INPUT: true; the input reads as it did. -/
def keyMakesSpec : ChangeSpec := { name := "keyMakes", fn := fun _ => fun
  | [d1, d2, d3] => { results := [.lit (.bool true)], args := [d1, d2, d3] }
  | _ => none }
def keyMakesRow : OpenClaim := { program := "ytogpbkhigmpajaa", sum := "d598ae26c96c7c703016fcde7af7b964f95ea70639b5f8a35608d81a9edc1538", func := "boatswain/boatswainlaw08.KeyMakes", spec := "keyMakes", apart := false }
def KeyMakesSaid : Prop := keyMakesRow.holds Try.pinned (OpenSpec.ofChange keyMakesSpec)

/-- ITS FALSE NEIGHBOUR: 'it returns false'. Refute it at one input. -/
def keyMakesWrong : ChangeSpec := { name := "keyMakes", fn := fun _ => fun
  | [d1, d2, d3] => { results := [.lit (.bool false)], args := [d1, d2, d3] }
  | _ => none }
def KeyMakesWrongFalsely : Prop := keyMakesRow.holds Try.pinned (OpenSpec.ofChange keyMakesWrong)

/-- 'boatswainlaw08.KeyRanks': WHATEVER THE INPUT: true; the input reads as it did. -/
def keyRanksSpec : ChangeSpec := { name := "keyRanks", fn := fun _ => fun
  | [d1, d2] => { results := [.lit (.bool true)], args := [d1, d2] }
  | _ => none }
def keyRanksRow : OpenClaim := { program := "ytogpbkhigmpajaa", sum := "d598ae26c96c7c703016fcde7af7b964f95ea70639b5f8a35608d81a9edc1538", func := "boatswain/boatswainlaw08.KeyRanks", spec := "keyRanks", apart := false }
def KeyRanksSaid : Prop := keyRanksRow.holds Try.pinned (OpenSpec.ofChange keyRanksSpec)

/-- ITS FALSE NEIGHBOUR: 'it returns false'. Refute it at one input. -/
def keyRanksWrong : ChangeSpec := { name := "keyRanks", fn := fun _ => fun
  | [d1, d2] => { results := [.lit (.bool false)], args := [d1, d2] }
  | _ => none }
def KeyRanksWrongFalsely : Prop := keyRanksRow.holds Try.pinned (OpenSpec.ofChange keyRanksWrong)

/-- 'boatswainlaw08.KeyOrder': WHATEVER THE INPUT: true; the input reads as it did. -/
def keyOrderSpec : ChangeSpec := { name := "keyOrder", fn := fun _ => fun
  | [d] => { results := [.lit (.bool true)], args := [d] }
  | _ => none }
def keyOrderRow : OpenClaim := { program := "ytogpbkhigmpajaa", sum := "d598ae26c96c7c703016fcde7af7b964f95ea70639b5f8a35608d81a9edc1538", func := "boatswain/boatswainlaw08.KeyOrder", spec := "keyOrder", apart := false }
def KeyOrderSaid : Prop := keyOrderRow.holds Try.pinned (OpenSpec.ofChange keyOrderSpec)

/-- ITS FALSE NEIGHBOUR: 'it returns false'. Refute it at one input. -/
def keyOrderWrong : ChangeSpec := { name := "keyOrder", fn := fun _ => fun
  | [d] => { results := [.lit (.bool false)], args := [d] }
  | _ => none }
def KeyOrderWrongFalsely : Prop := keyOrderRow.holds Try.pinned (OpenSpec.ofChange keyOrderWrong)

/-- 'boatswainlaw08.KeyMax': WHATEVER THE INPUT: true; the input reads as it did. -/
def keyMaxSpec : ChangeSpec := { name := "keyMax", fn := fun _ => fun
  | [d1, d2] => { results := [.lit (.bool true)], args := [d1, d2] }
  | _ => none }
def keyMaxRow : OpenClaim := { program := "ytogpbkhigmpajaa", sum := "d598ae26c96c7c703016fcde7af7b964f95ea70639b5f8a35608d81a9edc1538", func := "boatswain/boatswainlaw08.KeyMax", spec := "keyMax", apart := false }
def KeyMaxSaid : Prop := keyMaxRow.holds Try.pinned (OpenSpec.ofChange keyMaxSpec)

/-- ITS FALSE NEIGHBOUR: 'it returns false'. Refute it at one input. -/
def keyMaxWrong : ChangeSpec := { name := "keyMax", fn := fun _ => fun
  | [d1, d2] => { results := [.lit (.bool false)], args := [d1, d2] }
  | _ => none }
def KeyMaxWrongFalsely : Prop := keyMaxRow.holds Try.pinned (OpenSpec.ofChange keyMaxWrong)

/-- 'boatswainlaw08.KeyLevels': WHATEVER THE INPUT: true; the input reads as it did. -/
def keyLevelsSpec : ChangeSpec := { name := "keyLevels", fn := fun _ => fun
  | [d1, d2, d3] => { results := [.lit (.bool true)], args := [d1, d2, d3] }
  | _ => none }
def keyLevelsRow : OpenClaim := { program := "ytogpbkhigmpajaa", sum := "d598ae26c96c7c703016fcde7af7b964f95ea70639b5f8a35608d81a9edc1538", func := "boatswain/boatswainlaw08.KeyLevels", spec := "keyLevels", apart := false }
def KeyLevelsSaid : Prop := keyLevelsRow.holds Try.pinned (OpenSpec.ofChange keyLevelsSpec)

/-- ITS FALSE NEIGHBOUR: 'it returns false'. Refute it at one input. -/
def keyLevelsWrong : ChangeSpec := { name := "keyLevels", fn := fun _ => fun
  | [d1, d2, d3] => { results := [.lit (.bool false)], args := [d1, d2, d3] }
  | _ => none }
def KeyLevelsWrongFalsely : Prop := keyLevelsRow.holds Try.pinned (OpenSpec.ofChange keyLevelsWrong)

/-- 'boatswainlaw08.KeyAbove': WHATEVER THE INPUT: true; the input reads as it did. -/
def keyAboveSpec : ChangeSpec := { name := "keyAbove", fn := fun _ => fun
  | [d1, d2] => { results := [.lit (.bool true)], args := [d1, d2] }
  | _ => none }
def keyAboveRow : OpenClaim := { program := "ytogpbkhigmpajaa", sum := "d598ae26c96c7c703016fcde7af7b964f95ea70639b5f8a35608d81a9edc1538", func := "boatswain/boatswainlaw08.KeyAbove", spec := "keyAbove", apart := false }
def KeyAboveSaid : Prop := keyAboveRow.holds Try.pinned (OpenSpec.ofChange keyAboveSpec)

/-- ITS FALSE NEIGHBOUR: 'it returns false'. Refute it at one input. -/
def keyAboveWrong : ChangeSpec := { name := "keyAbove", fn := fun _ => fun
  | [d1, d2] => { results := [.lit (.bool false)], args := [d1, d2] }
  | _ => none }
def KeyAboveWrongFalsely : Prop := keyAboveRow.holds Try.pinned (OpenSpec.ofChange keyAboveWrong)

/- THE SECOND FORM. 'bulk': how many values and letters a reading holds, each counted each time it is reached (what is shared counts as often as it is met; a slice's spare places count too). A statement '..UptoSaid' is the law's where the arguments, and the package variables that the reading takes, are together of bulk at most 1048576: NARROWER than '..Said'. Prove '..Said' where nothing that the law and all that it calls make is longer than what came in: it says more and counts as full. Else prove '..UptoSaid'. A law counts once. -/
mutual
def uptoBulk {H : Type} : DataW H → Nat
  | .lit (.string bytes) => bytes.length + 1
  | .lit _ => 1
  | .nil => 1
  | .ptr d => uptoBulk d + 1
  | .slice elems spare => uptoBulkAll elems + uptoBulkAll spare + 1
  | .agg parts => uptoBulkAll parts + 1
  | .iface _ d => uptoBulk d + 1
  | .map entries => uptoBulkEntries entries + 1
  | .held _ => 1
def uptoBulkAll {H : Type} : List (DataW H) → Nat
  | [] => 0
  | d :: r => uptoBulk d + uptoBulkAll r
def uptoBulkEntries {H : Type} : List (Lit × DataW H) → Nat
  | [] => 0
  | x :: r => uptoBulkEntry x + uptoBulkEntries r
def uptoBulkEntry {H : Type} : Lit × DataW H → Nat
  | (.string bytes, d) => bytes.length + uptoBulk d + 1
  | (_, d) => uptoBulk d + 1
 end
def uptoSmall : (H : Type) → List (DataW H) → Bool := fun _ ds => decide (uptoBulkAll ds ≤ 1048576)
def OpenSpec.upto (s : _root_.Go.ChangeSpec) : _root_.Go.OpenSpec := { _root_.Go.OpenSpec.ofChange s with cond := some uptoSmall }

/-- 'boatswainlaw08.KeyMakes', WHERE WHAT IT READS IS OF BULK AT MOST 1048576: true; the input reads as it did. -/
def keyMakesUptoRow : OpenClaim := { program := "ytogpbkhigmpajaa", sum := "d598ae26c96c7c703016fcde7af7b964f95ea70639b5f8a35608d81a9edc1538", func := "boatswain/boatswainlaw08.KeyMakes", spec := "keyMakes", apart := false, narrowed := true }
def KeyMakesUptoSaid : Prop := keyMakesUptoRow.holds Try.pinned (OpenSpec.upto keyMakesSpec)

/-- 'boatswainlaw08.KeyRanks', WHERE WHAT IT READS IS OF BULK AT MOST 1048576: true; the input reads as it did. -/
def keyRanksUptoRow : OpenClaim := { program := "ytogpbkhigmpajaa", sum := "d598ae26c96c7c703016fcde7af7b964f95ea70639b5f8a35608d81a9edc1538", func := "boatswain/boatswainlaw08.KeyRanks", spec := "keyRanks", apart := false, narrowed := true }
def KeyRanksUptoSaid : Prop := keyRanksUptoRow.holds Try.pinned (OpenSpec.upto keyRanksSpec)

/-- 'boatswainlaw08.KeyOrder', WHERE WHAT IT READS IS OF BULK AT MOST 1048576: true; the input reads as it did. -/
def keyOrderUptoRow : OpenClaim := { program := "ytogpbkhigmpajaa", sum := "d598ae26c96c7c703016fcde7af7b964f95ea70639b5f8a35608d81a9edc1538", func := "boatswain/boatswainlaw08.KeyOrder", spec := "keyOrder", apart := false, narrowed := true }
def KeyOrderUptoSaid : Prop := keyOrderUptoRow.holds Try.pinned (OpenSpec.upto keyOrderSpec)

/-- 'boatswainlaw08.KeyMax', WHERE WHAT IT READS IS OF BULK AT MOST 1048576: true; the input reads as it did. -/
def keyMaxUptoRow : OpenClaim := { program := "ytogpbkhigmpajaa", sum := "d598ae26c96c7c703016fcde7af7b964f95ea70639b5f8a35608d81a9edc1538", func := "boatswain/boatswainlaw08.KeyMax", spec := "keyMax", apart := false, narrowed := true }
def KeyMaxUptoSaid : Prop := keyMaxUptoRow.holds Try.pinned (OpenSpec.upto keyMaxSpec)

/-- 'boatswainlaw08.KeyLevels', WHERE WHAT IT READS IS OF BULK AT MOST 1048576: true; the input reads as it did. -/
def keyLevelsUptoRow : OpenClaim := { program := "ytogpbkhigmpajaa", sum := "d598ae26c96c7c703016fcde7af7b964f95ea70639b5f8a35608d81a9edc1538", func := "boatswain/boatswainlaw08.KeyLevels", spec := "keyLevels", apart := false, narrowed := true }
def KeyLevelsUptoSaid : Prop := keyLevelsUptoRow.holds Try.pinned (OpenSpec.upto keyLevelsSpec)

/-- 'boatswainlaw08.KeyAbove', WHERE WHAT IT READS IS OF BULK AT MOST 1048576: true; the input reads as it did. -/
def keyAboveUptoRow : OpenClaim := { program := "ytogpbkhigmpajaa", sum := "d598ae26c96c7c703016fcde7af7b964f95ea70639b5f8a35608d81a9edc1538", func := "boatswain/boatswainlaw08.KeyAbove", spec := "keyAbove", apart := false, narrowed := true }
def KeyAboveUptoSaid : Prop := keyAboveUptoRow.holds Try.pinned (OpenSpec.upto keyAboveSpec)

end Rows
end Go.Proofs.Ytogpbkhigmpajaa
