/-
  No cell of these rows narrows 'for every input' (looked for: loops, veiled, ifaces, maps, wideKeys, modest, calm, conditions, laid).
  DERIVED. THE GIVEN ROWS OF THIS SEAT. 6 by the template 'for every input the law returns true; each argument reads behind the call as it read before'; 0 by the template 'total and deterministic' (their statements: YtnkgimjjfnanbaaTotals.lean).
  GIVEN WITH THE SEED: the statements are not yours to turn. If you find one false, say at which input.
  Laid BY PROGRAM, IN A SANDBOX (cutbox-rows.mjs): the forced cells as the released guide's own fill.sh prints them over the translation c3893228491636b1… (all of the seat's roots in one cut). By AI agents, Wed Nov 11 2026. No macro, syntax, notation, axiom, sorry.
-/
import Derived.Test.YtnkgimjjfnanbaaChecked
import GoSem.Claim
import GoSem.ClaimJoined
import GoSem.ClaimMapViews
import Derived.JoinedTies
import Derived.KernelRfl
namespace Go.Proofs.Ytnkgimjjfnanbaa
/- THE CELL 'sum', in the pinned program and in every row, IS THE sha256 OF THE DUMP (.gsa) THAT YtnkgimjjfnanbaaProg.lean LOADS. Nothing in Lean hashes anything: it is a label: what it is worth is what the hold of that sum in a sandbox is worth. -/
noncomputable def Try.pinned : Pinned := { name := "ytnkgimjjfnanbaa", sum := "c3893228491636b1f15de9cbee8f0d4e241ef70b7aadf2479a115a129bd832fd", checked := Try.checked }
namespace Rows
def none {H : Type} : Left H := { results := [], args := [] }

/-- 'boatswainlaw13.ExecRuns': WHATEVER THE INPUT: true; the input reads as it did. -/
def execRunsSpec : ChangeSpec := { name := "execRuns", fn := fun _ => fun
  | [d1, d2] => { results := [.lit (.bool true)], args := [d1, d2] }
  | _ => none }
def execRunsRow : OpenClaim := { program := "ytnkgimjjfnanbaa", sum := "c3893228491636b1f15de9cbee8f0d4e241ef70b7aadf2479a115a129bd832fd", func := "boatswain/boatswainlaw13.ExecRuns", spec := "execRuns", apart := false }
def ExecRunsSaid : Prop := execRunsRow.holds Try.pinned (OpenSpec.ofChange execRunsSpec)

/-- ITS FALSE NEIGHBOUR: 'it returns false'. Refute it at one input. -/
def execRunsWrong : ChangeSpec := { name := "execRuns", fn := fun _ => fun
  | [d1, d2] => { results := [.lit (.bool false)], args := [d1, d2] }
  | _ => none }
def ExecRunsWrongFalsely : Prop := execRunsRow.holds Try.pinned (OpenSpec.ofChange execRunsWrong)

/-- 'boatswainlaw13.ExecStays': WHATEVER THE INPUT: true; the input reads as it did. -/
def execStaysSpec : ChangeSpec := { name := "execStays", fn := fun _ => fun
  | [d1, d2] => { results := [.lit (.bool true)], args := [d1, d2] }
  | _ => none }
def execStaysRow : OpenClaim := { program := "ytnkgimjjfnanbaa", sum := "c3893228491636b1f15de9cbee8f0d4e241ef70b7aadf2479a115a129bd832fd", func := "boatswain/boatswainlaw13.ExecStays", spec := "execStays", apart := false }
def ExecStaysSaid : Prop := execStaysRow.holds Try.pinned (OpenSpec.ofChange execStaysSpec)

/-- ITS FALSE NEIGHBOUR: 'it returns false'. Refute it at one input. -/
def execStaysWrong : ChangeSpec := { name := "execStays", fn := fun _ => fun
  | [d1, d2] => { results := [.lit (.bool false)], args := [d1, d2] }
  | _ => none }
def ExecStaysWrongFalsely : Prop := execStaysRow.holds Try.pinned (OpenSpec.ofChange execStaysWrong)

/-- 'boatswainlaw13.ExecBusy': WHATEVER THE INPUT: true; the input reads as it did. -/
def execBusySpec : ChangeSpec := { name := "execBusy", fn := fun _ => fun
  | [d1, d2] => { results := [.lit (.bool true)], args := [d1, d2] }
  | _ => none }
def execBusyRow : OpenClaim := { program := "ytnkgimjjfnanbaa", sum := "c3893228491636b1f15de9cbee8f0d4e241ef70b7aadf2479a115a129bd832fd", func := "boatswain/boatswainlaw13.ExecBusy", spec := "execBusy", apart := false }
def ExecBusySaid : Prop := execBusyRow.holds Try.pinned (OpenSpec.ofChange execBusySpec)

/-- ITS FALSE NEIGHBOUR: 'it returns false'. Refute it at one input. -/
def execBusyWrong : ChangeSpec := { name := "execBusy", fn := fun _ => fun
  | [d1, d2] => { results := [.lit (.bool false)], args := [d1, d2] }
  | _ => none }
def ExecBusyWrongFalsely : Prop := execBusyRow.holds Try.pinned (OpenSpec.ofChange execBusyWrong)

/-- 'boatswainlaw13.ExecEnds': WHATEVER THE INPUT: true; the input reads as it did. -/
def execEndsSpec : ChangeSpec := { name := "execEnds", fn := fun _ => fun
  | [d1, d2, d3] => { results := [.lit (.bool true)], args := [d1, d2, d3] }
  | _ => none }
def execEndsRow : OpenClaim := { program := "ytnkgimjjfnanbaa", sum := "c3893228491636b1f15de9cbee8f0d4e241ef70b7aadf2479a115a129bd832fd", func := "boatswain/boatswainlaw13.ExecEnds", spec := "execEnds", apart := false }
def ExecEndsSaid : Prop := execEndsRow.holds Try.pinned (OpenSpec.ofChange execEndsSpec)

/-- ITS FALSE NEIGHBOUR: 'it returns false'. Refute it at one input. -/
def execEndsWrong : ChangeSpec := { name := "execEnds", fn := fun _ => fun
  | [d1, d2, d3] => { results := [.lit (.bool false)], args := [d1, d2, d3] }
  | _ => none }
def ExecEndsWrongFalsely : Prop := execEndsRow.holds Try.pinned (OpenSpec.ofChange execEndsWrong)

/-- 'boatswainlaw13.ExecWrong': WHATEVER THE INPUT: true; the input reads as it did. -/
def execWrongSpec : ChangeSpec := { name := "execWrong", fn := fun _ => fun
  | [d1, d2] => { results := [.lit (.bool true)], args := [d1, d2] }
  | _ => none }
def execWrongRow : OpenClaim := { program := "ytnkgimjjfnanbaa", sum := "c3893228491636b1f15de9cbee8f0d4e241ef70b7aadf2479a115a129bd832fd", func := "boatswain/boatswainlaw13.ExecWrong", spec := "execWrong", apart := false }
def ExecWrongSaid : Prop := execWrongRow.holds Try.pinned (OpenSpec.ofChange execWrongSpec)

/-- ITS FALSE NEIGHBOUR: 'it returns false'. Refute it at one input. -/
def execWrongWrong : ChangeSpec := { name := "execWrong", fn := fun _ => fun
  | [d1, d2] => { results := [.lit (.bool false)], args := [d1, d2] }
  | _ => none }
def ExecWrongWrongFalsely : Prop := execWrongRow.holds Try.pinned (OpenSpec.ofChange execWrongWrong)

/-- 'boatswainlaw13.ExecMoves': WHATEVER THE INPUT: true; the input reads as it did. -/
def execMovesSpec : ChangeSpec := { name := "execMoves", fn := fun _ => fun
  | [d1, d2] => { results := [.lit (.bool true)], args := [d1, d2] }
  | _ => none }
def execMovesRow : OpenClaim := { program := "ytnkgimjjfnanbaa", sum := "c3893228491636b1f15de9cbee8f0d4e241ef70b7aadf2479a115a129bd832fd", func := "boatswain/boatswainlaw13.ExecMoves", spec := "execMoves", apart := false }
def ExecMovesSaid : Prop := execMovesRow.holds Try.pinned (OpenSpec.ofChange execMovesSpec)

/-- ITS FALSE NEIGHBOUR: 'it returns false'. Refute it at one input. -/
def execMovesWrong : ChangeSpec := { name := "execMoves", fn := fun _ => fun
  | [d1, d2] => { results := [.lit (.bool false)], args := [d1, d2] }
  | _ => none }
def ExecMovesWrongFalsely : Prop := execMovesRow.holds Try.pinned (OpenSpec.ofChange execMovesWrong)

/- THE SECOND FORM. 'bulk': how many values and letters a reading holds, each counted each time it is reached (what is shared counts as often as it is met; a slice's spare places count too). A statement '..UptoSaid' is the law's where the arguments, and the package variables that the reading takes, are together of bulk at most 1048576: NARROWER than '..Said'. Prove '..Said' where nothing that the law and all that it calls make is longer than what came in: it says more and counts as full. Else prove '..UptoSaid'. A law counts once. -/
mutual
def uptoBulk {H : Type} : DataW H → Nat
  | .lit (.string bytes) => bytes.length + 1
  | .lit _ => 1
  | .nil => 1
  | .ptr d => uptoBulk d + 1
  | .slice elems spare => uptoBulkAll elems + uptoBulkAll spare + 1
  | .agg parts => uptoBulkAll parts + 1
  | .iface _ d => uptoBulk d + 1
  | .map entries => uptoBulkEntries entries + 1
  | .held _ => 1
def uptoBulkAll {H : Type} : List (DataW H) → Nat
  | [] => 0
  | d :: r => uptoBulk d + uptoBulkAll r
def uptoBulkEntries {H : Type} : List (Lit × DataW H) → Nat
  | [] => 0
  | x :: r => uptoBulkEntry x + uptoBulkEntries r
def uptoBulkEntry {H : Type} : Lit × DataW H → Nat
  | (.string bytes, d) => bytes.length + uptoBulk d + 1
  | (_, d) => uptoBulk d + 1
 end
def uptoSmall : (H : Type) → List (DataW H) → Bool := fun _ ds => decide (uptoBulkAll ds ≤ 1048576)
def OpenSpec.upto (s : _root_.Go.ChangeSpec) : _root_.Go.OpenSpec := { _root_.Go.OpenSpec.ofChange s with cond := some uptoSmall }

/-- 'boatswainlaw13.ExecRuns', WHERE WHAT IT READS IS OF BULK AT MOST 1048576: true; the input reads as it did. -/
def execRunsUptoRow : OpenClaim := { program := "ytnkgimjjfnanbaa", sum := "c3893228491636b1f15de9cbee8f0d4e241ef70b7aadf2479a115a129bd832fd", func := "boatswain/boatswainlaw13.ExecRuns", spec := "execRuns", apart := false, narrowed := true }
def ExecRunsUptoSaid : Prop := execRunsUptoRow.holds Try.pinned (OpenSpec.upto execRunsSpec)

/-- 'boatswainlaw13.ExecStays', WHERE WHAT IT READS IS OF BULK AT MOST 1048576: true; the input reads as it did. -/
def execStaysUptoRow : OpenClaim := { program := "ytnkgimjjfnanbaa", sum := "c3893228491636b1f15de9cbee8f0d4e241ef70b7aadf2479a115a129bd832fd", func := "boatswain/boatswainlaw13.ExecStays", spec := "execStays", apart := false, narrowed := true }
def ExecStaysUptoSaid : Prop := execStaysUptoRow.holds Try.pinned (OpenSpec.upto execStaysSpec)

/-- 'boatswainlaw13.ExecBusy', WHERE WHAT IT READS IS OF BULK AT MOST 1048576: true; the input reads as it did. -/
def execBusyUptoRow : OpenClaim := { program := "ytnkgimjjfnanbaa", sum := "c3893228491636b1f15de9cbee8f0d4e241ef70b7aadf2479a115a129bd832fd", func := "boatswain/boatswainlaw13.ExecBusy", spec := "execBusy", apart := false, narrowed := true }
def ExecBusyUptoSaid : Prop := execBusyUptoRow.holds Try.pinned (OpenSpec.upto execBusySpec)

/-- 'boatswainlaw13.ExecEnds', WHERE WHAT IT READS IS OF BULK AT MOST 1048576: true; the input reads as it did. -/
def execEndsUptoRow : OpenClaim := { program := "ytnkgimjjfnanbaa", sum := "c3893228491636b1f15de9cbee8f0d4e241ef70b7aadf2479a115a129bd832fd", func := "boatswain/boatswainlaw13.ExecEnds", spec := "execEnds", apart := false, narrowed := true }
def ExecEndsUptoSaid : Prop := execEndsUptoRow.holds Try.pinned (OpenSpec.upto execEndsSpec)

/-- 'boatswainlaw13.ExecWrong', WHERE WHAT IT READS IS OF BULK AT MOST 1048576: true; the input reads as it did. -/
def execWrongUptoRow : OpenClaim := { program := "ytnkgimjjfnanbaa", sum := "c3893228491636b1f15de9cbee8f0d4e241ef70b7aadf2479a115a129bd832fd", func := "boatswain/boatswainlaw13.ExecWrong", spec := "execWrong", apart := false, narrowed := true }
def ExecWrongUptoSaid : Prop := execWrongUptoRow.holds Try.pinned (OpenSpec.upto execWrongSpec)

/-- 'boatswainlaw13.ExecMoves', WHERE WHAT IT READS IS OF BULK AT MOST 1048576: true; the input reads as it did. -/
def execMovesUptoRow : OpenClaim := { program := "ytnkgimjjfnanbaa", sum := "c3893228491636b1f15de9cbee8f0d4e241ef70b7aadf2479a115a129bd832fd", func := "boatswain/boatswainlaw13.ExecMoves", spec := "execMoves", apart := false, narrowed := true }
def ExecMovesUptoSaid : Prop := execMovesUptoRow.holds Try.pinned (OpenSpec.upto execMovesSpec)

end Rows
end Go.Proofs.Ytnkgimjjfnanbaa
