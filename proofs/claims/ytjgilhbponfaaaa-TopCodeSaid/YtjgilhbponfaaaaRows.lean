/-
  No cell of these rows narrows 'for every input' (looked for: loops, veiled, ifaces, maps, wideKeys, modest, calm, conditions, laid).
  DERIVED. THE GIVEN ROWS OF THIS SEAT. 9 by the template 'for every input the law returns true; each argument reads behind the call as it read before'; 0 by the template 'total and deterministic' (their statements: YtjgilhbponfaaaaTotals.lean).
  GIVEN WITH THE SEED: the statements are not yours to turn. If you find one false, say at which input.
  Laid BY PROGRAM, IN A SANDBOX (cutbox-rows.mjs): the forced cells as the released guide's own fill.sh prints them over the translation 8095a886378ef4df… (all of the seat's roots in one cut). By AI agents, Wed Nov 11 2026. No macro, syntax, notation, axiom, sorry.
-/
import Derived.Test.YtjgilhbponfaaaaChecked
import GoSem.Claim
import GoSem.ClaimJoined
import GoSem.ClaimMapViews
import Derived.JoinedTies
import Derived.KernelRfl
namespace Go.Proofs.Ytjgilhbponfaaaa
/- THE CELL 'sum', in the pinned program and in every row, IS THE sha256 OF THE DUMP (.gsa) THAT YtjgilhbponfaaaaProg.lean LOADS. Nothing in Lean hashes anything: it is a label: what it is worth is what the hold of that sum in a sandbox is worth. -/
noncomputable def Try.pinned : Pinned := { name := "ytjgilhbponfaaaa", sum := "8095a886378ef4df3d9fd87fe8db4c283ddcb61986910748933e6539500307ca", checked := Try.checked }
namespace Rows
def none {H : Type} : Left H := { results := [], args := [] }

/-- 'boatswainlaw05.ProgChecks': WHATEVER THE INPUT: true; the input reads as it did. -/
def progChecksSpec : ChangeSpec := { name := "progChecks", fn := fun _ => fun
  | [d] => { results := [.lit (.bool true)], args := [d] }
  | _ => none }
def progChecksRow : OpenClaim := { program := "ytjgilhbponfaaaa", sum := "8095a886378ef4df3d9fd87fe8db4c283ddcb61986910748933e6539500307ca", func := "boatswain/boatswainlaw05.ProgChecks", spec := "progChecks", apart := false }
def ProgChecksSaid : Prop := progChecksRow.holds Try.pinned (OpenSpec.ofChange progChecksSpec)

/-- ITS FALSE NEIGHBOUR: 'it returns false'. Refute it at one input. -/
def progChecksWrong : ChangeSpec := { name := "progChecks", fn := fun _ => fun
  | [d] => { results := [.lit (.bool false)], args := [d] }
  | _ => none }
def ProgChecksWrongFalsely : Prop := progChecksRow.holds Try.pinned (OpenSpec.ofChange progChecksWrong)

/-- 'boatswainlaw05.ProgFirst': WHATEVER THE INPUT: true; the input reads as it did. -/
def progFirstSpec : ChangeSpec := { name := "progFirst", fn := fun _ => fun
  | [d] => { results := [.lit (.bool true)], args := [d] }
  | _ => none }
def progFirstRow : OpenClaim := { program := "ytjgilhbponfaaaa", sum := "8095a886378ef4df3d9fd87fe8db4c283ddcb61986910748933e6539500307ca", func := "boatswain/boatswainlaw05.ProgFirst", spec := "progFirst", apart := false }
def ProgFirstSaid : Prop := progFirstRow.holds Try.pinned (OpenSpec.ofChange progFirstSpec)

/-- ITS FALSE NEIGHBOUR: 'it returns false'. Refute it at one input. -/
def progFirstWrong : ChangeSpec := { name := "progFirst", fn := fun _ => fun
  | [d] => { results := [.lit (.bool false)], args := [d] }
  | _ => none }
def ProgFirstWrongFalsely : Prop := progFirstRow.holds Try.pinned (OpenSpec.ofChange progFirstWrong)

/-- 'boatswainlaw05.ProgOne': WHATEVER THE INPUT: true; the input reads as it did. -/
def progOneSpec : ChangeSpec := { name := "progOne", fn := fun _ => fun
  | [d] => { results := [.lit (.bool true)], args := [d] }
  | _ => none }
def progOneRow : OpenClaim := { program := "ytjgilhbponfaaaa", sum := "8095a886378ef4df3d9fd87fe8db4c283ddcb61986910748933e6539500307ca", func := "boatswain/boatswainlaw05.ProgOne", spec := "progOne", apart := false }
def ProgOneSaid : Prop := progOneRow.holds Try.pinned (OpenSpec.ofChange progOneSpec)

/-- ITS FALSE NEIGHBOUR: 'it returns false'. Refute it at one input. -/
def progOneWrong : ChangeSpec := { name := "progOne", fn := fun _ => fun
  | [d] => { results := [.lit (.bool false)], args := [d] }
  | _ => none }
def ProgOneWrongFalsely : Prop := progOneRow.holds Try.pinned (OpenSpec.ofChange progOneWrong)

/-- 'boatswainlaw05.ProgNext': WHATEVER THE INPUT: true; the input reads as it did. -/
def progNextSpec : ChangeSpec := { name := "progNext", fn := fun _ => fun
  | [d1, d2] => { results := [.lit (.bool true)], args := [d1, d2] }
  | _ => none }
def progNextRow : OpenClaim := { program := "ytjgilhbponfaaaa", sum := "8095a886378ef4df3d9fd87fe8db4c283ddcb61986910748933e6539500307ca", func := "boatswain/boatswainlaw05.ProgNext", spec := "progNext", apart := false }
def ProgNextSaid : Prop := progNextRow.holds Try.pinned (OpenSpec.ofChange progNextSpec)

/-- ITS FALSE NEIGHBOUR: 'it returns false'. Refute it at one input. -/
def progNextWrong : ChangeSpec := { name := "progNext", fn := fun _ => fun
  | [d1, d2] => { results := [.lit (.bool false)], args := [d1, d2] }
  | _ => none }
def ProgNextWrongFalsely : Prop := progNextRow.holds Try.pinned (OpenSpec.ofChange progNextWrong)

/-- 'boatswainlaw05.ProgStays': WHATEVER THE INPUT: true; the input reads as it did. -/
def progStaysSpec : ChangeSpec := { name := "progStays", fn := fun _ => fun
  | [d1, d2] => { results := [.lit (.bool true)], args := [d1, d2] }
  | _ => none }
def progStaysRow : OpenClaim := { program := "ytjgilhbponfaaaa", sum := "8095a886378ef4df3d9fd87fe8db4c283ddcb61986910748933e6539500307ca", func := "boatswain/boatswainlaw05.ProgStays", spec := "progStays", apart := false }
def ProgStaysSaid : Prop := progStaysRow.holds Try.pinned (OpenSpec.ofChange progStaysSpec)

/-- ITS FALSE NEIGHBOUR: 'it returns false'. Refute it at one input. -/
def progStaysWrong : ChangeSpec := { name := "progStays", fn := fun _ => fun
  | [d1, d2] => { results := [.lit (.bool false)], args := [d1, d2] }
  | _ => none }
def ProgStaysWrongFalsely : Prop := progStaysRow.holds Try.pinned (OpenSpec.ofChange progStaysWrong)

/-- 'boatswainlaw05.ProgBytes': WHATEVER THE INPUT: true; the input reads as it did. -/
def progBytesSpec : ChangeSpec := { name := "progBytes", fn := fun _ => fun
  | [d1, d2] => { results := [.lit (.bool true)], args := [d1, d2] }
  | _ => none }
def progBytesRow : OpenClaim := { program := "ytjgilhbponfaaaa", sum := "8095a886378ef4df3d9fd87fe8db4c283ddcb61986910748933e6539500307ca", func := "boatswain/boatswainlaw05.ProgBytes", spec := "progBytes", unfollowed := true, recurses := true, apart := false }
def ProgBytesSaid : Prop := progBytesRow.holds Try.pinned (OpenSpec.ofChange progBytesSpec)

/-- ITS FALSE NEIGHBOUR: 'it returns false'. Refute it at one input. -/
def progBytesWrong : ChangeSpec := { name := "progBytes", fn := fun _ => fun
  | [d1, d2] => { results := [.lit (.bool false)], args := [d1, d2] }
  | _ => none }
def ProgBytesWrongFalsely : Prop := progBytesRow.holds Try.pinned (OpenSpec.ofChange progBytesWrong)

/-- 'boatswainlaw05.ProgBack': WHATEVER THE INPUT: true; the input reads as it did. -/
def progBackSpec : ChangeSpec := { name := "progBack", fn := fun _ => fun
  | [d1, d2] => { results := [.lit (.bool true)], args := [d1, d2] }
  | _ => none }
def progBackRow : OpenClaim := { program := "ytjgilhbponfaaaa", sum := "8095a886378ef4df3d9fd87fe8db4c283ddcb61986910748933e6539500307ca", func := "boatswain/boatswainlaw05.ProgBack", spec := "progBack", unfollowed := true, recurses := true, apart := false }
def ProgBackSaid : Prop := progBackRow.holds Try.pinned (OpenSpec.ofChange progBackSpec)

/-- ITS FALSE NEIGHBOUR: 'it returns false'. Refute it at one input. -/
def progBackWrong : ChangeSpec := { name := "progBack", fn := fun _ => fun
  | [d1, d2] => { results := [.lit (.bool false)], args := [d1, d2] }
  | _ => none }
def ProgBackWrongFalsely : Prop := progBackRow.holds Try.pinned (OpenSpec.ofChange progBackWrong)

/-- 'boatswainlaw05.ProgCuts': WHATEVER THE INPUT: true; the input reads as it did. -/
def progCutsSpec : ChangeSpec := { name := "progCuts", fn := fun _ => fun
  | [d1, d2] => { results := [.lit (.bool true)], args := [d1, d2] }
  | _ => none }
def progCutsRow : OpenClaim := { program := "ytjgilhbponfaaaa", sum := "8095a886378ef4df3d9fd87fe8db4c283ddcb61986910748933e6539500307ca", func := "boatswain/boatswainlaw05.ProgCuts", spec := "progCuts", unfollowed := true, recurses := true, apart := false }
def ProgCutsSaid : Prop := progCutsRow.holds Try.pinned (OpenSpec.ofChange progCutsSpec)

/-- ITS FALSE NEIGHBOUR: 'it returns false'. Refute it at one input. -/
def progCutsWrong : ChangeSpec := { name := "progCuts", fn := fun _ => fun
  | [d1, d2] => { results := [.lit (.bool false)], args := [d1, d2] }
  | _ => none }
def ProgCutsWrongFalsely : Prop := progCutsRow.holds Try.pinned (OpenSpec.ofChange progCutsWrong)

/-- 'boatswaintop.TopCode': WHATEVER THE INPUT: true; the input reads as it did. -/
def topCodeSpec : ChangeSpec := { name := "topCode", fn := fun _ => fun
  | [d1, d2] => { results := [.lit (.bool true)], args := [d1, d2] }
  | _ => none }
def topCodeRow : OpenClaim := { program := "ytjgilhbponfaaaa", sum := "8095a886378ef4df3d9fd87fe8db4c283ddcb61986910748933e6539500307ca", func := "boatswain/boatswaintop.TopCode", spec := "topCode", unfollowed := true, recurses := true, apart := false }
def TopCodeSaid : Prop := topCodeRow.holds Try.pinned (OpenSpec.ofChange topCodeSpec)

/-- ITS FALSE NEIGHBOUR: 'it returns false'. Refute it at one input. -/
def topCodeWrong : ChangeSpec := { name := "topCode", fn := fun _ => fun
  | [d1, d2] => { results := [.lit (.bool false)], args := [d1, d2] }
  | _ => none }
def TopCodeWrongFalsely : Prop := topCodeRow.holds Try.pinned (OpenSpec.ofChange topCodeWrong)

/- THE SECOND FORM. 'bulk': how many values and letters a reading holds, each counted each time it is reached (what is shared counts as often as it is met; a slice's spare places count too). A statement '..UptoSaid' is the law's where the arguments, and the package variables that the reading takes, are together of bulk at most 1048576: NARROWER than '..Said'. Prove '..Said' where nothing that the law and all that it calls make is longer than what came in: it says more and counts as full. Else prove '..UptoSaid'. A law counts once. -/
mutual
def uptoBulk {H : Type} : DataW H → Nat
  | .lit (.string bytes) => bytes.length + 1
  | .lit _ => 1
  | .nil => 1
  | .ptr d => uptoBulk d + 1
  | .slice elems spare => uptoBulkAll elems + uptoBulkAll spare + 1
  | .agg parts => uptoBulkAll parts + 1
  | .iface _ d => uptoBulk d + 1
  | .map entries => uptoBulkEntries entries + 1
  | .held _ => 1
def uptoBulkAll {H : Type} : List (DataW H) → Nat
  | [] => 0
  | d :: r => uptoBulk d + uptoBulkAll r
def uptoBulkEntries {H : Type} : List (Lit × DataW H) → Nat
  | [] => 0
  | x :: r => uptoBulkEntry x + uptoBulkEntries r
def uptoBulkEntry {H : Type} : Lit × DataW H → Nat
  | (.string bytes, d) => bytes.length + uptoBulk d + 1
  | (_, d) => uptoBulk d + 1
 end
def uptoSmall : (H : Type) → List (DataW H) → Bool := fun _ ds => decide (uptoBulkAll ds ≤ 1048576)
def OpenSpec.upto (s : _root_.Go.ChangeSpec) : _root_.Go.OpenSpec := { _root_.Go.OpenSpec.ofChange s with cond := some uptoSmall }

/-- 'boatswainlaw05.ProgChecks', WHERE WHAT IT READS IS OF BULK AT MOST 1048576: true; the input reads as it did. -/
def progChecksUptoRow : OpenClaim := { program := "ytjgilhbponfaaaa", sum := "8095a886378ef4df3d9fd87fe8db4c283ddcb61986910748933e6539500307ca", func := "boatswain/boatswainlaw05.ProgChecks", spec := "progChecks", apart := false, narrowed := true }
def ProgChecksUptoSaid : Prop := progChecksUptoRow.holds Try.pinned (OpenSpec.upto progChecksSpec)

/-- 'boatswainlaw05.ProgFirst', WHERE WHAT IT READS IS OF BULK AT MOST 1048576: true; the input reads as it did. -/
def progFirstUptoRow : OpenClaim := { program := "ytjgilhbponfaaaa", sum := "8095a886378ef4df3d9fd87fe8db4c283ddcb61986910748933e6539500307ca", func := "boatswain/boatswainlaw05.ProgFirst", spec := "progFirst", apart := false, narrowed := true }
def ProgFirstUptoSaid : Prop := progFirstUptoRow.holds Try.pinned (OpenSpec.upto progFirstSpec)

/-- 'boatswainlaw05.ProgOne', WHERE WHAT IT READS IS OF BULK AT MOST 1048576: true; the input reads as it did. -/
def progOneUptoRow : OpenClaim := { program := "ytjgilhbponfaaaa", sum := "8095a886378ef4df3d9fd87fe8db4c283ddcb61986910748933e6539500307ca", func := "boatswain/boatswainlaw05.ProgOne", spec := "progOne", apart := false, narrowed := true }
def ProgOneUptoSaid : Prop := progOneUptoRow.holds Try.pinned (OpenSpec.upto progOneSpec)

/-- 'boatswainlaw05.ProgNext', WHERE WHAT IT READS IS OF BULK AT MOST 1048576: true; the input reads as it did. -/
def progNextUptoRow : OpenClaim := { program := "ytjgilhbponfaaaa", sum := "8095a886378ef4df3d9fd87fe8db4c283ddcb61986910748933e6539500307ca", func := "boatswain/boatswainlaw05.ProgNext", spec := "progNext", apart := false, narrowed := true }
def ProgNextUptoSaid : Prop := progNextUptoRow.holds Try.pinned (OpenSpec.upto progNextSpec)

/-- 'boatswainlaw05.ProgStays', WHERE WHAT IT READS IS OF BULK AT MOST 1048576: true; the input reads as it did. -/
def progStaysUptoRow : OpenClaim := { program := "ytjgilhbponfaaaa", sum := "8095a886378ef4df3d9fd87fe8db4c283ddcb61986910748933e6539500307ca", func := "boatswain/boatswainlaw05.ProgStays", spec := "progStays", apart := false, narrowed := true }
def ProgStaysUptoSaid : Prop := progStaysUptoRow.holds Try.pinned (OpenSpec.upto progStaysSpec)

/-- 'boatswainlaw05.ProgBytes', WHERE WHAT IT READS IS OF BULK AT MOST 1048576: true; the input reads as it did. -/
def progBytesUptoRow : OpenClaim := { program := "ytjgilhbponfaaaa", sum := "8095a886378ef4df3d9fd87fe8db4c283ddcb61986910748933e6539500307ca", func := "boatswain/boatswainlaw05.ProgBytes", spec := "progBytes", unfollowed := true, recurses := true, apart := false, narrowed := true }
def ProgBytesUptoSaid : Prop := progBytesUptoRow.holds Try.pinned (OpenSpec.upto progBytesSpec)

/-- 'boatswainlaw05.ProgBack', WHERE WHAT IT READS IS OF BULK AT MOST 1048576: true; the input reads as it did. -/
def progBackUptoRow : OpenClaim := { program := "ytjgilhbponfaaaa", sum := "8095a886378ef4df3d9fd87fe8db4c283ddcb61986910748933e6539500307ca", func := "boatswain/boatswainlaw05.ProgBack", spec := "progBack", unfollowed := true, recurses := true, apart := false, narrowed := true }
def ProgBackUptoSaid : Prop := progBackUptoRow.holds Try.pinned (OpenSpec.upto progBackSpec)

/-- 'boatswainlaw05.ProgCuts', WHERE WHAT IT READS IS OF BULK AT MOST 1048576: true; the input reads as it did. -/
def progCutsUptoRow : OpenClaim := { program := "ytjgilhbponfaaaa", sum := "8095a886378ef4df3d9fd87fe8db4c283ddcb61986910748933e6539500307ca", func := "boatswain/boatswainlaw05.ProgCuts", spec := "progCuts", unfollowed := true, recurses := true, apart := false, narrowed := true }
def ProgCutsUptoSaid : Prop := progCutsUptoRow.holds Try.pinned (OpenSpec.upto progCutsSpec)

/-- 'boatswaintop.TopCode', WHERE WHAT IT READS IS OF BULK AT MOST 1048576: true; the input reads as it did. -/
def topCodeUptoRow : OpenClaim := { program := "ytjgilhbponfaaaa", sum := "8095a886378ef4df3d9fd87fe8db4c283ddcb61986910748933e6539500307ca", func := "boatswain/boatswaintop.TopCode", spec := "topCode", unfollowed := true, recurses := true, apart := false, narrowed := true }
def TopCodeUptoSaid : Prop := topCodeUptoRow.holds Try.pinned (OpenSpec.upto topCodeSpec)

end Rows
end Go.Proofs.Ytjgilhbponfaaaa
