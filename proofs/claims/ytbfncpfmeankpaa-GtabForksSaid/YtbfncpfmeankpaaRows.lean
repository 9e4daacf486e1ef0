/-
  No cell of these rows narrows 'for every input' (looked for: loops, veiled, ifaces, maps, wideKeys, modest, calm, conditions, laid).
  DERIVED. THE GIVEN ROWS OF THIS SEAT. 9 by the template 'for every input the law returns true; each argument reads behind the call as it read before'; 0 by the template 'total and deterministic' (their statements: YtbfncpfmeankpaaTotals.lean).
  GIVEN WITH THE SEED: the statements are not yours to turn. If you find one false, say at which input.
  Laid BY PROGRAM, IN A SANDBOX (cutbox-rows.mjs): the forced cells as the released guide's own fill.sh prints them over the translation 87483c71ba05edea… (all of the seat's roots in one cut). By AI agents, Wed Nov 11 2026. No macro, syntax, notation, axiom, sorry.
-/
import Derived.Test.YtbfncpfmeankpaaChecked
import GoSem.Claim
import GoSem.ClaimJoined
import GoSem.ClaimMapViews
import Derived.JoinedTies
import Derived.KernelRfl
namespace Go.Proofs.Ytbfncpfmeankpaa
/- THE CELL 'sum', in the pinned program and in every row, IS THE sha256 OF THE DUMP (.gsa) THAT YtbfncpfmeankpaaProg.lean LOADS. Nothing in Lean hashes anything: it is a label: what it is worth is what the hold of that sum in a sandbox is worth. -/
noncomputable def Try.pinned : Pinned := { name := "ytbfncpfmeankpaa", sum := "87483c71ba05edea645f8a9940297f2623c15b50a0bad09787df4a95927677ee", checked := Try.checked }
namespace Rows
def none {H : Type} : Left H := { results := [], args := [] }

/-- 'boatswainlaw06.GtabOnce': WHATEVER THE INPUT: true; the input reads as it did. -/
def gtabOnceSpec : ChangeSpec := { name := "gtabOnce", fn := fun _ => fun
  | [d1, d2] => { results := [.lit (.bool true)], args := [d1, d2] }
  | _ => none }
def gtabOnceRow : OpenClaim := { program := "ytbfncpfmeankpaa", sum := "87483c71ba05edea645f8a9940297f2623c15b50a0bad09787df4a95927677ee", func := "boatswain/boatswainlaw06.GtabOnce", spec := "gtabOnce", unfollowed := true, recurses := true, apart := false }
def GtabOnceSaid : Prop := gtabOnceRow.holds Try.pinned (OpenSpec.ofChange gtabOnceSpec)

/-- ITS FALSE NEIGHBOUR: 'it returns false'. Refute it at one input. -/
def gtabOnceWrong : ChangeSpec := { name := "gtabOnce", fn := fun _ => fun
  | [d1, d2] => { results := [.lit (.bool false)], args := [d1, d2] }
  | _ => none }
def GtabOnceWrongFalsely : Prop := gtabOnceRow.holds Try.pinned (OpenSpec.ofChange gtabOnceWrong)

/-- 'boatswainlaw06.GtabMay': WHATEVER THE INPUT: true; the input reads as it did. -/
def gtabMaySpec : ChangeSpec := { name := "gtabMay", fn := fun _ => fun
  | [d1, d2] => { results := [.lit (.bool true)], args := [d1, d2] }
  | _ => none }
def gtabMayRow : OpenClaim := { program := "ytbfncpfmeankpaa", sum := "87483c71ba05edea645f8a9940297f2623c15b50a0bad09787df4a95927677ee", func := "boatswain/boatswainlaw06.GtabMay", spec := "gtabMay", unfollowed := true, recurses := true, apart := false }
def GtabMaySaid : Prop := gtabMayRow.holds Try.pinned (OpenSpec.ofChange gtabMaySpec)

/-- ITS FALSE NEIGHBOUR: 'it returns false'. Refute it at one input. -/
def gtabMayWrong : ChangeSpec := { name := "gtabMay", fn := fun _ => fun
  | [d1, d2] => { results := [.lit (.bool false)], args := [d1, d2] }
  | _ => none }
def GtabMayWrongFalsely : Prop := gtabMayRow.holds Try.pinned (OpenSpec.ofChange gtabMayWrong)

/-- 'boatswainlaw06.GtabLeast': WHATEVER THE INPUT: true; the input reads as it did. -/
def gtabLeastSpec : ChangeSpec := { name := "gtabLeast", fn := fun _ => fun
  | [d1, d2] => { results := [.lit (.bool true)], args := [d1, d2] }
  | _ => none }
def gtabLeastRow : OpenClaim := { program := "ytbfncpfmeankpaa", sum := "87483c71ba05edea645f8a9940297f2623c15b50a0bad09787df4a95927677ee", func := "boatswain/boatswainlaw06.GtabLeast", spec := "gtabLeast", unfollowed := true, recurses := true, apart := false }
def GtabLeastSaid : Prop := gtabLeastRow.holds Try.pinned (OpenSpec.ofChange gtabLeastSpec)

/-- ITS FALSE NEIGHBOUR: 'it returns false'. Refute it at one input. -/
def gtabLeastWrong : ChangeSpec := { name := "gtabLeast", fn := fun _ => fun
  | [d1, d2] => { results := [.lit (.bool false)], args := [d1, d2] }
  | _ => none }
def GtabLeastWrongFalsely : Prop := gtabLeastRow.holds Try.pinned (OpenSpec.ofChange gtabLeastWrong)

/-- 'boatswainlaw06.GtabPlays': WHATEVER THE INPUT: true; the input reads as it did. -/
def gtabPlaysSpec : ChangeSpec := { name := "gtabPlays", fn := fun _ => fun
  | [d1, d2, d3] => { results := [.lit (.bool true)], args := [d1, d2, d3] }
  | _ => none }
def gtabPlaysRow : OpenClaim := { program := "ytbfncpfmeankpaa", sum := "87483c71ba05edea645f8a9940297f2623c15b50a0bad09787df4a95927677ee", func := "boatswain/boatswainlaw06.GtabPlays", spec := "gtabPlays", unfollowed := true, recurses := true, apart := false }
def GtabPlaysSaid : Prop := gtabPlaysRow.holds Try.pinned (OpenSpec.ofChange gtabPlaysSpec)

/-- ITS FALSE NEIGHBOUR: 'it returns false'. Refute it at one input. -/
def gtabPlaysWrong : ChangeSpec := { name := "gtabPlays", fn := fun _ => fun
  | [d1, d2, d3] => { results := [.lit (.bool false)], args := [d1, d2, d3] }
  | _ => none }
def GtabPlaysWrongFalsely : Prop := gtabPlaysRow.holds Try.pinned (OpenSpec.ofChange gtabPlaysWrong)

/-- 'boatswainlaw06.GtabReleases': WHATEVER THE INPUT: true; the input reads as it did. -/
def gtabReleasesSpec : ChangeSpec := { name := "gtabReleases", fn := fun _ => fun
  | [d1, d2] => { results := [.lit (.bool true)], args := [d1, d2] }
  | _ => none }
def gtabReleasesRow : OpenClaim := { program := "ytbfncpfmeankpaa", sum := "87483c71ba05edea645f8a9940297f2623c15b50a0bad09787df4a95927677ee", func := "boatswain/boatswainlaw06.GtabReleases", spec := "gtabReleases", unfollowed := true, recurses := true, apart := false }
def GtabReleasesSaid : Prop := gtabReleasesRow.holds Try.pinned (OpenSpec.ofChange gtabReleasesSpec)

/-- ITS FALSE NEIGHBOUR: 'it returns false'. Refute it at one input. -/
def gtabReleasesWrong : ChangeSpec := { name := "gtabReleases", fn := fun _ => fun
  | [d1, d2] => { results := [.lit (.bool false)], args := [d1, d2] }
  | _ => none }
def GtabReleasesWrongFalsely : Prop := gtabReleasesRow.holds Try.pinned (OpenSpec.ofChange gtabReleasesWrong)

/-- 'boatswainlaw06.GtabMoves': WHATEVER THE INPUT: true; the input reads as it did. -/
def gtabMovesSpec : ChangeSpec := { name := "gtabMoves", fn := fun _ => fun
  | [d1, d2, d3] => { results := [.lit (.bool true)], args := [d1, d2, d3] }
  | _ => none }
def gtabMovesRow : OpenClaim := { program := "ytbfncpfmeankpaa", sum := "87483c71ba05edea645f8a9940297f2623c15b50a0bad09787df4a95927677ee", func := "boatswain/boatswainlaw06.GtabMoves", spec := "gtabMoves", unfollowed := true, recurses := true, apart := false }
def GtabMovesSaid : Prop := gtabMovesRow.holds Try.pinned (OpenSpec.ofChange gtabMovesSpec)

/-- ITS FALSE NEIGHBOUR: 'it returns false'. Refute it at one input. -/
def gtabMovesWrong : ChangeSpec := { name := "gtabMoves", fn := fun _ => fun
  | [d1, d2, d3] => { results := [.lit (.bool false)], args := [d1, d2, d3] }
  | _ => none }
def GtabMovesWrongFalsely : Prop := gtabMovesRow.holds Try.pinned (OpenSpec.ofChange gtabMovesWrong)

/-- 'boatswainlaw06.GtabForks': WHATEVER THE INPUT: true; the input reads as it did. -/
def gtabForksSpec : ChangeSpec := { name := "gtabForks", fn := fun _ => fun
  | [d1, d2] => { results := [.lit (.bool true)], args := [d1, d2] }
  | _ => none }
def gtabForksRow : OpenClaim := { program := "ytbfncpfmeankpaa", sum := "87483c71ba05edea645f8a9940297f2623c15b50a0bad09787df4a95927677ee", func := "boatswain/boatswainlaw06.GtabForks", spec := "gtabForks", unfollowed := true, recurses := true, apart := false }
def GtabForksSaid : Prop := gtabForksRow.holds Try.pinned (OpenSpec.ofChange gtabForksSpec)

/-- ITS FALSE NEIGHBOUR: 'it returns false'. Refute it at one input. -/
def gtabForksWrong : ChangeSpec := { name := "gtabForks", fn := fun _ => fun
  | [d1, d2] => { results := [.lit (.bool false)], args := [d1, d2] }
  | _ => none }
def GtabForksWrongFalsely : Prop := gtabForksRow.holds Try.pinned (OpenSpec.ofChange gtabForksWrong)

/-- 'boatswainlaw06.GtabNone': WHATEVER THE INPUT: true; the input reads as it did. -/
def gtabNoneSpec : ChangeSpec := { name := "gtabNone", fn := fun _ => fun
  | [d1, d2] => { results := [.lit (.bool true)], args := [d1, d2] }
  | _ => none }
def gtabNoneRow : OpenClaim := { program := "ytbfncpfmeankpaa", sum := "87483c71ba05edea645f8a9940297f2623c15b50a0bad09787df4a95927677ee", func := "boatswain/boatswainlaw06.GtabNone", spec := "gtabNone", unfollowed := true, recurses := true, apart := false }
def GtabNoneSaid : Prop := gtabNoneRow.holds Try.pinned (OpenSpec.ofChange gtabNoneSpec)

/-- ITS FALSE NEIGHBOUR: 'it returns false'. Refute it at one input. -/
def gtabNoneWrong : ChangeSpec := { name := "gtabNone", fn := fun _ => fun
  | [d1, d2] => { results := [.lit (.bool false)], args := [d1, d2] }
  | _ => none }
def GtabNoneWrongFalsely : Prop := gtabNoneRow.holds Try.pinned (OpenSpec.ofChange gtabNoneWrong)

/-- 'boatswaintop.TopLife': WHATEVER THE INPUT: true; the input reads as it did. -/
def topLifeSpec : ChangeSpec := { name := "topLife", fn := fun _ => fun
  | [d] => { results := [.lit (.bool true)], args := [d] }
  | _ => none }
def topLifeRow : OpenClaim := { program := "ytbfncpfmeankpaa", sum := "87483c71ba05edea645f8a9940297f2623c15b50a0bad09787df4a95927677ee", func := "boatswain/boatswaintop.TopLife", spec := "topLife", unfollowed := true, recurses := true, apart := false }
def TopLifeSaid : Prop := topLifeRow.holds Try.pinned (OpenSpec.ofChange topLifeSpec)

/-- ITS FALSE NEIGHBOUR: 'it returns false'. Refute it at one input. -/
def topLifeWrong : ChangeSpec := { name := "topLife", fn := fun _ => fun
  | [d] => { results := [.lit (.bool false)], args := [d] }
  | _ => none }
def TopLifeWrongFalsely : Prop := topLifeRow.holds Try.pinned (OpenSpec.ofChange topLifeWrong)

/- THE SECOND FORM. 'bulk': how many values and letters a reading holds, each counted each time it is reached (what is shared counts as often as it is met; a slice's spare places count too). A statement '..UptoSaid' is the law's where the arguments, and the package variables that the reading takes, are together of bulk at most 1048576: NARROWER than '..Said'. Prove '..Said' where nothing that the law and all that it calls make is longer than what came in: it says more and counts as full. Else prove '..UptoSaid'. A law counts once. -/
mutual
def uptoBulk {H : Type} : DataW H → Nat
  | .lit (.string bytes) => bytes.length + 1
  | .lit _ => 1
  | .nil => 1
  | .ptr d => uptoBulk d + 1
  | .slice elems spare => uptoBulkAll elems + uptoBulkAll spare + 1
  | .agg parts => uptoBulkAll parts + 1
  | .iface _ d => uptoBulk d + 1
  | .map entries => uptoBulkEntries entries + 1
  | .held _ => 1
def uptoBulkAll {H : Type} : List (DataW H) → Nat
  | [] => 0
  | d :: r => uptoBulk d + uptoBulkAll r
def uptoBulkEntries {H : Type} : List (Lit × DataW H) → Nat
  | [] => 0
  | x :: r => uptoBulkEntry x + uptoBulkEntries r
def uptoBulkEntry {H : Type} : Lit × DataW H → Nat
  | (.string bytes, d) => bytes.length + uptoBulk d + 1
  | (_, d) => uptoBulk d + 1
 end
def uptoSmall : (H : Type) → List (DataW H) → Bool := fun _ ds => decide (uptoBulkAll ds ≤ 1048576)
def OpenSpec.upto (s : _root_.Go.ChangeSpec) : _root_.Go.OpenSpec := { _root_.Go.OpenSpec.ofChange s with cond := some uptoSmall }

/-- 'boatswainlaw06.GtabOnce', WHERE WHAT IT READS IS OF BULK AT MOST 1048576: true; the input reads as it did. -/
def gtabOnceUptoRow : OpenClaim := { program := "ytbfncpfmeankpaa", sum := "87483c71ba05edea645f8a9940297f2623c15b50a0bad09787df4a95927677ee", func := "boatswain/boatswainlaw06.GtabOnce", spec := "gtabOnce", unfollowed := true, recurses := true, apart := false, narrowed := true }
def GtabOnceUptoSaid : Prop := gtabOnceUptoRow.holds Try.pinned (OpenSpec.upto gtabOnceSpec)

/-- 'boatswainlaw06.GtabMay', WHERE WHAT IT READS IS OF BULK AT MOST 1048576: true; the input reads as it did. -/
def gtabMayUptoRow : OpenClaim := { program := "ytbfncpfmeankpaa", sum := "87483c71ba05edea645f8a9940297f2623c15b50a0bad09787df4a95927677ee", func := "boatswain/boatswainlaw06.GtabMay", spec := "gtabMay", unfollowed := true, recurses := true, apart := false, narrowed := true }
def GtabMayUptoSaid : Prop := gtabMayUptoRow.holds Try.pinned (OpenSpec.upto gtabMaySpec)

/-- 'boatswainlaw06.GtabLeast', WHERE WHAT IT READS IS OF BULK AT MOST 1048576: true; the input reads as it did. -/
def gtabLeastUptoRow : OpenClaim := { program := "ytbfncpfmeankpaa", sum := "87483c71ba05edea645f8a9940297f2623c15b50a0bad09787df4a95927677ee", func := "boatswain/boatswainlaw06.GtabLeast", spec := "gtabLeast", unfollowed := true, recurses := true, apart := false, narrowed := true }
def GtabLeastUptoSaid : Prop := gtabLeastUptoRow.holds Try.pinned (OpenSpec.upto gtabLeastSpec)

/-- 'boatswainlaw06.GtabPlays', WHERE WHAT IT READS IS OF BULK AT MOST 1048576: true; the input reads as it did. -/
def gtabPlaysUptoRow : OpenClaim := { program := "ytbfncpfmeankpaa", sum := "87483c71ba05edea645f8a9940297f2623c15b50a0bad09787df4a95927677ee", func := "boatswain/boatswainlaw06.GtabPlays", spec := "gtabPlays", unfollowed := true, recurses := true, apart := false, narrowed := true }
def GtabPlaysUptoSaid : Prop := gtabPlaysUptoRow.holds Try.pinned (OpenSpec.upto gtabPlaysSpec)

/-- 'boatswainlaw06.GtabReleases', WHERE WHAT IT READS IS OF BULK AT MOST 1048576: true; the input reads as it did. -/
def gtabReleasesUptoRow : OpenClaim := { program := "ytbfncpfmeankpaa", sum := "87483c71ba05edea645f8a9940297f2623c15b50a0bad09787df4a95927677ee", func := "boatswain/boatswainlaw06.GtabReleases", spec := "gtabReleases", unfollowed := true, recurses := true, apart := false, narrowed := true }
def GtabReleasesUptoSaid : Prop := gtabReleasesUptoRow.holds Try.pinned (OpenSpec.upto gtabReleasesSpec)

/-- 'boatswainlaw06.GtabMoves', WHERE WHAT IT READS IS OF BULK AT MOST 1048576: true; the input reads as it did. -/
def gtabMovesUptoRow : OpenClaim := { program := "ytbfncpfmeankpaa", sum := "87483c71ba05edea645f8a9940297f2623c15b50a0bad09787df4a95927677ee", func := "boatswain/boatswainlaw06.GtabMoves", spec := "gtabMoves", unfollowed := true, recurses := true, apart := false, narrowed := true }
def GtabMovesUptoSaid : Prop := gtabMovesUptoRow.holds Try.pinned (OpenSpec.upto gtabMovesSpec)

/-- 'boatswainlaw06.GtabForks', WHERE WHAT IT READS IS OF BULK AT MOST 1048576: true; the input reads as it did. -/
def gtabForksUptoRow : OpenClaim := { program := "ytbfncpfmeankpaa", sum := "87483c71ba05edea645f8a9940297f2623c15b50a0bad09787df4a95927677ee", func := "boatswain/boatswainlaw06.GtabForks", spec := "gtabForks", unfollowed := true, recurses := true, apart := false, narrowed := true }
def GtabForksUptoSaid : Prop := gtabForksUptoRow.holds Try.pinned (OpenSpec.upto gtabForksSpec)

/-- 'boatswainlaw06.GtabNone', WHERE WHAT IT READS IS OF BULK AT MOST 1048576: true; the input reads as it did. -/
def gtabNoneUptoRow : OpenClaim := { program := "ytbfncpfmeankpaa", sum := "87483c71ba05edea645f8a9940297f2623c15b50a0bad09787df4a95927677ee", func := "boatswain/boatswainlaw06.GtabNone", spec := "gtabNone", unfollowed := true, recurses := true, apart := false, narrowed := true }
def GtabNoneUptoSaid : Prop := gtabNoneUptoRow.holds Try.pinned (OpenSpec.upto gtabNoneSpec)

/-- 'boatswaintop.TopLife', WHERE WHAT IT READS IS OF BULK AT MOST 1048576: true; the input reads as it did. -/
def topLifeUptoRow : OpenClaim := { program := "ytbfncpfmeankpaa", sum := "87483c71ba05edea645f8a9940297f2623c15b50a0bad09787df4a95927677ee", func := "boatswain/boatswaintop.TopLife", spec := "topLife", unfollowed := true, recurses := true, apart := false, narrowed := true }
def TopLifeUptoSaid : Prop := topLifeUptoRow.holds Try.pinned (OpenSpec.upto topLifeSpec)

end Rows
end Go.Proofs.Ytbfncpfmeankpaa
