/-
  No cell of these rows narrows 'for every input' (looked for: loops, veiled, ifaces, maps, wideKeys, modest, calm, conditions, laid).
  DERIVED. THE GIVEN ROWS OF THIS SEAT. 7 by the template 'for every input the law returns true; each argument reads behind the call as it read before'; 0 by the template 'total and deterministic' (their statements: YtbickmaflajpdaaTotals.lean).
  GIVEN WITH THE SEED: the statements are not yours to turn. If you find one false, say at which input.
  Laid BY PROGRAM, IN A SANDBOX (cutbox-rows.mjs): the forced cells as the released guide's own fill.sh prints them over the translation 5f88b9c5119ab94e… (all of the seat's roots in one cut). By AI agents, Wed Nov 11 2026. No macro, syntax, notation, axiom, sorry.
-/
import Derived.Test.YtbickmaflajpdaaChecked
import GoSem.Claim
import GoSem.ClaimJoined
import GoSem.ClaimMapViews
import Derived.JoinedTies
import Derived.KernelRfl
namespace Go.Proofs.Ytbickmaflajpdaa
/- THE CELL 'sum', in the pinned program and in every row, IS THE sha256 OF THE DUMP (.gsa) THAT YtbickmaflajpdaaProg.lean LOADS. Nothing in Lean hashes anything: it is a label: what it is worth is what the hold of that sum in a sandbox is worth. -/
noncomputable def Try.pinned : Pinned := { name := "ytbickmaflajpdaa", sum := "5f88b9c5119ab94e1ba9733656b38e355c0a1cd5f0f6a7fa70aff08a4c89170a", checked := Try.checked }
namespace Rows
def none {H : Type} : Left H := { results := [], args := [] }

/-- 'boatswainlaw12.AgeLevels': WHATEVER THE INPUT: true; the input reads as it did. -/
def ageLevelsSpec : ChangeSpec := { name := "ageLevels", fn := fun _ => fun
  | [d] => { results := [.lit (.bool true)], args := [d] }
  | _ => none }
def ageLevelsRow : OpenClaim := { program := "ytbickmaflajpdaa", sum := "5f88b9c5119ab94e1ba9733656b38e355c0a1cd5f0f6a7fa70aff08a4c89170a", func := "boatswain/boatswainlaw12.AgeLevels", spec := "ageLevels", unfollowed := true, recurses := true, apart := false }
def AgeLevelsSaid : Prop := ageLevelsRow.holds Try.pinned (OpenSpec.ofChange ageLevelsSpec)

/-- ITS FALSE NEIGHBOUR: 'it returns false'. Refute it at one input. -/
def ageLevelsWrong : ChangeSpec := { name := "ageLevels", fn := fun _ => fun
  | [d] => { results := [.lit (.bool false)], args := [d] }
  | _ => none }
def AgeLevelsWrongFalsely : Prop := ageLevelsRow.holds Try.pinned (OpenSpec.ofChange ageLevelsWrong)

/-- 'boatswainlaw12.AgeRises': WHATEVER THE INPUT: true; the input reads as it did. -/
def ageRisesSpec : ChangeSpec := { name := "ageRises", fn := fun _ => fun
  | [d1, d2, d3] => { results := [.lit (.bool true)], args := [d1, d2, d3] }
  | _ => none }
def ageRisesRow : OpenClaim := { program := "ytbickmaflajpdaa", sum := "5f88b9c5119ab94e1ba9733656b38e355c0a1cd5f0f6a7fa70aff08a4c89170a", func := "boatswain/boatswainlaw12.AgeRises", spec := "ageRises", unfollowed := true, recurses := true, apart := false }
def AgeRisesSaid : Prop := ageRisesRow.holds Try.pinned (OpenSpec.ofChange ageRisesSpec)

/-- ITS FALSE NEIGHBOUR: 'it returns false'. Refute it at one input. -/
def ageRisesWrong : ChangeSpec := { name := "ageRises", fn := fun _ => fun
  | [d1, d2, d3] => { results := [.lit (.bool false)], args := [d1, d2, d3] }
  | _ => none }
def AgeRisesWrongFalsely : Prop := ageRisesRow.holds Try.pinned (OpenSpec.ofChange ageRisesWrong)

/-- 'boatswainlaw12.AgeStays': WHATEVER THE INPUT: true; the input reads as it did. -/
def ageStaysSpec : ChangeSpec := { name := "ageStays", fn := fun _ => fun
  | [d1, d2] => { results := [.lit (.bool true)], args := [d1, d2] }
  | _ => none }
def ageStaysRow : OpenClaim := { program := "ytbickmaflajpdaa", sum := "5f88b9c5119ab94e1ba9733656b38e355c0a1cd5f0f6a7fa70aff08a4c89170a", func := "boatswain/boatswainlaw12.AgeStays", spec := "ageStays", unfollowed := true, recurses := true, apart := false }
def AgeStaysSaid : Prop := ageStaysRow.holds Try.pinned (OpenSpec.ofChange ageStaysSpec)

/-- ITS FALSE NEIGHBOUR: 'it returns false'. Refute it at one input. -/
def ageStaysWrong : ChangeSpec := { name := "ageStays", fn := fun _ => fun
  | [d1, d2] => { results := [.lit (.bool false)], args := [d1, d2] }
  | _ => none }
def AgeStaysWrongFalsely : Prop := ageStaysRow.holds Try.pinned (OpenSpec.ofChange ageStaysWrong)

/-- 'boatswainlaw12.AgeNever': WHATEVER THE INPUT: true; the input reads as it did. -/
def ageNeverSpec : ChangeSpec := { name := "ageNever", fn := fun _ => fun
  | [d] => { results := [.lit (.bool true)], args := [d] }
  | _ => none }
def ageNeverRow : OpenClaim := { program := "ytbickmaflajpdaa", sum := "5f88b9c5119ab94e1ba9733656b38e355c0a1cd5f0f6a7fa70aff08a4c89170a", func := "boatswain/boatswainlaw12.AgeNever", spec := "ageNever", unfollowed := true, recurses := true, apart := false }
def AgeNeverSaid : Prop := ageNeverRow.holds Try.pinned (OpenSpec.ofChange ageNeverSpec)

/-- ITS FALSE NEIGHBOUR: 'it returns false'. Refute it at one input. -/
def ageNeverWrong : ChangeSpec := { name := "ageNever", fn := fun _ => fun
  | [d] => { results := [.lit (.bool false)], args := [d] }
  | _ => none }
def AgeNeverWrongFalsely : Prop := ageNeverRow.holds Try.pinned (OpenSpec.ofChange ageNeverWrong)

/-- 'boatswainlaw12.AgeSteps': WHATEVER THE INPUT: true; the input reads as it did. -/
def ageStepsSpec : ChangeSpec := { name := "ageSteps", fn := fun _ => fun
  | [d1, d2, d3] => { results := [.lit (.bool true)], args := [d1, d2, d3] }
  | _ => none }
def ageStepsRow : OpenClaim := { program := "ytbickmaflajpdaa", sum := "5f88b9c5119ab94e1ba9733656b38e355c0a1cd5f0f6a7fa70aff08a4c89170a", func := "boatswain/boatswainlaw12.AgeSteps", spec := "ageSteps", unfollowed := true, recurses := true, apart := false }
def AgeStepsSaid : Prop := ageStepsRow.holds Try.pinned (OpenSpec.ofChange ageStepsSpec)

/-- ITS FALSE NEIGHBOUR: 'it returns false'. Refute it at one input. -/
def ageStepsWrong : ChangeSpec := { name := "ageSteps", fn := fun _ => fun
  | [d1, d2, d3] => { results := [.lit (.bool false)], args := [d1, d2, d3] }
  | _ => none }
def AgeStepsWrongFalsely : Prop := ageStepsRow.holds Try.pinned (OpenSpec.ofChange ageStepsWrong)

/-- 'boatswainlaw12.AgeShifts': WHATEVER THE INPUT: true; the input reads as it did. -/
def ageShiftsSpec : ChangeSpec := { name := "ageShifts", fn := fun _ => fun
  | [d1, d2] => { results := [.lit (.bool true)], args := [d1, d2] }
  | _ => none }
def ageShiftsRow : OpenClaim := { program := "ytbickmaflajpdaa", sum := "5f88b9c5119ab94e1ba9733656b38e355c0a1cd5f0f6a7fa70aff08a4c89170a", func := "boatswain/boatswainlaw12.AgeShifts", spec := "ageShifts", unfollowed := true, recurses := true, apart := false }
def AgeShiftsSaid : Prop := ageShiftsRow.holds Try.pinned (OpenSpec.ofChange ageShiftsSpec)

/-- ITS FALSE NEIGHBOUR: 'it returns false'. Refute it at one input. -/
def ageShiftsWrong : ChangeSpec := { name := "ageShifts", fn := fun _ => fun
  | [d1, d2] => { results := [.lit (.bool false)], args := [d1, d2] }
  | _ => none }
def AgeShiftsWrongFalsely : Prop := ageShiftsRow.holds Try.pinned (OpenSpec.ofChange ageShiftsWrong)

/-- 'boatswainlaw12.AgeTop': WHATEVER THE INPUT: true; the input reads as it did. -/
def ageTopSpec : ChangeSpec := { name := "ageTop", fn := fun _ => fun
  | [d1, d2, d3] => { results := [.lit (.bool true)], args := [d1, d2, d3] }
  | _ => none }
def ageTopRow : OpenClaim := { program := "ytbickmaflajpdaa", sum := "5f88b9c5119ab94e1ba9733656b38e355c0a1cd5f0f6a7fa70aff08a4c89170a", func := "boatswain/boatswainlaw12.AgeTop", spec := "ageTop", unfollowed := true, recurses := true, apart := false }
def AgeTopSaid : Prop := ageTopRow.holds Try.pinned (OpenSpec.ofChange ageTopSpec)

/-- ITS FALSE NEIGHBOUR: 'it returns false'. Refute it at one input. -/
def ageTopWrong : ChangeSpec := { name := "ageTop", fn := fun _ => fun
  | [d1, d2, d3] => { results := [.lit (.bool false)], args := [d1, d2, d3] }
  | _ => none }
def AgeTopWrongFalsely : Prop := ageTopRow.holds Try.pinned (OpenSpec.ofChange ageTopWrong)

/- THE SECOND FORM. 'bulk': how many values and letters a reading holds, each counted each time it is reached (what is shared counts as often as it is met; a slice's spare places count too). A statement '..UptoSaid' is the law's where the arguments, and the package variables that the reading takes, are together of bulk at most 1048576: NARROWER than '..Said'. Prove '..Said' where nothing that the law and all that it calls make is longer than what came in: it says more and counts as full. Else prove '..UptoSaid'. A law counts once. -/
mutual
def uptoBulk {H : Type} : DataW H → Nat
  | .lit (.string bytes) => bytes.length + 1
  | .lit _ => 1
  | .nil => 1
  | .ptr d => uptoBulk d + 1
  | .slice elems spare => uptoBulkAll elems + uptoBulkAll spare + 1
  | .agg parts => uptoBulkAll parts + 1
  | .iface _ d => uptoBulk d + 1
  | .map entries => uptoBulkEntries entries + 1
  | .held _ => 1
def uptoBulkAll {H : Type} : List (DataW H) → Nat
  | [] => 0
  | d :: r => uptoBulk d + uptoBulkAll r
def uptoBulkEntries {H : Type} : List (Lit × DataW H) → Nat
  | [] => 0
  | x :: r => uptoBulkEntry x + uptoBulkEntries r
def uptoBulkEntry {H : Type} : Lit × DataW H → Nat
  | (.string bytes, d) => bytes.length + uptoBulk d + 1
  | (_, d) => uptoBulk d + 1
 end
def uptoSmall : (H : Type) → List (DataW H) → Bool := fun _ ds => decide (uptoBulkAll ds ≤ 1048576)
def OpenSpec.upto (s : _root_.Go.ChangeSpec) : _root_.Go.OpenSpec := { _root_.Go.OpenSpec.ofChange s with cond := some uptoSmall }

/-- 'boatswainlaw12.AgeLevels', WHERE WHAT IT READS IS OF BULK AT MOST 1048576: true; the input reads as it did. -/
def ageLevelsUptoRow : OpenClaim := { program := "ytbickmaflajpdaa", sum := "5f88b9c5119ab94e1ba9733656b38e355c0a1cd5f0f6a7fa70aff08a4c89170a", func := "boatswain/boatswainlaw12.AgeLevels", spec := "ageLevels", unfollowed := true, recurses := true, apart := false, narrowed := true }
def AgeLevelsUptoSaid : Prop := ageLevelsUptoRow.holds Try.pinned (OpenSpec.upto ageLevelsSpec)

/-- 'boatswainlaw12.AgeRises', WHERE WHAT IT READS IS OF BULK AT MOST 1048576: true; the input reads as it did. -/
def ageRisesUptoRow : OpenClaim := { program := "ytbickmaflajpdaa", sum := "5f88b9c5119ab94e1ba9733656b38e355c0a1cd5f0f6a7fa70aff08a4c89170a", func := "boatswain/boatswainlaw12.AgeRises", spec := "ageRises", unfollowed := true, recurses := true, apart := false, narrowed := true }
def AgeRisesUptoSaid : Prop := ageRisesUptoRow.holds Try.pinned (OpenSpec.upto ageRisesSpec)

/-- 'boatswainlaw12.AgeStays', WHERE WHAT IT READS IS OF BULK AT MOST 1048576: true; the input reads as it did. -/
def ageStaysUptoRow : OpenClaim := { program := "ytbickmaflajpdaa", sum := "5f88b9c5119ab94e1ba9733656b38e355c0a1cd5f0f6a7fa70aff08a4c89170a", func := "boatswain/boatswainlaw12.AgeStays", spec := "ageStays", unfollowed := true, recurses := true, apart := false, narrowed := true }
def AgeStaysUptoSaid : Prop := ageStaysUptoRow.holds Try.pinned (OpenSpec.upto ageStaysSpec)

/-- 'boatswainlaw12.AgeNever', WHERE WHAT IT READS IS OF BULK AT MOST 1048576: true; the input reads as it did. -/
def ageNeverUptoRow : OpenClaim := { program := "ytbickmaflajpdaa", sum := "5f88b9c5119ab94e1ba9733656b38e355c0a1cd5f0f6a7fa70aff08a4c89170a", func := "boatswain/boatswainlaw12.AgeNever", spec := "ageNever", unfollowed := true, recurses := true, apart := false, narrowed := true }
def AgeNeverUptoSaid : Prop := ageNeverUptoRow.holds Try.pinned (OpenSpec.upto ageNeverSpec)

/-- 'boatswainlaw12.AgeSteps', WHERE WHAT IT READS IS OF BULK AT MOST 1048576: true; the input reads as it did. -/
def ageStepsUptoRow : OpenClaim := { program := "ytbickmaflajpdaa", sum := "5f88b9c5119ab94e1ba9733656b38e355c0a1cd5f0f6a7fa70aff08a4c89170a", func := "boatswain/boatswainlaw12.AgeSteps", spec := "ageSteps", unfollowed := true, recurses := true, apart := false, narrowed := true }
def AgeStepsUptoSaid : Prop := ageStepsUptoRow.holds Try.pinned (OpenSpec.upto ageStepsSpec)

/-- 'boatswainlaw12.AgeShifts', WHERE WHAT IT READS IS OF BULK AT MOST 1048576: true; the input reads as it did. -/
def ageShiftsUptoRow : OpenClaim := { program := "ytbickmaflajpdaa", sum := "5f88b9c5119ab94e1ba9733656b38e355c0a1cd5f0f6a7fa70aff08a4c89170a", func := "boatswain/boatswainlaw12.AgeShifts", spec := "ageShifts", unfollowed := true, recurses := true, apart := false, narrowed := true }
def AgeShiftsUptoSaid : Prop := ageShiftsUptoRow.holds Try.pinned (OpenSpec.upto ageShiftsSpec)

/-- 'boatswainlaw12.AgeTop', WHERE WHAT IT READS IS OF BULK AT MOST 1048576: true; the input reads as it did. -/
def ageTopUptoRow : OpenClaim := { program := "ytbickmaflajpdaa", sum := "5f88b9c5119ab94e1ba9733656b38e355c0a1cd5f0f6a7fa70aff08a4c89170a", func := "boatswain/boatswainlaw12.AgeTop", spec := "ageTop", unfollowed := true, recurses := true, apart := false, narrowed := true }
def AgeTopUptoSaid : Prop := ageTopUptoRow.holds Try.pinned (OpenSpec.upto ageTopSpec)

end Rows
end Go.Proofs.Ytbickmaflajpdaa
