/-
  No cell of these rows narrows 'for every input' (looked for: loops, veiled, ifaces, maps, wideKeys, modest, calm, conditions, laid).
  DERIVED. THE GIVEN ROWS OF THIS SEAT. 10 by the template 'for every input the law returns true; each argument reads behind the call as it read before'; 0 by the template 'total and deterministic' (their statements: YtoeomoaelfnihaaTotals.lean).
  GIVEN WITH THE SEED: the statements are not yours to turn. If you find one false, say at which input.
  Laid BY PROGRAM, IN A SANDBOX (cutbox-rows.mjs): the forced cells as the released guide's own fill.sh prints them over the translation 0692494e475a3fa9… (all of the seat's roots in one cut). By AI agents, Wed Nov 11 2026. No macro, syntax, notation, axiom, sorry.
-/
import Derived.Test.YtoeomoaelfnihaaChecked
import GoSem.Claim
import GoSem.ClaimJoined
import GoSem.ClaimMapViews
import Derived.JoinedTies
import Derived.KernelRfl
namespace Go.Proofs.Ytoeomoaelfnihaa
/- THE CELL 'sum', in the pinned program and in every row, IS THE sha256 OF THE DUMP (.gsa) THAT YtoeomoaelfnihaaProg.lean LOADS. Nothing in Lean hashes anything: it is a label: what it is worth is what the hold of that sum in a sandbox is worth. -/
noncomputable def Try.pinned : Pinned := { name := "ytoeomoaelfnihaa", sum := "0692494e475a3fa9e268837c40cb32b227cc9e9d0d7c02ebb7e0214e4ba1da0b", checked := Try.checked }
namespace Rows
def none {H : Type} : Left H := { results := [], args := [] }

/-- 'boatswainlaw07.CbsLoad': WHATEVER THE INPUT: true; the input reads as it did. -/
def cbsLoadSpec : ChangeSpec := { name := "cbsLoad", fn := fun _ => fun
  | [d1, d2] => { results := [.lit (.bool true)], args := [d1, d2] }
  | _ => none }
def cbsLoadRow : OpenClaim := { program := "ytoeomoaelfnihaa", sum := "0692494e475a3fa9e268837c40cb32b227cc9e9d0d7c02ebb7e0214e4ba1da0b", func := "boatswain/boatswainlaw07.CbsLoad", spec := "cbsLoad", inPlace := ["math/bits.Add64"], apart := false }
def CbsLoadSaid : Prop := cbsLoadRow.holds Try.pinned (OpenSpec.ofChange cbsLoadSpec)

/-- ITS FALSE NEIGHBOUR: 'it returns false'. Refute it at one input. -/
def cbsLoadWrong : ChangeSpec := { name := "cbsLoad", fn := fun _ => fun
  | [d1, d2] => { results := [.lit (.bool false)], args := [d1, d2] }
  | _ => none }
def CbsLoadWrongFalsely : Prop := cbsLoadRow.holds Try.pinned (OpenSpec.ofChange cbsLoadWrong)

/-- 'boatswainlaw07.CbsBudget': WHATEVER THE INPUT: true; the input reads as it did. -/
def cbsBudgetSpec : ChangeSpec := { name := "cbsBudget", fn := fun _ => fun
  | [d1, d2, d3] => { results := [.lit (.bool true)], args := [d1, d2, d3] }
  | _ => none }
def cbsBudgetRow : OpenClaim := { program := "ytoeomoaelfnihaa", sum := "0692494e475a3fa9e268837c40cb32b227cc9e9d0d7c02ebb7e0214e4ba1da0b", func := "boatswain/boatswainlaw07.CbsBudget", spec := "cbsBudget", inPlace := ["math/bits.Add64"], unfollowed := true, recurses := true, apart := false }
def CbsBudgetSaid : Prop := cbsBudgetRow.holds Try.pinned (OpenSpec.ofChange cbsBudgetSpec)

/-- ITS FALSE NEIGHBOUR: 'it returns false'. Refute it at one input. -/
def cbsBudgetWrong : ChangeSpec := { name := "cbsBudget", fn := fun _ => fun
  | [d1, d2, d3] => { results := [.lit (.bool false)], args := [d1, d2, d3] }
  | _ => none }
def CbsBudgetWrongFalsely : Prop := cbsBudgetRow.holds Try.pinned (OpenSpec.ofChange cbsBudgetWrong)

/-- 'boatswainlaw07.CbsWakes': WHATEVER THE INPUT: true; the input reads as it did. -/
def cbsWakesSpec : ChangeSpec := { name := "cbsWakes", fn := fun _ => fun
  | [d1, d2, d3] => { results := [.lit (.bool true)], args := [d1, d2, d3] }
  | _ => none }
def cbsWakesRow : OpenClaim := { program := "ytoeomoaelfnihaa", sum := "0692494e475a3fa9e268837c40cb32b227cc9e9d0d7c02ebb7e0214e4ba1da0b", func := "boatswain/boatswainlaw07.CbsWakes", spec := "cbsWakes", inPlace := ["math/bits.Add64"], unfollowed := true, recurses := true, apart := false }
def CbsWakesSaid : Prop := cbsWakesRow.holds Try.pinned (OpenSpec.ofChange cbsWakesSpec)

/-- ITS FALSE NEIGHBOUR: 'it returns false'. Refute it at one input. -/
def cbsWakesWrong : ChangeSpec := { name := "cbsWakes", fn := fun _ => fun
  | [d1, d2, d3] => { results := [.lit (.bool false)], args := [d1, d2, d3] }
  | _ => none }
def CbsWakesWrongFalsely : Prop := cbsWakesRow.holds Try.pinned (OpenSpec.ofChange cbsWakesWrong)

/-- 'boatswainlaw07.CbsPlays': WHATEVER THE INPUT: true; the input reads as it did. -/
def cbsPlaysSpec : ChangeSpec := { name := "cbsPlays", fn := fun _ => fun
  | [d1, d2, d3] => { results := [.lit (.bool true)], args := [d1, d2, d3] }
  | _ => none }
def cbsPlaysRow : OpenClaim := { program := "ytoeomoaelfnihaa", sum := "0692494e475a3fa9e268837c40cb32b227cc9e9d0d7c02ebb7e0214e4ba1da0b", func := "boatswain/boatswainlaw07.CbsPlays", spec := "cbsPlays", inPlace := ["math/bits.Add64"], unfollowed := true, recurses := true, apart := false }
def CbsPlaysSaid : Prop := cbsPlaysRow.holds Try.pinned (OpenSpec.ofChange cbsPlaysSpec)

/-- ITS FALSE NEIGHBOUR: 'it returns false'. Refute it at one input. -/
def cbsPlaysWrong : ChangeSpec := { name := "cbsPlays", fn := fun _ => fun
  | [d1, d2, d3] => { results := [.lit (.bool false)], args := [d1, d2, d3] }
  | _ => none }
def CbsPlaysWrongFalsely : Prop := cbsPlaysRow.holds Try.pinned (OpenSpec.ofChange cbsPlaysWrong)

/-- 'boatswainlaw07.CbsRefills': WHATEVER THE INPUT: true; the input reads as it did. -/
def cbsRefillsSpec : ChangeSpec := { name := "cbsRefills", fn := fun _ => fun
  | [d1, d2, d3] => { results := [.lit (.bool true)], args := [d1, d2, d3] }
  | _ => none }
def cbsRefillsRow : OpenClaim := { program := "ytoeomoaelfnihaa", sum := "0692494e475a3fa9e268837c40cb32b227cc9e9d0d7c02ebb7e0214e4ba1da0b", func := "boatswain/boatswainlaw07.CbsRefills", spec := "cbsRefills", inPlace := ["math/bits.Add64"], unfollowed := true, recurses := true, apart := false }
def CbsRefillsSaid : Prop := cbsRefillsRow.holds Try.pinned (OpenSpec.ofChange cbsRefillsSpec)

/-- ITS FALSE NEIGHBOUR: 'it returns false'. Refute it at one input. -/
def cbsRefillsWrong : ChangeSpec := { name := "cbsRefills", fn := fun _ => fun
  | [d1, d2, d3] => { results := [.lit (.bool false)], args := [d1, d2, d3] }
  | _ => none }
def CbsRefillsWrongFalsely : Prop := cbsRefillsRow.holds Try.pinned (OpenSpec.ofChange cbsRefillsWrong)

/-- 'boatswainlaw07.CbsCharges': WHATEVER THE INPUT: true; the input reads as it did. -/
def cbsChargesSpec : ChangeSpec := { name := "cbsCharges", fn := fun _ => fun
  | [d1, d2, d3] => { results := [.lit (.bool true)], args := [d1, d2, d3] }
  | _ => none }
def cbsChargesRow : OpenClaim := { program := "ytoeomoaelfnihaa", sum := "0692494e475a3fa9e268837c40cb32b227cc9e9d0d7c02ebb7e0214e4ba1da0b", func := "boatswain/boatswainlaw07.CbsCharges", spec := "cbsCharges", inPlace := ["math/bits.Add64"], unfollowed := true, recurses := true, apart := false }
def CbsChargesSaid : Prop := cbsChargesRow.holds Try.pinned (OpenSpec.ofChange cbsChargesSpec)

/-- ITS FALSE NEIGHBOUR: 'it returns false'. Refute it at one input. -/
def cbsChargesWrong : ChangeSpec := { name := "cbsCharges", fn := fun _ => fun
  | [d1, d2, d3] => { results := [.lit (.bool false)], args := [d1, d2, d3] }
  | _ => none }
def CbsChargesWrongFalsely : Prop := cbsChargesRow.holds Try.pinned (OpenSpec.ofChange cbsChargesWrong)

/-- 'boatswainlaw07.CbsForks': WHATEVER THE INPUT: true; the input reads as it did. -/
def cbsForksSpec : ChangeSpec := { name := "cbsForks", fn := fun _ => fun
  | [d1, d2] => { results := [.lit (.bool true)], args := [d1, d2] }
  | _ => none }
def cbsForksRow : OpenClaim := { program := "ytoeomoaelfnihaa", sum := "0692494e475a3fa9e268837c40cb32b227cc9e9d0d7c02ebb7e0214e4ba1da0b", func := "boatswain/boatswainlaw07.CbsForks", spec := "cbsForks", inPlace := ["math/bits.Add64"], unfollowed := true, recurses := true, apart := false }
def CbsForksSaid : Prop := cbsForksRow.holds Try.pinned (OpenSpec.ofChange cbsForksSpec)

/-- ITS FALSE NEIGHBOUR: 'it returns false'. Refute it at one input. -/
def cbsForksWrong : ChangeSpec := { name := "cbsForks", fn := fun _ => fun
  | [d1, d2] => { results := [.lit (.bool false)], args := [d1, d2] }
  | _ => none }
def CbsForksWrongFalsely : Prop := cbsForksRow.holds Try.pinned (OpenSpec.ofChange cbsForksWrong)

/-- 'boatswainlaw07.CbsNone': WHATEVER THE INPUT: true; the input reads as it did. -/
def cbsNoneSpec : ChangeSpec := { name := "cbsNone", fn := fun _ => fun
  | [d1, d2] => { results := [.lit (.bool true)], args := [d1, d2] }
  | _ => none }
def cbsNoneRow : OpenClaim := { program := "ytoeomoaelfnihaa", sum := "0692494e475a3fa9e268837c40cb32b227cc9e9d0d7c02ebb7e0214e4ba1da0b", func := "boatswain/boatswainlaw07.CbsNone", spec := "cbsNone", inPlace := ["math/bits.Add64"], unfollowed := true, recurses := true, apart := false }
def CbsNoneSaid : Prop := cbsNoneRow.holds Try.pinned (OpenSpec.ofChange cbsNoneSpec)

/-- ITS FALSE NEIGHBOUR: 'it returns false'. Refute it at one input. -/
def cbsNoneWrong : ChangeSpec := { name := "cbsNone", fn := fun _ => fun
  | [d1, d2] => { results := [.lit (.bool false)], args := [d1, d2] }
  | _ => none }
def CbsNoneWrongFalsely : Prop := cbsNoneRow.holds Try.pinned (OpenSpec.ofChange cbsNoneWrong)

/-- 'boatswaintop.TopAdmits': WHATEVER THE INPUT: true; the input reads as it did. -/
def topAdmitsSpec : ChangeSpec := { name := "topAdmits", fn := fun _ => fun
  | [d] => { results := [.lit (.bool true)], args := [d] }
  | _ => none }
def topAdmitsRow : OpenClaim := { program := "ytoeomoaelfnihaa", sum := "0692494e475a3fa9e268837c40cb32b227cc9e9d0d7c02ebb7e0214e4ba1da0b", func := "boatswain/boatswaintop.TopAdmits", spec := "topAdmits", apart := false }
def TopAdmitsSaid : Prop := topAdmitsRow.holds Try.pinned (OpenSpec.ofChange topAdmitsSpec)

/-- ITS FALSE NEIGHBOUR: 'it returns false'. Refute it at one input. -/
def topAdmitsWrong : ChangeSpec := { name := "topAdmits", fn := fun _ => fun
  | [d] => { results := [.lit (.bool false)], args := [d] }
  | _ => none }
def TopAdmitsWrongFalsely : Prop := topAdmitsRow.holds Try.pinned (OpenSpec.ofChange topAdmitsWrong)

/-- 'boatswaintop.TopDeadlines': WHATEVER THE INPUT: true; the input reads as it did. -/
def topDeadlinesSpec : ChangeSpec := { name := "topDeadlines", fn := fun _ => fun
  | [d1, d2, d3] => { results := [.lit (.bool true)], args := [d1, d2, d3] }
  | _ => none }
def topDeadlinesRow : OpenClaim := { program := "ytoeomoaelfnihaa", sum := "0692494e475a3fa9e268837c40cb32b227cc9e9d0d7c02ebb7e0214e4ba1da0b", func := "boatswain/boatswaintop.TopDeadlines", spec := "topDeadlines", inPlace := ["math/bits.Add64"], unfollowed := true, recurses := true, apart := false }
def TopDeadlinesSaid : Prop := topDeadlinesRow.holds Try.pinned (OpenSpec.ofChange topDeadlinesSpec)

/-- ITS FALSE NEIGHBOUR: 'it returns false'. Refute it at one input. -/
def topDeadlinesWrong : ChangeSpec := { name := "topDeadlines", fn := fun _ => fun
  | [d1, d2, d3] => { results := [.lit (.bool false)], args := [d1, d2, d3] }
  | _ => none }
def TopDeadlinesWrongFalsely : Prop := topDeadlinesRow.holds Try.pinned (OpenSpec.ofChange topDeadlinesWrong)

/- THE SECOND FORM. 'bulk': how many values and letters a reading holds, each counted each time it is reached (what is shared counts as often as it is met; a slice's spare places count too). A statement '..UptoSaid' is the law's where the arguments, and the package variables that the reading takes, are together of bulk at most 1048576: NARROWER than '..Said'. Prove '..Said' where nothing that the law and all that it calls make is longer than what came in: it says more and counts as full. Else prove '..UptoSaid'. A law counts once. -/
mutual
def uptoBulk {H : Type} : DataW H → Nat
  | .lit (.string bytes) => bytes.length + 1
  | .lit _ => 1
  | .nil => 1
  | .ptr d => uptoBulk d + 1
  | .slice elems spare => uptoBulkAll elems + uptoBulkAll spare + 1
  | .agg parts => uptoBulkAll parts + 1
  | .iface _ d => uptoBulk d + 1
  | .map entries => uptoBulkEntries entries + 1
  | .held _ => 1
def uptoBulkAll {H : Type} : List (DataW H) → Nat
  | [] => 0
  | d :: r => uptoBulk d + uptoBulkAll r
def uptoBulkEntries {H : Type} : List (Lit × DataW H) → Nat
  | [] => 0
  | x :: r => uptoBulkEntry x + uptoBulkEntries r
def uptoBulkEntry {H : Type} : Lit × DataW H → Nat
  | (.string bytes, d) => bytes.length + uptoBulk d + 1
  | (_, d) => uptoBulk d + 1
 end
def uptoSmall : (H : Type) → List (DataW H) → Bool := fun _ ds => decide (uptoBulkAll ds ≤ 1048576)
def OpenSpec.upto (s : _root_.Go.ChangeSpec) : _root_.Go.OpenSpec := { _root_.Go.OpenSpec.ofChange s with cond := some uptoSmall }

/-- 'boatswainlaw07.CbsLoad', WHERE WHAT IT READS IS OF BULK AT MOST 1048576: true; the input reads as it did. -/
def cbsLoadUptoRow : OpenClaim := { program := "ytoeomoaelfnihaa", sum := "0692494e475a3fa9e268837c40cb32b227cc9e9d0d7c02ebb7e0214e4ba1da0b", func := "boatswain/boatswainlaw07.CbsLoad", spec := "cbsLoad", inPlace := ["math/bits.Add64"], apart := false, narrowed := true }
def CbsLoadUptoSaid : Prop := cbsLoadUptoRow.holds Try.pinned (OpenSpec.upto cbsLoadSpec)

/-- 'boatswainlaw07.CbsBudget', WHERE WHAT IT READS IS OF BULK AT MOST 1048576: true; the input reads as it did. -/
def cbsBudgetUptoRow : OpenClaim := { program := "ytoeomoaelfnihaa", sum := "0692494e475a3fa9e268837c40cb32b227cc9e9d0d7c02ebb7e0214e4ba1da0b", func := "boatswain/boatswainlaw07.CbsBudget", spec := "cbsBudget", inPlace := ["math/bits.Add64"], unfollowed := true, recurses := true, apart := false, narrowed := true }
def CbsBudgetUptoSaid : Prop := cbsBudgetUptoRow.holds Try.pinned (OpenSpec.upto cbsBudgetSpec)

/-- 'boatswainlaw07.CbsWakes', WHERE WHAT IT READS IS OF BULK AT MOST 1048576: true; the input reads as it did. -/
def cbsWakesUptoRow : OpenClaim := { program := "ytoeomoaelfnihaa", sum := "0692494e475a3fa9e268837c40cb32b227cc9e9d0d7c02ebb7e0214e4ba1da0b", func := "boatswain/boatswainlaw07.CbsWakes", spec := "cbsWakes", inPlace := ["math/bits.Add64"], unfollowed := true, recurses := true, apart := false, narrowed := true }
def CbsWakesUptoSaid : Prop := cbsWakesUptoRow.holds Try.pinned (OpenSpec.upto cbsWakesSpec)

/-- 'boatswainlaw07.CbsPlays', WHERE WHAT IT READS IS OF BULK AT MOST 1048576: true; the input reads as it did. -/
def cbsPlaysUptoRow : OpenClaim := { program := "ytoeomoaelfnihaa", sum := "0692494e475a3fa9e268837c40cb32b227cc9e9d0d7c02ebb7e0214e4ba1da0b", func := "boatswain/boatswainlaw07.CbsPlays", spec := "cbsPlays", inPlace := ["math/bits.Add64"], unfollowed := true, recurses := true, apart := false, narrowed := true }
def CbsPlaysUptoSaid : Prop := cbsPlaysUptoRow.holds Try.pinned (OpenSpec.upto cbsPlaysSpec)

/-- 'boatswainlaw07.CbsRefills', WHERE WHAT IT READS IS OF BULK AT MOST 1048576: true; the input reads as it did. -/
def cbsRefillsUptoRow : OpenClaim := { program := "ytoeomoaelfnihaa", sum := "0692494e475a3fa9e268837c40cb32b227cc9e9d0d7c02ebb7e0214e4ba1da0b", func := "boatswain/boatswainlaw07.CbsRefills", spec := "cbsRefills", inPlace := ["math/bits.Add64"], unfollowed := true, recurses := true, apart := false, narrowed := true }
def CbsRefillsUptoSaid : Prop := cbsRefillsUptoRow.holds Try.pinned (OpenSpec.upto cbsRefillsSpec)

/-- 'boatswainlaw07.CbsCharges', WHERE WHAT IT READS IS OF BULK AT MOST 1048576: true; the input reads as it did. -/
def cbsChargesUptoRow : OpenClaim := { program := "ytoeomoaelfnihaa", sum := "0692494e475a3fa9e268837c40cb32b227cc9e9d0d7c02ebb7e0214e4ba1da0b", func := "boatswain/boatswainlaw07.CbsCharges", spec := "cbsCharges", inPlace := ["math/bits.Add64"], unfollowed := true, recurses := true, apart := false, narrowed := true }
def CbsChargesUptoSaid : Prop := cbsChargesUptoRow.holds Try.pinned (OpenSpec.upto cbsChargesSpec)

/-- 'boatswainlaw07.CbsForks', WHERE WHAT IT READS IS OF BULK AT MOST 1048576: true; the input reads as it did. -/
def cbsForksUptoRow : OpenClaim := { program := "ytoeomoaelfnihaa", sum := "0692494e475a3fa9e268837c40cb32b227cc9e9d0d7c02ebb7e0214e4ba1da0b", func := "boatswain/boatswainlaw07.CbsForks", spec := "cbsForks", inPlace := ["math/bits.Add64"], unfollowed := true, recurses := true, apart := false, narrowed := true }
def CbsForksUptoSaid : Prop := cbsForksUptoRow.holds Try.pinned (OpenSpec.upto cbsForksSpec)

/-- 'boatswainlaw07.CbsNone', WHERE WHAT IT READS IS OF BULK AT MOST 1048576: true; the input reads as it did. -/
def cbsNoneUptoRow : OpenClaim := { program := "ytoeomoaelfnihaa", sum := "0692494e475a3fa9e268837c40cb32b227cc9e9d0d7c02ebb7e0214e4ba1da0b", func := "boatswain/boatswainlaw07.CbsNone", spec := "cbsNone", inPlace := ["math/bits.Add64"], unfollowed := true, recurses := true, apart := false, narrowed := true }
def CbsNoneUptoSaid : Prop := cbsNoneUptoRow.holds Try.pinned (OpenSpec.upto cbsNoneSpec)

/-- 'boatswaintop.TopAdmits', WHERE WHAT IT READS IS OF BULK AT MOST 1048576: true; the input reads as it did. -/
def topAdmitsUptoRow : OpenClaim := { program := "ytoeomoaelfnihaa", sum := "0692494e475a3fa9e268837c40cb32b227cc9e9d0d7c02ebb7e0214e4ba1da0b", func := "boatswain/boatswaintop.TopAdmits", spec := "topAdmits", apart := false, narrowed := true }
def TopAdmitsUptoSaid : Prop := topAdmitsUptoRow.holds Try.pinned (OpenSpec.upto topAdmitsSpec)

/-- 'boatswaintop.TopDeadlines', WHERE WHAT IT READS IS OF BULK AT MOST 1048576: true; the input reads as it did. -/
def topDeadlinesUptoRow : OpenClaim := { program := "ytoeomoaelfnihaa", sum := "0692494e475a3fa9e268837c40cb32b227cc9e9d0d7c02ebb7e0214e4ba1da0b", func := "boatswain/boatswaintop.TopDeadlines", spec := "topDeadlines", inPlace := ["math/bits.Add64"], unfollowed := true, recurses := true, apart := false, narrowed := true }
def TopDeadlinesUptoSaid : Prop := topDeadlinesUptoRow.holds Try.pinned (OpenSpec.upto topDeadlinesSpec)

end Rows
end Go.Proofs.Ytoeomoaelfnihaa
