/-
  Plain tools of this repo: how much a slice that is handed in may hold.
-/
import Derived.Test.YtlekjgaedligdaaSG
import Derived.SizedLaws
namespace Bw
open Go Go.RowKit Go.ChangeShapes Go.WideShapes Go.ChangeAt

variable {HH : Type} {enc : TypeId × Value → HH} {P : Program} {W : World} {base : Nat}

theorem cap_le {t e : TypeId} {a : Option Addr} {len cap : Nat} {d : DataW HH} {ps : List MemPlace} (ht : P.underlying t = some (.slice e)) (h : DataW.Trod enc P W base (fun _ => true) true t (.slice a len cap) d ps)
    (hw : ∀ n ∈ d.weights P t, n ≤ reachBytes) : cap * P.bytesOf e ≤ 140737488355328 := by
  have hlt : reachBytes ≤ 140737488355328 := by decide
  obtain ⟨fuel, hx⟩ := h
  have hcells : (Value.slice a len cap).cells.toList = [.slice a len cap] := rfl
  rw [hcells] at hx
  rcases DataW.trod_slice ht hx with ⟨h1, h2⟩ | ⟨a', len', cap', elems, rest, m, _, h1, h2, _, h4, h5, h6, h7, h8, _⟩
  · simp at h1; obtain ⟨_, _, rfl⟩ := h1; simp
  · simp only [List.cons.injEq, Value.slice.injEq, and_true] at h1
    obtain ⟨_, rfl, rfl⟩ := h1
    have hr := (h8 rfl).1
    have hd : d = .slice (elems.map (·.1)) (rest.map (·.1)) := by
      simp only [Prod.mk.injEq] at h2; exact h2.1
    have hin : (elems.length + rest.length) * P.bytesOf e ∈ d.weights P t := by rw [hd]; simp [DataW.weights, ht]
    have hle := hw _ hin
    have hc : elems.length + rest.length = cap := by omega
    rw [hc] at hle
    omega
end Bw
