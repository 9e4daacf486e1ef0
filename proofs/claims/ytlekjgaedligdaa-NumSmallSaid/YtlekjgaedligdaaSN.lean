/-
  Plain tools of this repo: a call of a function that a slot holds.
-/
import Derived.Test.YtlekjgaedligdaaSM
namespace Bw
open Go Go.RowKit

variable {P : Program} {C : Ctx} {ops : Array Oper} {K : Post} {dr : Bool} {i t : Nat} {is : List Nat} {T : Tm} {H : Hp} {log : Log} {ty : TypeId} {ps : String} {af : Array Edge} {gd : Option (Nat × Bool)}

theorem G.ccall {d : Option Tmp} {y : Operand} {xs : List Operand} {tys : Array TypeId} {f : FuncId} {l ca : List Value} {Hc : Hp} {R : Value → Hp → Prop} (hw : wantT ops T ⟨d, .call ⟨.value y, xs.toArray, tys⟩, ty, ps, af, gd⟩ = some true)
    (hy : ev T y = some (.func (.func f) #[] ca.toArray)) (hxs : evL T xs = some l) (hcf : Callable P f) (hc : OC P f (l ++ ca).toArray Hc R) (hp : Pick H Hc) (hst : ∀ v H', R v H' → StOk ops (i :: is) H' log) (next : ∀ v H', R v H' → RG dr P C ops K is (updO T d v) H' log) :
    RGo ⟨d, .call ⟨.value y, xs.toArray, tys⟩, ty, ps, af, gd⟩ dr P C ops K i is T H log := by
  intro ho
  refine RG.spine _ R ho hw rfl rfl (fun ρ w hρ hh => ?_) ?_ ?_
  · have hxs' : xs.toArray.map ρ = l.toArray := by
      rw [List.map_toArray, evL_spec hxs fun x hx u hu => hρ x (by simp [Op.operands, Call.operands, hx]) u hu]
    have := run_call (ρ := ρ) (o := ⟨d, .call ⟨.value y, xs.toArray, tys⟩, ty, ps, af, gd⟩) (fi := #[]) (ca := ca.toArray) hcf rfl (hρ y (by simp [Op.operands, Call.operands]) _ hy) hxs' w
    rw [this]
    have hh' : HSat C (Hc ++ []) w := by simpa using hh.perm hp.perm
    have e : (#[] ++ l.toArray ++ ca.toArray : Array Value) = (l ++ ca).toArray := by simp
    rw [e]
    simp only [Came]
    refine Calls.mono (hc w hh'.enter) fun e w' h => ?_
    obtain ⟨v, H', rfl, hR, hs⟩ := h
    exact .inl ⟨v, _, rfl, hR, by simpa using hh'.leave hs⟩
  · rintro u H1 hR e he _; exact (hst u H1 hR).spec e he
  · intro u H1 hR; have := next u H1 hR; cases d <;> exact this
end Bw
