/-
  Plain tools of this repo: division.
-/
import Derived.Test.YtlekjgaedligdaaSD
namespace Bw
open Go Go.RowKit

variable {P : Program} {C : Ctx} {ops : Array Oper} {K : Post} {dr : Bool} {i t : Nat} {is : List Nat} {T : Tm} {H : Hp} {log : Log} {ty : TypeId} {ps : String} {af : Array Edge} {gd : Option (Nat × Bool)}

theorem wrap_in {k : IntKind} {n : Int} (h0 : k.min ≤ n) (h1 : n ≤ k.max) : k.wrap n = n := by
  cases k <;> simp [IntKind.wrap, IntKind.signed, IntKind.bits, IntKind.min, IntKind.max] at * <;> omega

theorem G.rem {x y : Operand} {bt bt' : TypeId} {k : IntKind} {a b : Int} (hw : wantT ops T ⟨some t, .binOp .rem bt x y bt', ty, ps, af, gd⟩ = some true) (hx : ev T x = some (.int k a)) (hy : ev T y = some (.int k b)) (ha : 0 ≤ a) (hb : 0 < b)
    (next : RG dr P C ops K is (upd T t (.int k (a % b))) H log) : RGo ⟨some t, .binOp .rem bt x y bt', ty, ps, af, gd⟩ dr P C ops K i is T H log := by
  refine G.fl rfl hw (fun ρ w hρ => ?_) next
  have e1 := hρ x (by simp [Op.operands]) _ hx
  have e2 := hρ y (by simp [Op.operands]) _ hy
  have hb0 : ¬ b = 0 := by omega
  have h1 : (eqGuard .rem bt x y (.int k a) (.int k b)).run P w = .ok () w := by simp [eqGuard]
  simp only [execOp, e1, e2, Sem.run_bind, h1, Result.andThen_ok, binOp, ne_eq, not_true_eq_false, if_false, Op.intDiv, hb0, Sem.run_pure, Int.tmod_eq_emod_of_nonneg ha]

theorem G.quo {x y : Operand} {bt bt' : TypeId} {k : IntKind} {a b : Int} (hw : wantT ops T ⟨some t, .binOp .quo bt x y bt', ty, ps, af, gd⟩ = some true) (hx : ev T x = some (.int k a)) (hy : ev T y = some (.int k b)) (ha : 0 ≤ a) (hb : 0 < b) (hk : a ≤ k.max)
    (next : RG dr P C ops K is (upd T t (.int k (a / b))) H log) : RGo ⟨some t, .binOp .quo bt x y bt', ty, ps, af, gd⟩ dr P C ops K i is T H log := by
  refine G.fl rfl hw (fun ρ w hρ => ?_) next
  have e1 := hρ x (by simp [Op.operands]) _ hx
  have e2 := hρ y (by simp [Op.operands]) _ hy
  have hb0 : ¬ b = 0 := by omega
  have h1 : (eqGuard .quo bt x y (.int k a) (.int k b)).run P w = .ok () w := by simp [eqGuard]
  have h2 : 0 ≤ a / b := Int.ediv_nonneg ha (by omega)
  have h3 : a / b ≤ a := Int.ediv_le_self _ ha
  have h4 : k.wrap (a / b) = a / b := wrap_in (by have : k.min ≤ 0 := by cases k <;> decide
                                                  omega) (by omega)
  simp only [execOp, e1, e2, Sem.run_bind, h1, Result.andThen_ok, binOp, ne_eq, not_true_eq_false, if_false, Op.intDiv, hb0, Sem.run_pure, Int.tdiv_eq_ediv_of_nonneg ha, h4]
end Bw
