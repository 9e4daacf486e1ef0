/-
  Plain tools of this repo: shifts by a number that is not written out.
-/
import Derived.Test.YtlekjgaedligdaaSP
namespace Bw
open Go Go.RowKit

variable {P : Program} {C : Ctx} {ops : Array Oper} {K : Post} {dr : Bool} {i t : Nat} {is : List Nat} {T : Tm} {H : Hp} {log : Log} {ty : TypeId} {ps : String} {af : Array Edge} {gd : Option (Nat × Bool)}

theorem G.shr {x y : Operand} {bt bt' : TypeId} {k yk : IntKind} {a n c : Int} (hw : wantT ops T ⟨some t, .binOp .shr bt x y bt', ty, ps, af, gd⟩ = some true) (hx : ev T x = some (.int k a)) (hy : ev T y = some (.int yk n)) (h0 : 0 ≤ n)
    (hc : a.fdiv (2 ^ min n.toNat k.bits) = c) (next : RG dr P C ops K is (upd T t (.int k c)) H log) : RGo ⟨some t, .binOp .shr bt x y bt', ty, ps, af, gd⟩ dr P C ops K i is T H log := by
  refine G.fl rfl hw (fun ρ w hρ => ?_) next
  have e1 := hρ x (by simp [Op.operands]) _ hx
  have e2 := hρ y (by simp [Op.operands]) _ hy
  have g : ∀ (op : BinOp), (op = .shl ∨ op = .shr) → (eqGuard op bt x y (.int k a) (.int yk n)).run P w = .ok () w := by rintro op (rfl | rfl) <;> rfl
  have b1 : (binOp .shr bt (.int k a) (.int yk n)).run P w = .ok (.int k c) w := by
    show (Op.shift .shr k a yk n).run P w = _
    simp [Op.shift, Int.not_lt.mpr h0, hc]
  simp only [execOp, e1, e2, Sem.run_bind, g .shr (.inr rfl), Result.andThen_ok, b1, Sem.run_pure]

theorem G.shl {x y : Operand} {bt bt' : TypeId} {k yk : IntKind} {a n c : Int} (hw : wantT ops T ⟨some t, .binOp .shl bt x y bt', ty, ps, af, gd⟩ = some true) (hx : ev T x = some (.int k a)) (hy : ev T y = some (.int yk n)) (h0 : 0 ≤ n)
    (hc : k.wrap (a * 2 ^ min n.toNat k.bits) = c) (next : RG dr P C ops K is (upd T t (.int k c)) H log) : RGo ⟨some t, .binOp .shl bt x y bt', ty, ps, af, gd⟩ dr P C ops K i is T H log := by
  refine G.fl rfl hw (fun ρ w hρ => ?_) next
  have e1 := hρ x (by simp [Op.operands]) _ hx
  have e2 := hρ y (by simp [Op.operands]) _ hy
  have g : ∀ (op : BinOp), (op = .shl ∨ op = .shr) → (eqGuard op bt x y (.int k a) (.int yk n)).run P w = .ok () w := by rintro op (rfl | rfl) <;> rfl
  have b1 : (binOp .shl bt (.int k a) (.int yk n)).run P w = .ok (.int k c) w := by
    show (Op.shift .shl k a yk n).run P w = _
    simp [Op.shift, Int.not_lt.mpr h0, hc]
  simp only [execOp, e1, e2, Sem.run_bind, g .shl (.inl rfl), Result.andThen_ok, b1, Sem.run_pure]
end Bw
