/-
  Plain tools of this repo: the less and the greater of two, bits that are kept, turns of unsigned numbers.
-/
import Derived.Test.YtlekjgaedligdaaSH
namespace Bw
open Go Go.RowKit

variable {P : Program} {C : Ctx} {ops : Array Oper} {K : Post} {dr : Bool} {i t : Nat} {is : List Nat} {T : Tm} {H : Hp} {log : Log} {ty : TypeId} {ps : String} {af : Array Edge} {gd : Option (Nat × Bool)}

theorem G.min2 {x y : Operand} {tys : Array TypeId} {k : IntKind} {a b c : Int} (hw : wantT ops T ⟨some t, .call ⟨.builtin .min, #[x, y], tys⟩, ty, ps, af, gd⟩ = some true) (hx : ev T x = some (.int k a)) (hy : ev T y = some (.int k b))
    (hc : (if b < a then b else a) = c) (next : RG dr P C ops K is (upd T t (.int k c)) H log) : RGo ⟨some t, .call ⟨.builtin .min, #[x, y], tys⟩, ty, ps, af, gd⟩ dr P C ops K i is T H log := by
  subst hc
  refine G.fl rfl hw (fun ρ w hρ => ?_) next
  have e1 := hρ x (by simp [Op.operands, Call.operands]) _ hx
  have e2 := hρ y (by simp [Op.operands, Call.operands]) _ hy
  simp [execOp, resolve, invoke, builtin, e1, e2, Builtin.min_, Builtin.min2]

theorem G.max2 {x y : Operand} {tys : Array TypeId} {k : IntKind} {a b c : Int} (hw : wantT ops T ⟨some t, .call ⟨.builtin .max, #[x, y], tys⟩, ty, ps, af, gd⟩ = some true) (hx : ev T x = some (.int k a)) (hy : ev T y = some (.int k b))
    (hc : (if a < b then b else a) = c) (next : RG dr P C ops K is (upd T t (.int k c)) H log) : RGo ⟨some t, .call ⟨.builtin .max, #[x, y], tys⟩, ty, ps, af, gd⟩ dr P C ops K i is T H log := by
  subst hc
  refine G.fl rfl hw (fun ρ w hρ => ?_) next
  have e1 := hρ x (by simp [Op.operands, Call.operands]) _ hx
  have e2 := hρ y (by simp [Op.operands, Call.operands]) _ hy
  simp [execOp, resolve, invoke, builtin, e1, e2, Builtin.max_, Builtin.max2]

theorem G.remc {x y : Operand} {bt bt' : TypeId} {k : IntKind} {a b c : Int} (hw : wantT ops T ⟨some t, .binOp .rem bt x y bt', ty, ps, af, gd⟩ = some true) (hx : ev T x = some (.int k a)) (hy : ev T y = some (.int k b)) (ha : 0 ≤ a) (hb : 0 < b) (hc : a % b = c)
    (next : RG dr P C ops K is (upd T t (.int k c)) H log) : RGo ⟨some t, .binOp .rem bt x y bt', ty, ps, af, gd⟩ dr P C ops K i is T H log := by subst hc; exact G.rem hw hx hy ha hb next
theorem G.quoc {x y : Operand} {bt bt' : TypeId} {k : IntKind} {a b c : Int} (hw : wantT ops T ⟨some t, .binOp .quo bt x y bt', ty, ps, af, gd⟩ = some true) (hx : ev T x = some (.int k a)) (hy : ev T y = some (.int k b)) (ha : 0 ≤ a) (hb : 0 < b) (hk : a ≤ k.max) (hc : a / b = c)
    (next : RG dr P C ops K is (upd T t (.int k c)) H log) : RGo ⟨some t, .binOp .quo bt x y bt', ty, ps, af, gd⟩ dr P C ops K i is T H log := by subst hc; exact G.quo hw hx hy ha hb hk next

theorem shr32u (a : Int) : a.fdiv (2 ^ (min (Int.toNat 32) (IntKind.bits .u64))) = a / 4294967296 := by
  rw [Int.fdiv_eq_ediv_of_nonneg _ (by decide)]; rfl
theorem and32u {a : Int} (h0 : 0 ≤ a) (h1 : a < 18446744073709551616) : IntKind.u64.wrap ((BitVec.ofInt (IntKind.bits .u64) a &&& BitVec.ofInt (IntKind.bits .u64) 4294967295).toNat : Int) = a % 4294967296 := by
  obtain ⟨x, rfl⟩ := Int.eq_ofNat_of_zero_le h0
  have hb64 : IntKind.bits .u64 = 64 := rfl
  have e : (BitVec.ofInt (IntKind.bits .u64) (x : Int) &&& BitVec.ofInt (IntKind.bits .u64) 4294967295).toNat = x % 4294967296 := by
    rw [BitVec.toNat_and, BitVec.toNat_ofInt, BitVec.toNat_ofInt, hb64]
    have h1 : ((x : Int) % ((2 ^ 64 : Nat) : Int)).toNat = x := by omega
    have h2 : ((4294967295 : Int) % ((2 ^ 64 : Nat) : Int)).toNat = 2 ^ 32 - 1 := by decide
    rw [h1, h2, Nat.and_two_pow_sub_one_eq_mod]
  rw [e]
  have := u64_in ((x % 4294967296 : Nat) : Int) (by omega) (by omega)
  rw [this]; omega
theorem wrap64_mod (n : Int) : IntKind.u64.wrap n = n % 18446744073709551616 := by
  simp [IntKind.wrap, IntKind.signed, IntKind.bits]
theorem mul_split (x y : Int) : x * y = x / 4294967296 * (y / 4294967296) * 18446744073709551616 + (x / 4294967296 * (y % 4294967296) + x % 4294967296 * (y / 4294967296)) * 4294967296 + x % 4294967296 * (y % 4294967296) := by
  have hx := Int.mul_ediv_add_emod x 4294967296
  have hy := Int.mul_ediv_add_emod y 4294967296
  generalize x / 4294967296 = a at *
  generalize y / 4294967296 = b at *
  generalize x % 4294967296 = c at *
  generalize y % 4294967296 = d at *
  subst hx; subst hy
  grind
theorem mul_rng {a b : Int} (ha : 0 ≤ a) (ha' : a ≤ 4294967295) (hb : 0 ≤ b) (hb' : b ≤ 4294967295) : 0 ≤ a * b ∧ a * b ≤ 18446744065119617025 := by
  refine ⟨Int.mul_nonneg ha hb, ?_⟩
  have := Int.mul_le_mul ha' hb' hb (by omega)
  omega
theorem hi_eq {x y : Int} (hx : 0 ≤ x) (hy : 0 ≤ y) (hx' : x < 18446744073709551616) (hy' : y < 18446744073709551616) :
  x / 4294967296 * (y / 4294967296) + (x / 4294967296 * (y % 4294967296) + x % 4294967296 * (y % 4294967296) / 4294967296) / 4294967296 + ((x / 4294967296 * (y % 4294967296) + x % 4294967296 * (y % 4294967296) / 4294967296) % 4294967296 + x % 4294967296 * (y / 4294967296)) / 4294967296 = x * y / 18446744073709551616 := by
  have e := mul_split x y
  obtain ⟨a1, a2⟩ := mul_rng (a := x / 4294967296) (b := y / 4294967296) (by omega) (by omega) (by omega) (by omega)
  obtain ⟨b1, b2⟩ := mul_rng (a := x / 4294967296) (b := y % 4294967296) (by omega) (by omega) (by omega) (by omega)
  obtain ⟨c1, c2⟩ := mul_rng (a := x % 4294967296) (b := y / 4294967296) (by omega) (by omega) (by omega) (by omega)
  obtain ⟨d1, d2⟩ := mul_rng (a := x % 4294967296) (b := y % 4294967296) (by omega) (by omega) (by omega) (by omega)
  rw [e]
  generalize x / 4294967296 * (y / 4294967296) = A at *
  generalize x / 4294967296 * (y % 4294967296) = B at *
  generalize x % 4294967296 * (y / 4294967296) = C at *
  generalize x % 4294967296 * (y % 4294967296) = D at *
  clear e
  omega
end Bw
