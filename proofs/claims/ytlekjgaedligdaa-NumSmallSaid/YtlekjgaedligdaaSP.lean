/-
  Plain tools of this repo: arrays of integers that are compared.
-/
import Derived.Test.YtlekjgaedligdaaSO
import Derived.ChangeKeysEq
namespace Bw
open Go Go.RowKit

variable {P : Program} {C : Ctx} {ops : Array Oper} {K : Post} {dr : Bool} {i t : Nat} {is : List Nat} {T : Tm} {H : Hp} {log : Log} {ty : TypeId} {ps : String} {af : Array Edge} {gd : Option (Nat × Bool)}

/-- Are two lists of scalars the same. -/
def eqI (P : Program) (e : TypeId) : List Value → List Value → Option Bool
  | [], [] => some true
  | a :: xs, b :: ys => match eqS P e a b, eqI P e xs ys with
    | some r, some s => some (r && s)
    | _, _ => none
  | _, _ => none

theorem eqI_len {e : TypeId} : ∀ {xs ys : List Value} {r : Bool}, eqI P e xs ys = some r → ys.length = xs.length
  | [], [], _, _ => rfl
  | a :: xs, b :: ys, r, h => by
    simp only [eqI] at h
    cases h1 : eqS P e a b with
    | none => rw [h1] at h; cases h
    | some s => cases h2 : eqI P e xs ys with
      | none => rw [h1, h2] at h; cases h
      | some q => simp [eqI_len h2]
  | [], _ :: _, _, h => by cases h
  | _ :: _, [], _, h => by cases h

theorem eqItems_run {d : Nat} {e : TypeId} {xs ys : Array Value} (w : World) : ∀ (m i : Nat) {r : Bool}, (xs.toList.drop i).length = m → eqI P e (xs.toList.drop i) (ys.toList.drop i) = some r → (Op.eqItems (d + 1) e 1 xs ys (List.range' i m)).run P w = .ok r w
  | 0, i, r, hl, h => by
    have h1 : xs.toList.drop i = [] := List.eq_nil_of_length_eq_zero hl
    rw [h1] at h
    have h2 := eqI_len h
    have h3 : ys.toList.drop i = [] := List.eq_nil_of_length_eq_zero (by simpa using h2)
    rw [h3] at h
    simp only [eqI, Option.some.injEq] at h
    subst h; rfl
  | m + 1, i, r, hl, h => by
    cases hx : xs.toList.drop i with
    | nil => rw [hx] at hl; cases hl
    | cons a xs' =>
      cases hy : ys.toList.drop i with
      | nil => rw [hx, hy] at h; cases h
      | cons b ys' =>
        rw [hx, hy] at h
        simp only [eqI] at h
        cases h1 : eqS P e a b with
        | none => rw [h1] at h; cases h
        | some s => cases h2 : eqI P e xs' ys' with
          | none => rw [h1, h2] at h; cases h
          | some q =>
            rw [h1, h2] at h
            simp only [Option.some.injEq] at h
            subst h
            obtain ⟨k1, k2⟩ := eqS_run (d := d) h1 w
            have ex : xs.toList.drop (i + 1) = xs' := by rw [← List.drop_drop, hx]; rfl
            have ey : ys.toList.drop (i + 1) = ys' := by rw [← List.drop_drop, hy]; rfl
            have hxa : xs[i]? = some a := by
              have : (xs.toList.drop i)[0]? = some a := by rw [hx]; rfl
              simpa using this
            have hyb : ys[i]? = some b := by
              have : (ys.toList.drop i)[0]? = some b := by rw [hy]; rfl
              simpa using this
            have p1 : (part e xs (i * 1)).run P w = .ok a w := by simp [part, k2, hxa]
            have p2 : (part e ys (i * 1)).run P w = .ok b w := by simp [part, k2, hyb]
            have hrec := eqItems_run (d := d) (e := e) (xs := xs) (ys := ys) w m (i + 1) (r := q) (by rw [ex]; rw [hx] at hl; simpa using hl) (by rw [ex, ey]; exact h2)
            simp only [List.range', Op.eqItems, Sem.run_bind, p1, p2, k1, Result.andThen_ok]
            cases s
            · simp
            · simpa using hrec

def eqArr (P : Program) (t : TypeId) (xs ys : Array Value) : Option Bool :=
  match P.underlying t with
  | some (.array n e) => match P.info? e with
    | some _ => if n = xs.toList.length ∧ P.cellsOf e = 1 then eqI P e xs.toList ys.toList else none
    | none => none
  | _ => none

theorem eqArr_run {bt : TypeId} {xs ys : Array Value} {b : Bool} (h : eqArr P bt xs ys = some b) (w : World) : (Op.equalIn 10000 bt (.agg xs) (.agg ys)).run P w = .ok b w := by
  unfold eqArr at h
  cases hu : P.underlying bt with
  | none => rw [hu] at h; cases h
  | some u =>
    rw [hu] at h
    cases u <;> simp only [reduceCtorEq] at h
    rename_i n e
    cases hi : P.info? e with
    | none => rw [hi] at h; cases h
    | some inf =>
      rw [hi] at h
      dsimp only at h
      split at h
      · rename_i hc
        rw [run_equalIn_array w 9999 xs ys hu hi, hc.2, List.range_eq_range', hc.1]
        exact eqItems_run (d := 9998) w _ 0 rfl (by simpa using h)
      · cases h

theorem G.eqa {x y : Operand} {bt bt' : TypeId} {xs ys : Array Value} {b : Bool} (hw : wantT ops T ⟨some t, .binOp .eql bt x y bt', ty, ps, af, gd⟩ = some true) (hx : ev T x = some (.agg xs)) (hy : ev T y = some (.agg ys))
    (he : eqArr P bt xs ys = some b) (h2 : P.eqGuardType P.depth bt = false) (next : RG dr P C ops K is (upd T t (.bool b)) H log) : RGo ⟨some t, .binOp .eql bt x y bt', ty, ps, af, gd⟩ dr P C ops K i is T H log := by
  refine G.fl rfl hw (fun ρ w hρ => ?_) next
  have e1 := hρ x (by simp [Op.operands]) _ hx
  have e2 := hρ y (by simp [Op.operands]) _ hy
  simp only [execOp, e1, e2, Sem.run_bind, run_eqGuard_agg w .eql bt x y xs ys h2, Result.andThen_ok, run_eql_struct, eqArr_run he w, Sem.run_pure]
end Bw
