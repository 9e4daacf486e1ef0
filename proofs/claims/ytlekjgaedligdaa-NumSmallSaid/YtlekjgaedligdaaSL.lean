/-
  Plain tools of this repo: functions that the model answers itself.
-/
import Derived.Test.YtlekjgaedligdaaSK
import Derived.Laws.Externs
namespace Bw
open Go Go.RowKit

variable {P : Program} {C : Ctx} {ops : Array Oper} {K : Post} {dr : Bool} {i t : Nat} {is : List Nat} {T : Tm} {H : Hp} {log : Log} {ty : TypeId} {ps : String} {af : Array Edge} {gd : Option (Nat × Bool)}

theorem G.ext {xs : List Operand} {tys : Array TypeId} {f : FuncId} {l : List Value} {v : Value} (hw : wantT ops T ⟨some t, .call ⟨.value (.func f), xs.toArray, tys⟩, ty, ps, af, gd⟩ = some true)
    (hxs : evL T xs = some l) (hr : ∀ w, (callFunc f l.toArray).run P w = .ok (.value v) w) (next : RG dr P C ops K is (upd T t v) H log) :
    RGo ⟨some t, .call ⟨.value (.func f), xs.toArray, tys⟩, ty, ps, af, gd⟩ dr P C ops K i is T H log := by
  refine G.fl rfl hw (fun ρ w hρ => ?_) next
  have hxs' : xs.toArray.map ρ = l.toArray := by
    rw [List.map_toArray, evL_spec hxs fun x hx u hu => hρ x (by simp [Op.operands, Call.operands, hx]) u hu]
  have hf' : ρ (.func f) = .func (.func f) #[] #[] := hρ (.func f) (by simp [Op.operands, Call.operands]) _ rfl
  have := hr w
  simp only [execOp, resolve, hxs', hf', Deferred.ofValue, Sem.run_bind, Sem.run_pure, Result.andThen_ok, invoke, Array.empty_append, Array.append_empty]
  exact this

theorem OOk.isSome {size n : Nat} {v : Own} {cs : List Value} (h : OOk size v n cs) (hn : 0 < n) : ∃ bb c r, v = some (bb, c, r) := by
  cases v with
  | none => have := h.zero.1; omega
  | some q => exact ⟨_, _, _, rfl⟩

/-- A pointer to an element compared with nil. -/
theorem G.pnil {o : BinOp} {x y : Operand} {bt bt' : TypeId} {a : Option Addr} {k : Nat} {c : Bool} (hw : wantT ops T ⟨some t, .binOp o bt x y bt', ty, ps, af, gd⟩ = some true) (hx : ev T x = some (ptrAt a k)) (hy : ev T y = some (.pointer none)) (ha : Is a)
    (hq : ∀ b off, pureRun P (do eqGuard o bt x y (.pointer (some ⟨b, off, none⟩)) (.pointer none); binOp o bt (.pointer (some ⟨b, off, none⟩)) (.pointer none)) = some (.bool c))
    (next : RG dr P C ops K is (upd T t (.bool c)) H log) : RGo ⟨some t, .binOp o bt x y bt', ty, ps, af, gd⟩ dr P C ops K i is T H log := by
  obtain ⟨b, off, rfl⟩ := ha
  rw [ptrAt_some] at hx
  refine G.fl rfl hw (fun ρ w hρ => ?_) next
  have e1 := hρ x (by simp [Op.operands]) _ hx
  have e2 := hρ y (by simp [Op.operands]) _ hy
  have := pureRun_spec (hq b (off + k)) w
  simp only [execOp, e1, e2]
  rw [Sem.run_bind, this]
  rfl

theorem G.nilckS {x : Operand} {a : Option Addr} {k : Nat} (hw : wantT ops T ⟨some t, .nilCheck x, ty, ps, af, gd⟩ = some true) (hx : ev T x = some (ptrAt a k)) (ha : Is a) (next : RG dr P C ops K is (upd T t (ptrAt a k)) H log) :
    RGo ⟨some t, .nilCheck x, ty, ps, af, gd⟩ dr P C ops K i is T H log := by
  obtain ⟨b, off, rfl⟩ := ha
  rw [ptrAt_some] at hx next
  exact G.nilck hw hx next

theorem G.iarrS {s : TypeId} {x y : Operand} {a : Option Addr} {len size j m : Nat} {k : IntKind} {n : Int} (hw : wantT ops T ⟨some t, .indexAddr s x y, ty, ps, af, gd⟩ = some true) (hx : ev T x = some (ptrAt a m)) (hy : ev T y = some (.int k n))
    (he : elemArr P s = some (len, size)) (hn : n = (j : Int)) (hj : j < len) (ha : Is a)
    (next : RG dr P C ops K is (upd T t (ptrAt a (m + j * size))) H log) : RGo ⟨some t, .indexAddr s x y, ty, ps, af, gd⟩ dr P C ops K i is T H log := by
  obtain ⟨b, off, rfl⟩ := ha
  rw [ptrAt_some] at hx next
  exact G.iarr hw hx hy he hn hj (by rw [Nat.add_assoc]; exact next)

theorem bnot_t {a b : Int} (h : ¬ a = b) : (!(a == b)) = true := by simp [h]
theorem bnot_f {a b : Int} (h : a = b) : (!(a == b)) = false := by simp [h]
theorem dnot_t {p : Prop} [Decidable p] (h : ¬ p) : (!decide p) = true := by simp [h]
theorem dnot_f {p : Prop} [Decidable p] (h : p) : (!decide p) = false := by simp [h]

theorem OC.mono {f : FuncId} {args : Array Value} {Hc : Hp} {R R' : Value → Hp → Prop} (h : OC P f args Hc R) (hi : ∀ v H', R v H' → R' v H') : OC P f args Hc R' := fun w hw =>
  Calls.mono (h w hw) fun _ _ ⟨v, H', h1, h2, h3⟩ => ⟨v, H', h1, hi v H' h2, h3⟩

theorem add64_run {f : FuncId} {fn : Func} (hf : P.funcs[f]? = some fn) (hname : (fn.name == "runtime.NumGoroutine") = false) (hb : fn.body.isNone = true) (hn : Extern.findNext fn = none) (he : Extern.find fn = some add64Entry)
    {x y c : Int} (hx : 0 ≤ x) (hy : 0 ≤ y) (hc0 : 0 ≤ c) (hc : c ≤ 1) (w : World) :
    (callFunc f #[.int .u64 x, .int .u64 y, .int .u64 c]).run P w = .ok (.value (.tuple #[.int .u64 ((x + y + c) % 18446744073709551616), .int .u64 ((x + y + c) / 18446744073709551616)])) w := by
  rw [run_callFunc_extern hf hname hb hn he, run_add64 x y c hx hy hc0 hc]
  rfl
end Bw
