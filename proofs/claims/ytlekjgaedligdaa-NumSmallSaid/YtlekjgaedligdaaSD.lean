/-
  Plain tools of this repo: loops in blocks, calls that are told of all that is known.
-/
import Derived.Test.YtlekjgaedligdaaSC
namespace Bw
open Go Go.RowKit

variable {P : Program} {C : Ctx} {ops : Array Oper} {K : Post} {dr : Bool} {i t : Nat} {is : List Nat} {T : Tm} {H : Hp} {log : Log} {ty : TypeId} {ps : String} {af : Array Edge} {gd : Option (Nat × Bool)}
variable {N : Nat} {ds : List Deferred} {Q : Post}

theorem SW.bloopI {id : Nat} {α : Type} {c : Code} (Inv : α → Prop) (I : α → List (Nat × Value)) (J : α → Hp) (μ : α → Nat) (x0 : α) (h0 : Inv x0) (h1 : ∃ F, hasAll T (I x0) ∧ Rems H (J x0) F)
    (round : ∀ x, Inv x → SW P C N ds c (thenQ (fun T' H' => ∃ x' F, Inv x' ∧ hasAll T' (I x') ∧ Rems H' (J x') F ∧ μ x' < μ x) (blockQ id Q)) (tl (I x)) (J x)) : SW P C N ds (.block id (.loop c)) Q T H :=
  SW.block (SW.loopI Inv I J μ x0 h0 h1 round)

theorem G.hcall {xs : List Operand} {tys : Array TypeId} {f : FuncId} {l : List Value} {R : Value → Hp → Prop} (hw : wantT ops T ⟨some t, .call ⟨.value (.func f), xs.toArray, tys⟩, ty, ps, af, gd⟩ = some true)
    (hxs : evL T xs = some l) (hcf : Callable P f) (hc : OC P f l.toArray H R) (hst : ∀ v H', R v H' → StOk ops (i :: is) H' log) (next : ∀ v H', R v H' → RG dr P C ops K is (upd T t v) H' log) :
    RGo ⟨some t, .call ⟨.value (.func f), xs.toArray, tys⟩, ty, ps, af, gd⟩ dr P C ops K i is T H log := by
  intro ho
  refine RG.spine _ R ho hw rfl rfl (fun ρ w hρ hh => ?_) ?_ ?_
  · have hxs' : xs.toArray.map ρ = l.toArray := by
      rw [List.map_toArray, evL_spec hxs fun x hx u hu => hρ x (by simp [Op.operands, Call.operands, hx]) u hu]
    have := run_call (ρ := ρ) (o := ⟨some t, .call ⟨.value (.func f), xs.toArray, tys⟩, ty, ps, af, gd⟩) (fi := #[]) (ca := #[]) hcf rfl (hρ (.func f) (by simp [Op.operands, Call.operands]) _ rfl) hxs' w
    rw [this]
    have hh' : HSat C (H ++ []) w := by simpa using hh
    simp only [Array.empty_append, Array.append_empty, Came]
    refine Calls.mono (hc w hh'.enter) fun e w' h => ?_
    obtain ⟨v, H', rfl, hR, hs⟩ := h
    exact .inl ⟨v, _, rfl, hR, by simpa using hh'.leave hs⟩
  · rintro u H1 hR e he _; exact (hst u H1 hR).spec e he
  · intro u H1 hR; exact next u H1 hR

theorem RC.run {f : FuncId} {args : Array Value} {v : Value} {W : World} (h : RC P f args H v) (hr : RoIn W H) : Calls P f args W fun e w' => e = .returned v ∧ Frm [] W w' := OC.run h (fun _ _ h => h.1) hr
theorem beq_t {a b : Int} (h : (a == b) = true) : a = b := by simpa using h
theorem beq_f {a b : Int} (h : (a == b) = false) : ¬ a = b := by simpa using h
theorem bne_t {a b : Int} (h : (a != b) = true) : ¬ a = b := by simpa using h
theorem bne_f {a b : Int} (h : (a != b) = false) : a = b := by simpa using h
theorem wrap8_in (n : Int) (h0 : 0 ≤ n) (h1 : n < 256) : IntKind.u8.wrap n = n := by
  simp [IntKind.wrap, IntKind.signed, IntKind.bits]; omega
theorem wrap8_mod (n : Int) : IntKind.u8.wrap n = n % 256 := by
  simp [IntKind.wrap, IntKind.signed, IntKind.bits]
theorem shr16 (a : Int) : a.fdiv (2 ^ (min (Int.toNat 16) (IntKind.bits .i64))) = a / 65536 := by
  rw [Int.fdiv_eq_ediv_of_nonneg _ (by decide)]; rfl
theorem shr8 (a : Int) : a.fdiv (2 ^ (min (Int.toNat 8) (IntKind.bits .i64))) = a / 256 := by
  rw [Int.fdiv_eq_ediv_of_nonneg _ (by decide)]; rfl
theorem i64_nat (n : Nat) (h : n < 9223372036854775808) : IntKind.i64.wrap (n : Int) = n := i64_in _ (by omega) (by omega)

theorem okI_i64 {n : Int} (h : okI .i64 n) : -9223372036854775808 ≤ n ∧ n < 9223372036854775808 := by
  simp [okI, Lit.wf, IntKind.min, IntKind.max, IntKind.signed, IntKind.bits] at h; omega
theorem okI_u64 {n : Int} (h : okI .u64 n) : 0 ≤ n ∧ n < 18446744073709551616 := by
  simp [okI, Lit.wf, IntKind.min, IntKind.max, IntKind.signed, IntKind.bits] at h; omega
theorem okI_u8 {n : Int} (h : okI .u8 n) : 0 ≤ n ∧ n < 256 := by
  simp [okI, Lit.wf, IntKind.min, IntKind.max, IntKind.signed, IntKind.bits] at h; omega

/-- What is handed in, of elements of two integers each. -/
theorem pairs_of {k1 k2 : IntKind} {els : List (List Value)} (h : ∀ x ∈ els, MatchK [.i k1, .i k2] x) : ∃ l : List (Int × Int), els = l.map (fun x => [Value.int k1 x.1, Value.int k2 x.2]) ∧ ∀ y ∈ l, okI k1 y.1 ∧ okI k2 y.2 :=
  all_map fun x hx => by
    have := h x hx
    match x, this with
    | [_, _], ⟨⟨a, rfl, ha⟩, ⟨b, rfl, hb⟩, _⟩ => exact ⟨(a, b), rfl, ha, hb⟩
theorem ints_of {k : IntKind} {els : List (List Value)} (h : ∀ x ∈ els, MatchK [.i k] x) : ∃ l : List Int, els = l.map (fun x => [Value.int k x]) ∧ ∀ y ∈ l, okI k y :=
  all_map fun x hx => by
    have := h x hx
    match x, this with
    | [_], ⟨⟨a, rfl, ha⟩, _⟩ => exact ⟨a, rfl, ha⟩
end Bw
