/-
  Plain tools of this repo: literals, and what makes a new block.
-/
import Derived.Test.YtlekjgaedligdaaS1
namespace Bw
open Go Go.RowKit

variable {P : Program}

def setL (cs : List Value) (off : Nat) : List Value → List Value
  | [] => cs
  | v :: l => setL (cs.set off v) (off + 1) l

theorem setL_length (cs : List Value) (off : Nat) (l : List Value) : (setL cs off l).length = cs.length := by
  induction l generalizing cs off with
  | nil => rfl
  | cons v l ih => simp [setL, ih]

def cellsL : Value → List Value
  | .agg cs => cs.toList
  | v => [v]

theorem cellsL_eq (v : Value) : v.cells.toList = cellsL v := by cases v <;> rfl

def zeroOf (P : Program) (e : TypeId) : Option (List Value) := match P.info? e with
  | some inf => match inf.zero with
    | some v => some (cellsL v)
    | none => none
  | none => none

/-- A list, its spine laid out. -/
def normL : List Value → Option (List Value)
  | [] => some []
  | v :: l => match normL l with
    | some l' => some (v :: l')
    | none => none

theorem normL_eq : ∀ {l l' : List Value}, normL l = some l' → l' = l
  | [], _, h => by simp only [normL, Option.some.injEq] at h; exact h.symm
  | v :: l, l', h => by
    simp only [normL] at h
    cases hl : normL l with
    | none => rw [hl] at h; cases h
    | some l1 =>
      rw [hl] at h
      simp only [Option.some.injEq] at h
      rw [← h, normL_eq hl]

/-! What a composite literal builds. -/
def placesL (P : Program) : List Field → Option (List (Nat × Nat))
  | [] => some []
  | f :: fs => match P.info? f.type, placesL P fs with
    | some inf, some l => some ((f.offset, inf.size) :: l)
    | _, _ => none

def fillL (pl : Nat → Option (Nat × Nat)) (cs : List Value) : List (Nat × Value) → Option (List Value)
  | [] => normL cs
  | (i, v) :: rest => match pl i with
    | some (off, n) => if (cellsL v).length = n then if off + n ≤ cs.length then fillL pl (setL cs off (cellsL v)) rest else none else none
    | none => none

theorem zipIdx_setL (off : Nat) : ∀ (l : List Value) (k : Nat) (cs : Array Value), ((l.zipIdx k).foldl (fun cs (c, j) => cs.setIfInBounds (off + j) c) cs).toList = setL cs.toList (off + k) l
  | [], k, cs => rfl
  | v :: l, k, cs => by
    simp only [List.zipIdx_cons, List.foldl_cons, setL]
    rw [zipIdx_setL off l (k + 1), Array.toList_setIfInBounds]
    rfl

theorem fill_eq {pl : Nat → Option (Nat × Nat)} : ∀ {parts : List (Nat × Value)} {cs : Array Value} {l : List Value}, fillL pl cs.toList parts = some l → Instr.fill pl cs parts = some l.toArray
  | [], cs, l, h => by simp only [fillL] at h; rw [normL_eq h]; rfl
  | (i, v) :: rest, cs, l, h => by
    simp only [fillL] at h
    simp only [Instr.fill]
    cases hp : pl i with
    | none => rw [hp] at h; cases h
    | some p =>
      obtain ⟨off, n⟩ := p
      rw [hp] at h
      dsimp only at h ⊢
      split at h
      · rename_i h1
        split at h
        · rename_i h2
          have h3 : v.cells.size = n := by rw [← h1, ← cellsL_eq]; simp
          have h4 : ¬ (v.cells.size ≠ n ∨ off + v.cells.size > cs.size) := by rw [h3]; simp at h2 ⊢; exact h2
          have h5 : (v.cells.size ≠ n || decide (off + v.cells.size > cs.size)) = false := by simpa using h4
          simp only [h5, Bool.false_eq_true, if_false]
          refine fill_eq ?_
          rw [← Array.foldl_toList, Array.toList_zipIdx, zipIdx_setL, cellsL_eq]
          exact h
        · cases h
      · cases h

def buildA (P : Program) (t : TypeId) (parts : List (Nat × Value)) : Option (List Value) :=
  match P.underlying t, zeroOf P t with
  | some (.struct fs), some z => match placesL P fs.toList with
    | some pl => fillL (fun i => pl[i]?) z parts
    | none => none
  | some (.array _ e), some z => match P.info? e with
    | some inf => fillL (fun i => some (i * inf.size, inf.size)) z parts
    | none => none
  | _, _ => none

theorem run_places {fs : List Field} {pl : List (Nat × Nat)} (h : placesL P fs = some pl) (w : World) : (fs.mapM fun f => (do pure (f.offset, ← Go.sizeOf f.type) : Sem (Nat × Nat))).run P w = .ok pl w := by
  induction fs generalizing pl with
  | nil => simp only [placesL, Option.some.injEq] at h; subst h; simp
  | cons f fs ih =>
    simp only [placesL] at h
    cases hi : P.info? f.type with
    | none => rw [hi] at h; cases h
    | some inf =>
      rw [hi] at h
      cases hl : placesL P fs with
      | none => rw [hl] at h; cases h
      | some l =>
        rw [hl] at h
        simp only [Option.some.injEq] at h
        subst h
        have h1 : (Go.sizeOf f.type).run P w = .ok inf.size w := by simp [Go.sizeOf, typeInfo, program, Sem.run, hi]
        rw [List.mapM_cons]
        simp only [Sem.run_bind, h1, Result.andThen_ok, Sem.run_pure, ih hl]

theorem run_build {t : TypeId} {parts : Array (Nat × Value)} {cs : List Value} (h : buildA P t parts.toList = some cs) (w : World) : (Instr.build t parts).run P w = .ok (.agg cs.toArray) w := by
  unfold buildA at h
  cases hu : P.underlying t with
  | none => rw [hu] at h; cases h
  | some d =>
    rw [hu] at h
    cases hz : zeroOf P t with
    | none => rw [hz] at h; cases d <;> cases h
    | some z =>
      rw [hz] at h
      unfold zeroOf at hz
      cases hi : P.info? t with
      | none => rw [hi] at hz; cases hz
      | some inf =>
        rw [hi] at hz
        simp only at hz
        cases hv : inf.zero with
        | none => rw [hv] at hz; cases hz
        | some zv =>
          rw [hv] at hz
          simp only [Option.some.injEq] at hz
          rw [← cellsL_eq] at hz
          subst hz
          cases d with
          | struct fs =>
            simp only at h
            cases hp : placesL P fs.toList with
            | none => rw [hp] at h; cases h
            | some pl =>
              rw [hp] at h
              have h1 := fill_eq h
              have h2 := run_places hp w
              have h3 : (fs.mapM fun f => (do pure (f.offset, ← Go.sizeOf f.type) : Sem (Nat × Nat))).run P w = .ok pl.toArray w := by
                rw [← Array.toArray_toList (xs := fs), List.mapM_toArray, Sem.run_map]
                simp only [h2, Result.andThen_ok]
              have h4 : Instr.fill (fun i => pl.toArray[i]?) zv.cells parts.toList = some cs.toArray := by
                simpa using h1
              simp only [Instr.build, Sem.run_bind, zeroValue, typeInfo, program, Sem.run, hi, hv, underlying, hu, Sem.run_pure, Result.andThen_ok, h3, h4]
          | array n e =>
            simp only at h
            cases hp : P.info? e with
            | none => rw [hp] at h; cases h
            | some ie =>
              rw [hp] at h
              have h1 := fill_eq h
              simp only [Instr.build, Sem.run_bind, zeroValue, typeInfo, program, Sem.run, hi, hv, underlying, hu, Go.sizeOf, hp, Sem.run_pure, Result.andThen_ok, h1]
          | _ => cases h

/-- Operands of a literal's parts. -/
def evP (T : Tm) : List (Nat × Operand) → Option (List (Nat × Value))
  | [] => some []
  | (i, x) :: l => match ev T x with
    | some v => match evP T l with
      | some vs => some ((i, v) :: vs)
      | none => none
    | none => none

theorem evP_spec {T : Tm} {ρ : Operand → Value} : ∀ {l : List (Nat × Operand)} {vs : List (Nat × Value)}, evP T l = some vs → (∀ x ∈ l.map (·.2), ∀ u, ev T x = some u → ρ x = u) → (l.map fun (i, x) => (i, ρ x)) = vs
  | [], vs, h, _ => by simp only [evP, Option.some.injEq] at h; subst h; rfl
  | (i, x) :: l, vs, h, hρ => by
    simp only [evP] at h
    cases hx : ev T x with
    | none => rw [hx] at h; cases h
    | some v =>
      rw [hx] at h
      simp only at h
      cases hl : evP T l with
      | none => rw [hl] at h; cases h
      | some vs' =>
        rw [hl] at h
        simp only [Option.some.injEq] at h
        subst h
        rw [List.map_cons, evP_spec hl fun y hy u hu => hρ y (List.mem_cons_of_mem _ hy) u hu]
        simp only [hρ x (by simp) v hx]


theorem i64_in (n : Int) (h0 : -9223372036854775808 ≤ n) (h1 : n < 9223372036854775808) : IntKind.i64.wrap n = n := by
  simp [IntKind.wrap, IntKind.signed, IntKind.bits]; omega
theorem u64_in (n : Int) (h0 : 0 ≤ n) (h1 : n < 18446744073709551616) : IntKind.u64.wrap n = n := by
  simp [IntKind.wrap, IntKind.signed, IntKind.bits]; omega

theorem Holds.narrow {w : World} {b : Nat} {e : TypeId} {cs : List Value} {room : Nat} (k r : Nat) (hk : k ≤ cs.length) (hr : k + r ≤ cs.length + room) (h : Holds w b (.row e cs room)) : Holds w b (.row e (cs.take k) r) := by
  obtain ⟨c, hc, h1, h2⟩ := h
  refine ⟨c, hc, ?_, by rw [List.length_take, Nat.min_eq_left hk]; omega⟩
  rw [List.length_take, Nat.min_eq_left hk]
  conv => rhs; rw [← h1]
  rw [List.take_take, Nat.min_eq_left hk]

/-! ### What makes a new block -/
def ptrTo (b : Nat) : Value := .pointer (some ⟨b, 0, none⟩)
def sliceTo (n c : Nat) (b : Nat) : Value := .slice (some ⟨b, 0, none⟩) n c

def newA (P : Program) (T : Tm) : Op → Option ((Nat → Value) × AObj)
  | .alloc e => match zeroOf P e with
    | some l => some (ptrTo, .row e l 0)
    | none => none
  | .box e x => match ev T x with
    | some v => some (ptrTo, .row e (cellsL v) 0)
    | none => none
  | .buildSlice st n parts => match P.underlying st with
    | some (.slice e) => match P.info? e, zeroOf P e, evP T parts.toList with
      | some inf, some z, some l => if inf.size = z.length ∧ n * inf.size ≤ 2 ^ 24 then match fillL (fun i => some (i * inf.size, inf.size)) (List.replicate n z).flatten l with
          | some cs => some (sliceTo n n, .row e cs 0)
          | none => none
        else none
      | _, _, _ => none
    | _ => none
  | .makeSlice st x y => match P.underlying st with
    | some (.slice e) => match P.info? e, zeroOf P e, ev T x, ev T y with
      | some inf, some z, some (.int _ l), some (.int _ c) => if inf.size = z.length ∧ 0 ≤ l ∧ l ≤ c ∧ c < 9223372036854775808 ∧ inf.bytes * c ≤ 2 ^ 48 then some (sliceTo l.toNat c.toNat, .row e (List.replicate l.toNat z).flatten ((c.toNat - l.toNat) * z.length)) else none
      | _, _, _, _ => none
    | _ => none
  | _ => none

theorem zeroOf_spec {e : TypeId} {l : List Value} (h : zeroOf P e = some l) : ∃ inf v, P.info? e = some inf ∧ inf.zero = some v ∧ v.cells.toList = l := by
  unfold zeroOf at h
  cases hi : P.info? e with
  | none => rw [hi] at h; cases h
  | some inf =>
    rw [hi] at h
    simp only at h
    cases hv : inf.zero with
    | none => rw [hv] at h; cases h
    | some v =>
      rw [hv] at h
      simp only [Option.some.injEq] at h
      exact ⟨inf, v, rfl, hv, by rw [cellsL_eq]; exact h⟩

theorem flatten_get (z : List Value) : ∀ (n i : Nat), i < n * z.length → (List.replicate n z).flatten[i]? = z[i % z.length]?
  | 0, i, h => by omega
  | n + 1, i, h => by
    rw [List.replicate_succ, List.flatten_cons, List.getElem?_append]
    split
    · rename_i h1; rw [Nat.mod_eq_of_lt h1]
    · rename_i h1
      have h2 : i - z.length < n * z.length := by rw [Nat.add_mul] at h; omega
      rw [flatten_get z n _ h2, ← Nat.mod_eq_sub_mod (by omega)]

theorem range_zeros (z : Array Value) (n : Nat) (h : 0 < n * z.size ∨ n * z.size = 0) : ((Array.range (n * z.size)).map (z[· % z.size]!)).toList = (List.replicate n z.toList).flatten := by
  have _ := h
  apply List.ext_getElem?
  intro i
  by_cases hi : i < n * z.size
  · have h0 : 0 < z.size := by
      rcases Nat.eq_zero_or_pos z.size with h | h
      · rw [h, Nat.mul_zero] at hi; omega
      · exact h
    rw [flatten_get z.toList n i (by simpa using hi)]
    have hm : i % z.size < z.size := Nat.mod_lt _ h0
    simp [hi, hm]
  · have h1 : (List.replicate n z.toList).flatten.length = n * z.size := by simp
    rw [List.getElem?_eq_none (by simp; omega), List.getElem?_eq_none (by rw [h1]; omega)]

theorem newA_run {T : Tm} {ρ : Operand → Value} {o : Oper} {f : Nat → Value} {x : AObj} (h : newA P T o.op = some (f, x)) (hρ : ∀ y ∈ o.op.operands, ∀ u, ev T y = some u → ρ y = u) (w : World) :
    ∃ ob, (execOp ρ o).run P w = .ok (.value (f w.heap.size)) (w.alloc ob) ∧ Holds (w.alloc ob) w.heap.size x := by
  obtain ⟨dst, op, ty, ps, af, gd⟩ := o
  dsimp only at h hρ
  have hh : ∀ (cs : Array Value) (e : TypeId), Holds (w.alloc (.cells cs e)) w.heap.size (.row e cs.toList 0) := fun cs e => ⟨cs, (MapKept.heap_alloc w _).1, List.take_length, by simp⟩
  cases op <;> simp only [newA, reduceCtorEq] at h
  case alloc e =>
    cases hz : zeroOf P e with
    | none => rw [hz] at h; cases h
    | some l =>
      rw [hz] at h
      simp only [Option.some.injEq, Prod.mk.injEq] at h
      obtain ⟨rfl, rfl⟩ := h
      obtain ⟨inf, v, h1, h2, rfl⟩ := zeroOf_spec hz
      refine ⟨.cells v.cells e, ?_, hh _ _⟩
      simp only [execOp, Instr.alloc, newVar, newRow, Sem.run_bind, zeroValue, typeInfo, program, Sem.run, h1, h2, run_newObj, Result.andThen_ok, Sem.run_pure]
      rfl
  case box e y =>
    cases hy : ev T y with
    | none => rw [hy] at h; cases h
    | some v =>
      rw [hy] at h
      simp only [Option.some.injEq, Prod.mk.injEq] at h
      obtain ⟨rfl, rfl⟩ := h
      have hy' := hρ y (by simp [Op.operands]) v hy
      refine ⟨.cells v.cells e, ?_, by rw [← cellsL_eq]; exact hh _ _⟩
      simp only [execOp, hy', Instr.box, newVar, newRow, Sem.run_bind, run_newObj, Result.andThen_ok, Sem.run_pure]
      rfl
  case buildSlice st n parts =>
    cases hu : P.underlying st with
    | none => rw [hu] at h; cases h
    | some d =>
      rw [hu] at h
      cases d <;> simp only [reduceCtorEq] at h
      rename_i e
      cases hi : P.info? e with
      | none => rw [hi] at h; cases h
      | some inf =>
        cases hz : zeroOf P e with
        | none => rw [hi, hz] at h; cases h
        | some z =>
          cases hp : evP T parts.toList with
          | none => rw [hi, hz, hp] at h; cases h
          | some l =>
            rw [hi, hz, hp] at h
            simp only at h
            split at h
            · rename_i hc
              cases hf : fillL (fun i => some (i * inf.size, inf.size)) (List.replicate n z).flatten l with
              | none => rw [hf] at h; cases h
              | some cs =>
                rw [hf] at h
                simp only [Option.some.injEq, Prod.mk.injEq] at h
                obtain ⟨rfl, rfl⟩ := h
                obtain ⟨inf', v, h1, h2, h3⟩ := zeroOf_spec hz
                rw [hi] at h1
                obtain rfl := Option.some.inj h1
                have hsz : v.cells.size = inf.size := by rw [hc.1, ← h3]; simp
                have hps : (parts.map fun (i, x) => (i, ρ x)) = l.toArray := by
                  have := evP_spec (ρ := ρ) hp fun x hx u hu => hρ x (by simpa [Op.operands] using hx) u hu
                  rw [← this]
                  apply Array.ext'
                  simp
                refine ⟨.cells cs.toArray e, ?_, by simpa using hh cs.toArray e⟩
                have hfl : Instr.fill (fun i => some (i * inf.size, inf.size)) (((Array.range (n * inf.size)).map ((if n * inf.size = 0 then #[] else v.cells)[· % (if n * inf.size = 0 then #[] else v.cells).size]!))) l = some cs.toArray := by
                  refine fill_eq ?_
                  rw [← hf]
                  congr 1
                  by_cases h0 : n * inf.size = 0
                  · simp only [h0, if_true]
                    rcases Nat.mul_eq_zero.1 h0 with h0 | h0
                    · subst h0; simp
                    · have hz0 : z = [] := List.eq_nil_of_length_eq_zero (by rw [← hc.1]; exact h0)
                      subst hz0; simp
                  · simp only [h0, if_false]
                    rw [← hsz, ← h3]
                    exact range_zeros v.cells n (by omega)
                have h24 : ¬ n * inf.size > 2 ^ 24 := by have := hc.2; omega
                simp only [execOp, hps, Instr.buildSlice, underlying, program, Sem.run_bind, Sem.run, hu, Result.andThen_ok, Sem.run_pure, Go.sizeOf, typeInfo, hi, h24, if_false]
                by_cases h0 : n * inf.size = 0
                · simp only [h0, if_true] at hfl ⊢
                  simp only [Sem.run_pure, Result.andThen_ok, hfl, newRow, Sem.run_bind, run_newObj]
                  rfl
                · simp only [h0, if_false] at hfl ⊢
                  simp only [zeroValue, typeInfo, program, Sem.run_bind, Sem.run, hi, h2, Sem.run_pure, Result.andThen_ok, hfl, newRow, run_newObj]
                  rfl
            · cases h
  case makeSlice st y z =>
    cases hu : P.underlying st with
    | none => rw [hu] at h; cases h
    | some d =>
      rw [hu] at h
      cases d <;> simp only [reduceCtorEq] at h
      rename_i e
      cases hi : P.info? e with
      | none => rw [hi] at h; cases h
      | some inf =>
        cases hz : zeroOf P e with
        | none => rw [hi, hz] at h; cases h
        | some zl =>
          rw [hi, hz] at h
          split at h
          · rename_i inf' zl' k1 l k2 c e1 e2 e3 e4
            simp only [Option.some.injEq] at e1 e2
            subst e1; subst e2
            split at h
            · rename_i hc
              obtain ⟨c1, c2, c3, c4, c5⟩ := hc
              simp only [Option.some.injEq, Prod.mk.injEq] at h
              obtain ⟨rfl, rfl⟩ := h
              obtain ⟨inf', v, h1, h2, h3⟩ := zeroOf_spec hz
              rw [hi] at h1
              obtain rfl := Option.some.inj h1
              have hy := hρ y (by simp [Op.operands]) _ e3
              have hz' := hρ z (by simp [Op.operands]) _ e4
              have hsz : v.cells.size = inf.size := by rw [c1, ← h3]; simp
              have w1 : IntKind.i64.wrap l = l := i64_in _ (by omega) (by omega)
              have w2 : IntKind.i64.wrap c = c := i64_in _ (by omega) (by omega)
              have t1 : (c < 0 || (inf.bytes : Int) * c > 2 ^ 48) = false := by
                simp only [Bool.or_eq_false_iff, decide_eq_false_iff_not]; exact ⟨by omega, by omega⟩
              have t2 : ((c < 0 || decide ((inf.bytes : Int) * c > 2 ^ 48)) || decide (l < 0) || decide (l > c)) = false := by
                rw [t1]; simp only [Bool.false_or, Bool.or_eq_false_iff, decide_eq_false_iff_not]; exact ⟨by omega, by omega⟩
              have hcells : ((Array.range (c.toNat * inf.size)).map ((if c.toNat * inf.size = 0 then #[] else v.cells)[· % (if c.toNat * inf.size = 0 then #[] else v.cells).size]!)).toList = (List.replicate c.toNat zl).flatten := by
                by_cases h0 : c.toNat * inf.size = 0
                · simp only [h0, if_true]
                  rcases Nat.mul_eq_zero.1 h0 with h0 | h0
                  · rw [h0]; simp
                  · have hz0 : zl = [] := List.eq_nil_of_length_eq_zero (by rw [← c1]; exact h0)
                    subst hz0; simp
                · simp only [h0, if_false]
                  rw [← hsz, ← h3]
                  exact range_zeros v.cells c.toNat (by omega)
              refine ⟨.cells ((Array.range (c.toNat * inf.size)).map ((if c.toNat * inf.size = 0 then #[] else v.cells)[· % (if c.toNat * inf.size = 0 then #[] else v.cells).size]!)) e, ?_, ?_⟩
              rotate_left
              · have hfull := hh ((Array.range (c.toNat * inf.size)).map ((if c.toNat * inf.size = 0 then #[] else v.cells)[· % (if c.toNat * inf.size = 0 then #[] else v.cells).size]!)) e
                rw [hcells] at hfull
                have hle : l.toNat ≤ c.toNat := by omega
                have hmul : l.toNat * zl.length ≤ c.toNat * zl.length := Nat.mul_le_mul_right _ hle
                have := hfull.narrow (l.toNat * zl.length) ((c.toNat - l.toNat) * zl.length) (by simpa using hmul) (by rw [Nat.sub_mul]; simp; omega)
                have e5 : (List.replicate c.toNat zl).flatten.take (l.toNat * zl.length) = (List.replicate l.toNat zl).flatten := by
                  have e6 : c.toNat = l.toNat + (c.toNat - l.toNat) := by omega
                  rw [e6, ← List.replicate_append_replicate, List.flatten_append]
                  have e7 : (List.replicate l.toNat zl).flatten.length = l.toNat * zl.length := by simp
                  rw [← e7]; exact List.take_left
                rw [e5] at this
                exact this
              simp only [execOp, Instr.makeSlice, hy, hz', asInt, asIntOf, underlying, program, Sem.run_bind, Sem.run, hu, Result.andThen_ok, Sem.run_pure, Go.sizeOf, typeInfo, hi, w1, w2, t2, Bool.false_eq_true, if_false, run_askRoom]
              by_cases h0 : c.toNat * inf.size = 0
              · simp only [h0, if_true, Sem.run_pure, Result.andThen_ok, newRow, Sem.run_bind, run_newObj]
                rfl
              · simp only [h0, if_false, zeroValue, typeInfo, program, Sem.run_bind, Sem.run, hi, h2, Sem.run_pure, Result.andThen_ok, newRow, run_newObj]
                rfl
            · cases h
          · cases h
end Bw
