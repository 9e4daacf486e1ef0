/-
  Plain tools of this repo: what single operations do to what is known.
-/
import Derived.Test.YtlekjgaedligdaaS4
namespace Bw
open Go Go.RowKit

variable {P : Program} {C : Ctx} {ops : Array Oper} {K : Post} {dr : Bool}

/-! ### Operations that only reckon -/
def pureRun {α : Type} (P : Program) : Sem α → Option α
  | .pure a => some a
  | .program k => pureRun P (k P)
  | _ => none

theorem pureRun_spec {α : Type} {s : Sem α} {a : α} (h : pureRun P s = some a) (w : World) : s.run P w = .ok a w := by
  induction s with
  | pure b => simp only [pureRun, Option.some.injEq] at h; subst h; rfl
  | program k ih => simp only [pureRun] at h; exact ih P h
  | _ => simp [pureRun] at h

def rhoT (T : Tm) (x : Operand) : Value := (ev T x).getD undef
def knownB (T : Tm) : List Operand → Bool
  | [] => true
  | x :: l => (ev T x).isSome && knownB T l

theorem knownB_spec {T : Tm} {l : List Operand} (h : knownB T l = true) : ∀ x ∈ l, ∃ u, ev T x = some u := by
  induction l with
  | nil => intro x hx; cases hx
  | cons y l ih =>
    simp only [knownB, Bool.and_eq_true] at h
    intro x hx
    rcases List.mem_cons.1 hx with rfl | hx
    · exact Option.isSome_iff_exists.1 h.1
    · exact ih h.2 x hx

theorem rho_eq {T : Tm} {ρ : Operand → Value} {o : Op} (hk : knownB T o.operands.toList = true) (hρ : ∀ x ∈ o.operands, ∀ u, ev T x = some u → ρ x = u) : ∀ x ∈ o.operands, ρ x = rhoT T x := by
  intro x hx
  obtain ⟨u, hu⟩ := knownB_spec hk x (by simpa using hx)
  rw [hρ x hx u hu, rhoT, hu]; rfl

def notSelect : Op → Bool
  | .select .. => false
  | .call ⟨.value _, _, _⟩ => false
  | .call ⟨.invoke _ _, _, _⟩ => false
  | _ => true

theorem notSelect_spec {o : Op} (h : notSelect o = true) : ∀ cs b, o ≠ .select cs b := by
  rintro cs b rfl; cases h

theorem exec_eq {T : Tm} {ρ : Operand → Value} {o : Oper} (hs : notSelect o.op = true) (hk : knownB T o.op.operands.toList = true) (hρ : ∀ x ∈ o.op.operands, ∀ u, ev T x = some u → ρ x = u) :
    execOp ρ o = execOp (rhoT T) o := execOp_congr o (notSelect_spec hs) (rho_eq hk hρ)

theorem Fl.of_pure {T : Tm} {o : Oper} {v : Value} (hs : notSelect o.op = true) (hk : knownB T o.op.operands.toList = true) (hv : pureRun P (execOp (rhoT T) o) = some (.value v)) : Fl P T [] o v := by
  intro ρ w hρ _
  rw [exec_eq hs hk hρ]
  exact pureRun_spec hv w

theorem Fl.of_run {T : Tm} {o : Oper} {v : Value} (hs : notSelect o.op = true) (hk : knownB T o.op.operands.toList = true) (hv : ∀ w, (execOp (rhoT T) o).run P w = .ok (.value v) w) : Fl P T [] o v := by
  intro ρ w hρ _
  rw [exec_eq hs hk hρ]
  exact hv w

/-! ### The goal of a region's walk -/
def LogOk (ops : Array Oper) (log : Log) (is : List Nat) (H : Hp) : Prop := ∀ e ∈ log, e.2 ∈ H ∨ ∀ j ∈ is, Bf ops e.1 j
def RG (dr : Bool) (P : Program) (C : Ctx) (ops : Array Oper) (K : Post) (is : List Nat) (T : Tm) (H : Hp) (log : Log) : Prop := LogOk ops log is H → RW dr P C ops K is T H log

theorem LogOk.tail {log : Log} {i : Nat} {is : List Nat} {H : Hp} (h : LogOk ops log (i :: is) H) : LogOk ops log is H := fun e he => (h e he).imp id fun h j hj => h j (List.mem_cons_of_mem _ hj)

theorem RG.done {T : Tm} {H : Hp} {log : Log} (h : K .normal T H) : RG dr P C ops K [] T H log := fun _ => .nil h

theorem RG.unw {i t : Nat} {is : List Nat} {T : Tm} {H : Hp} {log : Log} (o : Oper) (ho : ops[i]? = some o) (hw : wantT ops T o = some false) (hd : o.dst = some t)
    (next : RG dr P C ops K is (upd T t undef) H log) : RG dr P C ops K (i :: is) T H log :=
  fun hl => .unw o ho hw (by rw [hd]; exact next hl.tail)

theorem RG.unw0 {i : Nat} {is : List Nat} {T : Tm} {H : Hp} {log : Log} (o : Oper) (ho : ops[i]? = some o) (hw : wantT ops T o = some false) (hd : o.dst = none)
    (next : RG dr P C ops K is T H log) : RG dr P C ops K (i :: is) T H log :=
  fun hl => .unw o ho hw (by rw [hd]; exact next hl.tail)

theorem RG.pure {i t : Nat} {is : List Nat} {T : Tm} {H : Hp} {log : Log} (o : Oper) (v : Value) (ho : ops[i]? = some o) (hw : wantT ops T o = some true) (hs : notSelect o.op = true) (hk : knownB T o.op.operands.toList = true)
    (hnn : newOp o.op = false) (hv : pureRun P (execOp (rhoT T) o) = some (.value v)) (hd : o.dst = some t) (next : RG dr P C ops K is (upd T t v) H log) : RG dr P C ops K (i :: is) T H log :=
  fun hl => .pure o v ho hw hnn (Fl.of_pure hs hk hv) (by rw [hd]; exact next hl.tail)

theorem RG.run {i t : Nat} {is : List Nat} {T : Tm} {H : Hp} {log : Log} (o : Oper) (v : Value) (ho : ops[i]? = some o) (hw : wantT ops T o = some true) (hs : notSelect o.op = true) (hk : knownB T o.op.operands.toList = true)
    (hnn : newOp o.op = false) (hv : ∀ w, (execOp (rhoT T) o).run P w = .ok (.value v) w) (hd : o.dst = some t) (next : RG dr P C ops K is (upd T t v) H log) : RG dr P C ops K (i :: is) T H log :=
  fun hl => .pure o v ho hw hnn (Fl.of_run hs hk hv) (by rw [hd]; exact next hl.tail)

theorem upd_self {T : Tm} {t : Nat} {v : Value} (h : T t = some v) : upd T t v = T := by
  funext i; by_cases hi : i = t
  · subst hi; simp [upd, h]
  · simp [upd, hi]

/-- A test that is open: both ways. -/
theorem RG.split {i j t : Nat} {want b : Bool} {is : List Nat} {T : Tm} {H : Hp} {log : Log} (o : Oper) (ho : ops[i]? = some o) (hg : o.guard = some (j, want)) (hj : (ops[j]?).bind (·.dst) = some t) (hT : T t = some (.bool b))
    (h1 : b = true → RG dr P C ops K (i :: is) (upd T t (.bool true)) H log) (h0 : b = false → RG dr P C ops K (i :: is) (upd T t (.bool false)) H log) : RG dr P C ops K (i :: is) T H log := by
  have _ := ho; have _ := hg; have _ := hj
  cases b with
  | true => rw [upd_self hT] at h1; exact h1 rfl
  | false => rw [upd_self hT] at h0; exact h0 rfl

/-- A slot's value under another spelling. -/
theorem RG.spell {t : Nat} {v u : Value} {is : List Nat} {T : Tm} {H : Hp} {log : Log} (hT : T t = some v) (e : v = u) (h : RG dr P C ops K is (upd T t u) H log) : RG dr P C ops K is T H log := by
  subst e; rw [upd_self hT] at h; exact h

/-! ### Readings -/
theorem RG.read {i t : Nat} {is : List Nat} {T : Tm} {H : Hp} {log : Log} (o : Oper) (v : Value) (it : Nat × AObj) (ho : ops[i]? = some o) (hw : wantT ops T o = some true) (hnn : newOp o.op = false) (hf : Fl P T [it] o v) (hm : it ∈ H) (hd : o.dst = some t)
    (next : RG dr P C ops K is (upd T t v) H (pushL dr (i, it) log)) : RG dr P C ops K (i :: is) T H log := by
  intro hl
  have hl' : LogOk ops (pushL dr (i, it) log) is H := by
    intro e he
    unfold pushL at he
    split at he
    · rcases List.mem_cons.1 he with rfl | he
      · exact .inl hm
      · exact hl.tail e he
    · exact hl.tail e he
  exact .read o v it ho hw hnn hf hm (by rw [hd]; exact next hl')

def aggOf (P : Program) (t : TypeId) : Option (Bool × Nat) :=
  match P.underlying t, P.info? t with
  | some (.struct _), some i => some (true, i.size)
  | some (.array _ _), some i => some (true, i.size)
  | some _, some i => some (false, i.size)
  | _, _ => none

theorem aggOf_spec {t : TypeId} {b : Bool} {n : Nat} (h : aggOf P t = some (b, n)) (w : World) : (isAgg t).run P w = .ok b w ∧ (Go.sizeOf t).run P w = .ok n w := by
  unfold aggOf at h
  cases hu : P.underlying t with
  | none => rw [hu] at h; cases h
  | some d =>
    cases hi : P.info? t with
    | none => rw [hu, hi] at h; cases d <;> cases h
    | some i =>
      rw [hu, hi] at h
      have h2 : (Go.sizeOf t).run P w = .ok i.size w := by simp [Go.sizeOf, typeInfo, program, hi, Sem.run, bind, Sem.bind, pure]
      have h1 : ∀ c : Bool, (∀ w, (isAgg t).run P w = .ok c w) ↔ c = (match d with | .struct _ | .array _ _ => true | _ => false) := by
        intro c
        have e : ∀ w, (isAgg t).run P w = .ok (match d with | .struct _ | .array _ _ => true | _ => false) w := by
          intro w
          cases d <;> simp [isAgg, underlying, program, hu, Sem.run, bind, Sem.bind, pure]
        constructor
        · intro hc; have := (hc w).symm.trans (e w); simpa using this
        · intro hc; subst hc; exact e
      cases d <;> (simp only [Option.some.injEq, Prod.mk.injEq] at h; obtain ⟨rfl, rfl⟩ := h; exact ⟨(h1 _).2 rfl w, h2⟩)

def takeA (o : AObj) : Nat → Nat → Option (List Value)
  | _, 0 => some []
  | off, n + 1 => match cellA o off with
    | some v => match takeA o (off + 1) n with
      | some l => some (v :: l)
      | none => none
    | none => none

def loadA (P : Program) (t : TypeId) (o : AObj) (off : Nat) : Option Value :=
  match aggOf P t with
  | some (true, n) => match takeA o off n with
    | some l => some (.agg l.toArray)
    | none => none
  | some (false, _) => cellA o off
  | none => none

theorem add_zero (b off : Nat) : (Addr.add ⟨b, off, none⟩ 0) = ⟨b, off, none⟩ := rfl
theorem add_some (b off i : Nat) : (Addr.add ⟨b, off, none⟩ i) = ⟨b, off + i, none⟩ := by
  unfold Addr.add; split
  · subst_vars; rfl
  · rfl

theorem run_load {w : World} {a : Addr} {v : Value} (h : w.cell? a = some v) : (load a).run P w = .ok v w := by
  simp [load, Sem.run, h]

theorem run_loadCellsFrom {w : World} {b : Nat} {o : AObj} (h : Holds w b o) {off : Nat} : ∀ (n i : Nat) (acc : Array Value) (l : List Value), takeA o (off + i) n = some l →
    (loadCellsFrom ⟨b, off, none⟩ i n acc).run P w = .ok (acc ++ l.toArray) w := by
  intro n
  induction n with
  | zero => intro i acc l hl; simp only [takeA, Option.some.injEq] at hl; subst hl; simp [loadCellsFrom]
  | succ n ih =>
    intro i acc l hl
    simp only [takeA] at hl
    cases hc : cellA o (off + i) with
    | none => rw [hc] at hl; cases hl
    | some v =>
      rw [hc] at hl
      dsimp only at hl
      cases ht : takeA o (off + i + 1) n with
      | none => rw [ht] at hl; cases hl
      | some l' =>
        rw [ht] at hl
        simp only [Option.some.injEq] at hl
        subst hl
        have := ih (i + 1) (acc.push v) l' (by rw [← Nat.add_assoc]; exact ht)
        have hcell := h.cell hc
        simp only [loadCellsFrom, bind, Sem.bind, load, add_some, Sem.run, hcell]
        rw [this]
        simp

theorem run_loadVar {w : World} {b off : Nat} {o : AObj} {t : TypeId} {v : Value} (h : Holds w b o) (hv : loadA P t o off = some v) : (loadVar t ⟨b, off, none⟩).run P w = .ok v w := by
  unfold loadA at hv
  cases ha : aggOf P t with
  | none => rw [ha] at hv; cases hv
  | some p =>
    obtain ⟨c, n⟩ := p
    rw [ha] at hv
    obtain ⟨h1, h2⟩ := aggOf_spec ha w
    cases c with
    | false =>
      dsimp only at hv
      have hcell := h.cell hv
      simp only [loadVar, Sem.run_bind, h1, Result.andThen_ok]
      exact run_load hcell
    | true =>
      dsimp only at hv
      cases hl : takeA o off n with
      | none => rw [hl] at hv; cases hv
      | some l =>
      rw [hl] at hv
      simp only [Option.some.injEq] at hv
      subst hv
      have := run_loadCellsFrom (P := P) h n 0 #[] l (by simpa using hl)
      simp [loadVar, Sem.run_bind, h1, h2, loadCells, this]

theorem Fl.load {T : Tm} {o : Oper} {t : TypeId} {x : Operand} {b off : Nat} {a : AObj} {v : Value} (hop : o.op = .load t x) (hx : ev T x = some (.pointer (some ⟨b, off, none⟩))) (hv : loadA P t a off = some v) : Fl P T [(b, a)] o v := by
  intro ρ w hρ hw
  have hx' : ρ x = .pointer (some ⟨b, off, none⟩) := hρ x (by rw [hop]; simp [Op.operands]) _ hx
  have hh := hw (b, a) (List.mem_singleton.2 rfl)
  simp [execOp, hop, hx', Instr.loadAt, Instr.sureAddr, run_loadVar hh hv]

theorem RG.load {i t : Nat} {is : List Nat} {T : Tm} {H : Hp} {log : Log} (o : Oper) (ty : TypeId) (x : Operand) (b off : Nat) (a : AObj) (v : Value) (ho : ops[i]? = some o) (hw : wantT ops T o = some true) (hop : o.op = .load ty x)
    (hx : ev T x = some (.pointer (some ⟨b, off, none⟩))) (hm : (b, a) ∈ H) (hv : loadA P ty a off = some v) (hd : o.dst = some t) (next : RG dr P C ops K is (upd T t v) H (pushL dr (i, (b, a)) log)) : RG dr P C ops K (i :: is) T H log :=
  RG.read o v (b, a) ho hw (by rw [hop]; rfl) (Fl.load hop hx hv) hm hd next

/-! ### New blocks -/
theorem RG.spine {i : Nat} {is : List Nat} {T : Tm} {H : Hp} {log : Log} (o : Oper) (R : Value → Hp → Prop) (ho : ops[i]? = some o) (hw : wantT ops T o = some true) (hso : spineOp o.op = true) (hnn : newOp o.op = false) (hs : Sp P C T H o R fun ch H' => K (.panic ch) (outT ops T) H')
    (hst : ∀ v H', R v H' → ∀ e ∈ log, e.2 ∈ H → e.2 ∈ H' ∨ Bf ops e.1 i ∧ ∀ j ∈ is, Bf ops e.1 j) (next : ∀ v H', R v H' → RG dr P C ops K is (updO T o.dst v) H' log) : RG dr P C ops K (i :: is) T H log := by
  intro hl
  refine .spine o R ho hw hso hnn hs (fun v H' hr e he hb => ?_) fun v H' hr => next v H' hr fun e he => ?_
  · rcases hl e he with h | h
    · rcases hst v H' hr e he h with h | h
      · exact h
      · exact absurd h.1 hb
    · exact absurd (h i (List.mem_cons_self ..)) hb
  · rcases hl e he with h | h
    · rcases hst v H' hr e he h with h | h
      · exact .inl h
      · exact .inr h.2
    · exact .inr fun j hj => h j (List.mem_cons_of_mem _ hj)

theorem RG.new {i t : Nat} {is : List Nat} {T : Tm} {H : Hp} {log : Log} (o : Oper) (f : Nat → Value) (x : AObj) (ho : ops[i]? = some o) (hw : wantT ops T o = some true) (hn : newA P T o.op = some (f, x)) (hd : o.dst = some t)
    (next : ∀ b, RG dr P C ops K is (upd T t (f b)) ((b, x) :: H) log) : RG dr P C ops K (i :: is) T H log :=
  fun hl => .new o f x ho hw hn fun b => by
    rw [hd]
    exact next b fun e he => (hl.tail e he).imp (fun h => List.mem_cons_of_mem _ h) id

/-! ### Stores -/
/-- The world behind a write into one block. -/
structure Wrote (b : Nat) (w w' : World) : Prop where
  os : w'.os = w.os
  tape : w'.tape = w.tape
  output : w'.output = w.output
  size : w'.heap.size = w.heap.size
  other : ∀ k, k ≠ b → w'.heap[k]? = w.heap[k]?

theorem Wrote.trans {b : Nat} {w w1 w2 : World} (h : Wrote b w w1) (k : Wrote b w1 w2) : Wrote b w w2 :=
  ⟨k.os.trans h.os, k.tape.trans h.tape, k.output.trans h.output, k.size.trans h.size, fun i hi => (k.other i hi).trans (h.other i hi)⟩

theorem Holds.setCell {w : World} {b off : Nat} {t : TypeId} {cs : List Value} {room : Nat} (h : Holds w b (.row t cs room)) (_ho : off < cs.length) (v : Value) :
    Holds (w.setCell ⟨b, off, none⟩ v) b (.row t (cs.set off v) room) ∧ Wrote b w (w.setCell ⟨b, off, none⟩ v) := by
  obtain ⟨c, hc, h1, h2⟩ := h
  have hb := (Array.getElem?_eq_some_iff.1 hc).1
  refine ⟨⟨c.setIfInBounds off v, ?_, ?_, ?_⟩, ⟨rfl, rfl, rfl, by simp [World.setCell], fun k hk => ?_⟩⟩
  · simp only [World.setCell, Array.getElem?_modify, if_pos, hc, Option.map_some]; rfl
  · rw [List.length_set, Array.toList_setIfInBounds, List.take_set, h1]
  · simpa using h2
  · simp only [World.setCell, Array.getElem?_modify]; rw [if_neg (fun e => hk e.symm)]

theorem run_storeCells {b off : Nat} {t : TypeId} {room : Nat} : ∀ (l : List Value) (i : Nat) {w : World} {cs : List Value}, Holds w b (.row t cs room) → off + i + l.length ≤ cs.length → (∀ u ∈ l, u.oneCell' = true) →
    ∃ w', (storeCells ⟨b, off, none⟩ l i).run P w = .ok () w' ∧ Holds w' b (.row t (setL cs (off + i) l) room) ∧ Wrote b w w' := by
  intro l
  induction l with
  | nil => intro i w cs h _ _; exact ⟨w, rfl, h, rfl, rfl, rfl, rfl, fun _ _ => rfl⟩
  | cons v l ih =>
    intro i w cs h hl h1
    simp only [List.length_cons] at hl
    have hlt : off + i < cs.length := by omega
    obtain ⟨h2, h3⟩ := h.setCell (off := off + i) hlt v
    obtain ⟨w', h4, h5, h6⟩ := ih (i + 1) h2 (by simp; omega) (fun u hu => h1 u (List.mem_cons_of_mem _ hu))
    refine ⟨w', ?_, by simpa [setL, Nat.add_assoc] using h5, h3.trans h6⟩
    have hcell : w.cell? ⟨b, off + i, none⟩ = some cs[off + i] := h.cell (o := .row t cs room) (by simp [cellA, hlt])
    have hfz : w.frozen? ⟨b, off + i, none⟩ = false := by
      obtain ⟨c, hc, _⟩ := h
      simp [World.frozen?, hc]
    simp only [storeCells, Sem.run_bind, add_some]
    rw [run_store P w _ v .plain (h1 v (List.mem_cons_self ..)), hcell, hfz]
    simpa using h4

theorem HSat.wrote {w w' : World} {b : Nat} {o o' : AObj} {H : Hp} (h : HSat C ((b, o) :: H) w) (hw : o.wr = true) (h' : Holds w' b o') (hr : Wrote b w w') : HSat C ((b, o') :: H) w' := by
  have hap := List.pairwise_cons.1 h.apart
  have hb := h.own (b, o) (List.mem_cons_self ..) hw
  refine ⟨fun p hp => ?_, List.Pairwise.cons (fun q hq _ => hap.1 q hq (.inl hw)) hap.2, fun p hp hw' => ?_, fun p hp => ?_, ?_⟩
  · rcases List.mem_cons.1 hp with rfl | hp
    · exact h'
    · exact (h.heap p (List.mem_cons_of_mem _ hp)).same (hr.other _ fun e => hap.1 p hp (.inl hw) e.symm)
  · rcases List.mem_cons.1 hp with rfl | hp
    · exact hb
    · exact h.own p (List.mem_cons_of_mem _ hp) hw'
  · rcases List.mem_cons.1 hp with rfl | hp
    · exact h.key (b, o) (List.mem_cons_self ..)
    · exact h.key p (List.mem_cons_of_mem _ hp)
  · refine ⟨hr.os.trans h.frm.os, hr.tape.trans h.frm.tape, hr.output.trans h.frm.output, by rw [hr.size]; exact h.frm.size, fun k hk hn => ?_⟩
    by_cases e : k = b
    · subst e
      rcases hb with hb | hb
      · exact absurd hb hn
      · simp at hb; omega
    · exact (hr.other k e).trans (h.frm.block k hk hn)

def oneB : List Value → Bool
  | [] => true
  | v :: l => v.oneCell' && oneB l

theorem oneB_spec {l : List Value} (h : oneB l = true) : ∀ u ∈ l, u.oneCell' = true := by
  induction l with
  | nil => intro u hu; cases hu
  | cons v l ih =>
    simp only [oneB, Bool.and_eq_true] at h
    intro u hu
    rcases List.mem_cons.1 hu with rfl | hu
    · exact h.1
    · exact ih h.2 u hu

theorem RG.store {i : Nat} {is : List Nat} {T : Tm} {H F : Hp} {log : Log} (o : Oper) (ty : TypeId) (x y : Operand) (b off : Nat) (te : TypeId) (cs : List Value) (room : Nat) (v : Value) (g : Bool) (n : Nat)
    (ho : ops[i]? = some o) (hw : wantT ops T o = some true) (hop : o.op = .store ty x y) (hx : ev T x = some (.pointer (some ⟨b, off, none⟩))) (hy : ev T y = some v) (hsz : aggOf P ty = some (g, n)) (hn : v.cells.toList.length = n) (hone : oneB v.cells.toList = true)
    (hrem : Rem H (b, .row te cs room) F) (hlen : off + n ≤ cs.length) (hd : o.dst = none)
    (hst : ∀ e ∈ log, e.2 ∈ H → e.2 ∈ F ∨ Bf ops e.1 i ∧ ∀ j ∈ is, Bf ops e.1 j)
    (next : RG dr P C ops K is T ((b, .row te (setL cs off v.cells.toList) room) :: F) log) : RG dr P C ops K (i :: is) T H log := by
  refine RG.spine o (fun u H' => H' = (b, .row te (setL cs off v.cells.toList) room) :: F) ho hw (by rw [hop]; rfl) (by rw [hop]; rfl) (fun ρ w hρ hh => ?_) ?_ ?_
  · have hx' : ρ x = .pointer (some ⟨b, off, none⟩) := hρ x (by rw [hop]; simp [Op.operands]) _ hx
    have hy' : ρ y = v := hρ y (by rw [hop]; simp [Op.operands]) _ hy
    have hh' := hh.perm hrem.perm
    obtain ⟨w', h1, h2, h3⟩ := run_storeCells (P := P) (off := off) v.cells.toList 0 (hh'.heap _ (List.mem_cons_self ..)) (by rw [hn]; omega) (oneB_spec hone)
    have h4 := (aggOf_spec hsz w).2
    have h5 : v.cells.size = n := by simpa using hn
    simp only [execOp, hop, hx', hy', Instr.storeAt, Instr.sureAddr, storeVar, Sem.run_bind, Sem.run_pure, Result.andThen_ok, h4, h5, ne_eq, not_true_eq_false, if_false, h1, Came]
    exact ⟨_, rfl, hh'.wrote rfl (by simpa using h2) h3⟩
  · rintro u H' rfl e he hm; exact (hst e he hm).imp (fun h => List.mem_cons_of_mem _ h) id
  · rintro u H' rfl; rw [hd]; exact next

/-! ### Calls -/
def OC (P : Program) (f : FuncId) (args : Array Value) (Hc : Hp) (R : Value → Hp → Prop) : Prop :=
  ∀ w, HSat (Ctx.of w Hc) Hc w → Calls P f args w fun e w' => ∃ v H', e = .returned v ∧ R v H' ∧ HSat (Ctx.of w Hc) H' w'

def Callable (P : Program) (f : FuncId) : Prop := ∀ args w, (callFunc f args).run P w = .ok (.enter f args) w

theorem run_call {ρ : Operand → Value} {o : Oper} {x : Operand} {xs : Array Operand} {tys : Array TypeId} {f : FuncId} {fi ca as : Array Value} (hc : Callable P f) (hop : o.op = .call ⟨.value x, xs, tys⟩) (hx : ρ x = .func (.func f) fi ca) (hxs : xs.map ρ = as) (w : World) :
    (execOp ρ o).run P w = .ok (.enter f (fi ++ as ++ ca)) w := by
  simp only [execOp, hop, resolve, hxs, hx, Deferred.ofValue, Sem.run_bind, Sem.run_pure, Result.andThen_ok, invoke]
  exact hc _ _

theorem RG.call {i t : Nat} {is : List Nat} {T : Tm} {H Hc F : Hp} {log : Log} {R : Value → Hp → Prop} (o : Oper) (x : Operand) (xs : Array Operand) (tys : Array TypeId) (f : FuncId) (fi ca as : Array Value)
    (ho : ops[i]? = some o) (hw : wantT ops T o = some true) (hop : o.op = .call ⟨.value x, xs, tys⟩) (hx : ev T x = some (.func (.func f) fi ca)) (hk : knownB T xs.toList = true) (hxs : xs.map (rhoT T) = as) (hcf : Callable P f)
    (hc : OC P f (fi ++ as ++ ca) Hc R) (hrem : Rems H Hc F) (hd : o.dst = some t) (hst : ∀ e ∈ log, e.2 ∈ H → e.2 ∈ F ∨ Bf ops e.1 i ∧ ∀ j ∈ is, Bf ops e.1 j)
    (next : ∀ v H', R v H' → RG dr P C ops K is (upd T t v) (H' ++ F) log) : RG dr P C ops K (i :: is) T H log := by
  refine RG.spine o (fun v H1 => ∃ H', R v H' ∧ H1 = H' ++ F) ho hw (by rw [hop]; rfl) (by rw [hop]; rfl) (fun ρ w hρ hh => ?_) ?_ ?_
  · have hx' : ρ x = .func (.func f) fi ca := hρ x (by rw [hop]; simp [Op.operands, Call.operands]) _ hx
    have hxs' : xs.map ρ = as := by
      rw [← hxs]
      refine Array.map_congr_left fun y hy => ?_
      obtain ⟨u, hu⟩ := knownB_spec hk y (by simpa using hy)
      rw [hρ y (by rw [hop]; simp [Op.operands, Call.operands, hy]) u hu, rhoT, hu]; rfl
    rw [run_call hcf hop hx' hxs' w]
    have hh' := hh.perm hrem.perm
    refine Calls.mono (hc w hh'.enter) fun e w' h => ?_
    obtain ⟨v, H', rfl, hR, hs⟩ := h
    exact .inl ⟨v, _, rfl, ⟨H', hR, rfl⟩, hh'.leave hs⟩
  · rintro u H1 ⟨H', _, rfl⟩ e he hm; exact (hst e he hm).imp (fun h => List.mem_append_right _ h) id
  · rintro u H1 ⟨H', hR, rfl⟩; rw [hd]; exact next u H' hR

/-- A call that neither needs nor turns anything that is known. -/
def DC (P : Program) (f : FuncId) (args : Array Value) (v : Value) : Prop := OC P f args [] fun u H' => u = v ∧ H' = []

theorem RG.dcall {i t : Nat} {is : List Nat} {T : Tm} {H : Hp} {log : Log} (o : Oper) (x : Operand) (xs : Array Operand) (tys : Array TypeId) (f : FuncId) (fi ca as : Array Value) (v : Value)
    (ho : ops[i]? = some o) (hw : wantT ops T o = some true) (hop : o.op = .call ⟨.value x, xs, tys⟩) (hx : ev T x = some (.func (.func f) fi ca)) (hk : knownB T xs.toList = true) (hxs : xs.map (rhoT T) = as) (hcf : Callable P f)
    (hc : DC P f (fi ++ as ++ ca) v) (hd : o.dst = some t) (next : RG dr P C ops K is (upd T t v) H log) : RG dr P C ops K (i :: is) T H log :=
  RG.call o x xs tys f fi ca as ho hw hop hx hk hxs hcf hc .nil hd (fun _ _ h => .inl h) fun u H' ⟨hu, hH⟩ => by subst hu; subst hH; exact next

end Bw
