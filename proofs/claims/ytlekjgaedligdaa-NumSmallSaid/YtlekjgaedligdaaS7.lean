/-
  Plain tools of this repo: the rules of a region's walk, one for each kind of operation.
-/
import Derived.Test.YtlekjgaedligdaaS6
namespace Bw
open Go Go.RowKit

variable {P : Program} {C : Ctx} {ops : Array Oper} {K : Post} {dr : Bool} {i t : Nat} {is : List Nat} {T : Tm} {H : Hp} {log : Log} {ty : TypeId} {ps : String} {af : Array Edge} {gd : Option (Nat × Bool)}

/-- The operation that comes next, written out. -/
def RGo (o : Oper) (dr : Bool) (P : Program) (C : Ctx) (ops : Array Oper) (K : Post) (i : Nat) (is : List Nat) (T : Tm) (H : Hp) (log : Log) : Prop :=
  ops[i]? = some o → RG dr P C ops K (i :: is) T H log

/-- Of what was read: it stands still, or whatever comes stands behind the reading by the edges. -/
def goneB (ops : Array Oper) (k : Nat) (is : List Nat) : Bool := is.all fun j => ((Region.before ops).getD j 0).testBit k
inductive StOk (ops : Array Oper) (is : List Nat) (F : Hp) : Log → Prop
  | nil : StOk ops is F []
  | keep {e l} (h : e.2 ∈ F) (r : StOk ops is F l) : StOk ops is F (e :: l)
  | gone {e l} (h : goneB ops e.1 is = true) (r : StOk ops is F l) : StOk ops is F (e :: l)

theorem StOk.spec {F : Hp} (h : StOk ops (i :: is) F log) : ∀ e ∈ log, e.2 ∈ F ∨ Bf ops e.1 i ∧ ∀ j ∈ is, Bf ops e.1 j := by
  induction h with
  | nil => intro e he; cases he
  | keep h _ ih => intro e he; rcases List.mem_cons.1 he with rfl | he; · exact .inl h
                   · exact ih e he
  | gone h _ ih =>
    intro e he
    rcases List.mem_cons.1 he with rfl | he
    · unfold goneB at h
      rw [List.all_eq_true] at h
      exact .inr ⟨before_spec ops _ _ (h i (List.mem_cons_self ..)), fun j hj => before_spec ops _ _ (h j (List.mem_cons_of_mem _ hj))⟩
    · exact ih e he

def nthO : List Oper → Nat → Option Oper
  | [], _ => none
  | o :: _, 0 => some o
  | _ :: l, n + 1 => nthO l n

theorem nthO_eq : ∀ (l : List Oper) (n : Nat), nthO l n = l[n]?
  | [], _ => rfl
  | _ :: _, 0 => rfl
  | _ :: l, n + 1 => by simp [nthO, nthO_eq l n]

theorem G.at {o : Oper} (ho : nthO ops.toList i = some o) (h : RGo o dr P C ops K i is T H log) : RG dr P C ops K (i :: is) T H log :=
  h (by rw [nthO_eq] at ho; simpa using ho)

theorem G.unw {op : Op} (hw : wantT ops T ⟨some t, op, ty, ps, af, gd⟩ = some false) (next : RG dr P C ops K is (upd T t undef) H log) : RGo ⟨some t, op, ty, ps, af, gd⟩ dr P C ops K i is T H log :=
  fun ho => RG.unw _ ho hw rfl next
theorem G.unw0 {op : Op} (hw : wantT ops T ⟨none, op, ty, ps, af, gd⟩ = some false) (next : RG dr P C ops K is T H log) : RGo ⟨none, op, ty, ps, af, gd⟩ dr P C ops K i is T H log :=
  fun ho => RG.unw0 _ ho hw rfl next
theorem G.split {o : Oper} {j u : Nat} {want b : Bool} (hg : o.guard = some (j, want)) (hj : (ops[j]?).bind (·.dst) = some u) (hT : T u = some (.bool b))
    (h1 : b = true → RG dr P C ops K (i :: is) (upd T u (.bool true)) H log) (h0 : b = false → RG dr P C ops K (i :: is) (upd T u (.bool false)) H log) : RGo o dr P C ops K i is T H log :=
  fun ho => RG.split o ho hg hj hT h1 h0

/-- A test whose outcome can be shown. -/
theorem G.known {o : Oper} {j u : Nat} {want b : Bool} (c : Bool) (hg : o.guard = some (j, want)) (hj : (ops[j]?).bind (·.dst) = some u) (hT : T u = some (.bool b)) (hb : b = c)
    (h : RG dr P C ops K (i :: is) (upd T u (.bool c)) H log) : RGo o dr P C ops K i is T H log := by
  have _ := hg; have _ := hj
  subst hb; rw [upd_self hT] at h; exact fun _ => h

theorem G.fl {op : Op} {v : Value} (hnn : newOp op = false) (hw : wantT ops T ⟨some t, op, ty, ps, af, gd⟩ = some true) (hf : ∀ ρ w, (∀ x ∈ op.operands, ∀ u, ev T x = some u → ρ x = u) → (execOp ρ ⟨some t, op, ty, ps, af, gd⟩).run P w = .ok (.value v) w)
    (next : RG dr P C ops K is (upd T t v) H log) : RGo ⟨some t, op, ty, ps, af, gd⟩ dr P C ops K i is T H log :=
  fun ho hl => .pure _ v ho hw hnn (fun ρ w hρ _ => hf ρ w hρ) (next hl.tail)

theorem G.move {x : Operand} {v : Value} (hw : wantT ops T ⟨some t, .move x, ty, ps, af, gd⟩ = some true) (hx : ev T x = some v) (next : RG dr P C ops K is (upd T t v) H log) : RGo ⟨some t, .move x, ty, ps, af, gd⟩ dr P C ops K i is T H log :=
  G.fl rfl hw (fun ρ w hρ => by have := hρ x (by simp [Op.operands]) v hx; simp [execOp, this]) next
theorem G.assign {x : Operand} {v : Value} (hw : wantT ops T ⟨some t, .assign x, ty, ps, af, gd⟩ = some true) (hx : ev T x = some v) (next : RG dr P C ops K is (upd T t v) H log) : RGo ⟨some t, .assign x, ty, ps, af, gd⟩ dr P C ops K i is T H log :=
  G.fl rfl hw (fun ρ w hρ => by have := hρ x (by simp [Op.operands]) v hx; simp [execOp, this]) next
theorem G.pick1 {c a b : Operand} {v : Value} (hw : wantT ops T ⟨some t, .pick c a b, ty, ps, af, gd⟩ = some true) (hc : ev T c = some (.bool true)) (hx : ev T a = some v) (next : RG dr P C ops K is (upd T t v) H log) :
    RGo ⟨some t, .pick c a b, ty, ps, af, gd⟩ dr P C ops K i is T H log :=
  G.fl rfl hw (fun ρ w hρ => by have h1 := hρ c (by simp [Op.operands]) _ hc; have h2 := hρ a (by simp [Op.operands]) v hx; simp [execOp, h1, h2, asBool]) next
theorem G.pick0 {c a b : Operand} {v : Value} (hw : wantT ops T ⟨some t, .pick c a b, ty, ps, af, gd⟩ = some true) (hc : ev T c = some (.bool false)) (hx : ev T b = some v) (next : RG dr P C ops K is (upd T t v) H log) :
    RGo ⟨some t, .pick c a b, ty, ps, af, gd⟩ dr P C ops K i is T H log :=
  G.fl rfl hw (fun ρ w hρ => by have h1 := hρ c (by simp [Op.operands]) _ hc; have h2 := hρ b (by simp [Op.operands]) v hx; simp [execOp, h1, h2, asBool]) next
theorem G.nilck {x : Operand} {a : Addr} (hw : wantT ops T ⟨some t, .nilCheck x, ty, ps, af, gd⟩ = some true) (hx : ev T x = some (.pointer (some a))) (next : RG dr P C ops K is (upd T t (.pointer (some a))) H log) :
    RGo ⟨some t, .nilCheck x, ty, ps, af, gd⟩ dr P C ops K i is T H log :=
  G.fl rfl hw (fun ρ w hρ => by have := hρ x (by simp [Op.operands]) _ hx; simp [execOp, this]) next

/-- Whatever reckons: by running it. -/
theorem G.pure {op : Op} {v : Value} (hw : wantT ops T ⟨some t, op, ty, ps, af, gd⟩ = some true) (hs : notSelect op = true) (hnn : newOp op = false) (hk : knownB T op.operands.toList = true)
    (hv : pureRun P (execOp (rhoT T) ⟨some t, op, ty, ps, af, gd⟩) = some (.value v)) (next : RG dr P C ops K is (upd T t v) H log) : RGo ⟨some t, op, ty, ps, af, gd⟩ dr P C ops K i is T H log :=
  fun ho => RG.pure _ v ho hw hs hk hnn hv rfl next

def fieldAt (P : Program) (s : TypeId) (f : Nat) : Option Nat :=
  match P.underlying s with
  | some (.struct fs) => match fs[f]? with
    | some g => match P.info? g.type with
      | some inf => if inf.size = 0 then none else some g.offset
      | none => none
    | none => none
  | _ => none

theorem G.faddr {s : TypeId} {x : Operand} {f b off k : Nat} (hw : wantT ops T ⟨some t, .fieldAddr s x f, ty, ps, af, gd⟩ = some true) (hx : ev T x = some (.pointer (some ⟨b, off, none⟩))) (hf : fieldAt P s f = some k)
    (next : RG dr P C ops K is (upd T t (.pointer (some ⟨b, off + k, none⟩))) H log) : RGo ⟨some t, .fieldAddr s x f, ty, ps, af, gd⟩ dr P C ops K i is T H log := by
  refine G.fl rfl hw (fun ρ w hρ => ?_) next
  have h1 := hρ x (by simp [Op.operands]) _ hx
  unfold fieldAt at hf
  cases hu : P.underlying s with
  | none => rw [hu] at hf; cases hf
  | some d =>
    rw [hu] at hf
    cases d <;> simp only [reduceCtorEq] at hf
    rename_i fs
    cases hg : fs[f]? with
    | none => rw [hg] at hf; cases hf
    | some g =>
      rw [hg] at hf
      simp only at hf
      cases hi : P.info? g.type with
      | none => rw [hi] at hf; cases hf
      | some inf =>
        rw [hi] at hf
        simp only at hf
        split at hf
        · cases hf
        · rename_i hn
          simp only [Option.some.injEq] at hf
          subst hf
          simp [execOp, Instr.fieldAt, underlying, program, Sem.run, hu, hg, h1, Instr.sureAddr, fieldPlace, Go.sizeOf, typeInfo, hi, hn, add_some]

/-- The first field: the address stays. -/
theorem G.faddr0 {s : TypeId} {x : Operand} {f b off : Nat} (hw : wantT ops T ⟨some t, .fieldAddr s x f, ty, ps, af, gd⟩ = some true) (hx : ev T x = some (.pointer (some ⟨b, off, none⟩))) (hf : fieldAt P s f = some 0)
    (next : RG dr P C ops K is (upd T t (.pointer (some ⟨b, off, none⟩))) H log) : RGo ⟨some t, .fieldAddr s x f, ty, ps, af, gd⟩ dr P C ops K i is T H log :=
  G.faddr (k := 0) hw hx hf next
/-- A field of a block's head. -/
theorem G.faddrh {s : TypeId} {x : Operand} {f b k : Nat} (hw : wantT ops T ⟨some t, .fieldAddr s x f, ty, ps, af, gd⟩ = some true) (hx : ev T x = some (.pointer (some ⟨b, 0, none⟩))) (hf : fieldAt P s f = some k)
    (next : RG dr P C ops K is (upd T t (.pointer (some ⟨b, k, none⟩))) H log) : RGo ⟨some t, .fieldAddr s x f, ty, ps, af, gd⟩ dr P C ops K i is T H log :=
  G.faddr (k := k) hw hx hf (by rw [Nat.zero_add]; exact next)

def elemAt (P : Program) (s : TypeId) : Option Nat :=
  match P.underlying s with
  | some (.slice e) => (P.info? e).map (·.size)
  | _ => none

theorem G.iaddr {s : TypeId} {x y : Operand} {b off len cap size j : Nat} {k : IntKind} {n : Int} (hw : wantT ops T ⟨some t, .indexAddr s x y, ty, ps, af, gd⟩ = some true) (hx : ev T x = some (.slice (some ⟨b, off, none⟩) len cap)) (hy : ev T y = some (.int k n))
    (he : elemAt P s = some size) (hn : n = (j : Int)) (hj : j < len)
    (next : RG dr P C ops K is (upd T t (.pointer (some ⟨b, off + j * size, none⟩))) H log) : RGo ⟨some t, .indexAddr s x y, ty, ps, af, gd⟩ dr P C ops K i is T H log := by
  subst hn
  refine G.fl rfl hw (fun ρ w hρ => ?_) next
  have h1 := hρ x (by simp [Op.operands]) _ hx
  have h2 := hρ y (by simp [Op.operands]) _ hy
  unfold elemAt at he
  cases hu : P.underlying s with
  | none => rw [hu] at he; cases he
  | some d =>
    rw [hu] at he
    cases d <;> simp only [reduceCtorEq] at he
    rename_i e
    obtain ⟨inf, hi, rfl⟩ := Option.map_eq_some_iff.1 he
    simp [execOp, Instr.indexAt, h1, h2, asIntOf, underlying, program, Sem.run, hu, hj, Go.sizeOf, typeInfo, hi, add_some]

/-- The i-th of an array in memory. -/
def elemArr (P : Program) (s : TypeId) : Option (Nat × Nat) :=
  match P.underlying s with
  | some (.array n e) => (P.info? e).map fun i => (n, i.size)
  | _ => none

theorem G.iarr {s : TypeId} {x y : Operand} {b off len size j : Nat} {k : IntKind} {n : Int} (hw : wantT ops T ⟨some t, .indexAddr s x y, ty, ps, af, gd⟩ = some true) (hx : ev T x = some (.pointer (some ⟨b, off, none⟩))) (hy : ev T y = some (.int k n))
    (he : elemArr P s = some (len, size)) (hn : n = (j : Int)) (hj : j < len)
    (next : RG dr P C ops K is (upd T t (.pointer (some ⟨b, off + j * size, none⟩))) H log) : RGo ⟨some t, .indexAddr s x y, ty, ps, af, gd⟩ dr P C ops K i is T H log := by
  subst hn
  refine G.fl rfl hw (fun ρ w hρ => ?_) next
  have h1 := hρ x (by simp [Op.operands]) _ hx
  have h2 := hρ y (by simp [Op.operands]) _ hy
  unfold elemArr at he
  cases hu : P.underlying s with
  | none => rw [hu] at he; cases he
  | some d =>
    rw [hu] at he
    cases d <;> simp only [reduceCtorEq] at he
    rename_i m e
    obtain ⟨inf, hi, hm⟩ := Option.map_eq_some_iff.1 he
    simp only [Prod.mk.injEq] at hm
    obtain ⟨rfl, rfl⟩ := hm
    simp [execOp, Instr.indexAt, h1, h2, asIntOf, underlying, program, Sem.run, hu, hj, Instr.sureAddr, Go.sizeOf, typeInfo, hi, add_some]

theorem G.extract {x : Operand} {vs : Array Value} {k : Nat} {v : Value} (hw : wantT ops T ⟨some t, .extract x k, ty, ps, af, gd⟩ = some true) (hx : ev T x = some (.tuple vs)) (hv : vs[k]? = some v)
    (next : RG dr P C ops K is (upd T t v) H log) : RGo ⟨some t, .extract x k, ty, ps, af, gd⟩ dr P C ops K i is T H log :=
  G.fl rfl hw (fun ρ w hρ => by have h1 := hρ x (by simp [Op.operands]) _ hx; simp [execOp, h1, Instr.extract, hv]) next

theorem G.len {x : Operand} {tys : Array TypeId} {a : Option Addr} {n c : Nat} {e : TypeId} (hw : wantT ops T ⟨some t, .call ⟨.builtin .len, #[x], tys⟩, ty, ps, af, gd⟩ = some true) (hx : ev T x = some (.slice a n c)) (ht : (tys[0]?).bind P.underlying = some (.slice e))
    (next : RG dr P C ops K is (upd T t (.int .i64 n)) H log) : RGo ⟨some t, .call ⟨.builtin .len, #[x], tys⟩, ty, ps, af, gd⟩ dr P C ops K i is T H log := by
  refine G.fl rfl hw (fun ρ w hρ => ?_) next
  have h1 := hρ x (by simp [Op.operands, Call.operands]) _ hx
  obtain ⟨u, hu, hd⟩ := Option.bind_eq_some_iff.1 ht
  simp [execOp, resolve, invoke, builtin, Builtin.len_, h1, hu, underlying, program, Sem.run, hd, goInt]

def evL (T : Tm) : List Operand → Option (List Value)
  | [] => some []
  | x :: l => match ev T x with
    | some v => match evL T l with
      | some vs => some (v :: vs)
      | none => none
    | none => none

theorem evL_spec {T : Tm} {ρ : Operand → Value} : ∀ {l : List Operand} {vs : List Value}, evL T l = some vs → (∀ x ∈ l, ∀ u, ev T x = some u → ρ x = u) → l.map ρ = vs
  | [], vs, h, _ => by simp only [evL, Option.some.injEq] at h; subst h; rfl
  | x :: l, vs, h, hρ => by
    simp only [evL] at h
    cases hx : ev T x with
    | none => rw [hx] at h; cases h
    | some v =>
      rw [hx] at h
      simp only at h
      cases hl : evL T l with
      | none => rw [hl] at h; cases h
      | some vs' =>
        rw [hl] at h
        simp only [Option.some.injEq] at h
        subst h
        rw [List.map_cons, hρ x (List.mem_cons_self ..) v hx, evL_spec hl fun y hy u hu => hρ y (List.mem_cons_of_mem _ hy) u hu]

theorem G.call {Hc F : Hp} {R : Value → Hp → Prop} {xs : List Operand} {tys : Array TypeId} {f : FuncId} {l : List Value} (hw : wantT ops T ⟨some t, .call ⟨.value (.func f), xs.toArray, tys⟩, ty, ps, af, gd⟩ = some true)
    (hxs : evL T xs = some l) (hcf : Callable P f) (hc : OC P f l.toArray Hc R) (hrem : Rems H Hc F) (hst : StOk ops (i :: is) F log)
    (next : ∀ v H', R v H' → RG dr P C ops K is (upd T t v) (H' ++ F) log) : RGo ⟨some t, .call ⟨.value (.func f), xs.toArray, tys⟩, ty, ps, af, gd⟩ dr P C ops K i is T H log := by
  intro ho
  refine RG.spine _ (fun v H1 => ∃ H', R v H' ∧ H1 = H' ++ F) ho hw rfl rfl (fun ρ w hρ hh => ?_) ?_ ?_
  · have hxs' : xs.toArray.map ρ = l.toArray := by
      rw [List.map_toArray, evL_spec hxs fun x hx u hu => hρ x (by simp [Op.operands, Call.operands, hx]) u hu]
    have := run_call (ρ := ρ) (o := ⟨some t, .call ⟨.value (.func f), xs.toArray, tys⟩, ty, ps, af, gd⟩) (fi := #[]) (ca := #[]) hcf rfl (hρ (.func f) (by simp [Op.operands, Call.operands]) _ rfl) hxs' w
    rw [this]
    have hh' := hh.perm hrem.perm
    simp only [Array.empty_append, Array.append_empty, Came]
    refine Calls.mono (hc w hh'.enter) fun e w' h => ?_
    obtain ⟨v, H', rfl, hR, hs⟩ := h
    exact .inl ⟨v, _, rfl, ⟨H', hR, rfl⟩, hh'.leave hs⟩
  · rintro u H1 ⟨H', _, rfl⟩ e he _; exact (hst.spec e he).imp (fun h => List.mem_append_right _ h) id
  · rintro u H1 ⟨H', hR, rfl⟩; exact next u H' hR

theorem G.dcall {xs : List Operand} {tys : Array TypeId} {f : FuncId} {l : List Value} {v : Value} (hw : wantT ops T ⟨some t, .call ⟨.value (.func f), xs.toArray, tys⟩, ty, ps, af, gd⟩ = some true)
    (hxs : evL T xs = some l) (hcf : Callable P f) (hc : DC P f l.toArray v) (next : RG dr P C ops K is (upd T t v) H log) : RGo ⟨some t, .call ⟨.value (.func f), xs.toArray, tys⟩, ty, ps, af, gd⟩ dr P C ops K i is T H log := by
  intro ho
  have hxs' : (xs.toArray.map (rhoT T)) = l.toArray := by rw [List.map_toArray, evL_spec hxs fun x _ u hu => by rw [rhoT, hu]; rfl]
  have hk : knownB T xs.toArray.toList = true := by
    clear ho hc hw hxs'
    induction xs generalizing l with
    | nil => rfl
    | cons x xs ih =>
      simp only [evL] at hxs
      cases hx : ev T x with
      | none => rw [hx] at hxs; cases hxs
      | some v =>
        rw [hx] at hxs
        simp only at hxs
        cases hl : evL T xs with
        | none => rw [hl] at hxs; cases hxs
        | some vs => simp only [knownB, hx, Option.isSome_some, Bool.true_and]; exact ih hl
  exact RG.dcall _ _ _ _ f #[] #[] l.toArray v ho hw rfl rfl hk hxs' hcf (by simpa using hc) rfl next

theorem G.load0 {x : Operand} {b off : Nat} {a : AObj} {v : Value} {tl : TypeId} (hw : wantT ops T ⟨some t, .load tl x, ty, ps, af, gd⟩ = some true) (hx : ev T x = some (.pointer (some ⟨b, off, none⟩))) (hm : (b, a) ∈ H) (hv : loadA P tl a off = some v)
    (next : RG false P C ops K is (upd T t v) H log) : RGo ⟨some t, .load tl x, ty, ps, af, gd⟩ false P C ops K i is T H log :=
  fun ho => RG.load _ tl x b off a v ho hw rfl hx hm hv rfl next
theorem G.load1 {x : Operand} {b off : Nat} {a : AObj} {v : Value} {tl : TypeId} (hw : wantT ops T ⟨some t, .load tl x, ty, ps, af, gd⟩ = some true) (hx : ev T x = some (.pointer (some ⟨b, off, none⟩))) (hm : (b, a) ∈ H) (hv : loadA P tl a off = some v)
    (next : RG true P C ops K is (upd T t v) H ((i, (b, a)) :: log)) : RGo ⟨some t, .load tl x, ty, ps, af, gd⟩ true P C ops K i is T H log :=
  fun ho => RG.load _ tl x b off a v ho hw rfl hx hm hv rfl next

theorem G.build {bt : TypeId} {xs : List (Nat × Operand)} {l : List (Nat × Value)} {cs : List Value} (hw : wantT ops T ⟨some t, .build bt xs.toArray, ty, ps, af, gd⟩ = some true) (hx : evP T xs = some l) (hb : buildA P bt l = some cs)
    (next : RG dr P C ops K is (upd T t (.agg cs.toArray)) H log) : RGo ⟨some t, .build bt xs.toArray, ty, ps, af, gd⟩ dr P C ops K i is T H log := by
  refine G.fl rfl hw (fun ρ w hρ => ?_) next
  have h1 := evP_spec (ρ := ρ) hx fun x hx u hu => hρ x (by simpa [Op.operands] using hx) u hu
  have h2 : (xs.toArray.map fun (i, x) => (i, ρ x)) = l.toArray := by rw [List.map_toArray, h1]
  have h3 := run_build (P := P) (t := bt) (parts := l.toArray) (by simpa using hb) w
  simp only [execOp, Sem.run_bind, h2, h3, Result.andThen_ok, Sem.run_pure]

theorem G.new {op : Op} {f : Nat → Value} {x : AObj} (hw : wantT ops T ⟨some t, op, ty, ps, af, gd⟩ = some true) (hn : newA P T op = some (f, x)) (next : ∀ b, RG dr P C ops K is (upd T t (f b)) ((b, x) :: H) log) :
    RGo ⟨some t, op, ty, ps, af, gd⟩ dr P C ops K i is T H log := fun ho => RG.new _ f x ho hw hn rfl next

theorem G.box {x : Operand} {v : Value} {e : TypeId} (hw : wantT ops T ⟨some t, .box e x, ty, ps, af, gd⟩ = some true) (hx : ev T x = some v)
    (next : ∀ b, RG dr P C ops K is (upd T t (.pointer (some ⟨b, 0, none⟩))) ((b, .row e (cellsL v) 0) :: H) log) : RGo ⟨some t, .box e x, ty, ps, af, gd⟩ dr P C ops K i is T H log :=
  G.new (f := ptrTo) hw (by simp only [newA, hx]) next

/-- The box of a struct: its cells laid out. -/
theorem G.boxa {x : Operand} {l : List Value} {e : TypeId} (hw : wantT ops T ⟨some t, .box e x, ty, ps, af, gd⟩ = some true) (hx : ev T x = some (.agg l.toArray))
    (next : ∀ b, RG dr P C ops K is (upd T t (.pointer (some ⟨b, 0, none⟩))) ((b, .row e l 0) :: H) log) : RGo ⟨some t, .box e x, ty, ps, af, gd⟩ dr P C ops K i is T H log :=
  G.box hw hx next

theorem G.alloc {l l' : List Value} {e : TypeId} (hw : wantT ops T ⟨some t, .alloc e, ty, ps, af, gd⟩ = some true) (hz : zeroOf P e = some l) (hl : normL l = some l')
    (next : ∀ b, RG dr P C ops K is (upd T t (.pointer (some ⟨b, 0, none⟩))) ((b, .row e l' 0) :: H) log) : RGo ⟨some t, .alloc e, ty, ps, af, gd⟩ dr P C ops K i is T H log := by
  have e := normL_eq hl
  subst e
  exact G.new (f := ptrTo) hw (by simp only [newA, hz]) next

theorem G.store' {F : Hp} {x y : Operand} {b off : Nat} {te tl : TypeId} {cs cs' : List Value} {room : Nat} {v : Value} {g : Bool} {n : Nat} (hw : wantT ops T ⟨none, .store tl x y, ty, ps, af, gd⟩ = some true)
    (hx : ev T x = some (.pointer (some ⟨b, off, none⟩))) (hy : ev T y = some v) (hsz : aggOf P tl = some (g, n)) (hn : (cellsL v).length = n) (hone : oneB (cellsL v) = true) (hrem : Rem H (b, .row te cs room) F) (hlen : off + n ≤ cs.length)
    (hst : StOk ops (i :: is) F log) (hset : setL cs off (cellsL v) = cs') (next : RG dr P C ops K is T ((b, .row te cs' room) :: F) log) : RGo ⟨none, .store tl x y, ty, ps, af, gd⟩ dr P C ops K i is T H log := by
  subst hset
  rw [← cellsL_eq] at next hn hone
  exact fun ho => RG.store _ tl x y b off te cs room v g n ho hw rfl hx hy hsz hn hone hrem hlen rfl (fun e he _ => hst.spec e he) next

/-- Into a block that is known cell by cell. -/
theorem G.store {F : Hp} {x y : Operand} {b off : Nat} {te tl : TypeId} {cs cs' : List Value} {room : Nat} {v : Value} {g : Bool} {n : Nat} (hw : wantT ops T ⟨none, .store tl x y, ty, ps, af, gd⟩ = some true)
    (hx : ev T x = some (.pointer (some ⟨b, off, none⟩))) (hy : ev T y = some v) (hsz : aggOf P tl = some (g, n)) (hn : (cellsL v).length = n) (hone : oneB (cellsL v) = true) (hrem : Rem H (b, .row te cs room) F) (hlen : off + n ≤ cs.length)
    (hst : StOk ops (i :: is) F log) (hset : normL (setL cs off (cellsL v)) = some cs') (next : RG dr P C ops K is T ((b, .row te cs' room) :: F) log) : RGo ⟨none, .store tl x y, ty, ps, af, gd⟩ dr P C ops K i is T H log :=
  G.store' hw hx hy hsz hn hone hrem hlen hst (normL_eq hset).symm next

/-! ### Structs compared -/
def eqS (P : Program) (t : TypeId) (x y : Value) : Option Bool :=
  match P.underlying t, x, y with
  | some .bool, .bool a, .bool b => some (a == b)
  | some (.int _), .int k a, .int k' b => if k = k' then some (a == b) else none
  | _, _, _ => none

def eqFs (P : Program) (xs ys : List Value) : List Field → Option Bool
  | [] => some true
  | f :: fs => if f.name = "_" then none else match xs[f.offset]?, ys[f.offset]? with
    | some a, some b => match eqS P f.type a b, eqFs P xs ys fs with
      | some r, some s => some (r && s)
      | _, _ => none
    | _, _ => none

theorem eqS_run {d : Nat} {ft : TypeId} {a b : Value} {r : Bool} (h : eqS P ft a b = some r) (w : World) : (Op.equalIn (d + 1) ft a b).run P w = .ok r w ∧ (isAgg ft).run P w = .ok false w := by
  unfold eqS at h
  split at h
  · rename_i hu
    simp only [Option.some.injEq] at h
    subst h
    exact ⟨run_equalIn_bool' w d ft _ _ hu, by simp [isAgg, underlying, program, Sem.run, hu]⟩
  · rename_i hu
    split at h
    · rename_i hk
      simp only [Option.some.injEq] at h
      subst h; subst hk
      exact ⟨run_equalIn_int w d ft _ _ _ _ hu, by simp [isAgg, underlying, program, Sem.run, hu]⟩
    · cases h
  · cases h

theorem eqFs_run {d : Nat} {xs ys : Array Value} : ∀ {fs : List Field} {r : Bool}, eqFs P xs.toList ys.toList fs = some r → ∀ w, (Op.eqFields (d + 1) xs ys fs).run P w = .ok r w
  | [], r, h, w => by simp only [eqFs, Option.some.injEq] at h; subst h; rfl
  | f :: fs, r, h, w => by
    simp only [eqFs] at h
    split at h
    · cases h
    · rename_i hn
      cases hx : xs.toList[f.offset]? with
      | none => rw [hx] at h; cases h
      | some a =>
        cases hy : ys.toList[f.offset]? with
        | none => rw [hx, hy] at h; cases h
        | some b =>
          rw [hx, hy] at h
          simp only at h
          cases he : eqS P f.type a b with
          | none => rw [he] at h; cases h
          | some s =>
            cases hr : eqFs P xs.toList ys.toList fs with
            | none => rw [he, hr] at h; cases h
            | some q =>
              rw [he, hr] at h
              simp only [Option.some.injEq] at h
              subst h
              obtain ⟨h1, h2⟩ := eqS_run (d := d) he w
              have hx' : xs[f.offset]? = some a := by simpa using hx
              have hy' : ys[f.offset]? = some b := by simpa using hy
              have p1 : (part f.type xs f.offset).run P w = .ok a w := by simp [part, h2, hx']
              have p2 : (part f.type ys f.offset).run P w = .ok b w := by simp [part, h2, hy']
              simp only [Op.eqFields, ne_eq, hn, not_false_eq_true, if_true, Sem.run_bind, p1, p2, h1, Result.andThen_ok]
              cases s
              · simp
              · simp [eqFs_run hr w]

def eqA (P : Program) (t : TypeId) (xs ys : Array Value) : Option Bool :=
  match P.underlying t with
  | some (.struct fs) => eqFs P xs.toList ys.toList fs.toList
  | _ => none

theorem eqA_run {bt : TypeId} {xs ys : Array Value} {b : Bool} (h : eqA P bt xs ys = some b) (h1 : P.stoodInHeld bt = false) (w : World) : (Op.equalIn 10000 bt (.agg xs) (.agg ys)).run P w = .ok b w := by
  unfold eqA at h
  cases hu : P.underlying bt with
  | none => rw [hu] at h; cases h
  | some u =>
    rw [hu] at h
    cases u <;> simp only [reduceCtorEq] at h
    rename_i fs
    have hf : P.fieldsOf bt = fs := by simp [Program.fieldsOf, hu]
    rw [run_equalIn_struct w 9999 bt xs ys (by rw [hf]; exact hu) h1, hf]
    exact eqFs_run (d := 9998) h w

theorem G.eqs {x y : Operand} {bt bt' : TypeId} {xs ys : Array Value} {b : Bool} (hw : wantT ops T ⟨some t, .binOp .eql bt x y bt', ty, ps, af, gd⟩ = some true) (hx : ev T x = some (.agg xs)) (hy : ev T y = some (.agg ys))
    (he : eqA P bt xs ys = some b) (h1 : P.stoodInHeld bt = false) (h2 : P.eqGuardType P.depth bt = false) (next : RG dr P C ops K is (upd T t (.bool b)) H log) : RGo ⟨some t, .binOp .eql bt x y bt', ty, ps, af, gd⟩ dr P C ops K i is T H log := by
  refine G.fl rfl hw (fun ρ w hρ => ?_) next
  have e1 := hρ x (by simp [Op.operands]) _ hx
  have e2 := hρ y (by simp [Op.operands]) _ hy
  simp only [execOp, e1, e2, Sem.run_bind, run_eqGuard_agg w .eql bt x y xs ys h2, Result.andThen_ok, run_eql_struct, eqA_run he h1 w, Sem.run_pure]

theorem G.nes {x y : Operand} {bt bt' : TypeId} {xs ys : Array Value} {b : Bool} (hw : wantT ops T ⟨some t, .binOp .neq bt x y bt', ty, ps, af, gd⟩ = some true) (hx : ev T x = some (.agg xs)) (hy : ev T y = some (.agg ys))
    (he : eqA P bt xs ys = some b) (h1 : P.stoodInHeld bt = false) (h2 : P.eqGuardType P.depth bt = false) (next : RG dr P C ops K is (upd T t (.bool (!b))) H log) : RGo ⟨some t, .binOp .neq bt x y bt', ty, ps, af, gd⟩ dr P C ops K i is T H log := by
  refine G.fl rfl hw (fun ρ w hρ => ?_) next
  have e1 := hρ x (by simp [Op.operands]) _ hx
  have e2 := hρ y (by simp [Op.operands]) _ hy
  simp only [execOp, e1, e2, Sem.run_bind, run_eqGuard_agg w .neq bt x y xs ys h2, Result.andThen_ok, run_neq_struct, eqA_run he h1 w, Sem.run_pure]

/-! ### Ways out -/
variable {N : Nat} {ds : List Deferred} {Q : Post} {KQ : Tm → Hp → Prop} {id id' : Nat}
theorem Q.tn (h : KQ T H) : thenQ KQ Q .normal T H := h
theorem Q.te (h : Q (.exit id) T H) : thenQ KQ Q (.exit id) T H := h
theorem Q.tr (h : Q .ret T H) : thenQ KQ Q .ret T H := h
theorem Q.bn (h : Q .normal T H) : blockQ id Q .normal T H := h
theorem Q.br (h : Q .ret T H) : blockQ id Q .ret T H := h
theorem Q.be (h : Q .normal T H) : blockQ id Q (.exit id) T H := by simp only [blockQ, if_true]; exact h
theorem Q.bx (hn : id' ≠ id) (h : Q (.exit id') T H) : blockQ id Q (.exit id') T H := by simp only [blockQ, if_neg hn]; exact h

theorem Q.ret {fn : Func} {R : Value → Hp → Prop} {vs : List Value} {H' F : Hp} (h1 : ResL P T H fn.results.toList vs) (h2 : Rems H H' F) (h3 : R (tupV vs) H') : retQ P fn R .ret T H := ⟨.inr rfl, vs, H', F, h1, h2, h3⟩
theorem Q.fall {fn : Func} {R : Value → Hp → Prop} {vs : List Value} {H' F : Hp} (h1 : ResL P T H fn.results.toList vs) (h2 : Rems H H' F) (h3 : R (tupV vs) H') : retQ P fn R .normal T H := ⟨.inl rfl, vs, H', F, h1, h2, h3⟩

/-- The end of a call that turns nothing that is known. -/
theorem Q.dret {fn : Func} {v : Value} {vs : List Value} (h1 : ResL P T H fn.results.toList vs) (h3 : tupV vs = v) : retQ P fn (fun u H' => u = v ∧ H' = []) .ret T H := Q.ret h1 .nil ⟨h3, rfl⟩

end Bw
