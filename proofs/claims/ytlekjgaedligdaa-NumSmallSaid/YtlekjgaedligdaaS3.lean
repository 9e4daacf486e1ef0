/-
  Plain tools of this repo: a region in whatever order its edges allow, out of one walk in an order that takes readings first.
-/
import Derived.Test.YtlekjgaedligdaaS2
import Derived.OrdersIn
namespace Bw
open Go Go.RowKit

/-- An operation that leaves a value and turns nothing, at these known slots and blocks. -/
def Fl (P : Program) (T : Tm) (H : Hp) (o : Oper) (v : Value) : Prop :=
  ∀ (ρ : Operand → Value) (w : World), (∀ x ∈ o.op.operands, ∀ u, ev T x = some u → ρ x = u) → (∀ p ∈ H, Holds w p.1 p.2) → (execOp ρ o).run P w = .ok (.value v) w

/-- What stands behind code: how it ended, what is known. -/
abbrev Post := Exit → Tm → Hp → Prop

/-- What is known of slots that no operation of a region turns. -/
def hasDst : List Oper → Nat → Bool
  | [], _ => false
  | o :: l, t => (match o.dst with | some d => Nat.beq d t | none => false) || hasDst l t
def outT (ops : Array Oper) (T : Tm) : Tm := fun t => if hasDst ops.toList t then none else T t

theorem hasDst_mem {l : List Oper} {o : Oper} {t : Nat} (h : o ∈ l) (hd : o.dst = some t) : hasDst l t = true := by
  induction l with
  | nil => cases h
  | cons p l ih =>
    rcases List.mem_cons.1 h with rfl | h
    · simp [hasDst, hd]
    · simp [hasDst, ih h]
theorem outT_updO {ops : Array Oper} {i : Nat} {o : Oper} (ho : ops[i]? = some o) (T : Tm) (v : Value) : outT ops (updO T o.dst v) = outT ops T := by
  funext t
  unfold outT
  split
  · rfl
  · rename_i h
    cases hd : o.dst with
    | none => rfl
    | some d =>
      have : t ≠ d := fun e => h (by subst e; exact hasDst_mem (by simpa using Array.mem_of_getElem? ho) hd)
      simp [updO, upd, this]
theorem TSat.out {T : Tm} {a : Array Value} (ops : Array Oper) (h : TSat T a) : TSat (outT ops T) a := by
  intro i v hv
  unfold outT at hv
  split at hv
  · cases hv
  · exact h i v hv

/-- Every frame, of a function or of a round. -/
def FW (r : Option Nat) : Fence := { fn := fun _ => True, depth := none, alive := false, round := r }
theorem FW.callsIn {r : Option Nat} {n : Nat} {P : Program} {f : FuncId} {args : Array Value} {w : World} {R : Ending → World → Prop} (h : Calls P f args w R) : CallsIn (FW r) n P f args w R := callsIn_wide.2 h

/-- What one operation may come to: what it leaves, or a panic. -/
def Came (P : Program) (C : Ctx) (R : Value → Hp → Prop) (X : List PanicEntry → Hp → Prop) : Result Next → Prop
  | .ok (.value v) w' => ∃ H', R v H' ∧ HSat C H' w'
  | .ok .skip w' => ∃ H', R undef H' ∧ HSat C H' w'
  | .ok (.enter f args) w' => Calls P f args w' fun e w'' => (∃ v H', e = .returned v ∧ R v H' ∧ HSat C H' w'') ∨ ∃ ch H', e = .panicked ch ∧ X ch H' ∧ HSat C H' w''
  | .ok (.round l f tmps assign body) w' => RoundIn (FW none) 0 P l f tmps assign body w' fun e w'' => (∃ v H', e = .returned v ∧ R v H' ∧ HSat C H' w'') ∨ ∃ ch H', e = .panicked ch ∧ X ch H' ∧ HSat C H' w''
  | .halt (.panic v) w' => ∃ H', X [{ v, recovered := false }] H' ∧ HSat C H' w'
  | _ => False

theorem Came.mono {P : Program} {C : Ctx} {R : Value → Hp → Prop} {X X' : List PanicEntry → Hp → Prop} (h : ∀ ch H, X ch H → X' ch H) {r : Result Next} (hc : Came P C R X r) : Came P C R X' r := by
  cases r with
  | ok nx w => cases nx <;> first | exact hc | exact Calls.mono hc (fun _ _ hq => hq.imp id fun ⟨ch, H', he, hx, hh⟩ => ⟨ch, H', he, h _ _ hx, hh⟩) | exact RoundIn.mono hc (fun _ _ hq => hq.imp id fun ⟨ch, H', he, hx, hh⟩ => ⟨ch, H', he, h _ _ hx, hh⟩)
  | halt x w => cases x <;> first | exact hc | (obtain ⟨H', hx, hh⟩ := hc; exact ⟨H', h _ _ hx, hh⟩)

/-- A defer is none of these. -/
theorem no_defer {ρ : Operand → Value} {o : Oper} {P : Program} {w w' : World} {c : Call} (hc : o.op = .defer c) : (∀ v, (execOp ρ o).run P w ≠ .ok (.value v) w') ∧ ∀ C R X, ¬ Came P C R X ((execOp ρ o).run P w) := by
  have e : execOp ρ o = (do pure (.defer (← resolve ρ c o.type))) := by simp [execOp, hc]
  rw [e]
  obtain ⟨callee, args, tys⟩ := c
  cases callee with
  | builtin b => constructor <;> intros <;> simp [resolve, Came]
  | invoke r n => constructor <;> intros <;> simp [resolve, Came]
  | value x =>
    simp only [resolve]
    cases hx : ρ x <;> constructor <;> intros <;> simp [Deferred.ofValue, Came, stuck, Sem.run]

def Sp (P : Program) (C : Ctx) (T : Tm) (H : Hp) (o : Oper) (R : Value → Hp → Prop) (X : List PanicEntry → Hp → Prop) : Prop :=
  ∀ (ρ : Operand → Value) (w : World), (∀ x ∈ o.op.operands, ∀ u, ev T x = some u → ρ x = u) → HSat C H w → Came P C R X ((execOp ρ o).run P w)

theorem Sp.mono {P : Program} {C : Ctx} {T : Tm} {H : Hp} {o : Oper} {R : Value → Hp → Prop} {X X' : List PanicEntry → Hp → Prop} (hs : Sp P C T H o R X) (h : ∀ ch H, X ch H → X' ch H) : Sp P C T H o R X' :=
  fun ρ w hρ hh => (hs ρ w hρ hh).mono h

def wantT (ops : Array Oper) (T : Tm) (o : Oper) : Option Bool :=
  match o.guard with
  | none => some true
  | some (j, want) =>
    match (ops[j]?).bind (·.dst) with
    | some d => match T d with
      | some (.bool b) => some (b == want)
      | some (.tuple _) => some false
      | _ => none
    | none => none

def spineOp : Op → Bool
  | .move _ | .assign _ | .pick .. | .build .. | .load .. | .nilCheck _ | .binOp .. | .unOp .. | .convert .. | .makeInterface .. | .makeFunc .. | .slice .. | .fieldAddr ..
  | .field .. | .indexAddr .. | .index .. | .lookup .. | .extract .. => false
  | .call { callee := .builtin .len, .. } | .call { callee := .builtin .max, .. } | .call { callee := .builtin .min, .. } => false
  | _ => true

def newOp : Op → Bool
  | .alloc _ | .box .. | .buildSlice .. | .makeSlice .. => true
  | _ => false

theorem newOp_spine {o : Op} (h : newOp o = true) : spineOp o = true := by cases o <;> first | rfl | cases h

theorem newA_op {P : Program} {T : Tm} {o : Op} {r} (h : newA P T o = some r) : newOp o = true := by
  cases o <;> first | rfl | (simp only [newA, reduceCtorEq] at h)

inductive Bf (ops : Array Oper) : Nat → Nat → Prop
  | edge {i o e} (ho : ops[i]? = some o) (he : e ∈ o.after) (hb : Region.binds .any e = true) : Bf ops e.on i
  | step {y i o e} (ho : ops[i]? = some o) (he : e ∈ o.after) (hb : Region.binds .any e = true) (h : Bf ops y e.on) : Bf ops y i

/-- What was read, by which operation. -/
abbrev Log := List (Nat × (Nat × AObj))
def pushL (dr : Bool) (e : Nat × (Nat × AObj)) (log : Log) : Log := if dr then e :: log else log

inductive RW (dr : Bool) (P : Program) (C : Ctx) (ops : Array Oper) (K : Post) : List Nat → Tm → Hp → Log → Prop
  | nil {T H log} (h : K .normal T H) : RW dr P C ops K [] T H log
  | unw {i is T H log} (o : Oper) (ho : ops[i]? = some o) (hw : wantT ops T o = some false) (next : RW dr P C ops K is (updO T o.dst undef) H log) : RW dr P C ops K (i :: is) T H log
  | pure {i is T H log} (o : Oper) (v : Value) (ho : ops[i]? = some o) (hw : wantT ops T o = some true) (hnn : newOp o.op = false) (hf : Fl P T [] o v) (next : RW dr P C ops K is (updO T o.dst v) H log) : RW dr P C ops K (i :: is) T H log
  | read {i is T H log} (o : Oper) (v : Value) (it : Nat × AObj) (ho : ops[i]? = some o) (hw : wantT ops T o = some true) (hnn : newOp o.op = false) (hf : Fl P T [it] o v) (hm : it ∈ H) (next : RW dr P C ops K is (updO T o.dst v) H (pushL dr (i, it) log)) : RW dr P C ops K (i :: is) T H log
  | new {i is T H log} (o : Oper) (f : Nat → Value) (x : AObj) (ho : ops[i]? = some o) (hw : wantT ops T o = some true) (hn : newA P T o.op = some (f, x)) (next : ∀ b, RW dr P C ops K is (updO T o.dst (f b)) ((b, x) :: H) log) : RW dr P C ops K (i :: is) T H log
  | spine {i is T H log} (o : Oper) (R : Value → Hp → Prop) (ho : ops[i]? = some o) (hw : wantT ops T o = some true) (hso : spineOp o.op = true) (hnn : newOp o.op = false) (hs : Sp P C T H o R fun ch H' => K (.panic ch) (outT ops T) H')
      (st : ∀ v H', R v H' → ∀ e ∈ log, ¬ Bf ops e.1 i → e.2 ∈ H') (next : ∀ v H', R v H' → RW dr P C ops K is (updO T o.dst v) H' log) : RW dr P C ops K (i :: is) T H log

variable {P : Program} {C : Ctx} {ops : Array Oper} {K : Post}

theorem RW.log {dr is T H log} (h : RW dr P C ops K is T H log) : ∀ log', (∀ e ∈ log', e ∈ log) → RW dr P C ops K is T H log' := by
  induction h with
  | nil h => exact fun _ _ => .nil h
  | unw o ho hw _ ih => exact fun l hl => .unw o ho hw (ih l hl)
  | pure o v ho hw hnn hf _ ih => exact fun l hl => .pure o v ho hw hnn hf (ih l hl)
  | read o v it ho hw hnn hf hm _ ih =>
    refine fun l hl => .read o v it ho hw hnn hf hm (ih _ fun e he => ?_)
    unfold pushL at he ⊢
    split at he
    · rw [if_pos ‹_›]; simp only [List.mem_cons] at he ⊢; exact he.imp id (hl e)
    · rw [if_neg ‹_›]; exact hl e he
  | new o f x ho hw hn _ ih => exact fun l hl => .new o f x ho hw hn fun b => ih b l hl
  | spine o R ho hw hso hnn hs st _ ih => exact fun l hl => .spine o R ho hw hso hnn hs (fun v H' hr e he hb => st v H' hr e (hl e he) hb) fun v H' hr => ih v H' hr l hl

/-- The order in which known blocks are listed plays no part. -/
theorem RW.perm (hK : ∀ e T H H', H.Perm H' → K e T H → K e T H') {dr is T H log} (h : RW dr P C ops K is T H log) : ∀ H', H.Perm H' → RW dr P C ops K is T H' log := by
  induction h with
  | nil h => exact fun H' hp => .nil (hK _ _ _ _ hp h)
  | unw o ho hw _ ih => exact fun H' hp => .unw o ho hw (ih H' hp)
  | pure o v ho hw hnn hf _ ih => exact fun H' hp => .pure o v ho hw hnn hf (ih H' hp)
  | read o v it ho hw hnn hf hm _ ih => exact fun H' hp => .read o v it ho hw hnn hf (hp.mem_iff.1 hm) (ih H' hp)
  | new o f x ho hw hn _ ih => exact fun H' hp => .new o f x ho hw hn fun b => ih b _ (hp.cons _)
  | spine o R ho hw hso hnn hs st hn _ => exact fun H' hp => .spine o R ho hw hso hnn (fun ρ w hρ hh => hs ρ w hρ (hh.perm hp.symm)) st hn

theorem RW.mono {K' : Post} (hK : ∀ e T H, K e T H → K' e T H) {dr is T H log} (h : RW dr P C ops K is T H log) : RW dr P C ops K' is T H log := by
  induction h with
  | nil h => exact .nil (hK _ _ _ h)
  | unw o ho hw _ ih => exact .unw o ho hw ih
  | pure o v ho hw hnn hf _ ih => exact .pure o v ho hw hnn hf ih
  | read o v it ho hw hnn hf hm _ ih => exact .read o v it ho hw hnn hf hm ih
  | new o f x ho hw hn _ ih => exact .new o f x ho hw hn ih
  | spine o R ho hw hso hnn hs st _ ih => exact .spine o R ho hw hso hnn (hs.mono fun _ _ h => hK _ _ _ h) st ih

theorem ev_upd_ne {T : Tm} {d : Option Tmp} {v : Value} {x : Operand} (h : ∀ t, d = some t → x ≠ .tmp t) : ev (updO T d v) x = ev T x := by
  cases d with
  | none => rfl
  | some t =>
    cases x with
    | tmp u =>
      have : u ≠ t := fun e => h t rfl (e ▸ rfl)
      simp [ev, updO, upd, this]
    | _ => rfl

theorem looks_op {o : Oper} {d : Tmp} (h : d ∉ o.looksAt ops) {x : Operand} (hx : x ∈ o.op.operands) : x ≠ .tmp d := by
  rintro rfl
  exact h (List.mem_append_left _ (List.mem_filterMap.2 ⟨.tmp d, by simpa using hx, rfl⟩))

theorem Fl.upd {T : Tm} {H : Hp} {o : Oper} {u : Value} {d : Option Tmp} {v : Value} (hd : ∀ t, d = some t → t ∉ o.looksAt ops) : Fl P (updO T d v) H o u ↔ Fl P T H o u := by
  have e : ∀ x ∈ o.op.operands, ev (updO T d v) x = ev T x := fun x hx => ev_upd_ne fun t ht => looks_op (hd t ht) hx
  constructor
  · intro h ρ w hρ hw; exact h ρ w (fun x hx u hu => hρ x hx u ((e x hx).symm.trans hu)) hw
  · intro h ρ w hρ hw; exact h ρ w (fun x hx u hu => hρ x hx u ((e x hx).trans hu)) hw

theorem Sp.upd {T : Tm} {H : Hp} {o : Oper} {R : Value → Hp → Prop} {X : List PanicEntry → Hp → Prop} {d : Option Tmp} {v : Value} (hd : ∀ t, d = some t → t ∉ o.looksAt ops) : Sp P C (updO T d v) H o R X ↔ Sp P C T H o R X := by
  have e : ∀ x ∈ o.op.operands, ev (updO T d v) x = ev T x := fun x hx => ev_upd_ne fun t ht => looks_op (hd t ht) hx
  constructor
  · intro h ρ w hρ hw; exact h ρ w (fun x hx u hu => hρ x hx u ((e x hx).symm.trans hu)) hw
  · intro h ρ w hρ hw; exact h ρ w (fun x hx u hu => hρ x hx u ((e x hx).trans hu)) hw

theorem evP_upd {T T' : Tm} : ∀ {l : List (Nat × Operand)}, (∀ x ∈ l.map (·.2), ev T' x = ev T x) → evP T' l = evP T l
  | [], _ => rfl
  | (i, x) :: l, h => by
    simp only [evP]
    rw [h x (by simp), evP_upd (l := l) fun y hy => h y (List.mem_cons_of_mem _ hy)]

theorem newA_upd {T : Tm} {o : Oper} {d : Option Tmp} {v : Value} (hd : ∀ t, d = some t → t ∉ o.looksAt ops) : newA P (updO T d v) o.op = newA P T o.op := by
  have e : ∀ x ∈ o.op.operands, ev (updO T d v) x = ev T x := fun x hx => ev_upd_ne fun t ht => looks_op (hd t ht) hx
  cases ho : o.op <;> rw [ho] at e <;> simp only [newA]
  case box t x => rw [e x (by simp [Op.operands])]
  case buildSlice t n parts => rw [evP_upd fun x hx => e x (by simpa [Op.operands] using hx)]
  case makeSlice t x y => rw [e x (by simp [Op.operands]), e y (by simp [Op.operands])]

theorem wantT_upd {T : Tm} {o : Oper} {d : Option Tmp} {v : Value} (hd : ∀ t, d = some t → t ∉ o.looksAt ops) : wantT ops (updO T d v) o = wantT ops T o := by
  cases d with
  | none => rfl
  | some t =>
    unfold wantT
    cases hg : o.guard with
    | none => rfl
    | some gw =>
      obtain ⟨g, want⟩ := gw
      dsimp only
      cases ht : (ops[g]?).bind (·.dst) with
      | none => rfl
      | some u =>
        have hne : u ≠ t := fun e => hd t rfl (by subst e; simp [Oper.looksAt, hg, ht])
        simp [updO, Bw.upd, hne]

theorem updO_comm {T : Tm} {x y : Option Tmp} (v u : Value) (h : ∀ d, x = some d → y ≠ some d) : updO (updO T x v) y u = updO (updO T y u) x v := by
  cases x with
  | none => rfl
  | some d =>
    cases y with
    | none => rfl
    | some e =>
      have hne : d ≠ e := fun he => h d rfl (he ▸ rfl)
      funext i
      simp only [updO, Bw.upd]
      by_cases h1 : i = d
      · subst h1; simp [hne]
      · simp [h1]

/-- Two neighbours that are apart, the first of which only reads, or both make new blocks: the other one first. -/
theorem RW.swap (hK : ∀ e T H H', H.Perm H' → K e T H → K e T H') {y i : Nat} {is : List Nat} {T : Tm} {H : Hp} {log : Log} {oy oi : Oper} (hy : ops[y]? = some oy) (hi : ops[i]? = some oi) (hap : oy.apart ops oi = true)
    (hns : spineOp oy.op = false ∨ newOp oy.op = true ∧ newOp oi.op = true) (hbf : ¬ Bf ops y i) (h : RW true P C ops K (y :: i :: is) T H log) : RW true P C ops K (i :: y :: is) T H log := by
  obtain ⟨h1, h2, h3⟩ := Oper.apart_spec hap
  have com : ∀ a b : Value, updO (updO T oy.dst a) oi.dst b = updO (updO T oi.dst b) oy.dst a := fun a b => updO_comm a b h2
  cases h with
  | spine o R ho hw hso hnn hs st hn =>
    rw [hy] at ho; cases ho
    rcases hns with hns | hns
    · rw [hns] at hso; cases hso
    · rw [hns.1] at hnn; cases hnn
  | new o f x ho hw hn n =>
    rw [hy] at ho; cases ho
    have hni : newOp oi.op = true := by
      rcases hns with hns | hns
      · rw [newOp_spine (newA_op hn)] at hns; cases hns
      · exact hns.2
    have hwy : ∀ b, wantT ops (updO T oi.dst b) oy = some true := fun b => by rw [wantT_upd h3]; exact hw
    have hny : ∀ b, newA P (updO T oi.dst b) oy.op = some (f, x) := fun b => by rw [newA_upd h3]; exact hn
    cases n 0 with
    | unw o' ho' hw' n' =>
      rw [hi] at ho'; cases ho'
      rw [wantT_upd h1] at hw'
      refine .unw oi hi hw' (.new oy f x hy (hwy _) (hny _) fun b => ?_)
      cases n b with
      | unw o' ho' hw'' n' => rw [hi] at ho'; cases ho'; rw [← com]; exact n'
      | pure o' v' ho' hw'' _ hf' n' => rw [hi] at ho'; cases ho'; rw [wantT_upd h1, hw'] at hw''; cases hw''
      | read o' v' it' ho' hw'' _ hf' hm' n' => rw [hi] at ho'; cases ho'; rw [wantT_upd h1, hw'] at hw''; cases hw''
      | new o' f' x' ho' hw'' hn' n' => rw [hi] at ho'; cases ho'; rw [wantT_upd h1, hw'] at hw''; cases hw''
      | spine o' R' ho' hw'' hso' hnn' hs' st' hn' => rw [hi] at ho'; cases ho'; rw [wantT_upd h1, hw'] at hw''; cases hw''
    | pure o' v' ho' hw' hnn' hf' n' => rw [hi] at ho'; cases ho'; rw [hni] at hnn'; cases hnn'
    | read o' v' it' ho' hw' hnn' hf' hm' n' => rw [hi] at ho'; cases ho'; rw [hni] at hnn'; cases hnn'
    | new o' f' x' ho' hw' hn' n' =>
      rw [hi] at ho'; cases ho'
      rw [wantT_upd h1] at hw'
      rw [newA_upd h1] at hn'
      refine .new oi f' x' hi hw' hn' fun bi => .new oy f x hy (hwy _) (hny _) fun by_ => ?_
      rw [← com]
      cases n by_ with
      | unw o' ho' hw'' n' => rw [hi] at ho'; cases ho'; rw [wantT_upd h1, hw'] at hw''; cases hw''
      | pure o' v' ho' hw'' hnn' hf' n' => rw [hi] at ho'; cases ho'; rw [hni] at hnn'; cases hnn'
      | read o' v' it' ho' hw'' hnn' hf' hm' n' => rw [hi] at ho'; cases ho'; rw [hni] at hnn'; cases hnn'
      | new o' f'' x'' ho' hw'' hn'' n' =>
        rw [hi] at ho'; cases ho'
        rw [newA_upd h1, hn'] at hn''
        simp only [Option.some.injEq, Prod.mk.injEq] at hn''
        obtain ⟨rfl, rfl⟩ := hn''
        exact (n' bi).perm hK _ (List.Perm.swap _ _ _)
      | spine o' R' ho' hw'' hso' hnn' hs' st' hn' => rw [hi] at ho'; cases ho'; rw [hni] at hnn'; cases hnn'
    | spine o' R' ho' hw' hso' hnn' hs' st' hn' => rw [hi] at ho'; cases ho'; rw [hni] at hnn'; cases hnn'
  | unw o ho hw n =>
    rw [hy] at ho; cases ho
    have hwy : ∀ b, wantT ops (updO T oi.dst b) oy = some false := fun b => by rw [wantT_upd h3]; exact hw
    cases n with
    | unw o' ho' hw' n' =>
      rw [hi] at ho'; cases ho'
      rw [wantT_upd h1] at hw'
      exact .unw oi hi hw' (.unw oy hy (hwy _) (by rw [← com]; exact n'))
    | pure o' v' ho' hw' hnn' hf' n' =>
      rw [hi] at ho'; cases ho'
      rw [wantT_upd h1] at hw'
      exact .pure oi v' hi hw' hnn' ((Fl.upd h1).1 hf') (.unw oy hy (hwy _) (by rw [← com]; exact n'))
    | read o' v' it' ho' hw' hnn' hf' hm' n' =>
      rw [hi] at ho'; cases ho'
      rw [wantT_upd h1] at hw'
      refine .read oi v' it' hi hw' hnn' ((Fl.upd h1).1 hf') hm' (.unw oy hy (hwy _) ?_)
      rw [← com]
      exact n'
    | new o' f' x' ho' hw' hn' n' =>
      rw [hi] at ho'; cases ho'
      rw [wantT_upd h1] at hw'
      rw [newA_upd h1] at hn'
      refine .new oi f' x' hi hw' hn' fun b => .unw oy hy (hwy _) ?_
      rw [← com]; exact n' b
    | spine o' R' ho' hw' hso' hnn' hs' st' hn' =>
      rw [hi] at ho'; cases ho'
      rw [wantT_upd h1] at hw'
      refine .spine oi R' hi hw' hso' hnn' (by rw [outT_updO hy] at hs'; exact (Sp.upd h1).1 hs') st' fun v H' hr => .unw oy hy (hwy _) ?_
      rw [← com]; exact hn' v H' hr
  | pure o vy ho hw hny hf n =>
    rw [hy] at ho; cases ho
    have hwy : ∀ b, wantT ops (updO T oi.dst b) oy = some true := fun b => by rw [wantT_upd h3]; exact hw
    have hfy : ∀ b, Fl P (updO T oi.dst b) [] oy vy := fun b => (Fl.upd h3).2 hf
    cases n with
    | unw o' ho' hw' n' =>
      rw [hi] at ho'; cases ho'
      rw [wantT_upd h1] at hw'
      exact .unw oi hi hw' (.pure oy vy hy (hwy _) hny (hfy _) (by rw [← com]; exact n'))
    | pure o' v' ho' hw' hnn' hf' n' =>
      rw [hi] at ho'; cases ho'
      rw [wantT_upd h1] at hw'
      exact .pure oi v' hi hw' hnn' ((Fl.upd h1).1 hf') (.pure oy vy hy (hwy _) hny (hfy _) (by rw [← com]; exact n'))
    | read o' v' it' ho' hw' hnn' hf' hm' n' =>
      rw [hi] at ho'; cases ho'
      rw [wantT_upd h1] at hw'
      refine .read oi v' it' hi hw' hnn' ((Fl.upd h1).1 hf') hm' (.pure oy vy hy (hwy _) hny (hfy _) ?_)
      rw [← com]
      exact n'
    | new o' f' x' ho' hw' hn' n' =>
      rw [hi] at ho'; cases ho'
      rw [wantT_upd h1] at hw'
      rw [newA_upd h1] at hn'
      refine .new oi f' x' hi hw' hn' fun b => .pure oy vy hy (hwy _) hny (hfy _) ?_
      rw [← com]; exact n' b
    | spine o' R' ho' hw' hso' hnn' hs' st' hn' =>
      rw [hi] at ho'; cases ho'
      rw [wantT_upd h1] at hw'
      refine .spine oi R' hi hw' hso' hnn' (by rw [outT_updO hy] at hs'; exact (Sp.upd h1).1 hs') st' fun v H' hr => .pure oy vy hy (hwy _) hny (hfy _) ?_
      rw [← com]; exact hn' v H' hr
  | read o vy ity ho hw hny hf hmy n =>
    rw [hy] at ho; cases ho
    have hwy : ∀ b, wantT ops (updO T oi.dst b) oy = some true := fun b => by rw [wantT_upd h3]; exact hw
    have hfy : ∀ b, Fl P (updO T oi.dst b) [ity] oy vy := fun b => (Fl.upd h3).2 hf
    cases n with
    | unw o' ho' hw' n' =>
      rw [hi] at ho'; cases ho'
      rw [wantT_upd h1] at hw'
      exact .unw oi hi hw' (.read oy vy ity hy (hwy _) hny (hfy _) hmy (by rw [← com]; exact n'))
    | pure o' v' ho' hw' hnn' hf' n' =>
      rw [hi] at ho'; cases ho'
      rw [wantT_upd h1] at hw'
      exact .pure oi v' hi hw' hnn' ((Fl.upd h1).1 hf') (.read oy vy ity hy (hwy _) hny (hfy _) hmy (by rw [← com]; exact n'))
    | read o' v' it' ho' hw' hnn' hf' hm' n' =>
      rw [hi] at ho'; cases ho'
      rw [wantT_upd h1] at hw'
      refine .read oi v' it' hi hw' hnn' ((Fl.upd h1).1 hf') hm' (.read oy vy ity hy (hwy _) hny (hfy _) hmy ?_)
      rw [← com]
      refine n'.log _ fun e he => ?_
      simp only [pushL, if_true, List.mem_cons] at he ⊢
      rcases he with he | he | he
      · exact .inr (.inl he)
      · exact .inl he
      · exact .inr (.inr he)
    | new o' f' x' ho' hw' hn' n' =>
      rw [hi] at ho'; cases ho'
      rw [wantT_upd h1] at hw'
      rw [newA_upd h1] at hn'
      refine .new oi f' x' hi hw' hn' fun b => .read oy vy ity hy (hwy _) hny (hfy _) (List.mem_cons_of_mem _ hmy) ?_
      rw [← com]; exact n' b
    | spine o' R' ho' hw' hso' hnn' hs' st' hn' =>
      rw [hi] at ho'; cases ho'
      rw [wantT_upd h1] at hw'
      refine .spine oi R' hi hw' hso' hnn' (by rw [outT_updO hy] at hs'; exact (Sp.upd h1).1 hs') (fun v H' hr e he hb => st' v H' hr e (by simp only [pushL, if_true, List.mem_cons]; exact .inr he) hb)
        fun v H' hr => .read oy vy ity hy (hwy _) hny (hfy _) (st' v H' hr (y, ity) (by simp [pushL]) hbf) ?_
      rw [← com]; exact hn' v H' hr

/-- May y stand ahead of i in the walk's order? -/
def Good (ops : Array Oper) (y i : Nat) : Prop :=
  Bf ops y i ∨ ∃ oy oi, ops[y]? = some oy ∧ ops[i]? = some oi ∧ oy.apart ops oi = true ∧ (spineOp oy.op = false ∨ newOp oy.op = true ∧ newOp oi.op = true)

/-- What may come up now can be taken first. -/
theorem RW.front (hK : ∀ e T H H', H.Perm H' → K e T H → K e T H') {i : Nat} : ∀ {ys zs : List Nat} {T : Tm} {H : Hp} {log : Log}, (∀ y ∈ ys, Good ops y i ∧ ¬ Bf ops y i) →
    RW true P C ops K (ys ++ i :: zs) T H log → RW true P C ops K (i :: (ys ++ zs)) T H log := by
  intro ys
  induction ys with
  | nil => intro zs T H log _ h; exact h
  | cons y ys ih =>
    intro zs T H log hg h
    have hy := hg y (List.mem_cons_self ..)
    have hrest : ∀ T H log, RW true P C ops K (ys ++ i :: zs) T H log → RW true P C ops K (i :: (ys ++ zs)) T H log :=
      fun T H log h => ih (fun z hz => hg z (List.mem_cons_of_mem _ hz)) h
    obtain ⟨hb, hnb⟩ := hy
    obtain ⟨oy, oi, hoy, hoi, hap, hns⟩ := hb.resolve_left hnb
    refine RW.swap hK hoy hoi hap hns hnb ?_
    simp only [List.cons_append] at h
    cases h with
    | unw o ho hw n => exact .unw o ho hw (hrest _ _ _ n)
    | pure o v ho hw hnn hf n => exact .pure o v ho hw hnn hf (hrest _ _ _ n)
    | read o v it ho hw hnn hf hm n => exact .read o v it ho hw hnn hf hm (hrest _ _ _ n)
    | new o f x ho hw hn n => exact .new o f x ho hw hn fun b => hrest _ _ _ (n b)
    | spine o R ho hw hso hnn hs st hn => exact .spine o R ho hw hso hnn hs st fun v H' hr => hrest _ _ _ (hn v H' hr)

end Bw
