/-
  Plain tools of this repo: code, and whole functions.
-/
import Derived.Test.YtlekjgaedligdaaS5
namespace Bw
open Go Go.RowKit

def lift (C : Ctx) (N : Nat) (ds : List Deferred) (Q : Post) : Exit → Act → World → Prop :=
  fun e a w => ∃ T H, Q e T H ∧ TSat T a.tmps ∧ HSat C H w ∧ a.tmps.size = N ∧ a.defers = ds

def SW (P : Program) (C : Ctx) (N : Nat) (ds : List Deferred) (c : Code) (Q : Post) (T : Tm) (H : Hp) : Prop :=
  ∀ a w, TSat T a.tmps → HSat C H w → a.tmps.size = N → a.defers = ds → c.wpIn (FW C.rd) 0 P (lift C N ds Q) a w

def thenQ (K : Tm → Hp → Prop) (Q : Post) : Post
  | .normal, T, H => K T H
  | e, T, H => Q e T H

def blockQ (id : Nat) (Q : Post) : Post
  | .exit id', T, H => if id' = id then Q .normal T H else Q (.exit id') T H
  | e, T, H => Q e T H

variable {P : Program} {C : Ctx} {N : Nat} {ds : List Deferred} {Q : Post} {T : Tm} {H : Hp}

theorem SW.seq {x y : Code} (h : SW P C N ds x (thenQ (SW P C N ds y Q) Q) T H) : SW P C N ds (.seq x y) Q T H := by
  intro a w ht hh hn hd
  refine wpIn_seq (wpIn_mono (h a w ht hh hn hd) fun e a' w' hq => ?_)
  obtain ⟨T', H', hQ, h1, h2, h3, h4⟩ := hq
  cases e with
  | normal => exact hQ a' w' h1 h2 h3 h4
  | _ => exact ⟨T', H', hQ, h1, h2, h3, h4⟩

theorem SW.block {id : Nat} {c : Code} (h : SW P C N ds c (blockQ id Q) T H) : SW P C N ds (.block id c) Q T H := by
  intro a w ht hh hn hd
  refine wpIn_block (wpIn_mono (h a w ht hh hn hd) fun e a' w' hq => ?_)
  obtain ⟨T', H', hQ, h1, h2, h3, h4⟩ := hq
  cases e with
  | exit id' =>
    simp only [blockQ] at hQ
    simp only [Exit.inBlock]
    split
    · rw [if_pos ‹_›] at hQ; exact ⟨T', H', hQ, h1, h2, h3, h4⟩
    · rw [if_neg ‹_›] at hQ; exact ⟨T', H', hQ, h1, h2, h3, h4⟩
  | _ => exact ⟨T', H', hQ, h1, h2, h3, h4⟩

theorem SW.skip (h : Q .normal T H) : SW P C N ds .skip Q T H := fun _ _ ht hh hn hd => wpIn_skip ⟨T, H, h, ht, hh, hn, hd⟩
theorem SW.label {l : Nat} (h : Q .normal T H) : SW P C N ds (.label l) Q T H := fun _ _ ht hh hn hd => wpIn_label ⟨T, H, h, ht, hh, hn, hd⟩
theorem SW.ret (h : Q .ret T H) : SW P C N ds .ret Q T H := fun _ _ ht hh hn hd => wpIn_ret ⟨T, H, h, ht, hh, hn, hd⟩
theorem SW.exit {id : Nat} (h : Q (.exit id) T H) : SW P C N ds (.exit id) Q T H := fun _ _ ht hh hn hd => wpIn_exit ⟨T, H, h, ht, hh, hn, hd⟩
theorem SW.goto {l : Nat} (h : Q (.goto l) T H) : SW P C N ds (.goto l) Q T H := fun _ _ ht hh hn hd => wpIn_goto ⟨T, H, h, ht, hh, hn, hd⟩

theorem SW.cond {c : Operand} {x y : Code} {b : Bool} (hc : ev T c = some (.bool b)) (h1 : b = true → SW P C N ds x Q T H) (h0 : b = false → SW P C N ds y Q T H) : SW P C N ds (.cond c x y) Q T H := by
  intro a w ht hh hn hd
  refine wpIn_cond_split (ht.eval hc) (fun e => h1 e a w ht hh hn hd) (fun e => h0 e a w ht hh hn hd)

theorem SW.cond1 {c : Operand} {x y : Code} {b : Bool} (hc : ev T c = some (.bool b)) (hb : b = true) (h1 : SW P C N ds x Q T H) : SW P C N ds (.cond c x y) Q T H :=
  SW.cond hc (fun _ => h1) fun h0 => by rw [hb] at h0; cases h0
theorem SW.cond0 {c : Operand} {x y : Code} {b : Bool} (hc : ev T c = some (.bool b)) (hb : b = false) (h0 : SW P C N ds y Q T H) : SW P C N ds (.cond c x y) Q T H :=
  SW.cond hc (fun h1 => by rw [hb] at h1; cases h1) fun _ => h0

def normN : List Nat → Option (List Nat)
  | [] => some []
  | v :: l => match normN l with
    | some l' => some (v :: l')
    | none => none

theorem normN_eq : ∀ {l l' : List Nat}, normN l = some l' → l' = l
  | [], _, h => by simp only [normN, Option.some.injEq] at h; exact h.symm
  | v :: l, l', h => by
    simp only [normN] at h
    cases hl : normN l with
    | none => rw [hl] at h; cases h
    | some l1 =>
      rw [hl] at h
      simp only [Option.some.injEq] at h
      rw [← h, normN_eq hl]

theorem SW.region0 {id : Nat} {ops : Array Oper} {is : List Nat} (hc : dstOk ops N = true) (hr : normN (List.range ops.size) = some is) (h : RG false P C ops Q is T H []) : SW P C N ds (.region id ops false) Q T H := by
  have e := normN_eq hr
  subst e
  intro a w ht hh hn hd
  exact wp_region_rw0 hc (fun e a' w' T' H' _ hk h1 h2 h3 h4 => ⟨T', H', hk, h1, h2, h3, h4⟩) ht hh hn hd (h fun e he => by cases he)

theorem SW.region1 {id : Nat} {ops : Array Oper} (c : List Nat) (hm : P.follows .mixedOrders = true) (hc : orderOk2 ops N c = true) (h : RG true P C ops Q c T H []) : SW P C N ds (.region id ops true) Q T H := by
  intro a w ht hh hn hd
  exact wp_region_rw hm hc (fun e a' w' T' H' _ hk h1 h2 h3 h4 => ⟨T', H', hk, h1, h2, h3, h4⟩) ht hh hn hd (h fun e he => by cases he)

/-- What is known, forgotten in part. -/
structure Weak (T : Tm) (H : Hp) (T' : Tm) (H' : Hp) : Prop where
  t : ∀ i v, T' i = some v → T i = some v
  h : ∃ F, Rems H H' F

theorem Weak.refl (T : Tm) : Weak T H T H := ⟨fun _ _ h => h, by
  induction H with
  | nil => exact ⟨[], .nil⟩
  | cons p H ih => obtain ⟨F, hF⟩ := ih; exact ⟨F, .cons .here hF⟩⟩

theorem Weak.tsat {T' : Tm} {H' : Hp} (h : Weak T H T' H') {a : Array Value} (ht : TSat T a) : TSat T' a := fun i v hv => ht i v (h.t i v hv)
theorem Weak.hsat {T' : Tm} {H' : Hp} (h : Weak T H T' H') {w : World} (hh : HSat C H w) : HSat C H' w := by
  obtain ⟨F, hF⟩ := h.h
  exact (hh.perm (hF.perm.trans List.perm_append_comm)).sub

theorem SW.weak {c : Code} {T' : Tm} {H' : Hp} (h : Weak T H T' H') (k : SW P C N ds c Q T' H') : SW P C N ds c Q T H :=
  fun a w ht hh hn hd => k a w (h.tsat ht) (h.hsat hh) hn hd

/-- A list of known slots. -/
def tl : List (Nat × Value) → Tm
  | [] => noT
  | (d, v) :: l => upd (tl l) d v

theorem tl_mem {l : List (Nat × Value)} {i : Nat} {v : Value} (h : tl l i = some v) : (i, v) ∈ l := by
  induction l with
  | nil => cases h
  | cons p l ih =>
    obtain ⟨d, u⟩ := p
    simp only [tl, upd] at h
    split at h
    · subst_vars; simp only [Option.some.injEq] at h; subst h; exact List.mem_cons_self ..
    · exact List.mem_cons_of_mem _ (ih h)

def hasAll (T : Tm) : List (Nat × Value) → Prop
  | [] => True
  | (d, v) :: l => T d = some v ∧ hasAll T l

theorem hasAll_mem {T : Tm} {l : List (Nat × Value)} (h : hasAll T l) : ∀ p ∈ l, T p.1 = some p.2 := by
  induction l with
  | nil => intro p hp; cases hp
  | cons q l ih =>
    intro p hp
    rcases List.mem_cons.1 hp with rfl | hp
    · exact h.1
    · exact ih h.2 p hp

theorem Weak.mk' {l : List (Nat × Value)} {H' F : Hp} (h1 : hasAll T l) (h2 : Rems H H' F) : Weak T H (tl l) H' :=
  ⟨fun _ _ hv => hasAll_mem h1 _ (tl_mem hv), F, h2⟩

/-- A loop: what is known at its head, of some ghost x, and a number that every round lowers. -/
theorem SW.loop {α : Type} {c : Code} (I : α → List (Nat × Value)) (J : α → Hp) (μ : α → Nat) (x0 : α) (h0 : ∃ F, hasAll T (I x0) ∧ Rems H (J x0) F)
    (round : ∀ x, SW P C N ds c (thenQ (fun T' H' => ∃ x' F, hasAll T' (I x') ∧ Rems H' (J x') F ∧ μ x' < μ x) Q) (tl (I x)) (J x)) : SW P C N ds (.loop c) Q T H := by
  intro a w ht hh hn hd
  obtain ⟨F, h1, h2⟩ := h0
  let St : Act → World → Prop := fun a w => ∃ x, TSat (tl (I x)) a.tmps ∧ HSat C (J x) w ∧ a.tmps.size = N ∧ a.defers = ds
  let Sx : Act → World → α → Prop := fun a w x => TSat (tl (I x)) a.tmps ∧ HSat C (J x) w ∧ a.tmps.size = N ∧ a.defers = ds
  -- the measure of a state: the least of those of its ghosts
  have key : ∀ (n : Nat) (x : α), μ x = n → ∀ a w, Sx a w x → ∀ (b : Frame) (k : List Item) (cs : List Frame), b.roundOf = (FW C.rd).round → (FW C.rd).fn b.fn → (FW C.rd).room (cs.length + 1 + 0) →
      ∃ e a' w', lift C N ds Q e a' w' ∧ ArrivesIn (Machine.fenced P (FW C.rd)) P (lone (b.atR a (.code c :: .inLoop c :: k)) cs w) b k cs e a' w' := by
    intro n
    induction n using Nat.strongRecOn with
    | _ n ih =>
      intro x hx a w hS b k cs hro hb hr
      obtain ⟨s1, s2, s3, s4⟩ := hS
      obtain ⟨e, a₁, w₁, hq, harr⟩ := round x a w s1 s2 s3 s4 b (.inLoop c :: k) cs hro hb hr
      obtain ⟨T', H', hQ, h3, h4, h5, h6⟩ := hq
      cases e with
      | normal =>
        obtain ⟨x', F', g1, g2, g3⟩ := hQ
        have hwk := Weak.mk' g1 g2
        obtain ⟨e₂, a₂, w₂, hq₂, harr₂⟩ := ih (μ x') (hx ▸ g3) x' rfl a₁ w₁ ⟨hwk.tsat h3, hwk.hsat h4, h5, h6⟩ b k cs hro hb hr
        exact ⟨e₂, a₂, w₂, hq₂, .of_steps (StepsIn.trans harr (.one (fenced_calm hb hr rfl) stepR_inLoop)) harr₂⟩
      | exit id => exact ⟨_, a₁, w₁, ⟨T', H', hQ, h3, h4, h5, h6⟩, .pass (x := .inLoop c) rfl (fun _ _ => .inl (by simp)) harr⟩
      | goto l => exact ⟨_, a₁, w₁, ⟨T', H', hQ, h3, h4, h5, h6⟩, .pass (x := .inLoop c) rfl (fun _ _ => .inl (by simp)) harr⟩
      | ret => exact ⟨_, a₁, w₁, ⟨T', H', hQ, h3, h4, h5, h6⟩, .pass (x := .inLoop c) rfl (fun _ _ => .inl (by simp)) harr⟩
      | panic ch => exact ⟨_, a₁, w₁, ⟨T', H', hQ, h3, h4, h5, h6⟩, .pass (x := .inLoop c) rfl (fun _ _ => .inl (by simp)) harr⟩
      | outgrown => exact ⟨_, a₁, w₁, ⟨T', H', hQ, h3, h4, h5, h6⟩, .pass (x := .inLoop c) rfl (fun _ _ => .inl (by simp)) harr⟩
  have hwk := Weak.mk' h1 h2
  intro b k cs hro hb hr
  obtain ⟨e, a', w', hq, harr⟩ := key _ x0 rfl a w ⟨hwk.tsat ht, hwk.hsat hh, hn, hd⟩ b k cs hro hb hr
  exact ⟨e, a', w', hq, .of_steps (.one (fenced_calm hb hr rfl) stepR_loop) harr⟩

/-- Outside rounds: the plain calculus. -/
theorem SW.plain {c : Code} (hC : C.rd = none) (h : SW P C N ds c Q T H) {a : Act} {w : World} (ht : TSat T a.tmps) (hh : HSat C H w) (hn : a.tmps.size = N) (hd : a.defers = ds) : c.wp P (lift C N ds Q) a w := by
  have := h a w ht hh hn hd
  rw [hC] at this
  exact wpIn_wide.1 this

/-! ### Whole functions -/
inductive ResR (P : Program) (T : Tm) (H : Hp) : ResultVar → Value → Prop
  | tmp {t v} (h : T t = some v) : ResR P T H (.tmp t) v
  | cell {x ty b off a v} (h : T x = some (.pointer (some ⟨b, off, none⟩))) (hm : (b, a) ∈ H) (hv : loadA P ty a off = some v) : ResR P T H (.cell x ty) v

inductive ResL (P : Program) (T : Tm) (H : Hp) : List ResultVar → List Value → Prop
  | nil : ResL P T H [] []
  | cons {r l v vs} (h : ResR P T H r v) (hs : ResL P T H l vs) : ResL P T H (r :: l) (v :: vs)

def tupV : List Value → Value
  | [v] => v
  | l => .tuple l.toArray

def retQ (P : Program) (fn : Func) (R : Value → Hp → Prop) : Post := fun e T H =>
  (e = .normal ∨ e = .ret) ∧ ∃ vs H' F, ResL P T H fn.results.toList vs ∧ Rems H H' F ∧ R (tupV vs) H'

def resSem (a : Array Value) : ResultVar → Sem Value
  | .tmp t => Pure.pure (a.getD t undef)
  | .cell x t => do loadVar t (← asAddr (a.getD x undef))

theorem ResR.run {a : Array Value} {w : World} {r : ResultVar} {v : Value} (h : ResR P T H r v) (ht : TSat T a) (hh : ∀ p ∈ H, Holds w p.1 p.2) : (resSem a r).run P w = .ok v w := by
  cases h with
  | tmp h => have := ht _ _ h; simp [resSem, this]
  | cell h hm hv =>
    have h1 := ht _ _ h
    have h2 := run_loadVar (P := P) (hh _ hm) hv
    simp [resSem, h1, asAddr, h2]

theorem run_results {fn : Func} {a : Array Value} {w : World} {vs : List Value} (h : ResL P T H fn.results.toList vs) (ht : TSat T a) (hh : ∀ p ∈ H, Holds w p.1 p.2) : (results fn a).run P w = .ok (tupV vs) w := by
  have key : ∀ (l : List ResultVar) (vs : List Value) (f : ResultVar → Sem Value), (∀ r ∈ l, ∀ v, ResR P T H r v → (f r).run P w = .ok v w) → ResL P T H l vs → (l.mapM f).run P w = .ok vs w := by
    intro l
    induction l with
    | nil => intro vs f _ h; cases h; simp
    | cons r l ih =>
      intro vs f hf h
      cases h with
      | cons h hs =>
        rw [List.mapM_cons]
        simp [hf r (List.mem_cons_self ..) _ h, ih _ f (fun r hr => hf r (List.mem_cons_of_mem _ hr)) hs]
  unfold results
  rw [Sem.run_bind, ← Array.toArray_toList (xs := fn.results), List.mapM_toArray]
  rw [Sem.run_map, key _ vs _ (fun r _ v hr => by have := ResR.run hr ht hh; cases r <;> exact this) h]
  simp only [Result.andThen_ok, Sem.run_pure]
  congr 1
  cases vs with
  | nil => simp [tupV]
  | cons v vs =>
    cases vs with
    | nil => simp [tupV]
    | cons u vs => simp [tupV]

def argT (args : List Value) : Tm := fun i => args[i]?

theorem OC.of_sw {f : FuncId} {fn : Func} {c : Code} {args : Array Value} {Hc : Hp} {R : Value → Hp → Prop} {N : Nat} (hf : P.funcs[f]? = some fn) (hb : fn.body = some c) (hN : fn.ntmps = N) (ha : args.size ≤ N)
    (h : ∀ C : Ctx, SW P C N [] c (retQ P fn R) (argT args.toList) Hc) : OC P f args Hc R := by
  intro w hw
  refine calls_of_wp hf hb ?_
  subst hN
  refine wp_mono ((h (Ctx.of w Hc)).plain rfl ?_ hw (by simp; omega) rfl) ?_
  · intro i v hv
    simp only [argT] at hv
    have hv' : args[i]? = some v := by simpa using hv
    have hlt := (Array.getElem?_eq_some_iff.1 hv').1
    show (args ++ Array.replicate (fn.ntmps - args.size) undef)[i]? = some v
    rw [Array.getElem?_append_left hlt]; exact hv'
  · rintro e a w' ⟨T, H, ⟨he, vs, H', F, h1, h2, h3⟩, h4, h5, h6, h7⟩
    have hr := run_results h1 h4 h5.heap
    have hh : HSat (Ctx.of w Hc) H' w' := (h5.perm (h2.perm.trans List.perm_append_comm)).sub
    rcases he with rfl | rfl
    · exact ⟨h7, _, hr, _, _, rfl, h3, hh⟩
    · exact ⟨h7, _, hr, _, _, rfl, h3, hh⟩

end Bw
