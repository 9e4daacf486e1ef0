/-
  Plain tools of this repo: calls that may panic; deferred closures that recover.
-/
import Derived.Test.YtlekjgaedligdaaSE
import Derived.Recover
namespace Bw
open Go Go.RowKit

variable {P : Program} {C : Ctx} {ops : Array Oper} {K : Post} {dr : Bool} {i t : Nat} {is : List Nat} {T : Tm} {H : Hp} {log : Log} {ty : TypeId} {ps : String} {af : Array Edge} {gd : Option (Nat × Bool)}

/-! ### Calls that may panic -/
def XC (P : Program) (f : FuncId) (args : Array Value) (Hc : Hp) (R : Value → Hp → Prop) (X : List PanicEntry → Hp → Prop) : Prop :=
  ∀ w, HSat (Ctx.of w Hc) Hc w → Calls P f args w fun e w' => (∃ v H', e = .returned v ∧ R v H' ∧ HSat (Ctx.of w Hc) H' w') ∨ ∃ ch H', e = .panicked ch ∧ X ch H' ∧ HSat (Ctx.of w Hc) H' w'

theorem G.xcall {d : Option Tmp} {xs : List Operand} {tys : Array TypeId} {f : FuncId} {l : List Value} {R : Value → Hp → Prop} {X : List PanicEntry → Hp → Prop} (hw : wantT ops T ⟨d, .call ⟨.value (.func f), xs.toArray, tys⟩, ty, ps, af, gd⟩ = some true)
    (hxs : evL T xs = some l) (hcf : Callable P f) (hc : XC P f l.toArray H R X) (hst : ∀ v H', R v H' → StOk ops (i :: is) H' log) (next : ∀ v H', R v H' → RG dr P C ops K is (updO T d v) H' log)
    (nextp : ∀ ch H', X ch H' → K (.panic ch) (outT ops T) H') :
    RGo ⟨d, .call ⟨.value (.func f), xs.toArray, tys⟩, ty, ps, af, gd⟩ dr P C ops K i is T H log := by
  intro ho
  refine RG.spine _ R ho hw rfl rfl (fun ρ w hρ hh => ?_) ?_ ?_
  · have hxs' : xs.toArray.map ρ = l.toArray := by
      rw [List.map_toArray, evL_spec hxs fun x hx u hu => hρ x (by simp [Op.operands, Call.operands, hx]) u hu]
    have := run_call (ρ := ρ) (o := ⟨d, .call ⟨.value (.func f), xs.toArray, tys⟩, ty, ps, af, gd⟩) (fi := #[]) (ca := #[]) hcf rfl (hρ (.func f) (by simp [Op.operands, Call.operands]) _ rfl) hxs' w
    rw [this]
    have hh' : HSat C (H ++ []) w := by simpa using hh
    simp only [Array.empty_append, Array.append_empty, Came]
    refine Calls.mono (hc w hh'.enter) fun e w' h => ?_
    rcases h with ⟨v, H', rfl, hR, hs⟩ | ⟨ch, H', rfl, hx, hs⟩
    · exact .inl ⟨v, _, rfl, hR, by simpa using hh'.leave hs⟩
    · exact .inr ⟨ch, _, rfl, nextp _ _ hx, by simpa using hh'.leave hs⟩
  · rintro u H1 hR e he _; exact (hst u H1 hR).spec e he
  · intro u H1 hR; exact next u H1 hR

theorem G.panic {x : Operand} {it : TypeId} {v : Value} (hw : wantT ops T ⟨none, .panic x, ty, ps, af, gd⟩ = some true) (hx : ev T x = some (.iface it v))
    (nextp : K (.panic [{ v := .iface it v, recovered := false }]) (outT ops T) H) : RGo ⟨none, .panic x, ty, ps, af, gd⟩ dr P C ops K i is T H log := by
  intro ho
  refine RG.spine _ (fun _ _ => False) ho hw rfl rfl (fun ρ w hρ hh => ?_) (fun _ _ h => h.elim) (fun _ _ h => h.elim)
  have h1 := hρ x (by simp [Op.operands]) _ hx
  have h2 : (execOp ρ ⟨none, .panic x, ty, ps, af, gd⟩).run P w = .halt (.panic (.iface it v)) w := by
    simp only [execOp, h1, Instr.panic, goPanic]; rfl
  rw [h2]
  exact ⟨H, nextp, hh⟩

/-! ### Ways out by a panic -/
variable {N : Nat} {ds : List Deferred} {Q : Post} {KQ : Tm → Hp → Prop} {id id' : Nat} {ch : List PanicEntry}
theorem Q.tp (h : Q (.panic ch) T H) : thenQ KQ Q (.panic ch) T H := h
theorem Q.bp (h : Q (.panic ch) T H) : blockQ id Q (.panic ch) T H := h

def xretQ (P : Program) (fn : Func) (R : Value → Hp → Prop) (X : List PanicEntry → Hp → Prop) : Post := fun e T H =>
  retQ P fn R e T H ∨ ∃ ch H' F, e = .panic ch ∧ Rems H H' F ∧ X ch H'
theorem Q.xr {fn : Func} {R : Value → Hp → Prop} {X : List PanicEntry → Hp → Prop} {e : Exit} (h : retQ P fn R e T H) : xretQ P fn R X e T H := .inl h
theorem Q.xp {fn : Func} {R : Value → Hp → Prop} {X : List PanicEntry → Hp → Prop} {H' F : Hp} (h1 : Rems H H' F) (h2 : X ch H') : xretQ P fn R X (.panic ch) T H := .inr ⟨ch, H', F, rfl, h1, h2⟩

theorem act0_size {args : Array Value} {N : Nat} (ha : args.size ≤ N) : (args ++ Array.replicate (N - args.size) undef).size = N := by simp; omega
theorem act0_tsat {args : Array Value} {N : Nat} : TSat (argT args.toList) (args ++ Array.replicate (N - args.size) undef) := by
  intro i v hv
  simp only [argT] at hv
  have hv' : args[i]? = some v := by simpa using hv
  have hlt := (Array.getElem?_eq_some_iff.1 hv').1
  rw [Array.getElem?_append_left hlt]; exact hv'

theorem rems_sat {w : World} {H' F : Hp} (hh : HSat C H w) (h : Rems H H' F) : HSat C H' w := (hh.perm (h.perm.trans List.perm_append_comm)).sub

theorem XC.of_sw {f : FuncId} {fn : Func} {c : Code} {args : Array Value} {Hc : Hp} {R : Value → Hp → Prop} {X : List PanicEntry → Hp → Prop} {N : Nat} (hf : P.funcs[f]? = some fn) (hb : fn.body = some c) (hN : fn.ntmps = N) (ha : args.size ≤ N)
    (h : ∀ C : Ctx, SW P C N [] c (xretQ P fn R X) (argT args.toList) Hc) : XC P f args Hc R X := by
  intro w hw
  refine calls_of_wp hf hb ?_
  subst hN
  refine wp_mono ((h (Ctx.of w Hc)).plain rfl act0_tsat hw (act0_size ha) rfl) ?_
  rintro e a w' ⟨T, H, h0 | ⟨ch, H', F, rfl, h1, h2⟩, h4, h5, h6, h7⟩
  · obtain ⟨he, vs, H', F, h1, h2, h3⟩ := h0
    have hr := run_results h1 h4 h5.heap
    have hh := rems_sat h5 h2
    rcases he with rfl | rfl
    · exact ⟨h7, _, hr, .inl ⟨_, _, rfl, h3, hh⟩⟩
    · exact ⟨h7, _, hr, .inl ⟨_, _, rfl, h3, hh⟩⟩
  · exact ⟨h7, .inr ⟨_, _, rfl, h2, rems_sat h5 h1⟩⟩

/-! ### A deferred closure that recovers -/
def CD (P : Program) (f : FuncId) (args : Array Value) (u u' : FrameMode) (H H1 : Hp) : Prop :=
  ∀ w, HSat (Ctx.of w H) H w → CallsD P f args u w fun e u'' w' => u'' = u' ∧ ∃ v, e = .returned v ∧ HSat (Ctx.of w H) H1 w'

def cdQ (H1 : Hp) : Post := fun e _ H => (e = .normal ∨ e = .ret) ∧ ∃ F, Rems H H1 F
theorem Q.cdn {H1 F : Hp} (h : Rems H H1 F) : cdQ H1 .normal T H := ⟨.inl rfl, F, h⟩
theorem Q.cdr {H1 F : Hp} (h : Rems H H1 F) : cdQ H1 .ret T H := ⟨.inr rfl, F, h⟩

/-- Which modes a recover meets, and what it gives. -/
inductive Met : FrameMode → FrameMode → Value → Prop
  | back : Met .returning .returning .nilIface
  | caught {pv} : Met (.panicking [{ v := pv, recovered := false }]) (.panicking [{ v := pv, recovered := true }]) pv

theorem CD.of_sw {f : FuncId} {fn : Func} {rest : Code} {args : Array Value} {u u' : FrameMode} {rv : Value} {H1 : Hp} {N id t : Nat} {ty : TypeId} {ps : String} {af : Array Edge} (hf : P.funcs[f]? = some fn)
    (hb : fn.body = some (.seq (.region id #[⟨some t, .call ⟨.builtin .recover, #[], #[]⟩, ty, ps, af, none⟩] false) rest)) (hN : fn.ntmps = N) (ha : args.size ≤ N) (hr : fn.results = #[]) (ht : t < N) (hm : Met u u' rv)
    (h : ∀ C : Ctx, SW P C N [] rest (cdQ H1) (upd (argT args.toList) t rv) H) : CD P f args u u' H H1 := by
  intro w hw
  refine callsD_of_wpS hf hb fun c₀ cs hc => ?_
  subst hN
  refine wpS_seq (wpS_region ?_)
  have hexec : ∀ (a : Act), (execOp a.eval (⟨some t, .call ⟨.builtin .recover, #[], #[]⟩, ty, ps, af, none⟩ : Oper)).run P w = .ok .recover w := fun a => rfl
  have key : ∀ (c1 : Frame), c1 = { c₀ with mode := u' } → wpOpsS P #[⟨some t, .call ⟨.builtin .recover, #[], #[]⟩, ty, ps, af, none⟩] (Exit.thenS (rest.wpS P (bodyPostS P fn c₀ cs fun e u'' w' => u'' = u' ∧ ∃ v, e = .returned v ∧ HSat (Ctx.of w H) H1 w')) (bodyPostS P fn c₀ cs fun e u'' w' => u'' = u' ∧ ∃ v, e = .returned v ∧ HSat (Ctx.of w H) H1 w')) []
      (({ tmps := args ++ Array.replicate (fn.ntmps - args.size) undef, defers := [] } : Act).put (some t) rv) (c1 :: cs) w := by
    intro c1 hc1
    subst hc1
    simp only [wpOpsS, Exit.thenS]
    refine wpS_of_wp (wp_mono ((h (Ctx.of w H)).plain rfl ?_ hw ?_ rfl) ?_)
    · exact (act0_tsat (N := fn.ntmps)).put (a := { tmps := args ++ Array.replicate (fn.ntmps - args.size) undef, defers := [] }) (d := some t) (v := rv) fun t' e => by cases e; rw [act0_size ha]; exact ht
    · rw [Act.put_size]; exact act0_size ha
    · rintro e a w' ⟨T', H', ⟨he, F, hF⟩, h4, h5, h6, h7⟩
      have hres : (results fn a.tmps).run P w' = .ok (.tuple #[]) w' := by unfold results; simp [hr]
      rcases he with rfl | rfl
      · exact ⟨h7, _, rfl, _, hres, rfl, _, rfl, rems_sat h5 hF⟩
      · exact ⟨h7, _, rfl, _, hres, rfl, _, rfl, rems_sat h5 hF⟩
  cases hm with
  | back =>
    have hrec : recoverD (c₀ :: cs) = none := by simp [recoverD, hc]
    have k := key c₀ (by rw [← hc])
    show wpOpsS P _ _ [0] _ _ _
    rw [wpOpsS]
    simp only [List.getElem?_toArray, List.getElem?_cons_zero, Region.wanted, if_true, hexec, hrec]
    exact k
  | caught =>
    have hrec : recoverD (c₀ :: cs) = some (rv, { c₀ with mode := .panicking [{ v := rv, recovered := true }] } :: cs) := by simp [recoverD, hc]
    have k := key _ rfl
    show wpOpsS P _ _ [0] _ _ _
    rw [wpOpsS]
    simp only [List.getElem?_toArray, List.getElem?_cons_zero, Region.wanted, if_true, hexec, hrec]
    exact k

/-! ### Functions that defer such a closure -/
def DW (P : Program) (C : Ctx) (N : Nat) (c : Code) (Q : Exit → Act → World → Prop) (T : Tm) (H : Hp) : Prop :=
  ∀ a w, TSat T a.tmps → HSat C H w → a.tmps.size = N → a.defers = [] → c.wp P Q a w

def dwQ (P : Program) (C : Ctx) (N : Nat) (y : Code) (Q : Exit → Act → World → Prop) : Post := fun e T H => e = .normal ∧ DW P C N y Q T H
theorem Q.dw {y : Code} {QA : Exit → Act → World → Prop} (h : DW P C N y QA T H) : dwQ P C N y QA .normal T H := ⟨rfl, h⟩

theorem DW.seq {x y : Code} {QA : Exit → Act → World → Prop} (hC : C.rd = none) (h : SW P C N [] x (dwQ P C N y QA) T H) : DW P C N (.seq x y) QA T H := by
  intro a w ht hh hn hd
  refine wp_seq (wp_mono (h.plain hC ht hh hn hd) ?_)
  rintro e a' w' ⟨T', H', ⟨rfl, hq⟩, h1, h2, h3, h4⟩
  exact hq a' w' h1 h2 h3 h4

theorem DW.defer {id t g : Nat} {caps : List Operand} {l : List Value} {ty1 ty2 : TypeId} {ps1 ps2 : String} {af1 af2 : Array Edge} {rest : Code} {Qr : Post} {QA : Exit → Act → World → Prop} (hC : C.rd = none) (hc : evL T caps = some l) (htN : t < N)
    (h : SW P C N [⟨.fn (.func g) l.toArray, #[]⟩] rest Qr (upd T t (.func (.func g) #[] l.toArray)) H)
    (hq : ∀ e a w T H, Qr e T H → TSat T a.tmps → HSat C H w → a.tmps.size = N → a.defers = [⟨.fn (.func g) l.toArray, #[]⟩] → QA e a w) :
    DW P C N (.seq (.region id #[⟨some t, .makeFunc (.func g) #[] caps.toArray, ty1, ps1, af1, none⟩, ⟨none, .defer ⟨.value (.tmp t), #[], #[]⟩, ty2, ps2, af2, none⟩] false) rest) QA T H := by
  intro a w ht hh hn hd
  refine wp_seq (wp_region ?_)
  have e1 : caps.toArray.map a.eval = l.toArray := by
    rw [List.map_toArray, evL_spec hc fun x _ u hu => ht.eval hu]
  have r1 : (execOp a.eval (⟨some t, .makeFunc (.func g) #[] caps.toArray, ty1, ps1, af1, none⟩ : Oper)).run P w = .ok (.value (.func (.func g) #[] l.toArray)) w := by
    simp [execOp, Instr.makeFunc, e1]
  have ht1 : TSat (upd T t (.func (.func g) #[] l.toArray)) (a.put (some t) (.func (.func g) #[] l.toArray)).tmps := ht.put (d := some t) fun t' e => by cases e; rw [hn]; exact htN
  have e2 : (a.put (some t) (.func (.func g) #[] l.toArray)).eval (.tmp t) = .func (.func g) #[] l.toArray := ht1.eval (by simp [ev, upd])
  have r2 : (execOp (a.put (some t) (.func (.func g) #[] l.toArray)).eval (⟨none, .defer ⟨.value (.tmp t), #[], #[]⟩, ty2, ps2, af2, none⟩ : Oper)).run P w = .ok (.defer ⟨.fn (.func g) l.toArray, #[]⟩) w := by
    simp [execOp, resolve, e2, Deferred.ofValue]
  show wpOps P _ _ [0, 1] a w
  rw [wpOps_cons]
  unfold wpOp
  simp only [List.getElem?_toArray, List.getElem?_cons_zero, Region.wanted, if_true]
  refine .inl ?_
  unfold Oper.wp
  rw [r1]
  simp only [Oper.upon_value]
  rw [wpOps_cons]
  unfold wpOp
  simp only [List.getElem?_toArray, List.getElem?_cons_succ, List.getElem?_cons_zero, Region.wanted, if_true]
  refine .inl ?_
  unfold Oper.wp
  rw [r2]
  simp only [Oper.upon_defer, wpOps]
  refine wp_mono (h.plain hC ?_ hh ?_ ?_) ?_
  · exact ht1
  · show (a.put (some t) _).tmps.size = N
    exact (Act.put_size ..).trans hn
  · show _ :: (a.put (some t) _).defers = _
    rw [Act.put_ds, hd]
  · rintro e a' w' ⟨T', H', hQ, h1, h2, h3, h4⟩
    exact hq e a' w' T' H' hQ h1 h2 h3 h4

/-- The end of a function with a closure deferred that recovers. -/
def dretQ (P : Program) (fn : Func) (g : FuncId) (l : List Value) (R : Value → Hp → Prop) : Post := fun e T H =>
  ((e = .normal ∨ e = .ret) ∧ CD P g l.toArray .returning .returning H H ∧ ∃ vs H' F, ResL P T H fn.results.toList vs ∧ Rems H H' F ∧ R (tupV vs) H') ∨
  ∃ pv H1, e = .panic [{ v := pv, recovered := false }] ∧ CD P g l.toArray (.panicking [{ v := pv, recovered := false }]) (.panicking [{ v := pv, recovered := true }]) H H1 ∧ ∃ vs H' F, ResL P T H1 fn.results.toList vs ∧ Rems H1 H' F ∧ R (tupV vs) H'

theorem Q.dfr {fn : Func} {g : FuncId} {l vs : List Value} {R : Value → Hp → Prop} {H' F : Hp} (hc : CD P g l.toArray .returning .returning H H) (h1 : ResL P T H fn.results.toList vs) (h2 : Rems H H' F) (h3 : R (tupV vs) H') : dretQ P fn g l R .ret T H :=
  .inl ⟨.inr rfl, hc, vs, H', F, h1, h2, h3⟩
theorem Q.dfp {fn : Func} {g : FuncId} {l vs : List Value} {R : Value → Hp → Prop} {pv : Value} {H1 H' F : Hp} (hc : CD P g l.toArray (.panicking [{ v := pv, recovered := false }]) (.panicking [{ v := pv, recovered := true }]) H H1)
    (h1 : ResL P T H1 fn.results.toList vs) (h2 : Rems H1 H' F) (h3 : R (tupV vs) H') : dretQ P fn g l R (.panic [{ v := pv, recovered := false }]) T H :=
  .inr ⟨pv, H1, rfl, hc, vs, H', F, h1, h2, h3⟩

def dwS (P : Program) (C : Ctx) (N t g : Nat) (caps : List Operand) (rest : Code) (fn : Func) (R : Value → Hp → Prop) : Post := fun e T H =>
  e = .normal ∧ ∃ l, evL T caps = some l ∧ SW P C N [⟨.fn (.func g) l.toArray, #[]⟩] rest (dretQ P fn g l R) (upd T t (.func (.func g) #[] l.toArray)) H
theorem Q.dws {t g : Nat} {caps : List Operand} {rest : Code} {fn : Func} {R : Value → Hp → Prop} {l : List Value} (hl : evL T caps = some l) (h : SW P C N [⟨.fn (.func g) l.toArray, #[]⟩] rest (dretQ P fn g l R) (upd T t (.func (.func g) #[] l.toArray)) H) :
    dwS P C N t g caps rest fn R .normal T H := ⟨rfl, l, hl, h⟩

theorem OC.of_dw {f : FuncId} {fn : Func} {x : Code} {id t g : Nat} {caps : List Operand} {ty1 ty2 : TypeId} {ps1 ps2 : String} {af1 af2 : Array Edge} {rest : Code} {args : Array Value} {Hc : Hp} {R : Value → Hp → Prop} {N : Nat} (hf : P.funcs[f]? = some fn)
    (hb : fn.body = some (.seq x (.seq (.region id #[⟨some t, .makeFunc (.func g) #[] caps.toArray, ty1, ps1, af1, none⟩, ⟨none, .defer ⟨.value (.tmp t), #[], #[]⟩, ty2, ps2, af2, none⟩] false) rest))) (hN : fn.ntmps = N) (ha : args.size ≤ N) (htN : t < N) (hcf : Callable P g)
    (h : ∀ C : Ctx, SW P C N [] x (dwS P C N t g caps rest fn R) (argT args.toList) Hc) : OC P f args Hc R := by
  intro w hw
  refine calls_of_wp_defers hf hb ?_
  subst hN
  refine DW.seq (C := Ctx.of w Hc) (N := fn.ntmps) (T := argT args.toList) (H := Hc) rfl ?_ _ w act0_tsat hw (act0_size ha) rfl
  intro a w1 g1 g2 g3 g4
  refine wpIn_mono (h (Ctx.of w Hc) a w1 g1 g2 g3 g4) ?_
  rintro e a' w' ⟨T', H', ⟨rfl, l, hl, hsw⟩, k1, k2, k3, k4⟩
  refine ⟨T', H', ⟨rfl, ?_⟩, k1, k2, k3, k4⟩
  refine DW.defer rfl hl htN hsw ?_
  intro e a w2 T2 H2 hq ht hh hn hd
  have hinv : (invoke (.fn (.func g) l.toArray) #[]).run P w2 = .ok (.enter g l.toArray) w2 := by
    simp only [invoke, Array.empty_append]; exact hcf _ _
  rcases hq with ⟨he, hc, vs, H3, F, h1, h2, h3⟩ | ⟨pv, H1, rfl, hc, vs, H3, F, h1, h2, h3⟩
  · have hL : Leaves P fn a.tmps (fun e w' => ∃ v H', e = .returned v ∧ R v H' ∧ HSat (Ctx.of w Hc) H' w') a.defers .returning w2 := by
      rw [hd]
      refine leaves_cons (by simp) hinv ?_
      have hh' : HSat (Ctx.of w Hc) (H2 ++ []) w2 := by simpa using hh
      refine CallsD.mono (hc w2 hh'.enter) ?_
      rintro e u' w3 ⟨rfl, v, rfl, h5⟩
      have h6 : HSat (Ctx.of w Hc) H2 w3 := by simpa using hh'.leave h5
      exact ⟨_, run_results h1 ht h6.heap, _, _, rfl, h3, rems_sat h6 h2⟩
    rcases he with rfl | rfl
    · exact hL
    · exact hL
  · show Leaves P fn a.tmps _ a.defers _ w2
    rw [hd]
    refine leaves_cons (by simp) hinv ?_
    have hh' : HSat (Ctx.of w Hc) (H2 ++ []) w2 := by simpa using hh
    refine CallsD.mono (hc w2 hh'.enter) ?_
    rintro e u' w3 ⟨rfl, v, rfl, h5⟩
    have h6 : HSat (Ctx.of w Hc) H1 w3 := by simpa using hh'.leave h5
    exact ⟨_, run_results h1 ht h6.heap, _, _, rfl, h3, rems_sat h6 h2⟩

end Bw
