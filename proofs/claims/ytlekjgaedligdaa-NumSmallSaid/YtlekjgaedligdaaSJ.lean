/-
  Plain tools of this repo: ranges over functions.
-/
import Derived.Test.YtlekjgaedligdaaSI
import Derived.RangeFuncRecord
namespace Bw
open Go Go.RowKit

variable {P : Program} {C : Ctx} {ops : Array Oper} {K : Post} {dr : Bool} {i t : Nat} {is : List Nat} {T : Tm} {H : Hp} {log : Log} {ty : TypeId} {ps : String} {af : Array Edge} {gd : Option (Nat × Bool)}
variable {N : Nat} {ds : List Deferred} {Q : Post}

theorem HSat.putObj {w : World} {b : Nat} {o o' : Obj} {F : Hp} (h : HSat C ((b, .obj o) :: F) w) : HSat C ((b, .obj o') :: F) (w.putObj b o') := by
  have hb : w.heap[b]? = some o := h.heap _ (List.mem_cons_self ..)
  have hlt : b < w.heap.size := (Array.getElem?_eq_some_iff.1 hb).1
  exact h.wrote rfl (World.putObj_heap_same hlt) ⟨rfl, rfl, rfl, World.putObj_size, fun k hk => World.putObj_heap_other hk⟩

/-! ### A call of yield -/
def YR (P : Program) (l : Nat) (args : Array Value) (Hc : Hp) (R : Value → Hp → Prop) : Prop :=
  ∀ w, HSat (Ctx.of w Hc) Hc w → ∃ f tmps as bo, (Instr.yield l args).run P w = .ok (.round l f tmps as bo) w ∧
    RoundIn (FW none) 0 P l f tmps as bo w fun e w' => ∃ v H', e = .returned v ∧ R v H' ∧ HSat (Ctx.of w Hc) H' w'

theorem G.ycall {y : Operand} {xs : List Operand} {tys : Array TypeId} {l : Nat} {args : List Value} {Hc F : Hp} {R : Value → Hp → Prop} (hw : wantT ops T ⟨some t, .call ⟨.value y, xs.toArray, tys⟩, ty, ps, af, gd⟩ = some true)
    (hy : ev T y = some (.func (.yield l) #[] #[])) (hxs : evL T xs = some args) (hc : YR P l args.toArray Hc R) (hrem : Rems H Hc F) (hst : ∀ v H', R v H' → StOk ops (i :: is) (H' ++ F) log)
    (next : ∀ v H', R v H' → RG dr P C ops K is (upd T t v) (H' ++ F) log) :
    RGo ⟨some t, .call ⟨.value y, xs.toArray, tys⟩, ty, ps, af, gd⟩ dr P C ops K i is T H log := by
  intro ho
  refine RG.spine _ (fun v H1 => ∃ H', R v H' ∧ H1 = H' ++ F) ho hw rfl rfl (fun ρ w hρ hh => ?_) ?_ ?_
  · have hxs' : xs.toArray.map ρ = args.toArray := by
      rw [List.map_toArray, evL_spec hxs fun x hx u hu => hρ x (by simp [Op.operands, Call.operands, hx]) u hu]
    have hy' : ρ y = .func (.yield l) #[] #[] := hρ y (by simp [Op.operands, Call.operands]) _ hy
    have hh' := hh.perm hrem.perm
    obtain ⟨f, tmps, as, bo, h1, h2⟩ := hc w hh'.enter
    have hrun : (execOp ρ (⟨some t, .call ⟨.value y, xs.toArray, tys⟩, ty, ps, af, gd⟩ : Oper)).run P w = .ok (.round l f tmps as bo) w := by
      simp only [execOp, resolve, hxs', hy', Deferred.ofValue, Sem.run_bind, Sem.run_pure, Result.andThen_ok, invoke, Array.empty_append, h1]
    rw [hrun]
    refine RoundIn.mono h2 fun e w' h => ?_
    obtain ⟨v, H', rfl, hR, hs⟩ := h
    exact .inl ⟨v, _, rfl, ⟨H', hR, rfl⟩, hh'.leave hs⟩
  · rintro u H1 ⟨H', hR, rfl⟩ e he _; exact (hst u H' hR).spec e he
  · rintro u H1 ⟨H', hR, rfl⟩; exact next u H' hR

/-! ### A round -/
def updL (T : Tm) : List (Nat × Value) → Tm
  | [] => T
  | (d, v) :: l => updL (upd T d v) l

theorem TSat.updL {N : Nat} : ∀ {l : List (Nat × Value)} {T : Tm} {a : Array Value}, TSat T a → a.size = N → (∀ p ∈ l, p.1 < N) → TSat (Bw.updL T l) (l.foldl (fun tm (p : Nat × Value) => tm.setIfInBounds p.1 p.2) a) ∧ (l.foldl (fun tm (p : Nat × Value) => tm.setIfInBounds p.1 p.2) a).size = N
  | [], T, a, h, hn, _ => ⟨h, hn⟩
  | (d, v) :: l, T, a, h, hn, hl => by
    have hd : d < a.size := by rw [hn]; exact hl (d, v) (List.mem_cons_self ..)
    have h1 : TSat (upd T d v) (a.setIfInBounds d v) := by
      have := TSat.put (a := { tmps := a, defers := [] }) h (d := some d) (v := v) fun t e => by cases e; exact hd
      simpa [updO, Act.put] using this
    exact TSat.updL (l := l) (T := upd T d v) (a := a.setIfInBounds d v) h1 (by simpa using hn) fun p hp => hl p (List.mem_cons_of_mem _ hp)

def Loop.busy (r : Loop) : Loop := { r with state := .busy }
def Loop.next (r : Loop) : Loop := { r with state := .ready, pending := none }
def Loop.left (r : Loop) (c : Code) : Loop := { r with state := .done, pending := some c }

/-- How a round ends. -/
def roundQ (l : Nat) (r : Loop) (R : Value → Hp → Prop) : Post := fun e _ H =>
  (e = .normal ∧ ∃ F H' G, Rem H (l, .obj (.loop (Loop.busy r))) F ∧ Rems ((l, .obj (.loop (Loop.next r))) :: F) H' G ∧ R (.bool true) H') ∨
  (e = .ret ∧ ∃ F H' G, Rem H (l, .obj (.loop (Loop.busy r))) F ∧ Rems ((l, .obj (.loop (Loop.left r .ret))) :: F) H' G ∧ R (.bool false) H')
theorem Q.rdn {l : Nat} {r : Loop} {R : Value → Hp → Prop} {F H' G : Hp} (h1 : Rem H (l, .obj (.loop (Loop.busy r))) F) (h2 : Rems ((l, .obj (.loop (Loop.next r))) :: F) H' G) (h3 : R (.bool true) H') : roundQ l r R .normal T H := .inl ⟨rfl, F, H', G, h1, h2, h3⟩
theorem Q.rdr {l : Nat} {r : Loop} {R : Value → Hp → Prop} {F H' G : Hp} (h1 : Rem H (l, .obj (.loop (Loop.busy r))) F) (h2 : Rems ((l, .obj (.loop (Loop.left r .ret))) :: F) H' G) (h3 : R (.bool false) H') : roundQ l r R .ret T H := .inr ⟨rfl, F, H', G, h1, h2, h3⟩

/-- Behind the assignments: the record, then the body. -/
def asgQ (P : Program) (C : Ctx) (N l : Nat) (r : Loop) (bo : Code) (R : Value → Hp → Prop) : Post := fun e T H =>
  e = .normal ∧ ∃ F, Rem H (l, .obj (.loop r)) F ∧ SW P C N [] bo (roundQ l r R) T ((l, .obj (.loop (Loop.busy r))) :: F)
theorem Q.asg {l : Nat} {r : Loop} {bo : Code} {R : Value → Hp → Prop} {F : Hp} (h1 : Rem H (l, .obj (.loop r)) F) (h2 : SW P C N [] bo (roundQ l r R) T ((l, .obj (.loop (Loop.busy r))) :: F)) : asgQ P C N l r bo R .normal T H := ⟨rfl, F, h1, h2⟩

theorem YR.of_sw {l : Nat} {r : Loop} {args : List Value} {Hc F0 : Hp} {R : Value → Hp → Prop} {as bo : Code} {pl : List Nat} (hmem : Rem Hc (l, .obj (.loop r)) F0) (hready : r.state = .ready) (hp : r.params = pl.toArray) (has : r.assign = as) (hbo : r.body = bo)
    (hlen : args.length = pl.length) (hN : r.tmps.size = N) (hT : TSat T r.tmps) (hlt : ∀ p ∈ pl, p < N)
    (h : ∀ C : Ctx, C.rd = some l → SW P C N [] as (asgQ P C N l r bo R) (updL T (pl.zip args)) Hc) : YR P l args.toArray Hc R := by
  intro w hw
  have hl : w.heap[l]? = some (.loop r) := hw.heap (l, .obj (.loop r)) (hmem.perm.mem_iff.2 (List.mem_cons_self ..))
  refine ⟨_, _, _, _, run_yield hl (by rw [hp]; simpa using hlen), ?_⟩
  refine roundIn_of_wpIn trivial ?_
  have hC : (Ctx.inRound (Ctx.of w Hc) l).rd = some l := rfl
  have hfold : ((r.params.zip args.toArray).foldl (fun tmps (x : Tmp × Value) => match x with | (t, a) => tmps.setIfInBounds t a) r.tmps) = (pl.zip args).foldl (fun tm (p : Nat × Value) => tm.setIfInBounds p.1 p.2) r.tmps := by
    rw [hp, List.zip_toArray, ← Array.foldl_toList]
  have hts := TSat.updL (l := pl.zip args) hT hN (fun p hp' => hlt p.1 (List.of_mem_zip hp').1)
  have hsw := h _ hC { tmps := (pl.zip args).foldl (fun tm (p : Nat × Value) => tm.setIfInBounds p.1 p.2) r.tmps, defers := [] } w hts.1 (hw.inRound l) hts.2 rfl
  rw [hfold, has, hbo]
  refine wpIn_mono hsw ?_
  rintro e a w1 ⟨T1, H1, ⟨rfl, F, hF, hbody⟩, k1, k2, k3, k4⟩
  have hh1 : HSat (Ctx.of w Hc) ((l, .obj (.loop r)) :: F) w1 := (HSat.outRound k2).perm hF.perm
  have hl1 : w1.heap[l]? = some (.loop r) := hh1.heap _ (List.mem_cons_self ..)
  refine ⟨_, run_beginRound hl1 hready, ?_⟩
  have hh2 : HSat (Ctx.of w Hc) ((l, .obj (.loop (Loop.busy r))) :: F) (w1.putObj l (.loop (Loop.busy r))) := hh1.putObj
  refine wpIn_mono (hbody a _ k1 (hh2.inRound l) k3 k4) ?_
  rintro e a2 w2 ⟨T2, H2, hq, g1, g2, g3, g4⟩
  rcases hq with ⟨rfl, F2, H', G2, q1, q2, q3⟩ | ⟨rfl, F2, H', G2, q1, q2, q3⟩
  · have hh3 : HSat (Ctx.of w Hc) ((l, .obj (.loop (Loop.busy r))) :: F2) w2 := (HSat.outRound g2).perm q1.perm
    have hl3 : w2.heap[l]? = some (.loop (Loop.busy r)) := hh3.heap _ (List.mem_cons_self ..)
    refine ⟨_, _, run_endRound none hl3, _, H', rfl, q3, ?_⟩
    exact rems_sat (hh3.putObj (o' := .loop (Loop.next r))) q2
  · have hh3 : HSat (Ctx.of w Hc) ((l, .obj (.loop (Loop.busy r))) :: F2) w2 := (HSat.outRound g2).perm q1.perm
    have hl3 : w2.heap[l]? = some (.loop (Loop.busy r)) := hh3.heap _ (List.mem_cons_self ..)
    refine ⟨_, _, run_endRound (some .ret) hl3, _, H', rfl, q3, ?_⟩
    exact rems_sat (hh3.putObj (o' := .loop (Loop.left r .ret))) q2

/-! ### The statement, and the function around it -/
def MW (P : Program) (C : Ctx) (N : Nat) (c : Code) (Q : Exit → Act → World → Prop) (T : Tm) (H : Hp) : Prop :=
  ∀ a w, TSat T a.tmps → HSat C H w → a.tmps.size = N → a.defers = [] → c.wpIn (FW none) 0 P Q a w
def mwQ (P : Program) (C : Ctx) (N : Nat) (y : Code) (Q : Exit → Act → World → Prop) : Post := fun e T H => e = .normal ∧ MW P C N y Q T H
theorem Q.mw {y : Code} {QA : Exit → Act → World → Prop} (h : MW P C N y QA T H) : mwQ P C N y QA .normal T H := ⟨rfl, h⟩
theorem MW.seq {x y : Code} {QA : Exit → Act → World → Prop} (hC : C.rd = none) (h : SW P C N [] x (mwQ P C N y QA) T H) : MW P C N (.seq x y) QA T H := by
  intro a w ht hh hn hd
  have h0 := h a w ht hh hn hd
  rw [hC] at h0
  refine wpIn_seq (wpIn_mono h0 ?_)
  rintro e a' w' ⟨T', H', ⟨rfl, hq⟩, h1, h2, h3, h4⟩
  exact hq a' w' h1 h2 h3 h4

def mark (D : Nat) : List Deferred := [{ target := .collected D, args := #[] }]

/-- The end of a function around such a loop. -/
def mretQ (P : Program) (fn : Func) (D : Nat) (R : Value → Hp → Prop) : Post := fun e T H =>
  (e = .normal ∨ e = .ret) ∧ ∃ F0 vs H' F, Rem H (D, .obj (.deferred (some []))) F0 ∧ ResL P T F0 fn.results.toList vs ∧ Rems F0 H' F ∧ R (tupV vs) H'
theorem Q.mr {fn : Func} {D : Nat} {R : Value → Hp → Prop} {F0 H' F : Hp} {vs : List Value} (h0 : Rem H (D, .obj (.deferred (some []))) F0) (h1 : ResL P T F0 fn.results.toList vs) (h2 : Rems F0 H' F) (h3 : R (tupV vs) H') : mretQ P fn D R .ret T H := ⟨.inr rfl, F0, vs, H', F, h0, h1, h2, h3⟩

/-- What the function that is ranged over leaves. -/
def ranQ (P : Program) (C : Ctx) (N l D : Nat) (rest : Code) (T : Tm) (Qr : Post) : Value → Hp → Prop := fun _ H' =>
  ∃ r' F, Rem H' (l, .obj (.loop r')) F ∧ r'.state ≠ .busy ∧ ((r'.pending = none ∧ SW P C N (mark D) rest Qr T F) ∨ (r'.pending = some .ret ∧ Qr .ret T F))

theorem MW.range {id : Nat} {g : Operand} {pl : Array Tmp} {as bo rest : Code} {gf : FuncId} {lb : List Value} {fn : Func} {R : Value → Hp → Prop} {w0 : World} {Hc : Hp} (hC : C = Ctx.of w0 Hc) (hg : ev T g = some (.func (.func gf) #[] lb.toArray)) (hcf : Callable P gf)
    (h : ∀ (l D : Nat) (r : Loop), r.state = .ready → r.pending = none → r.params = pl → r.assign = as → r.body = bo → r.tmps.size = N → TSat T r.tmps →
      OC P gf (#[.func (.yield l) #[] #[]] ++ lb.toArray) ((l, .obj (.loop r)) :: (D, .obj (.deferred (some []))) :: H) (ranQ P C N l D rest T (mretQ P fn D R))) :
    MW P C N (.seq (.block id (.rangeFunc g pl as bo)) rest) (bodyPostM (FW none) 0 P fn fun e w' => ∃ v H', e = .returned v ∧ R v H' ∧ HSat (Ctx.of w0 Hc) H' w') T H := by
  subst hC
  intro a w ht hh hn hd
  have fin : ∀ (D : Nat) (e : Exit) (a' : Act) (w' : World), lift (Ctx.of w0 Hc) N (mark D) (mretQ P fn D R) e a' w' → bodyPostM (FW none) 0 P fn (fun e w' => ∃ v H', e = .returned v ∧ R v H' ∧ HSat (Ctx.of w0 Hc) H' w') e a' w' := by
    rintro D e a' w' ⟨T', H', ⟨he, F0, vs, H2, F, h0, h1, h2, h3⟩, k1, k2, k3, k4⟩
    have hh0 := k2.perm h0.perm
    have hD : w'.heap[D]? = some (.deferred (some [])) := hh0.heap _ (List.mem_cons_self ..)
    have hh1 : HSat (Ctx.of w0 Hc) ((D, .obj (.deferred none)) :: F0) (w'.putObj D (.deferred none)) := hh0.putObj
    have hhF : HSat (Ctx.of w0 Hc) F0 (w'.putObj D (.deferred none)) := HSat.sub (H' := [(D, .obj (.deferred none))]) hh1
    have hL : LeavesInM (FW none) 0 P fn a'.tmps (fun e w' => ∃ v H', e = .returned v ∧ R v H' ∧ HSat (Ctx.of w0 Hc) H' w') a'.defers .returning w' := by
      rw [k4]
      exact ⟨by simp, .inl ⟨D, _, rfl, run_takeDeferred hD, _, run_results h1 k1 hhF.heap, _, _, rfl, h3, rems_sat hhF h2⟩⟩
    rcases he with rfl | rfl
    · exact hL
    · exact hL
  refine wpIn_seq (wpIn_block (wpIn_rangeFunc fun fnid _ => ?_))
  obtain ⟨w1, hw1⟩ : ∃ w1 : World, w1 = (w.alloc (.deferred (some []))).alloc (.loop { state := .ready, pending := none, fn := fnid, tmps := a.tmps, params := pl, assign := as, body := bo, defers := w.heap.size }) := ⟨_, rfl⟩
  refine ⟨_, _, w1, ⟨.fn (.func gf) lb.toArray, #[.func (.yield (w.heap.size + 1)) #[] #[]]⟩, w1, gf, #[.func (.yield (w.heap.size + 1)) #[] #[]] ++ lb.toArray, w1, by rw [hw1]; exact run_enterLoop_outer fnid a.tmps pl as bo, ?_, fun _ _ => trivial, ?_, (fun h => nomatch h), ?_⟩
  · have hg' : a.eval g = .func (.func gf) #[] lb.toArray := ht.eval hg
    have hy : a.eval (.const (.func (.yield (w.heap.size + 1)) #[] #[])) = .func (.yield (w.heap.size + 1)) #[] #[] := rfl
    simp [resolve, hg', hy, Deferred.ofValue]
  · simp only [invoke]; exact hcf _ _
  · have hh1 : HSat (Ctx.of w0 Hc) ((w.heap.size, .obj (.deferred (some []))) :: H) (w.alloc (.deferred (some []))) := hh.alloc _ _ (World.alloc_heap_new _ _)
    have hh2 : HSat (Ctx.of w0 Hc) ((w.heap.size + 1, .obj (.loop { state := .ready, pending := none, fn := fnid, tmps := a.tmps, params := pl, assign := as, body := bo, defers := w.heap.size })) :: (w.heap.size, .obj (.deferred (some []))) :: H)
        ((w.alloc (.deferred (some []))).alloc (.loop { state := .ready, pending := none, fn := fnid, tmps := a.tmps, params := pl, assign := as, body := bo, defers := w.heap.size })) := by
      have := hh1.alloc (.loop { state := .ready, pending := none, fn := fnid, tmps := a.tmps, params := pl, assign := as, body := bo, defers := w.heap.size }) (.obj (.loop { state := .ready, pending := none, fn := fnid, tmps := a.tmps, params := pl, assign := as, body := bo, defers := w.heap.size })) (World.alloc_heap_new _ _)
      simpa using this
    rw [← hw1] at hh2
    have hoc := h (w.heap.size + 1) w.heap.size { state := .ready, pending := none, fn := fnid, tmps := a.tmps, params := pl, assign := as, body := bo, defers := w.heap.size } rfl rfl rfl rfl rfl hn ht
    have hh3 := hh2
    rw [← List.append_nil ((w.heap.size + 1, _) :: _)] at hh3
    refine CallsIn.mono (FW.callsIn (hoc _ hh3.enter)) fun e w3 hq => ?_
    obtain ⟨v, H', rfl, ⟨r', F, hF, hst, hcase⟩, hs⟩ := hq
    have hh4 : HSat (Ctx.of w0 Hc) H' w3 := by simpa using hh3.leave hs
    have hh5 := hh4.perm hF.perm
    have hl3 : w3.heap[w.heap.size + 1]? = some (.loop r') := hh5.heap _ (List.mem_cons_self ..)
    have hh6 : HSat (Ctx.of w0 Hc) F (w3.putObj (w.heap.size + 1) (.loop { r' with state := .exhausted })) :=
      HSat.sub (H' := [(w.heap.size + 1, .obj (.loop { r' with state := .exhausted }))]) hh5.putObj
    refine ⟨_, _, run_endLoop hl3 hst, ?_⟩
    have hdm : ({ a with defers := [{ target := .collected w.heap.size, args := #[] }] ++ a.defers } : Act).defers = mark w.heap.size := by simp [hd, mark]
    rcases hcase with ⟨hp, hsw⟩ | ⟨hp, hq⟩
    · rw [hp] at hh6 ⊢
      refine wpIn_mono (hsw { a with defers := [{ target := .collected w.heap.size, args := #[] }] ++ a.defers } _ ht hh6 hn hdm) ?_
      exact fun e a' w' hq => fin _ e a' w' hq
    · rw [hp] at hh6 ⊢
      exact wpIn_ret (fin w.heap.size .ret _ _ ⟨T, F, hq, ht, hh6, hn, hdm⟩)

theorem OC.of_mw {f : FuncId} {fn : Func} {c : Code} {args : Array Value} {Hc : Hp} {R : Value → Hp → Prop} {N : Nat} (hf : P.funcs[f]? = some fn) (hb : fn.body = some c) (hN : fn.ntmps = N) (ha : args.size ≤ N)
    (h : ∀ (w0 : World) (C : Ctx), C = Ctx.of w0 Hc → MW P C N c (bodyPostM (FW none) 0 P fn fun e w' => ∃ v H', e = .returned v ∧ R v H' ∧ HSat (Ctx.of w0 Hc) H' w') (argT args.toList) Hc) : OC P f args Hc R := by
  intro w hw
  refine (callsIn_wide (n := 0)).1 (callsIn_of_wp_marks (F := FW none) hf hb trivial ?_)
  subst hN
  exact h w _ rfl _ w act0_tsat hw (act0_size ha) rfl

end Bw
