/-
  Plain tools of this repo: a yield that is told of all that is known.
-/
import Derived.Test.YtlekjgaedligdaaSL
namespace Bw
open Go Go.RowKit

variable {P : Program} {C : Ctx} {ops : Array Oper} {K : Post} {dr : Bool} {i t : Nat} {is : List Nat} {T : Tm} {H : Hp} {log : Log} {ty : TypeId} {ps : String} {af : Array Edge} {gd : Option (Nat × Bool)}

theorem G.gycall {y : Operand} {xs : List Operand} {tys : Array TypeId} {l : Nat} {args : List Value} {Hc : Hp} {R : Value → Hp → Prop} (hw : wantT ops T ⟨some t, .call ⟨.value y, xs.toArray, tys⟩, ty, ps, af, gd⟩ = some true)
    (hy : ev T y = some (.func (.yield l) #[] #[])) (hxs : evL T xs = some args) (hc : YR P l args.toArray Hc R) (hp : Pick H Hc) (hst : ∀ v H', R v H' → StOk ops (i :: is) H' log)
    (next : ∀ v H', R v H' → RG dr P C ops K is (upd T t v) H' log) :
    RGo ⟨some t, .call ⟨.value y, xs.toArray, tys⟩, ty, ps, af, gd⟩ dr P C ops K i is T H log := by
  intro ho
  refine RG.spine _ R ho hw rfl rfl (fun ρ w hρ hh => ?_) ?_ ?_
  · have hxs' : xs.toArray.map ρ = args.toArray := by
      rw [List.map_toArray, evL_spec hxs fun x hx u hu => hρ x (by simp [Op.operands, Call.operands, hx]) u hu]
    have hy' : ρ y = .func (.yield l) #[] #[] := hρ y (by simp [Op.operands, Call.operands]) _ hy
    have hh' : HSat C (Hc ++ []) w := by simpa using hh.perm hp.perm
    obtain ⟨f, tmps, as, bo, h1, h2⟩ := hc w hh'.enter
    have hrun : (execOp ρ (⟨some t, .call ⟨.value y, xs.toArray, tys⟩, ty, ps, af, gd⟩ : Oper)).run P w = .ok (.round l f tmps as bo) w := by
      simp only [execOp, resolve, hxs', hy', Deferred.ofValue, Sem.run_bind, Sem.run_pure, Result.andThen_ok, invoke, Array.empty_append, h1]
    rw [hrun]
    refine RoundIn.mono h2 fun e w' h => ?_
    obtain ⟨v, H', rfl, hR, hs⟩ := h
    exact .inl ⟨v, _, rfl, hR, by simpa using hh'.leave hs⟩
  · rintro u H1 hR e he _; exact (hst u H1 hR).spec e he
  · intro u H1 hR; exact next u H1 hR

theorem G.mkf {g : FuncId} {caps : List Operand} {l : List Value} (hw : wantT ops T ⟨some t, .makeFunc (.func g) #[] caps.toArray, ty, ps, af, gd⟩ = some true) (hx : evL T caps = some l)
    (next : RG dr P C ops K is (upd T t (.func (.func g) #[] l.toArray)) H log) : RGo ⟨some t, .makeFunc (.func g) #[] caps.toArray, ty, ps, af, gd⟩ dr P C ops K i is T H log := by
  refine G.fl rfl hw (fun ρ w hρ => ?_) next
  have e1 : caps.toArray.map ρ = l.toArray := by
    rw [List.map_toArray, evL_spec hx fun x hx' u hu => hρ x (by simp [Op.operands, hx']) u hu]
  simp [execOp, Instr.makeFunc, e1]

variable {N : Nat} {Q : Post}

/-- A statement and the rest behind it, the rest being told apart. -/
def MB (P : Program) (C : Ctx) (N : Nat) (b rest : Code) (Q : Exit → Act → World → Prop) (T : Tm) (H : Hp) : Prop :=
  ∀ a w, TSat T a.tmps → HSat C H w → a.tmps.size = N → a.defers = [] → b.wpIn (FW none) 0 P (Exit.then (rest.wpIn (FW none) 0 P Q) Q) a w
def mbQ (P : Program) (C : Ctx) (N : Nat) (b y : Code) (Q : Exit → Act → World → Prop) : Post := fun e T H => e = .normal ∧ MB P C N b y Q T H
theorem Q.mb {b y : Code} {QA : Exit → Act → World → Prop} (h : MB P C N b y QA T H) : mbQ P C N b y QA .normal T H := ⟨rfl, h⟩
theorem MW.seq3 {x b y : Code} {QA : Exit → Act → World → Prop} (hC : C.rd = none) (h : SW P C N [] x (mbQ P C N b y QA) T H) : MW P C N (.seq (.seq x b) y) QA T H := by
  intro a w ht hh hn hd
  have h0 := h a w ht hh hn hd
  rw [hC] at h0
  refine wpIn_seq (wpIn_seq (wpIn_mono h0 ?_))
  rintro e a' w' ⟨T', H', ⟨rfl, hq⟩, h1, h2, h3, h4⟩
  exact hq a' w' h1 h2 h3 h4

theorem MB.range {id : Nat} {g : Operand} {pl : Array Tmp} {as bo rest : Code} {gf : FuncId} {lb : List Value} {fn : Func} {R : Value → Hp → Prop} {w0 : World} {Hc : Hp} (hC : C = Ctx.of w0 Hc) (hg : ev T g = some (.func (.func gf) #[] lb.toArray)) (hcf : Callable P gf)
    (h : ∀ (l D : Nat) (r : Loop), r.state = .ready → r.pending = none → r.params = pl → r.assign = as → r.body = bo → r.tmps.size = N → TSat T r.tmps →
      OC P gf (#[.func (.yield l) #[] #[]] ++ lb.toArray) ((l, .obj (.loop r)) :: (D, .obj (.deferred (some []))) :: H) (ranQ P C N l D rest T (mretQ P fn D R))) :
    MB P C N (.block id (.rangeFunc g pl as bo)) rest (bodyPostM (FW none) 0 P fn fun e w' => ∃ v H', e = .returned v ∧ R v H' ∧ HSat (Ctx.of w0 Hc) H' w') T H := by
  subst hC
  intro a w ht hh hn hd
  have fin : ∀ (D : Nat) (e : Exit) (a' : Act) (w' : World), lift (Ctx.of w0 Hc) N (mark D) (mretQ P fn D R) e a' w' → bodyPostM (FW none) 0 P fn (fun e w' => ∃ v H', e = .returned v ∧ R v H' ∧ HSat (Ctx.of w0 Hc) H' w') e a' w' := by
    rintro D e a' w' ⟨T', H', ⟨he, F0, vs, H2, F, h0, h1, h2, h3⟩, k1, k2, k3, k4⟩
    have hh0 := k2.perm h0.perm
    have hD : w'.heap[D]? = some (.deferred (some [])) := hh0.heap _ (List.mem_cons_self ..)
    have hh1 : HSat (Ctx.of w0 Hc) ((D, .obj (.deferred none)) :: F0) (w'.putObj D (.deferred none)) := hh0.putObj
    have hhF : HSat (Ctx.of w0 Hc) F0 (w'.putObj D (.deferred none)) := HSat.sub (H' := [(D, .obj (.deferred none))]) hh1
    have hL : LeavesInM (FW none) 0 P fn a'.tmps (fun e w' => ∃ v H', e = .returned v ∧ R v H' ∧ HSat (Ctx.of w0 Hc) H' w') a'.defers .returning w' := by
      rw [k4]
      exact ⟨by simp, .inl ⟨D, _, rfl, run_takeDeferred hD, _, run_results h1 k1 hhF.heap, _, _, rfl, h3, rems_sat hhF h2⟩⟩
    rcases he with rfl | rfl
    · exact hL
    · exact hL
  refine wpIn_block (wpIn_rangeFunc fun fnid _ => ?_)
  obtain ⟨w1, hw1⟩ : ∃ w1 : World, w1 = (w.alloc (.deferred (some []))).alloc (.loop { state := .ready, pending := none, fn := fnid, tmps := a.tmps, params := pl, assign := as, body := bo, defers := w.heap.size }) := ⟨_, rfl⟩
  refine ⟨_, _, w1, ⟨.fn (.func gf) lb.toArray, #[.func (.yield (w.heap.size + 1)) #[] #[]]⟩, w1, gf, #[.func (.yield (w.heap.size + 1)) #[] #[]] ++ lb.toArray, w1, by rw [hw1]; exact run_enterLoop_outer fnid a.tmps pl as bo, ?_, fun _ _ => trivial, ?_, (fun h => nomatch h), ?_⟩
  · have hg' : a.eval g = .func (.func gf) #[] lb.toArray := ht.eval hg
    have hy : a.eval (.const (.func (.yield (w.heap.size + 1)) #[] #[])) = .func (.yield (w.heap.size + 1)) #[] #[] := rfl
    simp [resolve, hg', hy, Deferred.ofValue]
  · simp only [invoke]; exact hcf _ _
  · have hh1 : HSat (Ctx.of w0 Hc) ((w.heap.size, .obj (.deferred (some []))) :: H) (w.alloc (.deferred (some []))) := hh.alloc _ _ (World.alloc_heap_new _ _)
    have hh2 : HSat (Ctx.of w0 Hc) ((w.heap.size + 1, .obj (.loop { state := .ready, pending := none, fn := fnid, tmps := a.tmps, params := pl, assign := as, body := bo, defers := w.heap.size })) :: (w.heap.size, .obj (.deferred (some []))) :: H)
        ((w.alloc (.deferred (some []))).alloc (.loop { state := .ready, pending := none, fn := fnid, tmps := a.tmps, params := pl, assign := as, body := bo, defers := w.heap.size })) := by
      have := hh1.alloc (.loop { state := .ready, pending := none, fn := fnid, tmps := a.tmps, params := pl, assign := as, body := bo, defers := w.heap.size }) (.obj (.loop { state := .ready, pending := none, fn := fnid, tmps := a.tmps, params := pl, assign := as, body := bo, defers := w.heap.size })) (World.alloc_heap_new _ _)
      simpa using this
    rw [← hw1] at hh2
    have hoc := h (w.heap.size + 1) w.heap.size { state := .ready, pending := none, fn := fnid, tmps := a.tmps, params := pl, assign := as, body := bo, defers := w.heap.size } rfl rfl rfl rfl rfl hn ht
    have hh3 := hh2
    rw [← List.append_nil ((w.heap.size + 1, _) :: _)] at hh3
    refine CallsIn.mono (FW.callsIn (hoc _ hh3.enter)) fun e w3 hq => ?_
    obtain ⟨v, H', rfl, ⟨r', F, hF, hst, hcase⟩, hs⟩ := hq
    have hh4 : HSat (Ctx.of w0 Hc) H' w3 := by simpa using hh3.leave hs
    have hh5 := hh4.perm hF.perm
    have hl3 : w3.heap[w.heap.size + 1]? = some (.loop r') := hh5.heap _ (List.mem_cons_self ..)
    have hh6 : HSat (Ctx.of w0 Hc) F (w3.putObj (w.heap.size + 1) (.loop { r' with state := .exhausted })) :=
      HSat.sub (H' := [(w.heap.size + 1, .obj (.loop { r' with state := .exhausted }))]) hh5.putObj
    refine ⟨_, _, run_endLoop hl3 hst, ?_⟩
    have hdm : ({ a with defers := [{ target := .collected w.heap.size, args := #[] }] ++ a.defers } : Act).defers = mark w.heap.size := by simp [hd, mark]
    rcases hcase with ⟨hp, hsw⟩ | ⟨hp, hq⟩
    · rw [hp] at hh6 ⊢
      refine wpIn_mono (hsw { a with defers := [{ target := .collected w.heap.size, args := #[] }] ++ a.defers } _ ht hh6 hn hdm) ?_
      exact fun e a' w' hq => fin _ e a' w' hq
    · rw [hp] at hh6 ⊢
      exact wpIn_ret (fin w.heap.size .ret _ _ ⟨T, F, hq, ht, hh6, hn, hdm⟩)


theorem tsat_tl {T : Tm} {a : Array Value} {l : List (Nat × Value)} (h : TSat T a) (hl : hasAll T l) : TSat (tl l) a := fun _ _ hv => h _ _ (hasAll_mem hl _ (tl_mem hv))
end Bw
