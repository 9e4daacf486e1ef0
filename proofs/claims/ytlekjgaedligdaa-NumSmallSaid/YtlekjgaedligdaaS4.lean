/-
  Plain tools of this repo: regions.
-/
import Derived.Test.YtlekjgaedligdaaS3
namespace Bw
open Go Go.RowKit

variable {P : Program} {C : Ctx} {ops : Array Oper} {K : Post}

theorem TSat.wanted {T : Tm} {a : Act} (h : TSat T a.tmps) {o : Oper} {b : Bool} (hw : wantT ops T o = some b) : Region.wanted o (yielded ops a.tmps) = b := by
  unfold wantT at hw
  unfold Region.wanted
  cases hg : o.guard with
  | none => rw [hg] at hw; simpa using hw
  | some gw =>
    obtain ⟨g, want⟩ := gw
    rw [hg] at hw
    dsimp only at hw ⊢
    cases hd : (ops[g]?).bind (·.dst) with
    | none => rw [hd] at hw; cases hw
    | some d =>
      rw [hd] at hw
      dsimp only at hw
      unfold yielded
      rw [hd]
      cases ht : T d with
      | none => rw [ht] at hw; cases hw
      | some v =>
        rw [ht] at hw
        have := h d _ ht
        simp only [Option.bind_some, this]
        cases v <;> simp only [reduceCtorEq, Option.some.injEq] at hw
        · rename_i b'
          rw [← hw]
          cases b' <;> cases want <;> rfl
        · rw [← hw]
          cases want <;> rfl

def dstOk (ops : Array Oper) (N : Nat) : Bool := ops.all fun o => match o.dst with | some d => decide (d < N) | none => true

theorem dstOk.spec {N i : Nat} (h : dstOk ops N = true) {o : Oper} (ho : ops[i]? = some o) : ∀ t, o.dst = some t → t < N := by
  intro t ht
  have := Array.all_eq_true_iff_forall_mem.1 h o (Array.mem_of_getElem? ho)
  simpa [ht] using this

/-- What stands behind a part of a walk. -/
structure After (dr : Bool) (P : Program) (C : Ctx) (ops : Array Oper) (K : Post) (N : Nat) (ds : List Deferred) (is : List Nat) (a : Act) (w : World) (T : Tm) (H : Hp) (log : Log) : Prop where
  rw : RW dr P C ops K is T H log
  t : TSat T a.tmps
  h : HSat C H w
  n : a.tmps.size = N
  d : a.defers = ds

theorem Act.put_size (a : Act) (d : Option Tmp) (v : Value) : (a.put d v).tmps.size = a.tmps.size := by
  cases d <;> simp [Act.put]
theorem Act.put_ds (a : Act) (d : Option Tmp) (v : Value) : (a.put d v).defers = a.defers := by
  cases d <;> rfl

theorem After.step {dr : Bool} {Q : Exit → Act → World → Prop} {N i : Nat} {ds : List Deferred} {is : List Nat} {a : Act} {w : World} {T : Tm} {H : Hp} {log : Log} (hN : dstOk ops N = true)
    (hX : ∀ ch a w T H, K (.panic ch) T H → TSat T a.tmps → HSat C H w → a.tmps.size = N → a.defers = ds → Q (.panic ch) a w) (h : After dr P C ops K N ds (i :: is) a w T H log) :
    wpOpIn (FW C.rd) 0 P ops Q i (fun a' w' => ∃ T' H' log', After dr P C ops K N ds is a' w' T' H' log') a w := by
  obtain ⟨hr, ht, hh, hn, hd⟩ := h
  have he : ∀ o : Oper, ∀ x ∈ o.op.operands, ∀ u, ev T x = some u → a.eval x = u := fun _ x _ u hu => ht.eval hu
  have hb : ∀ o, ops[i]? = some o → ∀ t, o.dst = some t → t < a.tmps.size := fun o ho t e => by rw [hn]; exact dstOk.spec hN ho t e
  cases hr with
  | unw o ho hw n =>
    unfold wpOpIn
    simp only [ho, ht.wanted hw, Bool.false_eq_true, if_false]
    exact ⟨fun _ _ => trivial, _, _, _, n, ht.put (hb o ho), hh, (Act.put_size ..).trans hn, (Act.put_ds ..).trans hd⟩
  | pure o v ho hw hnn hf n =>
    unfold wpOpIn
    simp only [ho, ht.wanted hw, if_true]
    refine ⟨fun _ _ => trivial, ?_⟩
    have hx := hf a.eval w (he o) (fun _ h => by cases h)
    rw [Oper.semAt_eq _ _ _ fun c hc => (no_defer hc).1 v hx, hx]
    exact ⟨_, _, _, n, ht.put (hb o ho), hh, (Act.put_size ..).trans hn, (Act.put_ds ..).trans hd⟩
  | read o v it ho hw hnn hf hm n =>
    unfold wpOpIn
    simp only [ho, ht.wanted hw, if_true]
    refine ⟨fun _ _ => trivial, ?_⟩
    have hx := hf a.eval w (he o) (fun p hp => by simp only [List.mem_singleton] at hp; subst hp; exact hh.heap _ hm)
    rw [Oper.semAt_eq _ _ _ fun c hc => (no_defer hc).1 v hx, hx]
    exact ⟨_, _, _, n, ht.put (hb o ho), hh, (Act.put_size ..).trans hn, (Act.put_ds ..).trans hd⟩
  | new o f x ho hw hnw n =>
    unfold wpOpIn
    simp only [ho, ht.wanted hw, if_true]
    refine ⟨fun _ _ => trivial, ?_⟩
    obtain ⟨ob, h1, h2⟩ := newA_run hnw (he o) w
    rw [Oper.semAt_eq _ _ _ fun c hc => (no_defer hc).1 _ h1, h1]
    exact ⟨_, _, _, n _, ht.put (hb o ho), hh.alloc _ _ h2, (Act.put_size ..).trans hn, (Act.put_ds ..).trans hd⟩
  | spine o R ho hw hso hnn hs st n =>
    unfold wpOpIn
    simp only [ho, ht.wanted hw, if_true]
    refine ⟨fun _ _ => trivial, ?_⟩
    have hc := hs a.eval w (he o) hh
    rw [Oper.semAt_eq _ _ _ fun c hcc => (no_defer (w' := w) hcc).2 _ _ _ hc]
    generalize (execOp a.eval o).run P w = r at hc
    cases r with
    | halt x w' =>
      cases x <;> first
        | exact hc.elim
        | (obtain ⟨H', hx, hH⟩ := hc
           exact hX _ _ _ _ _ hx (ht.out ops) hH hn hd)
    | ok nx w' =>
      cases nx <;> first
        | exact hc.elim
        | (obtain ⟨H', hR, hH⟩ := hc
           exact ⟨_, _, _, n _ _ hR, ht.put (hb o ho), hH, (Act.put_size ..).trans hn, (Act.put_ds ..).trans hd⟩)
        | (refine ⟨(fun h => nomatch h), CallsIn.mono (FW.callsIn hc) fun e w'' h => ?_⟩
           rcases h with ⟨v, H', rfl, hR, hH⟩ | ⟨ch, H', rfl, hx, hH⟩
           · exact ⟨_, _, _, n _ _ hR, ht.put (hb o ho), hH, (Act.put_size ..).trans hn, (Act.put_ds ..).trans hd⟩
           · exact hX _ _ _ _ _ hx (ht.out ops) hH hn hd)
        | (refine ⟨(fun h => nomatch h), RoundIn.mono (F := FW C.rd) (n := 0) hc fun e w'' h => ?_⟩
           rcases h with ⟨v, H', rfl, hR, hH⟩ | ⟨ch, H', rfl, hx, hH⟩
           · exact ⟨_, _, _, n _ _ hR, ht.put (hb o ho), hH, (Act.put_size ..).trans hn, (Act.put_ds ..).trans hd⟩
           · exact hX _ _ _ _ _ hx (ht.out ops) hH hn hd)

/-- In the order of the walk. -/
theorem After.walk {dr : Bool} {Q : Exit → Act → World → Prop} {N : Nat} {ds : List Deferred} (hN : dstOk ops N = true)
    (hQ : ∀ e a w T H, e = .normal ∨ (∃ ch, e = .panic ch) → K e T H → TSat T a.tmps → HSat C H w → a.tmps.size = N → a.defers = ds → Q e a w) :
    ∀ (is : List Nat) {a : Act} {w : World} {T : Tm} {H : Hp} {log : Log}, After dr P C ops K N ds is a w T H log → wpOpsIn (FW C.rd) 0 P ops Q is a w := by
  intro is
  induction is with
  | nil =>
    intro a w T H log h
    obtain ⟨hr, ht, hh, hn, hd⟩ := h
    cases hr with
    | nil hk => exact hQ .normal a w T H (.inl rfl) hk ht hh hn hd
  | cons i is ih =>
    intro a w T H log h
    rw [wpOpsIn_cons]
    exact wpOpIn_mono (fun a' w' ⟨T', H', log', h'⟩ => ih h') (h.step hN fun ch a w T H => hQ _ a w T H (.inr ⟨ch, rfl⟩))

/-- Which operations stand ahead of which, by the walk's own list. -/
def goodB (ops : Array Oper) (bits : Array Nat) (y i : Nat) : Bool :=
  match ops[y]?, ops[i]? with
  | some oy, some oi => (bits.getD i 0).testBit y || (oy.apart ops oi && (!spineOp oy.op || (newOp oy.op && newOp oi.op)))
  | _, _ => false

def pairsB (p : Nat → Nat → Bool) : List Nat → Bool
  | [] => true
  | x :: l => l.all (p x) && pairsB p l

def orderOk (ops : Array Oper) (c : List Nat) : Bool :=
  c.length == ops.size && (List.range ops.size).all (c.contains ·) && pairsB (goodB ops (Region.before ops)) c && pairsB (fun x y => x != y) c && c.all fun x => decide (x < ops.size)

theorem pairsB_spec {p : Nat → Nat → Bool} : ∀ {c : List Nat}, pairsB p c = true → c.Pairwise fun x y => p x y = true
  | [], _ => List.Pairwise.nil
  | x :: l, h => by
    simp only [pairsB, Bool.and_eq_true, List.all_eq_true] at h
    exact List.Pairwise.cons h.1 (pairsB_spec h.2)

theorem before_spec (ops : Array Oper) : ∀ i y, ((Region.before ops).getD i 0).testBit y = true → Bf ops y i := by
  have key : ∀ (l pre : List Oper) (acc : Array Nat), ops.toList = pre ++ l → acc.size = pre.length →
      (∀ i y, (acc.getD i 0).testBit y = true → Bf ops y i) →
      ∀ i y, ((l.foldl (fun acc o => acc.push (o.after.foldl (fun s e => if Region.binds .any e then s ||| 2 ^ e.on ||| acc.getD e.on 0 else s) 0)) acc).getD i 0).testBit y = true → Bf ops y i := by
    intro l
    induction l with
    | nil => intro pre acc _ _ h i y hy; exact h i y hy
    | cons o l ih =>
      intro pre acc hl hs h i y hy
      refine ih (pre ++ [o]) _ (by simp [hl]) (by simp [hs]) (fun j z hz => ?_) i y hy
      rw [Array.getD_eq_getD_getElem?, Array.getElem?_push] at hz
      by_cases hj : j = acc.size
      · rw [if_pos hj] at hz
        have ho : ops[j]? = some o := by
          rw [← Array.getElem?_toList, hl, hj, hs]; simp
        simp only [Option.getD_some] at hz
        rw [← Array.foldl_toList] at hz
        have fold : ∀ (es : List Edge) (s : Nat), (∀ e ∈ es, e ∈ o.after) → (∀ z, s.testBit z = true → Bf ops z j) →
            ∀ z, (es.foldl (fun s e => if Region.binds .any e then s ||| 2 ^ e.on ||| acc.getD e.on 0 else s) s).testBit z = true → Bf ops z j := by
          intro es
          induction es with
          | nil => intro s _ hs z hz; exact hs z hz
          | cons e es ihe =>
            intro s hm hs z hz
            refine ihe _ (fun e' he' => hm e' (List.mem_cons_of_mem _ he')) (fun z hz => ?_) z hz
            by_cases hb : Region.binds .any e = true
            · dsimp only at hz; rw [if_pos hb] at hz
              simp only [Nat.testBit_or, Bool.or_eq_true, Nat.testBit_two_pow, decide_eq_true_eq] at hz
              rcases hz with (hz | hz) | hz
              · exact hs z hz
              · subst hz; exact .edge ho (hm e (List.mem_cons_self ..)) hb
              · exact .step ho (hm e (List.mem_cons_self ..)) hb (h _ _ hz)
            · dsimp only at hz; rw [if_neg hb] at hz; exact hs z hz
        exact fold o.after.toList 0 (fun e he => by simpa using he) (fun z hz => by simp at hz) z hz
      · rw [if_neg hj] at hz
        exact h j z (by rw [Array.getD_eq_getD_getElem?]; exact hz)
  intro i y hy
  unfold Region.before at hy
  rw [← Array.foldl_toList] at hy
  exact key ops.toList [] #[] rfl rfl (fun i y h => by simp at h) i y hy

theorem goodB_spec {y i : Nat} (h : goodB ops (Region.before ops) y i = true) : Good ops y i := by
  unfold goodB at h
  cases hy : ops[y]? with
  | none => rw [hy] at h; cases h
  | some oy =>
    cases hi : ops[i]? with
    | none => rw [hy, hi] at h; cases h
    | some oi =>
      rw [hy, hi] at h
      simp only [Bool.or_eq_true, Bool.and_eq_true, Bool.not_eq_true'] at h
      rcases h with h | ⟨h1, h2⟩
      · exact .inl (before_spec ops _ _ h)
      · exact .inr ⟨oy, oi, hy, hi, h1, h2⟩

def edgesDown (ops : Array Oper) : Bool := (List.range ops.size).all fun i => match ops[i]? with | some o => o.after.all fun e => !Region.binds .any e || decide (e.on < i) | none => true

theorem edgesDown.spec (h : edgesDown ops = true) {i : Nat} {o : Oper} (ho : ops[i]? = some o) {e : Edge} (he : e ∈ o.after) (hb : Region.binds .any e = true) : e.on < i := by
  unfold edgesDown at h
  rw [List.all_eq_true] at h
  have := h i (List.mem_range.2 (Array.getElem?_eq_some_iff.1 ho).1)
  rw [ho] at this
  have := Array.all_eq_true_iff_forall_mem.1 this e he
  simpa [hb] using this

theorem least_of_mem : ∀ (c : List Nat), c ≠ [] → ∃ i ∈ c, ∀ j ∈ c, i ≤ j
  | [], h => absurd rfl h
  | [x], _ => ⟨x, List.mem_cons_self .., fun j hj => by simp at hj; omega⟩
  | x :: y :: l, _ => by
    obtain ⟨i, hi, hl⟩ := least_of_mem (y :: l) (by simp)
    by_cases h : x ≤ i
    · exact ⟨x, List.mem_cons_self .., fun j hj => by rcases List.mem_cons.1 hj with rfl | hj; · exact Nat.le_refl _
                                                      · exact Nat.le_trans h (hl j hj)⟩
    · exact ⟨i, List.mem_cons_of_mem _ hi, fun j hj => by rcases List.mem_cons.1 hj with rfl | hj; · omega
                                                          · exact hl j hj⟩

/-- A region in whatever order comes up. -/
theorem After.any (hK : ∀ e T H H', H.Perm H' → K e T H → K e T H') {Q : Exit → Act → World → Prop} {N : Nat} {ds : List Deferred} (hN : dstOk ops N = true) (hdown : edgesDown ops = true)
    (hQ : ∀ e a w T H, e = .normal ∨ (∃ ch, e = .panic ch) → K e T H → TSat T a.tmps → HSat C H w → a.tmps.size = N → a.defers = ds → Q e a w) :
    ∀ (fuel : Nat) (listed : Array Bool) (c : List Nat) {a : Act} {w : World} {T : Tm} {H : Hp} {log : Log}, listed.size = ops.size → c.length ≤ fuel → c.Nodup → c.Pairwise (Good ops) →
      (∀ j, j ∈ c ↔ j < ops.size ∧ listed.getD j true = false) → (∀ i y, listed.getD i false = true → Bf ops y i → listed.getD y false = true) →
      After true P C ops K N ds c a w T H log → wpAnyIn (FW C.rd) 0 P .any ops Q fuel listed a w := by
  intro fuel
  induction fuel with
  | zero =>
    intro listed c a w T H log hs hl _ _ hm _ h
    have hc : c = [] := List.eq_nil_of_length_eq_zero (by omega)
    subst hc
    refine ⟨?_, ?_⟩
    · cases hr : Region.ready .any ops listed with
      | nil => rfl
      | cons i l =>
        have hi : i ∈ Region.ready .any ops listed := by rw [hr]; exact List.mem_cons_self ..
        rw [mem_ready] at hi
        obtain ⟨h0, o, ho, _⟩ := hi
        have := (hm i).2 ⟨(Array.getElem?_eq_some_iff.1 ho).1, h0⟩
        cases this
    · obtain ⟨hr, ht, hh, hn, hd⟩ := h
      cases hr with
      | nil hk => exact hQ .normal a w T H (.inl rfl) hk ht hh hn hd
  | succ fuel ih =>
    intro listed c a w T H log hs hl hnd hp hm hcl h
    refine ⟨fun hr => ?_, fun i hi => ?_⟩
    · -- nothing can come up: nothing is left
      have hc : c = [] := by
        refine Classical.byContradiction fun hne => ?_
        obtain ⟨i, hi, hleast⟩ := least_of_mem c hne
        obtain ⟨h1, h2⟩ := (hm i).1 hi
        have : i ∈ Region.ready .any ops listed := by
          refine mem_ready.2 ⟨h2, ops[i], Array.getElem?_eq_getElem h1, fun e he hb => ?_⟩
          have hlt := edgesDown.spec hdown (Array.getElem?_eq_getElem h1) he hb
          have h3 : e.on < listed.size := by omega
          refine Classical.byContradiction fun hf => ?_
          have hec : e.on ∈ c := (hm _).2 ⟨by omega, by
            simp only [Array.getD_eq_getD_getElem?, Array.getElem?_eq_getElem h3, Option.getD_some] at hf ⊢
            simpa using hf⟩
          have := hleast _ hec
          omega
        rw [hr] at this
        cases this
      subst hc
      obtain ⟨hr, ht, hh, hn, hd⟩ := h
      cases hr with
      | nil hk => exact hQ .normal a w T H (.inl rfl) hk ht hh hn hd
    · have hi' := mem_ready.1 hi
      obtain ⟨h0, o, ho, hall⟩ := hi'
      have hio : i < ops.size := (Array.getElem?_eq_some_iff.1 ho).1
      have hil : i < listed.size := by rw [hs]; exact hio
      have hic : i ∈ c := (hm i).2 ⟨hio, h0⟩
      obtain ⟨ys, zs, rfl⟩ := List.append_of_mem hic
      have hbf : ∀ y, Bf ops y i → listed.getD y false = true := by
        intro y hy
        cases hy with
        | edge ho' he hb => rw [ho] at ho'; cases ho'; exact hall _ he hb
        | step ho' he hb hy => rw [ho] at ho'; cases ho'; exact hcl _ _ (hall _ he hb) hy
      have hun : ∀ y ∈ ys ++ i :: zs, listed.getD y false = false := by
        intro y hy
        obtain ⟨h1, h2⟩ := (hm y).1 hy
        have h3 : y < listed.size := by rw [hs]; exact h1
        simp only [Array.getD_eq_getD_getElem?, Array.getElem?_eq_getElem h3, Option.getD_some] at h2 ⊢
        exact h2
      have hgood : ∀ y ∈ ys, Good ops y i ∧ ¬ Bf ops y i := fun y hy =>
        ⟨(List.pairwise_append.1 hp).2.2 y hy i (List.mem_cons_self ..), fun hb => by
          have h1 := hbf y hb
          rw [hun y (List.mem_append_left _ hy)] at h1; cases h1⟩
      obtain ⟨hr, ht, hh, hn, hd⟩ := h
      have hfront : After true P C ops K N ds (i :: (ys ++ zs)) a w T H log := ⟨hr.front hK hgood, ht, hh, hn, hd⟩
      refine wpOpIn_mono (fun a' w' ⟨T', H', log', h'⟩ => ?_) (hfront.step (Q := Q) hN fun ch a w T H => hQ _ a w T H (.inr ⟨ch, rfl⟩))
      have hnd' := List.nodup_append.1 hnd
      have hnd2 := List.nodup_cons.1 hnd'.2.1
      refine ih (listed.setIfInBounds i true) (ys ++ zs) (by simp [hs]) (by simp at hl ⊢; omega) ?_ ?_ ?_ ?_ h'
      · refine List.nodup_append.2 ⟨hnd'.1, hnd2.2, fun a ha b hb => hnd'.2.2 a ha b (List.mem_cons_of_mem _ hb)⟩
      · have := List.pairwise_append.1 hp
        exact List.pairwise_append.2 ⟨this.1, (List.pairwise_cons.1 this.2.1).2, fun a ha b hb => this.2.2 a ha b (List.mem_cons_of_mem _ hb)⟩
      · intro j
        have hj := hm j
        simp only [List.mem_append, List.mem_cons] at hj ⊢
        by_cases hji : j = i
        · subst hji
          have hn1 : j ∉ ys := fun hy => hnd'.2.2 j hy j (List.mem_cons_self ..) rfl
          have hn2 : j ∉ zs := hnd2.1
          constructor
          · intro h; exact absurd h (by simp [hn1, hn2])
          · intro h
            have h2 := h.2
            simp [hil] at h2
        · rw [getD_set_ne true (Ne.symm hji)]
          constructor
          · intro h; exact hj.1 (h.elim .inl fun h => .inr (.inr h))
          · intro h
            rcases hj.2 h with h | h | h
            · exact .inl h
            · exact absurd h hji
            · exact .inr h
      · intro j y hj hy
        by_cases hji : j = i
        · subst hji; exact getD_set_true (hbf y hy)
        · rw [getD_set_ne false (Ne.symm hji)] at hj
          exact getD_set_true (hcl j y hj hy)

def orderOk2 (ops : Array Oper) (N : Nat) (c : List Nat) : Bool := orderOk ops c && edgesDown ops && dstOk ops N

theorem wp_region_rw {Q : Exit → Act → World → Prop} {id N : Nat} {ds : List Deferred} {c : List Nat} {a : Act} {w : World} {T : Tm} {H : Hp} (hm : P.follows .mixedOrders = true) (hc : orderOk2 ops N c = true)
    (hQ : ∀ e a w T H, e = .normal ∨ (∃ ch, e = .panic ch) → K e T H → TSat T a.tmps → HSat C H w → a.tmps.size = N → a.defers = ds → Q e a w)
    (ht : TSat T a.tmps) (hh : HSat C H w) (hn : a.tmps.size = N) (hd : a.defers = ds) (h : RW true P C ops K c T H []) : (Code.region id ops true).wpIn (FW C.rd) 0 P Q a w := by
  have hKp : ∀ e T H H', H.Perm H' → (∃ H0, H0.Perm H ∧ K e T H0) → ∃ H0, H0.Perm H' ∧ K e T H0 := fun e T H H' hp ⟨H0, h0, hk⟩ => ⟨H0, h0.trans hp, hk⟩
  have hQp : ∀ e a w T H, e = .normal ∨ (∃ ch, e = .panic ch) → (∃ H0, H0.Perm H ∧ K e T H0) → TSat T a.tmps → HSat C H w → a.tmps.size = N → a.defers = ds → Q e a w := fun e a w T H he ⟨H0, h0, hk⟩ h1 h2 h3 h4 => hQ e a w T H0 he hk h1 (h2.perm h0.symm) h3 h4
  have h := h.mono (K' := fun e T H => ∃ H0, H0.Perm H ∧ K e T H0) fun e T H hk => ⟨H, .refl _, hk⟩
  simp only [orderOk2, orderOk, Bool.and_eq_true, beq_iff_eq, List.all_eq_true, List.mem_range, List.contains_iff_mem, decide_eq_true_eq] at hc
  obtain ⟨⟨⟨⟨⟨⟨h1, h2⟩, h3⟩, h6⟩, hlt⟩, h4⟩, h5⟩ := hc
  have hnd : c.Nodup := (pairsB_spec h6).imp fun h => by simpa using h
  refine wpIn_region_any hm (After.any hKp h5 h4 hQp ops.size (Array.replicate ops.size false) c (log := []) (T := T) (H := H) (by simp) (by omega) hnd ?_ (fun j => ?_) ?_ ⟨h, ht, ?_, hn, hd⟩)
  · exact (pairsB_spec h3).imp fun h => goodB_spec h
  · constructor
    · intro hj; have := hlt j hj; exact ⟨this, by simp [this]⟩
    · intro hj; exact h2 j hj.1
  · intro i y hi; by_cases hlt : i < ops.size <;> simp [hlt] at hi
  · exact hh.drawn rfl rfl rfl rfl

theorem wp_region_rw0 {Q : Exit → Act → World → Prop} {id N : Nat} {ds : List Deferred} {a : Act} {w : World} {T : Tm} {H : Hp} (hc : dstOk ops N = true)
    (hQ : ∀ e a w T H, e = .normal ∨ (∃ ch, e = .panic ch) → K e T H → TSat T a.tmps → HSat C H w → a.tmps.size = N → a.defers = ds → Q e a w)
    (ht : TSat T a.tmps) (hh : HSat C H w) (hn : a.tmps.size = N) (hd : a.defers = ds) (h : RW false P C ops K (List.range ops.size) T H []) : (Code.region id ops false).wpIn (FW C.rd) 0 P Q a w :=
  wpIn_region (After.walk hc hQ _ ⟨h, ht, hh, hn, hd⟩)

end Bw
