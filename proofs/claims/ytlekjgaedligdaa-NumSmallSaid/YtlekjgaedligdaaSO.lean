/-
  Plain tools of this repo: a region in which two operations that turn something may come in either order: a walk for each order.
-/
import Derived.Test.YtlekjgaedligdaaSN
namespace Bw
open Go Go.RowKit

variable {P : Program} {C : Ctx} {ops : Array Oper} {K : Post}

/-- A plain operation, or a new block, comes to just one thing. -/
theorem After.one {N i : Nat} {ds : List Deferred} {is : List Nat} {a : Act} {w : World} {T : Tm} {H : Hp} {log : Log} {dr : Bool} (h : After dr P C ops K N ds (i :: is) a w T H log)
    (hf : ∀ o, ops[i]? = some o → spineOp o.op = false ∨ newOp o.op = true) :
    ∃ a' w', (∀ (Q : Exit → Act → World → Prop) (R : Act → World → Prop), R a' w' → wpOpIn (FW C.rd) 0 P ops Q i R a w) ∧ (∀ (Q : Exit → Act → World → Prop) (R : Act → World → Prop), wpOpIn (FW C.rd) 0 P ops Q i R a w → R a' w') := by
  obtain ⟨hr, ht, hh, hn, hd⟩ := h
  have he : ∀ o : Oper, ∀ x ∈ o.op.operands, ∀ u, ev T x = some u → a.eval x = u := fun _ x _ u hu => ht.eval hu
  have key : ∀ (o : Oper) (v : Value) (w' : World), ops[i]? = some o → wantT ops T o = some true → (execOp a.eval o).run P w = .ok (.value v) w' →
      ∃ a' w', (∀ (Q : Exit → Act → World → Prop) (R : Act → World → Prop), R a' w' → wpOpIn (FW C.rd) 0 P ops Q i R a w) ∧ (∀ (Q : Exit → Act → World → Prop) (R : Act → World → Prop), wpOpIn (FW C.rd) 0 P ops Q i R a w → R a' w') := by
    intro o v w' ho hw hx
    refine ⟨a.put o.dst v, w', fun Q R hR => ?_, fun Q R hR => ?_⟩
    · unfold wpOpIn
      simp only [ho, ht.wanted hw, if_true]
      refine ⟨fun _ _ => trivial, ?_⟩
      rw [Oper.semAt_eq _ _ _ fun c hc => (no_defer hc).1 v hx, hx]
      exact hR
    · unfold wpOpIn at hR
      simp only [ho, ht.wanted hw, if_true] at hR
      have h2 := hR.2
      rw [Oper.semAt_eq _ _ _ fun c hc => (no_defer hc).1 v hx, hx] at h2
      exact h2
  cases hr with
  | unw o ho hw n =>
    refine ⟨a.put o.dst undef, w, fun Q R hR => ?_, fun Q R hR => ?_⟩
    · unfold wpOpIn
      simp only [ho, ht.wanted hw, Bool.false_eq_true, if_false]
      exact ⟨fun _ _ => trivial, hR⟩
    · unfold wpOpIn at hR
      simp only [ho, ht.wanted hw, Bool.false_eq_true, if_false] at hR
      exact hR.2
  | pure o v ho hw hnn hfl n => exact key o v w ho hw (hfl a.eval w (he o) (fun _ h => by cases h))
  | read o v it ho hw hnn hfl hm n => exact key o v w ho hw (hfl a.eval w (he o) (fun p hp => by simp only [List.mem_singleton] at hp; subst hp; exact hh.heap _ hm))
  | new o f x ho hw hnw n =>
    obtain ⟨ob, h1, h2⟩ := newA_run hnw (he o) w
    exact key o _ _ ho hw h1
  | spine o R ho hw hso hnn hs st n =>
    rcases hf o ho with h | h
    · rw [h] at hso; cases hso
    · rw [h] at hnn; cases hnn

/-- What is known of the operations that are still to come. -/
structure Left (ops : Array Oper) (listed : Array Bool) (c : List Nat) : Prop where
  nd : c.Nodup
  mem : ∀ j, j ∈ c ↔ j < ops.size ∧ listed.getD j true = false

theorem Left.cut {listed : Array Bool} {ys zs : List Nat} {i : Nat} (hil : i < listed.size) (h : Left ops listed (ys ++ i :: zs)) : Left ops (listed.setIfInBounds i true) (ys ++ zs) := by
  have hnd' := List.nodup_append.1 h.nd
  have hnd2 := List.nodup_cons.1 hnd'.2.1
  refine ⟨List.nodup_append.2 ⟨hnd'.1, hnd2.2, fun a ha b hb => hnd'.2.2 a ha b (List.mem_cons_of_mem _ hb)⟩, fun j => ?_⟩
  have hj := h.mem j
  simp only [List.mem_append, List.mem_cons] at hj ⊢
  by_cases hji : j = i
  · subst hji
    have hn1 : j ∉ ys := fun hy => hnd'.2.2 j hy j (List.mem_cons_self ..) rfl
    have hn2 : j ∉ zs := hnd2.1
    constructor
    · intro h; exact absurd h (by simp [hn1, hn2])
    · intro h
      have h2 := h.2
      simp [hil] at h2
  · rw [getD_set_ne true (Ne.symm hji)]
    constructor
    · intro h; exact hj.1 (h.elim .inl fun h => .inr (.inr h))
    · intro h
      rcases hj.2 h with h | h | h
      · exact .inl h
      · exact absurd h hji
      · exact .inr h

theorem pairs_cut {p : Nat → Nat → Prop} {ys zs : List Nat} {i : Nat} (h : (ys ++ i :: zs).Pairwise p) : (ys ++ zs).Pairwise p := by
  have := List.pairwise_append.1 h
  exact List.pairwise_append.2 ⟨this.1, (List.pairwise_cons.1 this.2.1).2, fun a ha b hb => this.2.2 a ha b (List.mem_cons_of_mem _ hb)⟩

/-- A region in whatever order comes up, of two that are in one order here, in the other there. -/
theorem After.any2 (hK : ∀ e T H H', H.Perm H' → K e T H → K e T H') {Q : Exit → Act → World → Prop} {N x y : Nat} {ds : List Deferred} (hN : dstOk ops N = true) (hdown : edgesDown ops = true) (hxy : x ≠ y)
    (hflat : ∀ i o, ops[i]? = some o → i ≠ x → i ≠ y → (spineOp o.op = false ∨ newOp o.op = true) ∨ Bf ops x i ∨ Bf ops y i)
    (hQ : ∀ e a w T H, e = .normal ∨ (∃ ch, e = .panic ch) → K e T H → TSat T a.tmps → HSat C H w → a.tmps.size = N → a.defers = ds → Q e a w) :
    ∀ (fuel : Nat) (listed : Array Bool) (c c' : List Nat) {a : Act} {w : World} {T T' : Tm} {H H' : Hp} {log log' : Log}, listed.size = ops.size → c.length ≤ fuel → c'.length ≤ fuel → Left ops listed c → Left ops listed c' →
      c.Pairwise (fun p q => Good ops p q ∨ p = x ∧ q = y) → c'.Pairwise (fun p q => Good ops p q ∨ p = y ∧ q = x) → x ∈ c → y ∈ c → (∀ i y, listed.getD i false = true → Bf ops y i → listed.getD y false = true) →
      After true P C ops K N ds c a w T H log → After true P C ops K N ds c' a w T' H' log' → wpAnyIn (FW C.rd) 0 P .any ops Q fuel listed a w := by
  intro fuel
  induction fuel with
  | zero =>
    intro listed c c' a w T T' H H' log log' hs hl _ _ _ _ _ hx _ _ _ _
    have hc : c = [] := List.eq_nil_of_length_eq_zero (by omega)
    subst hc; cases hx
  | succ fuel ih =>
    intro listed c c' a w T T' H H' log log' hs hl hl' hc hc' hp hp' hx hy hcl h h'
    refine ⟨fun hr => ?_, fun i hi => ?_⟩
    · exfalso
      obtain ⟨i, hi, hleast⟩ := least_of_mem c (fun e => by rw [e] at hx; cases hx)
      obtain ⟨h1, h2⟩ := (hc.mem i).1 hi
      have : i ∈ Region.ready .any ops listed := by
        refine mem_ready.2 ⟨h2, ops[i], Array.getElem?_eq_getElem h1, fun e he hb => ?_⟩
        have hlt := edgesDown.spec hdown (Array.getElem?_eq_getElem h1) he hb
        have h3 : e.on < listed.size := by omega
        refine Classical.byContradiction fun hf => ?_
        have hec : e.on ∈ c := (hc.mem _).2 ⟨by omega, by
          simp only [Array.getD_eq_getD_getElem?, Array.getElem?_eq_getElem h3, Option.getD_some] at hf ⊢
          simpa using hf⟩
        have := hleast _ hec
        omega
      rw [hr] at this
      cases this
    · obtain ⟨h0, o, ho, hall⟩ := mem_ready.1 hi
      have hio : i < ops.size := (Array.getElem?_eq_some_iff.1 ho).1
      have hil : i < listed.size := by rw [hs]; exact hio
      have hbf : ∀ y, Bf ops y i → listed.getD y false = true := by
        intro y hy
        cases hy with
        | edge ho' he hb => rw [ho] at ho'; cases ho'; exact hall _ he hb
        | step ho' he hb hy => rw [ho] at ho'; cases ho'; exact hcl _ _ (hall _ he hb) hy
      have hun : ∀ (d : List Nat), Left ops listed d → ∀ y ∈ d, listed.getD y false = false := by
        intro d hd y hy
        obtain ⟨h1, h2⟩ := (hd.mem y).1 hy
        have h3 : y < listed.size := by rw [hs]; exact h1
        simp only [Array.getD_eq_getD_getElem?, Array.getElem?_eq_getElem h3, Option.getD_some] at h2 ⊢
        exact h2
      have hnb : ∀ (d : List Nat), Left ops listed d → ∀ y ∈ d, ¬ Bf ops y i := fun d hd y hy hb => by
        have h1 := hbf y hb
        rw [hun d hd y hy] at h1; cases h1
      have hcl' : ∀ j y, (listed.setIfInBounds i true).getD j false = true → Bf ops y j → (listed.setIfInBounds i true).getD y false = true := by
        intro j y hj hy
        by_cases hji : j = i
        · subst hji; exact getD_set_true (hbf y hy)
        · rw [getD_set_ne false (Ne.symm hji)] at hj
          exact getD_set_true (hcl j y hj hy)
      have one : ∀ (u v : Nat) (d : List Nat) (T0 : Tm) (H0 : Hp) (log0 : Log), Left ops listed d → d.length ≤ fuel + 1 → d.Pairwise (fun p q => Good ops p q ∨ p = u ∧ q = v) → u ≠ v → i = u → After true P C ops K N ds d a w T0 H0 log0 →
          wpOpIn (FW C.rd) 0 P ops Q i (fun a' w' => wpAnyIn (FW C.rd) 0 P .any ops Q fuel (listed.setIfInBounds i true) a' w') a w := by
        intro u v d T0 H0 log0 hd hdl hdp huv hiu hA
        have hic : i ∈ d := (hd.mem i).2 ⟨hio, h0⟩
        obtain ⟨ys, zs, rfl⟩ := List.append_of_mem hic
        have hgood : ∀ z ∈ ys, Good ops z i ∧ ¬ Bf ops z i := fun z hz =>
          ⟨((List.pairwise_append.1 hdp).2.2 z hz i (List.mem_cons_self ..)).resolve_right fun h => huv (hiu ▸ h.2), hnb _ hd z (List.mem_append_left _ hz)⟩
        obtain ⟨hr, ht, hh, hn, hdd⟩ := hA
        have hfront : After true P C ops K N ds (i :: (ys ++ zs)) a w T0 H0 log0 := ⟨hr.front hK hgood, ht, hh, hn, hdd⟩
        have hcut := hd.cut hil
        have hniy : i ∉ ys ++ zs := by
          have := List.nodup_append.1 hd.nd
          intro hm
          rcases List.mem_append.1 hm with hm | hm
          · exact this.2.2 i hm i (List.mem_cons_self ..) rfl
          · exact (List.nodup_cons.1 this.2.1).1 hm
        refine wpOpIn_mono (fun a' w' ⟨T', H', log', h'⟩ => ?_) (hfront.step (Q := Q) hN fun ch a w T H => hQ _ a w T H (.inr ⟨ch, rfl⟩))
        refine After.any hK hN hdown hQ fuel _ (ys ++ zs) (by simp [hs]) (by simp at hdl ⊢; omega) hcut.nd ?_ hcut.mem hcl' h'
        exact (pairs_cut hdp).imp_of_mem fun ha hb h => h.resolve_right fun h2 => hniy (by rw [hiu, ← h2.1]; exact ha)
      by_cases hix : i = x
      · exact one x y c T H log hc hl hp hxy hix h
      · by_cases hiy : i = y
        · exact one y x c' T' H' log' hc' hl' hp' hxy.symm hiy h'
        · have hfl : ∀ o', ops[i]? = some o' → spineOp o'.op = false ∨ newOp o'.op = true := fun o' ho' => (hflat i o' ho' hix hiy).resolve_right fun hb => hb.elim (hnb c hc x hx) (hnb c hc y hy)
          have front : ∀ (u v : Nat) (d : List Nat) (T0 : Tm) (H0 : Hp) (log0 : Log), Left ops listed d → d.Pairwise (fun p q => Good ops p q ∨ p = u ∧ q = v) → i ≠ v → After true P C ops K N ds d a w T0 H0 log0 →
              ∃ d', Left ops (listed.setIfInBounds i true) d' ∧ d'.length + 1 = d.length ∧ d'.Pairwise (fun p q => Good ops p q ∨ p = u ∧ q = v) ∧ (∀ z, z ≠ i → z ∈ d → z ∈ d') ∧ After true P C ops K N ds (i :: d') a w T0 H0 log0 := by
            intro u v d T0 H0 log0 hd hdp hiv hA
            have hic : i ∈ d := (hd.mem i).2 ⟨hio, h0⟩
            obtain ⟨ys, zs, rfl⟩ := List.append_of_mem hic
            have hgood : ∀ z ∈ ys, Good ops z i ∧ ¬ Bf ops z i := fun z hz =>
              ⟨((List.pairwise_append.1 hdp).2.2 z hz i (List.mem_cons_self ..)).resolve_right fun h => hiv h.2, hnb _ hd z (List.mem_append_left _ hz)⟩
            obtain ⟨hr, ht, hh, hn, hdd⟩ := hA
            refine ⟨ys ++ zs, hd.cut hil, by simp; omega, pairs_cut hdp, fun z hz hm => ?_, ⟨hr.front hK hgood, ht, hh, hn, hdd⟩⟩
            simp only [List.mem_append, List.mem_cons] at hm ⊢
            rcases hm with hm | hm | hm
            · exact .inl hm
            · exact absurd hm hz
            · exact .inr hm
          obtain ⟨d1, a1, a2, a3, a4, a5⟩ := front x y c T H log hc hp hiy h
          obtain ⟨d2, b1, b2, b3, b4, b5⟩ := front y x c' T' H' log' hc' hp' hix h'
          obtain ⟨a', w', k1, k2⟩ := a5.one hfl
          obtain ⟨T1, H1, l1, g1⟩ := k2 _ _ (a5.step (Q := Q) hN fun ch a w T H => hQ _ a w T H (.inr ⟨ch, rfl⟩))
          obtain ⟨T2, H2, l2, g2⟩ := k2 _ _ (b5.step (Q := Q) hN fun ch a w T H => hQ _ a w T H (.inr ⟨ch, rfl⟩))
          exact k1 _ _ (ih _ d1 d2 (by simp [hs]) (by omega) (by omega) a1 b1 a3 b3 (a4 x (Ne.symm hix) hx) (a4 y (Ne.symm hiy) hy) hcl' g1 g2)

def orderOkX (ops : Array Oper) (x y : Nat) (c : List Nat) : Bool :=
  c.length == ops.size && (List.range ops.size).all (c.contains ·) && pairsB (fun p q => goodB ops (Region.before ops) p q || (p == x && q == y)) c && pairsB (fun x y => x != y) c && c.all fun x => decide (x < ops.size)
def flatB (ops : Array Oper) (bits : Array Nat) (x y : Nat) : Bool := (List.range ops.size).all fun i => i == x || i == y || match ops[i]? with
  | some o => !spineOp o.op || newOp o.op || (bits.getD i 0).testBit x || (bits.getD i 0).testBit y
  | none => true
def orderOk3 (ops : Array Oper) (N x y : Nat) (c c' : List Nat) : Bool :=
  orderOkX ops x y c && orderOkX ops y x c' && flatB ops (Region.before ops) x y && edgesDown ops && dstOk ops N && x != y && decide (x < ops.size) && decide (y < ops.size)

theorem orderOkX.spec {x y : Nat} {c : List Nat} (h : orderOkX ops x y c = true) : c.length = ops.size ∧ Left ops (Array.replicate ops.size false) c ∧ c.Pairwise (fun p q => Good ops p q ∨ p = x ∧ q = y) := by
  simp only [orderOkX, Bool.and_eq_true, beq_iff_eq, List.all_eq_true, List.mem_range, List.contains_iff_mem, decide_eq_true_eq] at h
  obtain ⟨⟨⟨⟨h1, h2⟩, h3⟩, h6⟩, hlt⟩ := h
  refine ⟨h1, ⟨(pairsB_spec h6).imp fun h => by simpa using h, fun j => ⟨fun hj => ?_, fun hj => h2 j hj.1⟩⟩, (pairsB_spec h3).imp fun h => ?_⟩
  · have := hlt j hj; exact ⟨this, by simp [this]⟩
  · simp only [Bool.or_eq_true, Bool.and_eq_true, beq_iff_eq] at h
    exact h.imp goodB_spec id

theorem flatB.spec {x y : Nat} (h : flatB ops (Region.before ops) x y = true) : ∀ i o, ops[i]? = some o → i ≠ x → i ≠ y → (spineOp o.op = false ∨ newOp o.op = true) ∨ Bf ops x i ∨ Bf ops y i := by
  intro i o ho hx hy
  unfold flatB at h
  rw [List.all_eq_true] at h
  have := h i (List.mem_range.2 (Array.getElem?_eq_some_iff.1 ho).1)
  rw [ho] at this
  simp only [Bool.or_eq_true, beq_iff_eq, Bool.not_eq_true'] at this
  rcases this with (h1 | h1) | h1
  · exact absurd h1 hx
  · exact absurd h1 hy
  · rcases h1 with ((h1 | h1) | h1) | h1
    · exact .inl (.inl h1)
    · exact .inl (.inr h1)
    · exact .inr (.inl (before_spec ops _ _ h1))
    · exact .inr (.inr (before_spec ops _ _ h1))

theorem wp_region_rw2 {Q : Exit → Act → World → Prop} {id N x y : Nat} {ds : List Deferred} {c c' : List Nat} {a : Act} {w : World} {T : Tm} {H : Hp} (hm : P.follows .mixedOrders = true) (hc : orderOk3 ops N x y c c' = true)
    (hQ : ∀ e a w T H, e = .normal ∨ (∃ ch, e = .panic ch) → K e T H → TSat T a.tmps → HSat C H w → a.tmps.size = N → a.defers = ds → Q e a w)
    (ht : TSat T a.tmps) (hh : HSat C H w) (hn : a.tmps.size = N) (hd : a.defers = ds) (h : RW true P C ops K c T H []) (h' : RW true P C ops K c' T H []) : (Code.region id ops true).wpIn (FW C.rd) 0 P Q a w := by
  have hKp : ∀ e T H H', H.Perm H' → (∃ H0, H0.Perm H ∧ K e T H0) → ∃ H0, H0.Perm H' ∧ K e T H0 := fun e T H H' hp ⟨H0, h0, hk⟩ => ⟨H0, h0.trans hp, hk⟩
  have hQp : ∀ e a w T H, e = .normal ∨ (∃ ch, e = .panic ch) → (∃ H0, H0.Perm H ∧ K e T H0) → TSat T a.tmps → HSat C H w → a.tmps.size = N → a.defers = ds → Q e a w := fun e a w T H he ⟨H0, h0, hk⟩ h1 h2 h3 h4 => hQ e a w T H0 he hk h1 (h2.perm h0.symm) h3 h4
  have h := h.mono (K' := fun e T H => ∃ H0, H0.Perm H ∧ K e T H0) fun e T H hk => ⟨H, .refl _, hk⟩
  have h' := h'.mono (K' := fun e T H => ∃ H0, H0.Perm H ∧ K e T H0) fun e T H hk => ⟨H, .refl _, hk⟩
  simp only [orderOk3, Bool.and_eq_true, decide_eq_true_eq, bne_iff_ne] at hc
  obtain ⟨⟨⟨⟨⟨⟨⟨k1, k2⟩, k3⟩, k4⟩, k5⟩, k6⟩, k7⟩, k8⟩ := hc
  obtain ⟨l1, m1, p1⟩ := orderOkX.spec k1
  obtain ⟨l2, m2, p2⟩ := orderOkX.spec k2
  refine wpIn_region_any hm (After.any2 hKp k5 k4 k6 (flatB.spec k3) hQp ops.size (Array.replicate ops.size false) c c' (log := []) (log' := []) (T := T) (T' := T) (H := H) (H' := H) (by simp) (by omega) (by omega) m1 m2 p1 p2 ((m1.mem x).2 ⟨k7, by simp [k7]⟩) ((m1.mem y).2 ⟨k8, by simp [k8]⟩) ?_ ⟨h, ht, ?_, hn, hd⟩ ⟨h', ht, ?_, hn, hd⟩)
  · intro i y hi; by_cases hlt : i < ops.size <;> simp [hlt] at hi
  · exact hh.drawn rfl rfl rfl rfl
  · exact hh.drawn rfl rfl rfl rfl

theorem SW.region2 {N : Nat} {ds : List Deferred} {Q : Post} {T : Tm} {H : Hp} {id : Nat} {ops : Array Oper} (x y : Nat) (c c' : List Nat) (hm : P.follows .mixedOrders = true) (hc : orderOk3 ops N x y c c' = true) (h : RG true P C ops Q c T H []) (h' : RG true P C ops Q c' T H []) : SW P C N ds (.region id ops true) Q T H := by
  intro a w ht hh hn hd
  exact wp_region_rw2 hm hc (fun e a' w' T' H' _ hk h1 h2 h3 h4 => ⟨T', H', hk, h1, h2, h3, h4⟩) ht hh hn hd (h fun e he => by cases he) (h' fun e he => by cases he)
end Bw
