/-
  Plain tools of this repo: slices that are handed in.
-/
import Derived.Test.YtlekjgaedligdaaSB
namespace Bw
open Go Go.RowKit Go.ChangeShapes Go.WideShapes Go.ChangeAt

variable {HH : Type} {enc : TypeId × Value → HH} {P : Program} {W : World} {base : Nat}

def RoIn (W : World) (H : Hp) : Prop := ∀ p ∈ H, Holds W p.1 p.2 ∧ p.2.wr = false

theorem RoIn.nil : RoIn W [] := fun _ h => nomatch h
theorem RoIn.append {A B : Hp} (ha : RoIn W A) (hb : RoIn W B) : RoIn W (A ++ B) := fun p hp => (List.mem_append.1 hp).elim (ha p) (hb p)
theorem RoIn.wkeys {H : Hp} (h : RoIn W H) : wkeys H = [] := by
  unfold Bw.wkeys
  rw [List.map_eq_nil_iff, List.filter_eq_nil_iff]
  intro p hp; rw [(h p hp).2]; simp
theorem RoIn.hsat {H : Hp} (h : RoIn W H) : HSat (Ctx.of W H) H W := by
  refine ⟨fun p hp => (h p hp).1, ?_, fun p hp hw => ?_, fun p hp => .inl (List.mem_map.2 ⟨p, hp, rfl⟩), Frm.refl _ _⟩
  · rw [List.pairwise_iff_forall_sublist]
    intro p q hs hw
    have hp := hs.subset (List.mem_cons_self ..)
    have hq := hs.subset (List.mem_cons_of_mem _ (List.mem_cons_self ..))
    rcases hw with hw | hw
    · rw [(h p hp).2] at hw; cases hw
    · rw [(h q hq).2] at hw; cases hw
  · rw [(h p hp).2] at hw; cases hw

theorem OC.run {f : FuncId} {args : Array Value} {H : Hp} {v : Value} {R : Value → Hp → Prop} (h : OC P f args H R) (hR : ∀ u H', R u H' → u = v) (hr : RoIn W H) : Calls P f args W fun e w' => e = .returned v ∧ Frm [] W w' := by
  refine (h W hr.hsat).mono fun e w' h => ?_
  obtain ⟨u, H', rfl, hu, hs⟩ := h
  rw [hR u H' hu]
  refine ⟨rfl, ?_⟩
  have := hs.frm
  simpa [Ctx.of, hr.wkeys] using this

theorem Has.mono {H H' : Hp} {a : Option Addr} {cs : List Value} (h : Has H a cs) (hs : ∀ p ∈ H, p ∈ H') : Has H' a cs :=
  h.imp id fun ⟨b, off, o, h1, h2, h3⟩ => ⟨b, off, o, h1, hs _ h2, h3⟩

theorem all_map {α β : Type} {f : α → β} {R : α → Prop} : ∀ {l : List β}, (∀ x ∈ l, ∃ y, x = f y ∧ R y) → ∃ ys : List α, l = ys.map f ∧ ∀ y ∈ ys, R y
  | [], _ => ⟨[], rfl, (fun _ h => nomatch h)⟩
  | x :: l, h => by
    obtain ⟨y, rfl, hy⟩ := h x (List.mem_cons_self ..)
    obtain ⟨ys, rfl, hys⟩ := all_map (l := l) fun z hz => h z (List.mem_cons_of_mem _ hz)
    exact ⟨y :: ys, rfl, fun z hz => (List.mem_cons.1 hz).elim (fun e => e ▸ hy) (hys z)⟩

/-- A slice of plain cells that is handed in. -/
theorem open_slice {t e : TypeId} {ks : List SK} {v : Value} {d : DataW HH} {ps : List MemPlace} {r : Reach} {b0 : Nat} (ht : P.underlying t = some (.slice e)) (n : Nat) (hk : flatK P n e = some ks) (hsz : P.cellsOf e = ks.length) (hpos : 0 < ks.length)
    (hv : Value.okWide P W r b0 t v) (h : DataW.Trod enc P W base (fun _ => true) true t v d ps) :
    ∃ (a : Option Addr) (len cap : Nat) (Hc : Hp) (els : List (List Value)), v = .slice a len cap ∧ els.length = cap ∧ len ≤ cap ∧ cap ≤ maxLen ∧ (∀ x ∈ els, MatchK ks x) ∧ Has Hc a els.flatten ∧ RoIn W Hc ∧ (a = none → len = 0 ∧ cap = 0) := by
  obtain ⟨fuel, hx⟩ := h
  obtain ⟨a', len', cap', rfl⟩ := okWide_slice ht hv
  have hcells : ∀ (a : Option Addr) (l c : Nat), (Value.slice a' len' cap').cells.toList = [.slice a l c] → Value.slice a' len' cap' = .slice a l c := fun a l c hc => by simpa [Value.cells] using hc
  rcases DataW.trod_slice ht hx with ⟨h1, h2⟩ | ⟨a, len, cap, elems, rest, m, _, h1, _, _, h4, h5, h6, h7, h8, _⟩
  · have hq := hcells _ _ _ h1
    simp only [Value.slice.injEq] at hq
    obtain ⟨q1, q2, q3⟩ := hq
    subst q1 q2 q3
    exact ⟨none, 0, 0, [], [], rfl, rfl, Nat.le_refl _, Nat.zero_le _, (fun _ h => nomatch h), .nil, .nil, fun _ => ⟨rfl, rfl⟩⟩
  · have hq := hcells _ _ _ h1
    simp only [Value.slice.injEq] at hq
    obtain ⟨q1, q2, q3⟩ := hq
    subst q1; have q2 := q2.symm; subst q2; have q3 := q3.symm; subst q3
    obtain ⟨g1, g2⟩ := h8 rfl
    have hel : ∀ i, i < cap → ∃ cs', W.cells? base (a.add (i * P.cellsOf e)) (P.cellsOf e) = some cs' ∧ MatchK ks cs' := by
      intro i hi
      have key : ∀ (x : Option (DataW HH × List MemPlace)), x ≠ none → (W.cells? base (a.add (i * P.cellsOf e)) (P.cellsOf e)).bind (DataW.trod enc P W base (fun _ => true) true m e) = x → ∃ cs', W.cells? base (a.add (i * P.cellsOf e)) (P.cellsOf e) = some cs' ∧ MatchK ks cs' := by
        intro x hx hb
        cases x with
        | none => exact absurd rfl hx
        | some x =>
          obtain ⟨cs', hc, ht'⟩ := Option.bind_eq_some_iff.1 hb
          exact ⟨cs', hc, trod_flat n e ks cs' hk ⟨m, _, ht'⟩⟩
      by_cases hi' : i < len
      · exact key _ (by rw [List.getElem?_eq_getElem (by omega)]; simp) (h7 i hi')
      · have := g2 (i - len) (by omega)
        rw [show len + (i - len) = i by omega] at this
        exact key _ (by rw [List.getElem?_eq_getElem (by omega)]; simp) this
    have hels : ∀ n, n ≤ cap → ∃ els : List (List Value), els.length = n ∧ (∀ x ∈ els, MatchK ks x) ∧ ∀ i x, els[i]? = some x → W.cells? base (a.add (i * P.cellsOf e)) (P.cellsOf e) = some x := by
      intro n
      induction n with
      | zero => exact fun _ => ⟨[], rfl, (fun _ h => nomatch h), (fun i x h => by simp at h)⟩
      | succ n ih =>
        intro hn
        obtain ⟨els, e1, e2, e3⟩ := ih (by omega)
        obtain ⟨cs', c1, c2⟩ := hel n (by omega)
        refine ⟨els ++ [cs'], by simp [e1], fun x hx => ?_, fun i x hx => ?_⟩
        · rcases List.mem_append.1 hx with hx | hx
          · exact e2 x hx
          · rw [List.mem_singleton.1 hx]; exact c2
        · rw [List.getElem?_append] at hx
          split at hx
          · exact e3 i x hx
          · rename_i hlt
            rw [e1] at hx hlt
            have : i = n := by
              rcases Nat.lt_or_ge (i - n) 1 with h | h
              · omega
              · rw [List.getElem?_eq_none (by simp; omega)] at hx; cases hx
            subst this
            simp at hx
            subst hx
            exact c1
    obtain ⟨els, e1, e2, e3⟩ := hels cap (Nat.le_refl _)
    by_cases hc0 : cap = 0
    · subst hc0
      have : els = [] := List.eq_nil_of_length_eq_zero e1
      subst this
      exact ⟨some a, len, 0, [], [], rfl, rfl, h4, h5, (fun _ h => nomatch h), .nil, .nil, (fun h => nomatch h)⟩
    · obtain ⟨cs0, c1, c2⟩ := hel 0 (by omega)
      obtain ⟨_, k2, k3⟩ := World.cells?_some c1
      have k4 := k3 0 (by omega)
      simp only [Nat.zero_mul] at k4
      have ha0 : (a.add 0).add 0 = a := rfl
      rw [ha0] at k4
      obtain ⟨b, off, sp⟩ := a
      have hsp : sp = none := by
        cases sp with
        | none => rfl
        | some s =>
          have hlt : 0 < cs0.length := by omega
          rw [List.getElem?_eq_getElem hlt] at k4
          unfold World.cell? at k4
          split at k4
          · simp at k4
          · cases k4
      subst hsp
      have hcell : ∀ j v, els.flatten[j]? = some v → W.cell? ⟨b, off + j, none⟩ = some v := by
        have hflat : els.flatten = els.flatMap id := by simp [List.flatMap]
        intro j v hj
        have hlen : ∀ x ∈ els, x.length = ks.length := fun x hx => (e2 x hx).length
        -- the element, and the cell in it
        have key : ∀ (l : List (List Value)) (s : Nat), (∀ x ∈ l, x.length = ks.length) → (∀ i x, l[i]? = some x → W.cells? base (Addr.add ⟨b, off, none⟩ ((s + i) * P.cellsOf e)) (P.cellsOf e) = some x) → ∀ j v, l.flatten[j]? = some v → W.cell? ⟨b, off + s * ks.length + j, none⟩ = some v := by
          intro l
          induction l with
          | nil => intro s _ _ j v hj; simp at hj
          | cons x l ih =>
            intro s hl hi j v hj
            rw [List.flatten_cons] at hj
            have hx := hl x (List.mem_cons_self ..)
            by_cases hj' : j < ks.length
            · rw [List.getElem?_append_left (by omega)] at hj
              have := hi 0 x rfl
              obtain ⟨_, _, q3⟩ := World.cells?_some this
              have q4 := q3 j (by rw [hsz]; exact hj')
              rw [hj, add_some, add_some, Nat.add_zero, hsz] at q4
              exact q4
            · rw [List.getElem?_append_right (by omega), hx] at hj
              have := ih (s + 1) (fun y hy => hl y (List.mem_cons_of_mem _ hy)) (fun i y hy => by
                have := hi (i + 1) y (by simpa using hy)
                rw [show s + 1 + i = s + (i + 1) by omega]; exact this) (j - ks.length) v hj
              rw [show off + (s + 1) * ks.length + (j - ks.length) = off + s * ks.length + j by rw [Nat.add_mul]; omega] at this
              exact this
        have := key els 0 hlen (fun i x hx => by rw [Nat.zero_add]; exact e3 i x hx) j v hj
        simpa using this
      have hb : b < W.heap.size := by
        have hlt : 0 < cs0.length := by omega
        rw [List.getElem?_eq_getElem hlt] at k4
        exact World.block_lt_of_cell? W _ k4
      refine ⟨some ⟨b, off, none⟩, len, cap, [(b, .ro off els.flatten)], els, rfl, e1, h4, h5, e2, .ro (List.mem_singleton.2 rfl), ?_, (fun h => nomatch h)⟩
      intro p hp
      rw [List.mem_singleton] at hp
      subst hp
      exact ⟨⟨hb, fun j v hv => hcell j v hv⟩, rfl⟩
end Bw
