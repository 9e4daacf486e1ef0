/-
  Plain tools of this repo: a law's row out of its contract, and how arguments are opened.
-/
import Derived.Test.YtlekjgaedligdaaS7
import Derived.ProofKit
import Derived.OpenShut
namespace Bw
open Go Go.RowKit Go.ChangeShapes Go.WideShapes Go.ChangeAt

/-! ### Arguments that are plain cells -/
inductive SK where
  | b
  | i (k : IntKind)
  | f (k : FloatKind)

def okI (k : IntKind) (n : Int) : Prop := (Lit.int k n).wf = true

def MatchK : List SK → List Value → Prop
  | [], [] => True
  | .b :: ks, v :: vs => (∃ b, v = .bool b) ∧ MatchK ks vs
  | .i k :: ks, v :: vs => (∃ n, v = .int k n ∧ okI k n) ∧ MatchK ks vs
  | .f k :: ks, v :: vs => (∃ n, v = .float k n ∧ (Lit.float k n).wf = true) ∧ MatchK ks vs
  | _, _ => False

theorem MatchK.length : ∀ {ks : List SK} {vs : List Value}, MatchK ks vs → vs.length = ks.length
  | [], [], _ => rfl
  | .b :: _, _ :: _, h => by simp [MatchK.length h.2]
  | .i _ :: _, _ :: _, h => by simp [MatchK.length h.2]
  | .f _ :: _, _ :: _, h => by simp [MatchK.length h.2]
  | [], _ :: _, h => h.elim
  | .b :: _, [], h => h.elim
  | .i _ :: _, [], h => h.elim
  | .f _ :: _, [], h => h.elim

theorem MatchK.append : ∀ {k1 k2 : List SK} {v1 v2 : List Value}, MatchK k1 v1 → MatchK k2 v2 → MatchK (k1 ++ k2) (v1 ++ v2)
  | [], _, [], _, _, h => h
  | .b :: _, _, _ :: _, _, h, h2 => ⟨h.1, MatchK.append h.2 h2⟩
  | .i _ :: _, _, _ :: _, _, h, h2 => ⟨h.1, MatchK.append h.2 h2⟩
  | .f _ :: _, _, _ :: _, _, h, h2 => ⟨h.1, MatchK.append h.2 h2⟩
  | [], _, _ :: _, _, h, _ => h.elim
  | .b :: _, _, [], _, h, _ => h.elim
  | .i _ :: _, _, [], _, h, _ => h.elim
  | .f _ :: _, _, [], _, h, _ => h.elim

def flatFs (P : Program) (g : TypeId → Option (List SK)) : Nat → List Field → Option (List SK)
  | _, [] => some []
  | off, f :: fs =>
    if f.offset = off then
      match g f.type with
      | some k => if k.length = P.cellsOf f.type then
          match flatFs P g (off + k.length) fs with
          | some l => some (k ++ l)
          | none => none
        else none
      | none => none
    else none

def flatK (P : Program) : Nat → TypeId → Option (List SK)
  | 0, _ => none
  | n + 1, t =>
    match P.underlying t with
    | some .bool => some [.b]
    | some (.int k) => some [.i k]
    | some (.float k) => some [.f k]
    | some (.struct fs) => match flatFs P (flatK P n) 0 fs.toList with
      | some ks => if ks.length = P.cellsOf t then some ks else none
      | none => none
    | some (.array m e) => match flatK P n e with
      | some ks => if ks.length = P.cellsOf e ∧ P.cellsOf t = m * P.cellsOf e then some (List.replicate m ks).flatten else none
      | none => none
    | _ => none

variable {H : Type} {enc : TypeId × Value → H} {P : Program} {w : World} {base : Nat} {spare : Nat → Bool} {held : Bool}

theorem matchFs {g : TypeId → Option (List SK)} {cs : List Value} (hk : ∀ (t : TypeId) (ks : List SK) (vs : List Value), g t = some ks → (∃ fuel x, DataW.trod enc P w base spare held fuel t vs = some x) → MatchK ks vs) :
    ∀ (fs : List Field) (off : Nat) (ks : List SK), flatFs P g off fs = some ks → (cs.drop off).length = ks.length →
      (∀ f ∈ fs, ∃ fuel x, DataW.trod enc P w base spare held fuel f.type ((cs.drop f.offset).take (P.cellsOf f.type)) = some x) → MatchK ks (cs.drop off) := by
  intro fs
  induction fs with
  | nil =>
    intro off ks h hl _
    simp only [flatFs, Option.some.injEq] at h
    subst h
    have e : cs.drop off = [] := List.eq_nil_of_length_eq_zero (by rw [hl]; rfl)
    rw [e]
    trivial
  | cons f fs ih =>
    intro off ks h hl hf
    simp only [flatFs] at h
    split at h
    · rename_i ho
      cases hfk : g f.type with
      | none => rw [hfk] at h; cases h
      | some k =>
        rw [hfk] at h
        simp only at h
        split at h
        · rename_i hc
          cases hr : flatFs P g (off + k.length) fs with
          | none => rw [hr] at h; cases h
          | some l =>
            rw [hr] at h
            simp only [Option.some.injEq] at h
            subst h
            have h1 := hk f.type k _ hfk (hf f (List.mem_cons_self ..))
            rw [ho] at h1
            have h2 := ih (off + k.length) l hr (by simp at hl ⊢; omega) (fun g hg => hf g (List.mem_cons_of_mem _ hg))
            have e : cs.drop off = (cs.drop off).take (P.cellsOf f.type) ++ cs.drop (off + k.length) := by
              rw [hc, ← List.drop_drop, List.take_append_drop]
            rw [e]
            exact MatchK.append h1 h2
        · cases h
    · cases h

theorem matchArr {ks : List SK} {c : Nat} (hc : ks.length = c) : ∀ (m : Nat) (cs : List Value), cs.length = m * c → (∀ i, i < m → MatchK ks ((cs.drop (i * c)).take c)) → MatchK (List.replicate m ks).flatten cs
  | 0, cs, hl, _ => by
    have e : cs = [] := List.eq_nil_of_length_eq_zero (by rw [hl, Nat.zero_mul])
    rw [e]; trivial
  | m + 1, cs, hl, h => by
    have h1 := h 0 (by omega)
    simp only [Nat.zero_mul, List.drop_zero] at h1
    have h2 := matchArr hc m (cs.drop c) (by rw [List.length_drop, hl, Nat.add_mul]; omega) (fun i hi => by
      have := h (i + 1) (by omega)
      rw [List.drop_drop]
      rw [show c + i * c = (i + 1) * c by rw [Nat.add_mul]; omega]
      exact this)
    rw [List.replicate_succ, List.flatten_cons, ← List.take_append_drop c cs]
    exact MatchK.append h1 h2

theorem trod_flat : ∀ (n : Nat) (t : TypeId) (ks : List SK) (vs : List Value), flatK P n t = some ks → (∃ fuel x, DataW.trod enc P w base spare held fuel t vs = some x) → MatchK ks vs := by
  intro n
  induction n using Nat.strongRecOn with
  | _ n ih =>
    intro t ks vs h hx
    obtain ⟨fuel, x, hx⟩ := hx
    cases n with
    | zero => simp [flatK] at h
    | succ n =>
      simp only [flatK] at h
      cases hu : P.underlying t with
      | none => rw [hu] at h; cases h
      | some d =>
        rw [hu] at h
        cases d with
        | bool =>
          simp only [Option.some.injEq] at h
          subst h
          obtain ⟨b, h1, _⟩ := DataW.trod_bool hu hx
          subst h1
          exact ⟨⟨b, rfl⟩, trivial⟩
        | int k =>
          simp only [Option.some.injEq] at h
          subst h
          obtain ⟨m, h1, _, h2⟩ := DataW.trod_int hu hx
          subst h1
          exact ⟨⟨m, rfl, h2⟩, trivial⟩
        | float k =>
          simp only [Option.some.injEq] at h
          subst h
          cases fuel with
          | zero => simp [DataW.trod] at hx
          | succ fuel =>
            unfold DataW.trod at hx
            rw [hu] at hx
            split at hx <;> simp_all
            exact ⟨⟨_, rfl, hx.1.2⟩, trivial⟩
        | struct fs =>
          simp only at h
          obtain ⟨xs, m, _, _, h3, h4, h5⟩ := DataW.trod_struct hu hx
          cases hq : flatFs P (flatK P n) 0 fs.toList with
          | none => rw [hq] at h; cases h
          | some l =>
            rw [hq] at h
            simp only at h
            split at h
            · rename_i hl
              simp only [Option.some.injEq] at h
              subst h
              have hsub : ∀ f ∈ fs.toList, ∃ fuel x, DataW.trod enc P w base spare held fuel f.type ((vs.drop f.offset).take (P.cellsOf f.type)) = some x := by
                intro f hf
                obtain ⟨i, hi, he⟩ := List.getElem_of_mem hf
                have hi' : i < fs.size := by simpa using hi
                have := h5 i f (by rw [Array.getElem?_eq_getElem hi']; simpa using he)
                rw [List.getElem?_eq_getElem (by omega)] at this
                exact ⟨m, _, this⟩
              have := matchFs (enc := enc) (w := w) (base := base) (spare := spare) (held := held) (cs := vs) (fun t ks vs h hx => ih n (by omega) t ks vs h hx) fs.toList 0 l hq (by simp; omega) hsub
              simpa using this
            · cases h
        | array m e =>
          simp only at h
          cases he : flatK P n e with
          | none => rw [he] at h; cases h
          | some k =>
            rw [he] at h
            simp only at h
            split at h
            · rename_i hc
              simp only [Option.some.injEq] at h
              subst h
              obtain ⟨xs, m', _, _, h3, h4, h5⟩ := DataW.trod_array hu hx
              refine matchArr hc.1 m vs (by rw [h3, hc.2]) fun i hi => ih n (by omega) e k _ he ⟨m', ?_⟩
              have := h5 i hi
              rw [List.getElem?_eq_getElem (by omega)] at this
              exact ⟨_, this⟩
            · cases h
        | _ => cases h

/-- An argument of plain cells, opened. -/
theorem open_flat {t : TypeId} {ks : List SK} {v : Value} {d : DataW H} {ps : List MemPlace} (n : Nat) (hk : flatK P n t = some ks) (h : DataW.Trod enc P w base spare held t v d ps) : MatchK ks v.cells.toList := by
  obtain ⟨fuel, hx⟩ := h
  exact trod_flat n t ks _ hk ⟨fuel, _, hx⟩

theorem cells_agg {v : Value} {t : TypeId} {r : Reach} {b0 : Nat} {m : Nat} (ht : aggOf P t = some (true, m)) (hv : Value.okWide P w r b0 t v) : ∃ cs, v = .agg cs := by
  unfold aggOf at ht
  unfold Value.okWide at hv
  cases hu : P.underlying t with
  | none => rw [hu] at ht; cases ht
  | some d =>
    rw [hu] at ht hv
    cases d with
    | struct fs => obtain ⟨cs, h, _⟩ := hv; exact ⟨cs, h⟩
    | array n e => obtain ⟨cs, h, _⟩ := hv; exact ⟨cs, h⟩
    | _ => cases hi : P.info? t <;> rw [hi] at ht <;> simp at ht

theorem open_agg {t : TypeId} {ks : List SK} {v : Value} {d : DataW H} {ps : List MemPlace} {r : Reach} {b0 m : Nat} (n : Nat) (hk : flatK P n t = some ks) (ht : aggOf P t = some (true, m)) (hv : Value.okWide P w r b0 t v)
    (h : DataW.Trod enc P w base spare held t v d ps) : ∃ l : List Value, v = .agg l.toArray ∧ MatchK ks l := by
  obtain ⟨cs, rfl⟩ := cells_agg ht hv
  exact ⟨cs.toList, by simp, by simpa [Value.cells] using open_flat n hk h⟩

/-! ### A law's row -/
theorem trodAll_stays {W W' : World} {ts : List TypeId} (hl : laidOutB P = true) (hr : ∀ t ∈ ts, P.readableRec t = true ∧ t < P.types.size) (hb : Below W.heap.size W W') :
    ∀ {vs : List Value} {ds : List (DataW H)} {ps : List MemPlace}, (∀ x ∈ ps, x.block < W.heap.size) → DataW.TrodAll enc P W 0 (fun _ => true) true ts vs ds ps →
      DataW.TrodAll enc P W' 0 (fun b => decide (b < W.heap.size)) true ts vs ds ps := by
  induction ts with
  | nil => intro vs ds ps _ h; obtain ⟨rfl, rfl, rfl⟩ := trodAll_nil h; rfl
  | cons t ts ih =>
    intro vs ds ps hp h
    obtain ⟨v, vs', d, ds', p, q, rfl, rfl, rfl, h1, h2⟩ := trodAll_cons h
    obtain ⟨r1, r2⟩ := hr t (List.mem_cons_self ..)
    refine ⟨p, q, Below.trod hl r1 r2 h1 hb (fun x hx => hp x (List.mem_append_left _ hx)), ih (fun u hu => hr u (List.mem_cons_of_mem _ hu)) (fun x hx => hp x (List.mem_append_right _ hx)) h2, rfl⟩

theorem below_of_frm {W W' : World} (h : Frm [] W W') : Below W.heap.size W W' := ⟨h.os, h.tape, h.output, h.size, fun k hk => h.block k hk (by simp)⟩

/-- What a law's call leaves: true; every argument reads as it did. -/
theorem law_post {f : Func} {s : ChangeSpec} {apart again fresh : Bool} {W W' : World} {args : Array Value} {ds gs : List (DataW H)} {before : List MemPlace} {bt : TypeId} (hl : laidOutB P = true)
    (hr : ∀ t ∈ f.params.toList, P.readableRec t = true ∧ t < P.types.size) (hres : f.resultTypes = #[bt]) (hbt : P.underlying bt = some .bool) (hag : again = false)
    (hs : ∀ ds : List (DataW H), ds.length = f.params.size → s.fn H (ds ++ gs) = { results := [.lit (.bool true)], args := ds }) (hv : s.vars = [])
    (hW : DataW.Whole enc P f.params.toList s.vars apart W args.toList ds gs before) (hb : Frm [] W W') : s.post enc P f apart fresh false again W args (.bool true) W' := by
  have hlt := hW.lt
  have hW' := hW
  obtain ⟨p, q, hA, hV, rfl, _, _⟩ := hW
  rw [hv] at hV
  obtain ⟨rfl, rfl⟩ := trodVars_none hV
  have hlen : ds.length = f.params.size := by
    have key : ∀ (ts : List TypeId) (vs : List Value) (ds : List (DataW H)) (ps : List MemPlace), DataW.TrodAll enc P W 0 (fun _ => true) true ts vs ds ps → ds.length = ts.length := by
      intro ts
      induction ts with
      | nil => intro vs ds ps h; obtain ⟨_, rfl, _⟩ := trodAll_nil h; rfl
      | cons t ts ih =>
        intro vs ds ps h
        obtain ⟨v, vs', d, ds', p, q, rfl, rfl, rfl, h1, h2⟩ := trodAll_cons h
        simp [ih _ _ _ h2]
    have := key _ _ _ _ hA
    simpa using this
  have e := hs ds hlen
  have hB := below_of_frm hb
  refine ⟨ds, [], p ++ [], [], p, [], hW', ?_, ?_, ?_, hB.frame _, fun h => by rw [hag] at h; cases h⟩
  · rw [e, hres]
    exact trodAll_mk1 (shut_bool hbt true)
  · rw [e]
    exact trodAll_stays hl hr hB (fun x hx => hlt x (List.mem_append_left _ hx)) hA
  · rw [hv, e]
    rfl

theorem HSat.nil (w : World) : HSat (Ctx.of w []) [] w := ⟨fun _ hp => (List.not_mem_nil hp).elim, List.Pairwise.nil, fun _ hp => (List.not_mem_nil hp).elim, fun _ hp => (List.not_mem_nil hp).elim, Frm.refl _ _⟩

theorem DC.run {f : FuncId} {args : Array Value} {v : Value} (h : DC P f args v) (w : World) : Calls P f args w fun e w' => e = .returned v ∧ Frm [] w w' := by
  refine (h w (HSat.nil w)).mono fun e w' h => ?_
  obtain ⟨u, H', rfl, ⟨rfl, rfl⟩, hs⟩ := h
  exact ⟨rfl, hs.frm⟩

end Bw
