/-
  Plain tools of this repo: slices, numbers in range, loops.
-/
import Derived.Test.YtlekjgaedligdaaS8
import Derived.Laws.AppendOwn
import Derived.Laws.BytesString
import Derived.MapKept
namespace Bw
open Go Go.RowKit

variable {P : Program} {C : Ctx} {ops : Array Oper} {K : Post} {dr : Bool} {i t : Nat} {is : List Nat} {T : Tm} {H : Hp} {log : Log} {ty : TypeId} {ps : String} {af : Array Edge} {gd : Option (Nat × Bool)}

/-! ### A slice's cells -/
/-- From an address on these cells can be read. -/
def Has (H : Hp) (a : Option Addr) (cs : List Value) : Prop := cs = [] ∨ ∃ b off o, a = some ⟨b, off, none⟩ ∧ (b, o) ∈ H ∧ ∀ i v, cs[i]? = some v → cellA o (off + i) = some v
def Is (a : Option Addr) : Prop := ∃ b off, a = some ⟨b, off, none⟩
@[irreducible] def ptrAt (a : Option Addr) (k : Nat) : Value := match a with
  | some ⟨b, off, none⟩ => .pointer (some ⟨b, off + k, none⟩)
  | _ => undef

theorem ptrAt_some (b off k : Nat) : ptrAt (some ⟨b, off, none⟩) k = .pointer (some ⟨b, off + k, none⟩) := by unfold ptrAt; rfl

theorem Has.tail {p : Nat × AObj} {a : Option Addr} {cs : List Value} (h : Has H a cs) : Has (p :: H) a cs :=
  h.imp id fun ⟨b, off, o, h1, h2, h3⟩ => ⟨b, off, o, h1, List.mem_cons_of_mem _ h2, h3⟩
theorem Has.row {b : Nat} {e : TypeId} {cs : List Value} {r : Nat} (h : (b, .row e cs r) ∈ H) : Has H (some ⟨b, 0, none⟩) cs :=
  .inr ⟨b, 0, _, rfl, h, fun i v hv => by rw [Nat.zero_add]; exact hv⟩
theorem Has.ro {b off : Nat} {cs : List Value} (h : (b, .ro off cs) ∈ H) : Has H (some ⟨b, off, none⟩) cs :=
  .inr ⟨b, off, _, rfl, h, fun i v hv => by simp only [cellA, Nat.le_add_right, if_true, Nat.add_sub_cancel_left]; exact hv⟩
theorem Has.nil {a : Option Addr} : Has H a [] := .inl rfl
theorem Has.isa {a : Option Addr} {cs : List Value} (h : Has H a cs) (hn : cs ≠ []) : Is a := by
  rcases h with h | ⟨b, off, o, h, _⟩
  · exact absurd h hn
  · exact ⟨b, off, h⟩
theorem Has.take {a : Option Addr} {cs : List Value} (h : Has H a cs) (n : Nat) : Has H a (cs.take n) := by
  rcases h with rfl | ⟨b, off, o, h1, h2, h3⟩
  · exact .inl (by simp)
  · exact .inr ⟨b, off, o, h1, h2, fun i v hv => h3 i v (by rw [List.getElem?_take] at hv; split at hv; (exact hv); (cases hv))⟩
theorem Has.of_take {a : Option Addr} {cs cs' : List Value} {n : Nat} (h : Has H a cs) (e : cs' = cs.take n) : Has H a cs' := e ▸ h.take n

/-- Where a slice of a slice begins. -/
def subA (a : Option Addr) (l m s : Nat) : Option Addr := if m = l then a else a.map (·.add (l * s))
theorem Has.drop {a : Option Addr} {cs : List Value} (h : Has H a cs) (l m s : Nat) (hm : m = l → cs.drop (l * s) = []) : Has H (subA a l m s) (cs.drop (l * s)) := by
  unfold subA
  split
  · rename_i e; exact .inl (hm e)
  · rcases h with rfl | ⟨b, off, o, h1, h2, h3⟩
    · exact .inl (by simp)
    · subst h1
      exact .inr ⟨b, off + l * s, o, by simp [add_some], h2, fun i v hv => by rw [Nat.add_assoc]; exact h3 _ _ (by simpa using hv)⟩
theorem subA_zero (a : Option Addr) (m s : Nat) : subA a 0 m s = a := by
  unfold subA
  split
  · rfl
  · rw [Nat.zero_mul]; cases a <;> rfl

def takeL (cs : List Value) : Nat → Nat → Option (List Value)
  | _, 0 => some []
  | k, n + 1 => match cs[k]? with
    | some v => match takeL cs (k + 1) n with
      | some l => some (v :: l)
      | none => none
    | none => none

def loadL (P : Program) (t : TypeId) (cs : List Value) (k : Nat) : Option Value :=
  match aggOf P t with
  | some (true, n) => match takeL cs k n with
    | some l => some (.agg l.toArray)
    | none => none
  | some (false, _) => cs[k]?
  | none => none

theorem takeL_takeA {o : AObj} {off : Nat} {cs : List Value} (h : ∀ i v, cs[i]? = some v → cellA o (off + i) = some v) : ∀ (n k : Nat) (l : List Value), takeL cs k n = some l → takeA o (off + k) n = some l := by
  intro n
  induction n with
  | zero => intro k l hl; simpa [takeL, takeA] using hl
  | succ n ih =>
    intro k l hl
    simp only [takeL] at hl
    cases hc : cs[k]? with
    | none => rw [hc] at hl; cases hl
    | some v =>
      rw [hc] at hl
      simp only at hl
      cases hr : takeL cs (k + 1) n with
      | none => rw [hr] at hl; cases hl
      | some l' =>
        rw [hr] at hl
        have := ih (k + 1) l' hr
        simp only [takeA, h k v hc]
        rw [Nat.add_assoc, this]
        exact hl

theorem loadL_loadA {o : AObj} {off : Nat} {cs : List Value} {t : TypeId} {v : Value} {k : Nat} (h : ∀ i v, cs[i]? = some v → cellA o (off + i) = some v) (hv : loadL P t cs k = some v) : loadA P t o (off + k) = some v := by
  unfold loadL at hv
  unfold loadA
  cases ha : aggOf P t with
  | none => rw [ha] at hv; cases hv
  | some p =>
    obtain ⟨b, n⟩ := p
    rw [ha] at hv
    cases b with
    | false => exact h k v hv
    | true =>
      simp only at hv ⊢
      cases ht : takeL cs k n with
      | none => rw [ht] at hv; cases hv
      | some l => rw [ht] at hv; rw [takeL_takeA h n k l ht]; exact hv

theorem loadL_ne {t : TypeId} {cs : List Value} {k : Nat} {v : Value} {n : Nat} (hv : loadL P t cs k = some v) (ha : aggOf P t = some (false, n)) : cs ≠ [] := by
  rintro rfl
  simp [loadL, ha] at hv

/-- The cells of some elements, one behind the other. -/
theorem flat_get {α : Type} (f : α → List Value) {n : Nat} (hf : ∀ x, (f x).length = n) : ∀ (l : List α) (j d : Nat) (x : α), l[j]? = some x → d < n → (l.flatMap f)[j * n + d]? = (f x)[d]?
  | [], j, d, x, h, _ => by simp at h
  | y :: l, 0, d, x, h, hd => by
    simp only [List.getElem?_cons_zero, Option.some.injEq] at h
    subst h
    rw [List.flatMap_cons, Nat.zero_mul, Nat.zero_add, List.getElem?_append_left (by rw [hf]; exact hd)]
  | y :: l, j + 1, d, x, h, hd => by
    rw [List.getElem?_cons_succ] at h
    rw [List.flatMap_cons, List.getElem?_append_right (by rw [hf, Nat.add_mul]; omega), hf]
    rw [← flat_get f hf l j d x h hd]
    congr 1
    rw [Nat.add_mul]; omega

theorem flat_length {α β : Type} (f : α → List β) {n : Nat} (hf : ∀ x, (f x).length = n) : ∀ (l : List α), (l.flatMap f).length = l.length * n
  | [] => by simp
  | y :: l => by rw [List.flatMap_cons, List.length_append, hf, flat_length f hf l, List.length_cons, Nat.add_mul]; omega

theorem takeL_of {cs : List Value} : ∀ {n k : Nat} {l : List Value}, l.length = n → (∀ d, d < n → cs[k + d]? = l[d]?) → takeL cs k n = some l
  | 0, k, l, hl, _ => by rw [List.eq_nil_of_length_eq_zero hl]; rfl
  | n + 1, k, [], hl, _ => by cases hl
  | n + 1, k, v :: l, hl, h => by
    have h0 := h 0 (by omega)
    simp only [Nat.add_zero, List.getElem?_cons_zero] at h0
    have := takeL_of (cs := cs) (n := n) (k := k + 1) (l := l) (by simpa using hl) fun d hd => by
      have := h (d + 1) (by omega)
      rw [List.getElem?_cons_succ] at this
      rw [← this]; congr 1; omega
    simp only [takeL, h0, this]

theorem loadL_agg {α : Type} {f : α → List Value} {n : Nat} {t : TypeId} {l : List α} {j : Nat} {x : α} (ha : aggOf P t = some (true, n)) (hf : ∀ x, (f x).length = n) (hj : l[j]? = some x) : loadL P t (l.flatMap f) (j * n) = some (.agg (f x).toArray) := by
  have : takeL (l.flatMap f) (j * n) n = some (f x) := takeL_of (hf x) fun d hd => flat_get f hf l j d x hj hd
  simp only [loadL, ha, this]

theorem loadL_fld {α : Type} {f : α → List Value} {n m d : Nat} {t : TypeId} {l : List α} {j : Nat} {x : α} {v : Value} (ha : aggOf P t = some (false, m)) (hf : ∀ x, (f x).length = n) (hj : l[j]? = some x) (hd : d < n) (hv : (f x)[d]? = some v) : loadL P t (l.flatMap f) (j * n + d) = some v := by
  simp only [loadL, ha]
  rw [flat_get f hf l j d x hj hd]; exact hv

theorem flat_ne {α : Type} {f : α → List Value} {l : List α} {j : Nat} {x : α} (hj : l[j]? = some x) (hf : f x ≠ []) : l.flatMap f ≠ [] := by
  intro h
  have hx : x ∈ l := List.mem_of_getElem? hj
  rw [List.flatMap_eq_nil_iff] at h
  exact hf (h x hx)

/-! ### Rules -/
theorem G.iaddrS {s : TypeId} {x y : Operand} {a : Option Addr} {len cap size : Nat} {k : IntKind} {n : Int} (hw : wantT ops T ⟨some t, .indexAddr s x y, ty, ps, af, gd⟩ = some true) (hx : ev T x = some (.slice a len cap)) (hy : ev T y = some (.int k n))
    (he : elemAt P s = some size) (ha : Is a) (j : Nat) (hn : n = (j : Int)) (hj : j < len)
    (next : RG dr P C ops K is (upd T t (ptrAt a (j * size))) H log) : RGo ⟨some t, .indexAddr s x y, ty, ps, af, gd⟩ dr P C ops K i is T H log := by
  obtain ⟨b, off, rfl⟩ := ha
  rw [ptrAt_some] at next
  exact G.iaddr hw hx hy he hn hj next

theorem G.faddrS {s : TypeId} {x : Operand} {f k d : Nat} {a : Option Addr} (hw : wantT ops T ⟨some t, .fieldAddr s x f, ty, ps, af, gd⟩ = some true) (hx : ev T x = some (ptrAt a k)) (hf : fieldAt P s f = some d) (ha : Is a)
    (next : RG dr P C ops K is (upd T t (ptrAt a (k + d))) H log) : RGo ⟨some t, .fieldAddr s x f, ty, ps, af, gd⟩ dr P C ops K i is T H log := by
  obtain ⟨b, off, rfl⟩ := ha
  rw [ptrAt_some] at hx next
  exact G.faddr hw hx hf (by rw [Nat.add_assoc]; exact next)

theorem G.loadS0 {x : Operand} {a : Option Addr} {k : Nat} {cs : List Value} {v : Value} {tl : TypeId} (hw : wantT ops T ⟨some t, .load tl x, ty, ps, af, gd⟩ = some true) (hx : ev T x = some (ptrAt a k)) (hs : Has H a cs) (hne : cs ≠ []) (hv : loadL P tl cs k = some v)
    (next : RG false P C ops K is (upd T t v) H log) : RGo ⟨some t, .load tl x, ty, ps, af, gd⟩ false P C ops K i is T H log := by
  rcases hs with h | ⟨b, off, o, rfl, h2, h3⟩
  · exact absurd h hne
  · rw [ptrAt_some] at hx
    exact G.load0 hw hx h2 (loadL_loadA h3 hv) next

theorem G.loadS1 {H0 : Hp} {x : Operand} {a : Option Addr} {k : Nat} {cs : List Value} {v : Value} {tl : TypeId} (hw : wantT ops T ⟨some t, .load tl x, ty, ps, af, gd⟩ = some true) (hx : ev T x = some (ptrAt a k)) (hs : Has H0 a cs) (hsub : ∀ p ∈ H0, p ∈ H) (hne : cs ≠ []) (hv : loadL P tl cs k = some v)
    (next : ∀ b o, (b, o) ∈ H0 → RG true P C ops K is (upd T t v) H ((i, (b, o)) :: log)) : RGo ⟨some t, .load tl x, ty, ps, af, gd⟩ true P C ops K i is T H log := by
  rcases hs with h | ⟨b, off, o, rfl, h2, h3⟩
  · exact absurd h hne
  · rw [ptrAt_some] at hx
    exact G.load1 hw hx (hsub _ h2) (loadL_loadA h3 hv) (next b o h2)

/-! Slices of slices. -/
theorem sliceAt_run {s e : TypeId} {size : Nat} (hs : P.underlying s = some (.slice e)) (hz : elemAt P s = some size) (x : Value) (lo hi mx : Option Value) (w : World) :
    (Instr.sliceAt s x lo hi mx).run P w = (Instr.slice s x lo hi mx).run P w ∧ P.elem s = e ∧ (Go.sizeOf e).run P w = .ok size w := by
  have he : P.elem s = e := by simp [Program.elem, hs]
  refine ⟨run_sliceAt_slice w s x lo hi mx (by rw [he]; exact hs), he, ?_⟩
  unfold elemAt at hz
  rw [hs] at hz
  obtain ⟨inf, hi, rfl⟩ := Option.map_eq_some_iff.1 hz
  simp [Go.sizeOf, typeInfo, program, Sem.run, hi]

theorem elemAt_sl {s : TypeId} {size : Nat} (hz : elemAt P s = some size) : ∃ e, P.underlying s = some (.slice e) := by
  unfold elemAt at hz
  split at hz
  · exact ⟨_, ‹_›⟩
  · cases hz

theorem G.slice_h {s : TypeId} {x y : Operand} {a : Option Addr} {len cap size h : Nat} {k : IntKind} {n : Int} (hw : wantT ops T ⟨some t, .slice s x none (some y) none, ty, ps, af, gd⟩ = some true) (hx : ev T x = some (.slice a len cap)) (hy : ev T y = some (.int k n))
    (he : elemAt P s = some size) (hn : n = (h : Int)) (hc : h ≤ cap) (next : RG dr P C ops K is (upd T t (.slice a h cap)) H log) : RGo ⟨some t, .slice s x none (some y) none, ty, ps, af, gd⟩ dr P C ops K i is T H log := by
  subst hn
  refine G.fl rfl hw (fun ρ w hρ => ?_) next
  have h1 := hρ x (by simp [Op.operands]) _ hx
  have h2 := hρ y (by simp [Op.operands]) _ hy
  obtain ⟨e, hs⟩ := elemAt_sl he
  obtain ⟨g1, g2, g3⟩ := sliceAt_run hs he (.slice a len cap) none (some (.int k h)) none w
  have g4 := run_slice_h (P := P) w s a len cap (by rw [g2]; exact hs) k (h : Int) (by omega) (by omega)
  have g5 : (if cap = 0 then a else a.map (·.add (0 * size))) = a := subA_zero a cap size
  simp only [execOp, h1, h2, Option.map_some, Option.map_none, Sem.run_bind, g1, g4, g2, g3, Result.andThen_ok, Sem.run_pure, sliced, g5, Int.toNat_natCast, Nat.sub_zero]

theorem G.slice_l {s : TypeId} {x y : Operand} {a : Option Addr} {len cap size l : Nat} {k : IntKind} {n : Int} (hw : wantT ops T ⟨some t, .slice s x (some y) none none, ty, ps, af, gd⟩ = some true) (hx : ev T x = some (.slice a len cap)) (hy : ev T y = some (.int k n))
    (he : elemAt P s = some size) (hn : n = (l : Int)) (hc : l ≤ len) (next : RG dr P C ops K is (upd T t (.slice (subA a l cap size) (len - l) (cap - l))) H log) : RGo ⟨some t, .slice s x (some y) none none, ty, ps, af, gd⟩ dr P C ops K i is T H log := by
  subst hn
  refine G.fl rfl hw (fun ρ w hρ => ?_) next
  have h1 := hρ x (by simp [Op.operands]) _ hx
  have h2 := hρ y (by simp [Op.operands]) _ hy
  obtain ⟨e, hs⟩ := elemAt_sl he
  obtain ⟨g1, g2, g3⟩ := sliceAt_run hs he (.slice a len cap) (some (.int k l)) none none w
  have g4 := run_slice_l (P := P) w s a len cap (by rw [g2]; exact hs) k (l : Int) (by omega) (by omega)
  simp only [execOp, h1, h2, Option.map_some, Option.map_none, Sem.run_bind, g1, g4, g2, g3, Result.andThen_ok, Sem.run_pure, sliced, Int.toNat_natCast, subA]

theorem G.slice_lh {s : TypeId} {x y z : Operand} {a : Option Addr} {len cap size l h : Nat} {k k' : IntKind} {n m : Int} (hw : wantT ops T ⟨some t, .slice s x (some y) (some z) none, ty, ps, af, gd⟩ = some true) (hx : ev T x = some (.slice a len cap)) (hy : ev T y = some (.int k n)) (hz : ev T z = some (.int k' m))
    (he : elemAt P s = some size) (hn : n = (l : Int)) (hm : m = (h : Int)) (hlh : l ≤ h) (hc : h ≤ cap) (next : RG dr P C ops K is (upd T t (.slice (subA a l cap size) (h - l) (cap - l))) H log) : RGo ⟨some t, .slice s x (some y) (some z) none, ty, ps, af, gd⟩ dr P C ops K i is T H log := by
  subst hn; subst hm
  refine G.fl rfl hw (fun ρ w hρ => ?_) next
  have h1 := hρ x (by simp [Op.operands]) _ hx
  have h2 := hρ y (by simp [Op.operands]) _ hy
  have h3 := hρ z (by simp [Op.operands]) _ hz
  obtain ⟨e, hs⟩ := elemAt_sl he
  obtain ⟨g1, g2, g3⟩ := sliceAt_run hs he (.slice a len cap) (some (.int k l)) (some (.int k' h)) none w
  have g4 := run_slice_lh (P := P) w s a len cap (by rw [g2]; exact hs) k k' (l : Int) (h : Int) (by omega) (by omega) (by omega)
  simp only [execOp, h1, h2, h3, Option.map_some, Option.map_none, Sem.run_bind, g1, g4, g2, g3, Result.andThen_ok, Sem.run_pure, sliced, Int.toNat_natCast, subA]

/-! Numbers whose sum, difference.. is in range. -/
theorem G.num {op : Op} {k : IntKind} {m c : Int} (hw : wantT ops T ⟨some t, op, ty, ps, af, gd⟩ = some true) (hs : notSelect op = true) (hnn : newOp op = false) (hk : knownB T op.operands.toList = true)
    (hv : pureRun P (execOp (rhoT T) ⟨some t, op, ty, ps, af, gd⟩) = some (.value (.int k m))) (hc : m = c) (next : RG dr P C ops K is (upd T t (.int k c)) H log) : RGo ⟨some t, op, ty, ps, af, gd⟩ dr P C ops K i is T H log :=
  G.pure hw hs hnn hk hv (by rw [hc]; exact next)
theorem G.boolv {op : Op} {m c : Bool} (hw : wantT ops T ⟨some t, op, ty, ps, af, gd⟩ = some true) (hs : notSelect op = true) (hnn : newOp op = false) (hk : knownB T op.operands.toList = true)
    (hv : pureRun P (execOp (rhoT T) ⟨some t, op, ty, ps, af, gd⟩) = some (.value (.bool m))) (hc : m = c) (next : RG dr P C ops K is (upd T t (.bool c)) H log) : RGo ⟨some t, op, ty, ps, af, gd⟩ dr P C ops K i is T H log :=
  G.pure hw hs hnn hk hv (by rw [hc]; exact next)

/-! ### Loops with a plain part -/
variable {N : Nat} {ds : List Deferred} {Q : Post}
theorem SW.loopI {α : Type} {c : Code} (Inv : α → Prop) (I : α → List (Nat × Value)) (J : α → Hp) (μ : α → Nat) (x0 : α) (h0 : Inv x0) (h1 : ∃ F, hasAll T (I x0) ∧ Rems H (J x0) F)
    (round : ∀ x, Inv x → SW P C N ds c (thenQ (fun T' H' => ∃ x' F, Inv x' ∧ hasAll T' (I x') ∧ Rems H' (J x') F ∧ μ x' < μ x) Q) (tl (I x)) (J x)) : SW P C N ds (.loop c) Q T H := by
  refine SW.loop (α := { x // Inv x }) (fun x => I x.1) (fun x => J x.1) (fun x => μ x.1) ⟨x0, h0⟩ h1 fun ⟨x, hx⟩ => ?_
  intro a w ht hh hn hd
  refine wpIn_mono (round x hx a w ht hh hn hd) fun e a' w' hq => ?_
  obtain ⟨T', H', hQ, g1, g2, g3, g4⟩ := hq
  refine ⟨T', H', ?_, g1, g2, g3, g4⟩
  cases e with
  | normal => obtain ⟨x', F, i1, i2, i3, i4⟩ := hQ; exact ⟨⟨x', i1⟩, F, i2, i3, i4⟩
  | _ => exact hQ

theorem Rems.all : ∀ {H : Hp}, Rems H H []
  | [] => .nil
  | _ :: _ => .cons .here Rems.all
theorem Rems.skip {p : Nat × AObj} {H Hc F : Hp} (h : Rems H Hc F) : Rems (p :: H) Hc (p :: F) := by
  have key : ∀ {H Hc F : Hp}, Rems H Hc F → ∀ p, Rems (p :: H) Hc (p :: F) := by
    intro H Hc F h
    induction h with
    | nil => exact fun p => .nil
    | cons h _ ih => exact fun p => .cons (.there h) (ih p)
  exact key h p

/-! ### Calls that only read -/
def RC (P : Program) (f : FuncId) (args : Array Value) (H : Hp) (v : Value) : Prop := OC P f args H fun u H' => u = v ∧ H' = H

theorem DC.rc {f : FuncId} {args : Array Value} {v : Value} (h : DC P f args v) : RC P f args H v := by
  intro w hw
  have h0 : HSat (Ctx.of w []) [] w := HSat.nil w
  refine (h w h0).mono fun e w' h => ?_
  obtain ⟨u, H', rfl, ⟨rfl, rfl⟩, hs⟩ := h
  refine ⟨u, H, rfl, ⟨rfl, rfl⟩, ?_⟩
  have := HSat.leave (C := Ctx.of w H) (Hc := []) (F := H) hw hs
  exact this

theorem G.rcall {xs : List Operand} {tys : Array TypeId} {f : FuncId} {l : List Value} {v : Value} (hw : wantT ops T ⟨some t, .call ⟨.value (.func f), xs.toArray, tys⟩, ty, ps, af, gd⟩ = some true)
    (hxs : evL T xs = some l) (hcf : Callable P f) (hc : RC P f l.toArray H v) (hst : StOk ops (i :: is) H log) (next : RG dr P C ops K is (upd T t v) H log) : RGo ⟨some t, .call ⟨.value (.func f), xs.toArray, tys⟩, ty, ps, af, gd⟩ dr P C ops K i is T H log := by
  intro ho
  refine RG.spine _ (fun u H' => u = v ∧ H' = H) ho hw rfl rfl (fun ρ w hρ hh => ?_) ?_ ?_
  · have hxs' : xs.toArray.map ρ = l.toArray := by
      rw [List.map_toArray, evL_spec hxs fun x hx u hu => hρ x (by simp [Op.operands, Call.operands, hx]) u hu]
    have := run_call (ρ := ρ) (o := ⟨some t, .call ⟨.value (.func f), xs.toArray, tys⟩, ty, ps, af, gd⟩) (fi := #[]) (ca := #[]) hcf rfl (hρ (.func f) (by simp [Op.operands, Call.operands]) _ rfl) hxs' w
    rw [this]
    have hh' : HSat C (H ++ []) w := by simpa using hh
    simp only [Array.empty_append, Array.append_empty, Came]
    refine Calls.mono (hc w hh'.enter) fun e w' h => ?_
    obtain ⟨v, H', rfl, ⟨hv, hH⟩, hs⟩ := h
    subst hH
    exact .inl ⟨v, _, rfl, ⟨hv, rfl⟩, by simpa using hh'.leave hs⟩
  · rintro u H1 ⟨_, rfl⟩ e he _; exact (hst.spec e he)
  · rintro u H1 ⟨rfl, rfl⟩; exact next

theorem Q.rret {fn : Func} {v : Value} {vs : List Value} {H0 F : Hp} (h1 : ResL P T H fn.results.toList vs) (h2 : Rems H H0 F) (h3 : tupV vs = v) : retQ P fn (fun u H' => u = v ∧ H' = H0) .ret T H := Q.ret h1 h2 ⟨h3, rfl⟩

end Bw
