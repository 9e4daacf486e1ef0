/-
  Plain tools of this repo: a judgement over a frame's known slots and a list of known blocks, and what one operation does to them.
-/
import Derived.Orders
import Derived.WalkKit
namespace Bw
open Go Go.RowKit

/-! ### Known slots -/
abbrev Tm := Nat → Option Value
def upd (T : Tm) (d : Nat) (v : Value) : Tm := fun i => if i = d then some v else T i
def updO (T : Tm) : Option Tmp → Value → Tm
  | some d, v => upd T d v
  | none, _ => T
def noT : Tm := fun _ => none
def ev (T : Tm) : Operand → Option Value
  | .tmp t => T t
  | .const v => some v
  | .global _ => none
  | .func f => some (.func (.func f) #[] #[])

def TSat (T : Tm) (a : Array Value) : Prop := ∀ i v, T i = some v → a[i]? = some v

theorem TSat.eval {T : Tm} {a : Act} (h : TSat T a.tmps) {x : Operand} {v : Value} (hx : ev T x = some v) : a.eval x = v := by
  cases x with
  | tmp t => have := h t v hx; simp [Act.eval, this]
  | const c => simpa [ev, Act.eval] using hx
  | global g => simp [ev] at hx
  | func f => simpa [ev, Act.eval] using hx

theorem TSat.put {T : Tm} {a : Act} (h : TSat T a.tmps) {d : Option Tmp} {v : Value} (hd : ∀ t, d = some t → t < a.tmps.size) : TSat (updO T d v) (a.put d v).tmps := by
  cases d with
  | none => exact h
  | some t =>
    intro i u hu
    have ht := hd t rfl
    simp only [updO, upd] at hu
    simp only [Act.put]
    by_cases hi : i = t
    · subst hi
      simp only [if_true, Option.some.injEq] at hu
      subst hu
      simp [ht]
    · rw [if_neg hi] at hu
      rw [Array.getElem?_setIfInBounds_ne (Ne.symm hi)]
      exact h i u hu

/-! ### Known blocks -/
inductive AObj where
  | row (t : TypeId) (cs : List Value) (room : Nat)
  | ro (start : Nat) (cs : List Value)
  | map (es : Array MapEntry) (clock : Nat)
  | obj (o : Obj)
  | dead

def AObj.wr : AObj → Bool
  | .row .. | .map .. | .obj _ => true
  | _ => false

def Holds (w : World) (b : Nat) : AObj → Prop
  | .row t cs room => ∃ c, w.heap[b]? = some (.cells c t (0, 0)) ∧ c.toList.take cs.length = cs ∧ cs.length + room ≤ c.size
  | .ro s cs => b < w.heap.size ∧ ∀ i v, cs[i]? = some v → w.cell? ⟨b, s + i, none⟩ = some v
  | .map es clock => w.heap[b]? = some (.map es clock)
  | .obj o => w.heap[b]? = some o
  | .dead => b < w.heap.size

abbrev Hp := List (Nat × AObj)

structure Frm (fp : List Nat) (w w' : World) : Prop where
  os : w'.os = w.os
  tape : w'.tape = w.tape
  output : w'.output = w.output
  size : w.heap.size ≤ w'.heap.size
  block : ∀ k, k < w.heap.size → k ∉ fp → w'.heap[k]? = w.heap[k]?

theorem Frm.refl (fp : List Nat) (w : World) : Frm fp w w := ⟨rfl, rfl, rfl, Nat.le_refl _, fun _ _ _ => rfl⟩

/-- Where a call began: the world, and what was known of it: all blocks, and those that it may write. -/
structure Ctx where
  w0 : World
  fp : List Nat
  kp : List Nat
  /-- The loop's record, where it is a round of a range over a function. -/
  rd : Option Nat := none

structure HSat (C : Ctx) (H : Hp) (w : World) : Prop where
  heap : ∀ p ∈ H, Holds w p.1 p.2
  apart : H.Pairwise fun p q => p.2.wr = true ∨ q.2.wr = true → p.1 ≠ q.1
  own : ∀ p ∈ H, p.2.wr = true → p.1 ∈ C.fp ∨ C.w0.heap.size ≤ p.1
  key : ∀ p ∈ H, p.1 ∈ C.kp ∨ C.w0.heap.size ≤ p.1
  frm : Frm C.fp C.w0 w

theorem Holds.lt {w : World} {b : Nat} {o : AObj} (h : Holds w b o) : b < w.heap.size := by
  cases o with
  | row t cs room => obtain ⟨c, hc, _⟩ := h; exact (Array.getElem?_eq_some_iff.1 hc).1
  | ro s cs => exact h.1
  | map es clock => exact (Array.getElem?_eq_some_iff.1 h).1
  | obj o => exact (Array.getElem?_eq_some_iff.1 h).1
  | dead => exact h

/-- What is known of a block that has not turned is known still. -/
theorem Holds.same {w w' : World} {b : Nat} {o : AObj} (h : Holds w b o) (hs : w'.heap[b]? = w.heap[b]?) : Holds w' b o := by
  have hl := h.lt
  have hl' : b < w'.heap.size := by
    rcases Nat.lt_or_ge b w'.heap.size with h' | h'
    · exact h'
    · rw [Array.getElem?_eq_none h'] at hs
      rw [Array.getElem?_eq_getElem hl] at hs
      cases hs
  cases o with
  | row t cs room => obtain ⟨c, hc, h1, h2⟩ := h; exact ⟨c, hs.trans hc, h1, h2⟩
  | ro s cs =>
    refine ⟨hl', fun i v hv => ?_⟩
    rw [World.cell?_of_block (w := w) (by exact hs)]
    exact h.2 i v hv
  | map es clock => exact hs.trans h
  | obj o => exact hs.trans h
  | dead => exact hl'

/-- The cell at an offset, where it is known. -/
def cellA : AObj → Nat → Option Value
  | .row _ cs _, i => cs[i]?
  | .ro s cs, i => if s ≤ i then cs[i - s]? else none
  | _, _ => none

theorem Holds.cell {w : World} {b : Nat} {o : AObj} (h : Holds w b o) {i : Nat} {v : Value} (hv : cellA o i = some v) : w.cell? ⟨b, i, none⟩ = some v := by
  cases o with
  | row t cs room =>
    obtain ⟨c, hc, h1, h2⟩ := h
    simp only [cellA] at hv
    have : c[i]? = some v := by
      have hi : i < cs.length := (List.getElem?_eq_some_iff.1 hv).1
      rw [← h1, List.getElem?_take_of_lt hi] at hv
      simpa using hv
    simp [World.cell?, hc, this]
  | ro s cs =>
    simp only [cellA] at hv
    split at hv
    · rename_i hsi
      have := h.2 (i - s) v hv
      rwa [Nat.add_sub_cancel' hsi] at this
    · cases hv
  | map es clock => cases hv
  | obj o => cases hv
  | dead => cases hv

theorem HSat.of_same {C : Ctx} {w w' : World} {H : Hp} (h : HSat C H w) (hh : ∀ p ∈ H, w'.heap[p.1]? = w.heap[p.1]?) (hf : Frm C.fp C.w0 w') : HSat C H w' :=
  ⟨fun p hp => (h.heap p hp).same (hh p hp), h.apart, h.own, h.key, hf⟩

/-- A draw turns nothing that is known. -/
theorem HSat.drawn {C : Ctx} {w w' : World} {H : Hp} (h : HSat C H w) (hh : w'.heap = w.heap) (ho : w'.os = w.os) (ht : w'.tape = w.tape) (hu : w'.output = w.output) : HSat C H w' :=
  h.of_same (fun p _ => by rw [hh]) ⟨ho.trans h.frm.os, ht.trans h.frm.tape, hu.trans h.frm.output, by rw [hh]; exact h.frm.size, fun k hk hn => by rw [hh]; exact h.frm.block k hk hn⟩

/-- A new block. -/
theorem HSat.alloc {C : Ctx} {w : World} {H : Hp} (h : HSat C H w) (o : Obj) (a : AObj) (ha : Holds (w.alloc o) w.heap.size a) : HSat C ((w.heap.size, a) :: H) (w.alloc o) := by
  refine ⟨fun p hp => ?_, ?_, ?_, ?_, ?_⟩
  · rcases List.mem_cons.1 hp with rfl | hp
    · exact ha
    · exact (h.heap p hp).same (Below.heap_alloc _ _ _ (h.heap p hp).lt)
  · refine List.Pairwise.cons (fun q hq _ => ?_) h.apart
    exact (Nat.ne_of_lt (h.heap q hq).lt).symm
  · intro p hp hw
    rcases List.mem_cons.1 hp with rfl | hp
    · exact .inr h.frm.size
    · exact h.own p hp hw
  · intro p hp
    rcases List.mem_cons.1 hp with rfl | hp
    · exact .inr h.frm.size
    · exact h.key p hp
  · refine ⟨h.frm.os, h.frm.tape, h.frm.output, ?_, fun k hk hn => ?_⟩
    · have := h.frm.size; simp; omega
    · rw [Below.heap_alloc _ _ _ (Nat.lt_of_lt_of_le hk h.frm.size)]; exact h.frm.block k hk hn

/-! ### Lists of known blocks -/
inductive Rem : Hp → Nat × AObj → Hp → Prop
  | here {p H} : Rem (p :: H) p H
  | there {q p H H'} (h : Rem H p H') : Rem (q :: H) p (q :: H')

inductive Rems : Hp → Hp → Hp → Prop
  | nil {H} : Rems H [] H
  | cons {H p H1 Hc H2} (h : Rem H p H1) (hs : Rems H1 Hc H2) : Rems H (p :: Hc) H2

inductive App : Hp → Hp → Hp → Prop
  | nil {H} : App [] H H
  | cons {p F H N} (h : App F H N) : App (p :: F) H (p :: N)

theorem App.eq {F H N : Hp} (h : App F H N) : F ++ H = N := by
  induction h with
  | nil => rfl
  | cons _ ih => simp [ih]

theorem Rem.perm {H H' : Hp} {p : Nat × AObj} (h : Rem H p H') : H.Perm (p :: H') := by
  induction h with
  | here => exact .refl _
  | there _ ih => exact (List.Perm.cons _ ih).trans (List.Perm.swap _ _ _)

theorem Rems.perm {H Hc F : Hp} (h : Rems H Hc F) : H.Perm (Hc ++ F) := by
  induction h with
  | nil => exact .refl _
  | cons h _ ih => exact h.perm.trans (List.Perm.cons _ ih)

theorem HSat.perm {C : Ctx} {w : World} {H H' : Hp} (h : HSat C H w) (hp : H.Perm H') : HSat C H' w :=
  ⟨fun p hm => h.heap p (hp.mem_iff.2 hm), (hp.pairwise_iff (fun h e => (h e.symm).symm)).1 h.apart, fun p hm => h.own p (hp.mem_iff.2 hm), fun p hm => h.key p (hp.mem_iff.2 hm), h.frm⟩

/-- Some of what is known. -/
theorem HSat.sub {C : Ctx} {w : World} {H H' : Hp} (h : HSat C (H' ++ H) w) : HSat C H w :=
  ⟨fun p hm => h.heap p (List.mem_append_right _ hm), (List.pairwise_append.1 h.apart).2.1, fun p hm => h.own p (List.mem_append_right _ hm), fun p hm => h.key p (List.mem_append_right _ hm), h.frm⟩

def keys (H : Hp) : List Nat := H.map (·.1)
def wkeys (H : Hp) : List Nat := (H.filter (·.2.wr)).map (·.1)

def Ctx.of (w : World) (H : Hp) : Ctx := { w0 := w, fp := wkeys H, kp := keys H }
def Ctx.inRound (C : Ctx) (l : Nat) : Ctx := { C with rd := some l }
theorem HSat.inRound {C : Ctx} {H : Hp} {w : World} (l : Nat) (h : HSat C H w) : HSat (C.inRound l) H w := ⟨h.heap, h.apart, h.own, h.key, h.frm⟩
theorem HSat.outRound {C : Ctx} {H : Hp} {w : World} {l : Nat} (h : HSat (C.inRound l) H w) : HSat C H w := ⟨h.heap, h.apart, h.own, h.key, h.frm⟩

/-- What a call needs to know, handed on; the rest stays. -/
theorem HSat.enter {C : Ctx} {w : World} {Hc F : Hp} (h : HSat C (Hc ++ F) w) : HSat (Ctx.of w Hc) Hc w := by
  refine ⟨fun p hm => h.heap p (List.mem_append_left _ hm), (List.pairwise_append.1 h.apart).1, fun p hm hw => .inl ?_, fun p hm => .inl ?_, Frm.refl _ _⟩
  · exact List.mem_map.2 ⟨p, List.mem_filter.2 ⟨hm, hw⟩, rfl⟩
  · exact List.mem_map.2 ⟨p, hm, rfl⟩

theorem HSat.leave {C : Ctx} {w w' : World} {Hc F H' : Hp} (h : HSat C (Hc ++ F) w) (h' : HSat (Ctx.of w Hc) H' w') : HSat C (H' ++ F) w' := by
  have hF : ∀ p ∈ F, p.1 < w.heap.size ∧ p.1 ∉ wkeys Hc := fun p hp => by
    refine ⟨(h.heap p (List.mem_append_right _ hp)).lt, fun hm => ?_⟩
    obtain ⟨q, hq, he⟩ := List.mem_map.1 hm
    obtain ⟨hq, hw⟩ := List.mem_filter.1 hq
    exact (List.pairwise_append.1 h.apart).2.2 q hq p hp (.inl hw) he
  have hsame : ∀ p ∈ F, w'.heap[p.1]? = w.heap[p.1]? := fun p hp => h'.frm.block p.1 (hF p hp).1 (hF p hp).2
  have hkey : ∀ q ∈ Hc, q.1 ∈ C.kp ∨ C.w0.heap.size ≤ q.1 := fun q hq => h.key q (List.mem_append_left _ hq)
  refine ⟨fun p hp => ?_, ?_, fun p hp hw => ?_, fun p hp => ?_, ?_⟩
  · rcases List.mem_append.1 hp with hp | hp
    · exact h'.heap p hp
    · exact (h.heap p (List.mem_append_right _ hp)).same (hsame p hp)
  · refine List.pairwise_append.2 ⟨h'.apart, (List.pairwise_append.1 h.apart).2.1, fun p hp q hq hw he => ?_⟩
    rcases hw with hw | hw
    · rcases h'.own p hp hw with hm | hm
      · exact (hF q hq).2 (he ▸ hm)
      · have := (hF q hq).1; have hm' : w.heap.size ≤ p.1 := hm; omega
    · rcases h'.key p hp with hm | hm
      · obtain ⟨r, hr, hre⟩ := List.mem_map.1 hm
        exact (List.pairwise_append.1 h.apart).2.2 r hr q hq (.inr hw) (hre.trans he)
      · have := (hF q hq).1; have hm' : w.heap.size ≤ p.1 := hm; omega
  · rcases List.mem_append.1 hp with hp | hp
    · rcases h'.own p hp hw with hm | hm
      · obtain ⟨q, hq, he⟩ := List.mem_map.1 hm
        obtain ⟨hq, hqw⟩ := List.mem_filter.1 hq
        rw [← he]; exact h.own q (List.mem_append_left _ hq) hqw
      · exact .inr (Nat.le_trans h.frm.size hm)
    · exact h.own p (List.mem_append_right _ hp) hw
  · rcases List.mem_append.1 hp with hp | hp
    · rcases h'.key p hp with hm | hm
      · obtain ⟨q, hq, he⟩ := List.mem_map.1 hm
        rw [← he]; exact hkey q hq
      · exact .inr (Nat.le_trans h.frm.size hm)
    · exact h.key p (List.mem_append_right _ hp)
  · refine ⟨h'.frm.os.trans h.frm.os, h'.frm.tape.trans h.frm.tape, h'.frm.output.trans h.frm.output, Nat.le_trans h.frm.size h'.frm.size, fun k hk hn => ?_⟩
    have hk' : k < w.heap.size := Nat.lt_of_lt_of_le hk h.frm.size
    refine (h'.frm.block k hk' fun hm => ?_).trans (h.frm.block k hk hn)
    obtain ⟨q, hq, he⟩ := List.mem_map.1 hm
    obtain ⟨hq, hqw⟩ := List.mem_filter.1 hq
    rcases h.own q (List.mem_append_left _ hq) hqw with ho | ho
    · exact hn (he ▸ ho)
    · omega

end Bw
